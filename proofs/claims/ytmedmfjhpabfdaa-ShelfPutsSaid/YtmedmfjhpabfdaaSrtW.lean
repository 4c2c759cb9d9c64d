/- The walks of sort's stable sort over what is asked of the two functions handed in: insertion, exchanges, rotation. -/
import Derived.Test.YtmedmfjhpabfdaaSrtP
import Derived.Test.YtmedmfjhpabfdaaBase
import Derived.Test.YtmedmfjhpabfdaaProg
namespace Go.Proofs.Ytmedmfjhpabfdaa
open Go Go.RowKit

/-- what a sort asks of the two functions that it is given: St d w: in the world w the row is the list d. -/
structure Srtr {α : Type} (lt : α → α → Bool) (g sf : FuncId) (lb sb : Array Value) (St : List α → World → Prop) : Prop where
  hg : ∀ (args : Array Value) (wn : World), (callFunc g args).run Try.prog wn = .ok (.enter g args) wn
  ext : ∀ d w w', St d w → Ext w w' → St d w'
  lessA : ∀ (P : List α) (x : α) (M : List α) (y : α) (S : List α) (w : World) (i j : Int), i = (P.length : Int) → j = (P.length : Int) + 1 + (M.length : Int) → St (P ++ x :: (M ++ y :: S)) w →
    Calls Try.prog g (#[.int .i64 i, .int .i64 j] ++ lb) w fun e w' => e = .returned (.bool (lt x y)) ∧ St (P ++ x :: (M ++ y :: S)) w' ∧ Chg 0 [46] w w'
  lessB : ∀ (P : List α) (x : α) (M : List α) (y : α) (S : List α) (w : World) (i j : Int), i = (P.length : Int) → j = (P.length : Int) + 1 + (M.length : Int) → St (P ++ x :: (M ++ y :: S)) w →
    Calls Try.prog g (#[.int .i64 j, .int .i64 i] ++ lb) w fun e w' => e = .returned (.bool (lt y x)) ∧ St (P ++ x :: (M ++ y :: S)) w' ∧ Chg 0 [46] w w'
  swapA : ∀ (P : List α) (x : α) (M : List α) (y : α) (S : List α) (w : World) (i j : Int), i = (P.length : Int) → j = (P.length : Int) + 1 + (M.length : Int) → St (P ++ x :: (M ++ y :: S)) w →
    ∃ w', (callFunc sf (#[.int .i64 i, .int .i64 j] ++ sb)).run Try.prog w = .ok (.value (.tuple #[])) w' ∧ St (P ++ y :: (M ++ x :: S)) w' ∧ Chg 0 [46] w w'
  swapB : ∀ (P : List α) (x : α) (M : List α) (y : α) (S : List α) (w : World) (i j : Int), i = (P.length : Int) → j = (P.length : Int) + 1 + (M.length : Int) → St (P ++ x :: (M ++ y :: S)) w →
    ∃ w', (callFunc sf (#[.int .i64 j, .int .i64 i] ++ sb)).run Try.prog w = .ok (.value (.tuple #[])) w' ∧ St (P ++ y :: (M ++ x :: S)) w' ∧ Chg 0 [46] w w'

section
variable {α : Type} {lt : α → α → Bool} {g sf : FuncId} {lb sb : Array Value} {St : List α → World → Prop}

set_option maxRecDepth 100000 in
set_option maxHeartbeats 1000000 in
theorem swapRange (K : Srtr lt g sf lb sb St) (P x M y S : List α) (w : World) (a b n : Nat) (ha : a = P.length) (hb : b = P.length + x.length + M.length) (hx : x.length = n) (hy : y.length = n) (hl : a + b + n ≤ 1000000) (h : St (P ++ (x ++ (M ++ (y ++ S)))) w) :
    Calls Try.prog 207 #[.agg #[.func (.func g) #[] lb, .func (.func sf) #[] sb], .int .i64 a, .int .i64 b, .int .i64 n] w fun e w' => e = .returned (.tuple #[]) ∧ St (P ++ (y ++ (M ++ (x ++ S)))) w' ∧ Chg 0 [46] w w' := by
  have HX := hid hx
  have HY := hid hy
  have HA := hid ha
  have HB := hid hb
  have hg := K.hg
  have hxa := (Ext.refl w).alloc (.cells #[.func (.func g) #[] lb, .func (.func sf) #[] sb] 190)
  have hbk := Blk.new w 190 #[.func (.func g) #[] lb, .func (.func sf) #[] sb]
  have h1 := K.ext _ _ _ h hxa
  have hc := Chg.of_ext (B := 0) (ts := [46]) hxa
  clear h hx hy ha hb
  go_enter Try.func207, Try.ntmps207
  go_wp2_with fail
  go_loopw [8] (fun i wr => ∃ (k : Nat) (x1 x2 y1 y2 : List α), x = x1 ++ x2 ∧ y = y1 ++ y2 ∧ x1.length = k ∧ y1.length = k ∧ k ≤ n ∧ i = .int .i64 (k : Int) ∧ St (P ++ (y1 ++ (x2 ++ (M ++ (x1 ++ (y2 ++ S)))))) wr ∧ Blk wr w.heap.size 190 #[.func (.func g) #[] lb, .func (.func sf) #[] sb] ∧ Chg 0 [46] w wr) (fun i _ => n - (intOf i).toNat)
  case atStart => exact ⟨0, [], x, [], y, rfl, rfl, rfl, rfl, Nat.zero_le _, rfl, h1, hbk, hc⟩
  case round =>
    clear h1 hbk hc
    obtain ⟨k, x1, x2, y1, y2, e1, e2, e3, e4, hk, rfl, h1, hbk, hc⟩ := hrel
    have E1 := hid e1
    have E2 := hid e2
    have E3 := hid e3
    have E4 := hid e4
    clear e1 e2 e3 e4
    by_cases hlt : k < n
    · obtain ⟨u, x2, rfl⟩ : ∃ u r, x2 = u :: r := by
        cases x2 with
        | nil => have := congrArg List.length E1.out; rw [HX.out] at this; simp [E3.out] at this; omega
        | cons u r => exact ⟨u, r, rfl⟩
      obtain ⟨v, y2, rfl⟩ : ∃ u r, y2 = u :: r := by
        cases y2 with
        | nil => have := congrArg List.length E2.out; rw [HY.out] at this; simp [E4.out] at this; omega
        | cons u r => exact ⟨u, r, rfl⟩
      have h2 : St ((P ++ y1) ++ u :: ((x2 ++ (M ++ x1)) ++ v :: (y2 ++ S))) wr := by simpa using h1
      have HXL := hid (show n = k + 1 + x2.length by have := congrArg List.length E1.out; rw [HX.out] at this; simp [E3.out] at this; omega)
      have y0 := hbk.cell (i := 1) (u := .func (.func sf) #[] sb) rfl
      clear h1
      go_wp2_with fail
      obtain ⟨w2, hcall, h3, hc2⟩ := K.swapA _ _ _ _ _ _ ((a : Int) + (k : Int)) ((b : Int) + (k : Int)) (by rw [List.length_append, E4.out, HA.out]; omega) (by simp only [List.length_append]; rw [E4.out, E3.out, HB.out, HX.out]; have := HXL.out; omega) h2
      rw [hcall]
      try simp only [Result.andThen]
      rw [Oper.upon_value]
      clear hcall
      have h4 : St (P ++ ((y1 ++ [v]) ++ (x2 ++ (M ++ ((x1 ++ [u]) ++ (y2 ++ S)))))) w2 := by simpa using h3
      replace hbk := hbk.chg hc2 (by decide)
      clear h2 h3 y0
      go_wp2_with fail
      go_roundw
      case rel => exact ⟨k + 1, x1 ++ [u], x2, y1 ++ [v], y2, by rw [E1.out]; simp, by rw [E2.out]; simp, by simp [E3.out], by simp [E4.out], hlt, by first | rfl | go_num, h4, hbk, hc.trans hc2⟩
      case measure => simp [intOf]; omega
    · obtain rfl : k = n := by omega
      have h2 : St (P ++ (y ++ (M ++ (x ++ S)))) wr := by
        have a1 : x2 = [] := by have := congrArg List.length E1.out; rw [HX.out, List.length_append, E3.out] at this; exact List.eq_nil_of_length_eq_zero (by omega)
        have a2 : y2 = [] := by have := congrArg List.length E2.out; rw [HY.out, List.length_append, E4.out] at this; exact List.eq_nil_of_length_eq_zero (by omega)
        have b1 := E1.out
        have b2 := E2.out
        subst a1 a2
        rw [List.append_nil] at b1 b2
        rw [b1, b2]
        simpa using h1
      clear h1
      go_wp2_with fail
      go_end0
      exact ⟨rfl, h2, hc⟩
theorem swapRangeI (K : Srtr lt g sf lb sb St) (P x M y S : List α) (w : World) (a b n : Int) (ha : a = (P.length : Int)) (hb : b = (P.length : Int) + (x.length : Int) + (M.length : Int)) (hn : n = (x.length : Int)) (hy : y.length = x.length) (hl : 2 * P.length + 2 * x.length + M.length ≤ 1000000) (h : St (P ++ (x ++ (M ++ (y ++ S)))) w) :
    Calls Try.prog 207 #[.agg #[.func (.func g) #[] lb, .func (.func sf) #[] sb], .int .i64 a, .int .i64 b, .int .i64 n] w fun e w' => e = .returned (.tuple #[]) ∧ St (P ++ (y ++ (M ++ (x ++ S)))) w' ∧ Chg 0 [46] w w' := by
  have := swapRange K P x M y S w P.length (P.length + x.length + M.length) x.length rfl rfl rfl hy (by omega) h
  rw [ha, hb, hn]
  push_cast at this
  exact this

set_option maxRecDepth 100000 in
set_option maxHeartbeats 1000000 in
theorem rotate (K : Srtr lt g sf lb sb St) (P u v S : List α) (w : World) (a m b : Int) (ha : a = (P.length : Int)) (hm : m = (P.length : Int) + (u.length : Int)) (hb : b = (P.length : Int) + (u.length : Int) + (v.length : Int)) (hu : u ≠ []) (hv : v ≠ []) (hl : P.length + u.length + v.length ≤ 100000) (h : St (P ++ (u ++ (v ++ S))) w) :
    Calls Try.prog 191 #[.agg #[.func (.func g) #[] lb, .func (.func sf) #[] sb], .int .i64 a, .int .i64 m, .int .i64 b] w fun e w' => e = .returned (.tuple #[]) ∧ St (P ++ (v ++ (u ++ S))) w' ∧ Chg 0 [46] w w' := by
  have hl0 : 0 ≤ a ∧ a ≤ m ∧ m ≤ b ∧ b ≤ 100000 := by omega
  obtain ⟨hl1, hl2, hl3, hl4⟩ := hl0
  have HM := hid hm
  have HLL := hid hl
  have HU := hid hu
  have HV := hid hv
  have e1 : m - a = (u.length : Int) := by omega
  have e2 : b - m = (v.length : Int) := by omega
  have HE1 := hid e1
  have HE2 := hid e2
  have hxa := (Ext.refl w).alloc (.cells #[.func (.func g) #[] lb, .func (.func sf) #[] sb] 190)
  have hbk := Blk.new w 190 #[.func (.func g) #[] lb, .func (.func sf) #[] sb]
  have h1 := K.ext _ _ _ h hxa
  have hc := Chg.of_ext (B := 0) (ts := [46]) hxa
  clear h hu hv ha hm hb e1 e2 hl
  go_enter Try.func191, Try.ntmps191
  go_wp2_with fail
  rw [HE1.out, HE2.out]
  go_loopw [8, 9] (fun i j wr => ∃ (P' u' v' S' : List α), u' ≠ [] ∧ v' ≠ [] ∧ i = .int .i64 (u'.length : Int) ∧ j = .int .i64 (v'.length : Int) ∧ m = (P'.length : Int) + (u'.length : Int) ∧ P'.length + u'.length + v'.length ≤ 100000 ∧ P' ++ (v' ++ (u' ++ S')) = P ++ (v ++ (u ++ S)) ∧ St (P' ++ (u' ++ (v' ++ S'))) wr ∧ Blk wr w.heap.size 190 #[.func (.func g) #[] lb, .func (.func sf) #[] sb] ∧ Chg 0 [46] w wr) (fun i j _ => (intOf i).toNat + (intOf j).toNat)
  case atStart => exact ⟨P, u, v, S, HU.out, HV.out, rfl, rfl, HM.out, HLL.out, rfl, h1, hbk, hc⟩
  case round =>
    clear h1 hbk hc
    obtain ⟨P', u', v', S', hu, hv, rfl, rfl, hm, hl, he, h1, hbk, hc⟩ := hrel
    have HM' := hid hm
    have HL' := hid hl
    have HEQ := hid he
    have hu0 : 0 < u'.length := List.length_pos_iff.2 hu
    have hv0 : 0 < v'.length := List.length_pos_iff.2 hv
    have hb1 : u'.length ≤ 100000 := by omega
    have hb2 : v'.length ≤ 100000 := by omega
    have y0 := hbk.cell (i := 0) (u := .func (.func g) #[] lb) rfl
    have y1 := hbk.cell (i := 1) (u := .func (.func sf) #[] sb) rfl
    clear hm hl he hu hv
    rcases Nat.lt_trichotomy u'.length v'.length with hlt | heq | hgt
    · obtain ⟨v1, v2, hvv, hv2⟩ : ∃ v1 v2, v' = v1 ++ v2 ∧ v2.length = u'.length := ⟨v'.take (v'.length - u'.length), v'.drop (v'.length - u'.length), (List.take_append_drop _ _).symm, by rw [List.length_drop]; omega⟩
      have HVV := hid hvv
      have HV2 := hid hv2
      have HV1 := hid (show (v1.length : Int) = (v'.length : Int) - (u'.length : Int) by rw [hvv, List.length_append]; omega)
      have h2 : St (P' ++ (u' ++ (v1 ++ (v2 ++ S')))) wr := by rw [hvv] at h1; simpa using h1
      have hne : ((u'.length : Int) != (v'.length : Int)) = true := by rw [bne_iff_ne]; omega
      have hgt : decide ((v'.length : Int) < (u'.length : Int)) = false := decide_eq_false (by omega)
      have hum : (u'.length : Int) ≤ m := by have := HM'.out; omega
      have HR := hid (show v2 ≠ [] ∧ v1 ≠ [] from ⟨List.length_pos_iff.1 (by omega), List.length_pos_iff.1 (by have := HV1.out; omega)⟩)
      clear h1 hvv hv2
      go_wp2_with fail
      refine (swapRangeI K P' u' v1 v2 S' _ _ _ _ (by have := HM'.out; omega) (by have := HM'.out; have := HV1.out; omega) rfl HV2.out (by have := HL'.out; have := HV1.out; omega) h2).mono ?_
      rintro e w2 ⟨rfl, h3, hc2⟩
      replace hbk := hbk.chg hc2 (by decide)
      clear h2 y0 y1
      go_wp2_with fail
      go_roundw
      case rel => exact ⟨P', v2, v1, u' ++ S', HR.out.1, HR.out.2, by rw [HV2.out], by rw [HV1.out], by rw [HM'.out, HV2.out], by have := HL'.out; have := HV1.out; have := HV2.out; omega, by rw [← HEQ.out, HVV.out]; simp, by simpa using h3, hbk, hc.trans hc2⟩
      case measure => simp [intOf]; omega
    · have hne : ((u'.length : Int) != (v'.length : Int)) = false := by rw [heq]; simp
      have hum : (u'.length : Int) ≤ m := by have := HM'.out; omega
      have HQ := hid heq
      clear heq hu0 hv0
      go_wp2_with fail
      refine (swapRangeI K P' u' [] v' S' _ _ _ _ (by have := HM'.out; omega) (by have := HM'.out; simp; omega) rfl HQ.out.symm (by have := HL'.out; have := HQ.out; simp; omega) (by simpa using h1)).mono ?_
      rintro e w2 ⟨rfl, h3, hc2⟩
      go_wp2_with fail
      go_end0
      refine ⟨rfl, ?_, hc.trans hc2⟩
      rw [← HEQ.out]
      simpa using h3
    · obtain ⟨u1, u2, huu, hu1⟩ : ∃ u1 u2, u' = u1 ++ u2 ∧ u1.length = v'.length := ⟨u'.take v'.length, u'.drop v'.length, (List.take_append_drop _ _).symm, by rw [List.length_take]; omega⟩
      have HUU := hid huu
      have HU1 := hid hu1
      have HU2 := hid (show (u2.length : Int) = (u'.length : Int) - (v'.length : Int) by rw [huu, List.length_append]; omega)
      have h2 : St (P' ++ (u1 ++ (u2 ++ (v' ++ S')))) wr := by rw [huu] at h1; simpa using h1
      have hne : ((u'.length : Int) != (v'.length : Int)) = true := by rw [bne_iff_ne]; omega
      have hgt' : decide ((v'.length : Int) < (u'.length : Int)) = true := decide_eq_true (by omega)
      have hum : (u'.length : Int) ≤ m := by have := HM'.out; omega
      have HR := hid (show u2 ≠ [] ∧ u1 ≠ [] from ⟨List.length_pos_iff.1 (by have := HU2.out; omega), List.length_pos_iff.1 (by omega)⟩)
      clear h1 huu hu1
      go_wp2_with fail
      refine (swapRangeI K P' u1 u2 v' S' _ _ _ _ (by have := HM'.out; omega) (by have := HM'.out; have := HU2.out; have := HU1.out; omega) (by rw [HU1.out]) HU1.out.symm (by have := HL'.out; have := HU2.out; have := HU1.out; omega) h2).mono ?_
      rintro e w2 ⟨rfl, h3, hc2⟩
      replace hbk := hbk.chg hc2 (by decide)
      clear h2 y0 y1
      go_wp2_with fail
      go_roundw
      case rel => exact ⟨P' ++ v', u2, u1, S', HR.out.1, HR.out.2, by rw [HU2.out], by rw [HU1.out], by rw [HM'.out, HU2.out, List.length_append]; omega, by rw [List.length_append]; have := HL'.out; have := HU2.out; have := HU1.out; omega, by rw [← HEQ.out, HUU.out]; simp, by simpa using h3, hbk, hc.trans hc2⟩
      case measure => simp [intOf]; omega

set_option maxRecDepth 100000 in
set_option maxHeartbeats 1000000 in
theorem insertion (K : Srtr lt g sf lb sb St) (O : Ord lt) (P L S : List α) (w : World) (a b : Int) (ha : a = (P.length : Int)) (hb : b = (P.length : Int) + (L.length : Int)) (hl : P.length + L.length ≤ 100000) (h : St (P ++ (L ++ S)) w) :
    Calls Try.prog 171 #[.agg #[.func (.func g) #[] lb, .func (.func sf) #[] sb], .int .i64 a, .int .i64 b] w fun e w' => e = .returned (.tuple #[]) ∧ ∃ L', L'.Perm L ∧ Srt lt L' ∧ St (P ++ (L' ++ S)) w' ∧ Chg 0 [46] w w' := by
  obtain ⟨p, rfl⟩ : ∃ p : Nat, a = (p : Int) := ⟨P.length, ha⟩
  obtain ⟨q, rfl⟩ : ∃ q : Nat, b = (q : Int) := ⟨P.length + L.length, by rw [hb]; push_cast; rfl⟩
  have HP := hid (show p = P.length by omega)
  have HQ := hid (show q = P.length + L.length by omega)
  have hq : q ≤ 100000 := by omega
  have hg := K.hg
  have hxa := (Ext.refl w).alloc (.cells #[.func (.func g) #[] lb, .func (.func sf) #[] sb] 190)
  have hbk := Blk.new w 190 #[.func (.func g) #[] lb, .func (.func sf) #[] sb]
  have h1 := K.ext _ _ _ h hxa
  have hc := Chg.of_ext (B := 0) (ts := [46]) hxa
  have hpq : p ≤ q := by omega
  clear h ha hb hl hxa
  cases L with
  | nil =>
    obtain rfl : p = q := by have := HP.out; have := HQ.out; simp at this; omega
    go_enter Try.func171, Try.ntmps171
    go_wp2_with fail
    go_loopw [6] (fun i wr => i = .int .i64 ((p : Int) + 1) ∧ St (P ++ ([] ++ S)) wr ∧ Chg 0 [46] w wr) (fun i _ => 0)
    case atStart => exact ⟨rfl, h1, hc⟩
    case round =>
      obtain ⟨rfl, h1, hc⟩ := hrel
      go_wp2_with fail
      go_end0
      exact ⟨rfl, [], List.Perm.refl _, srt_nil, h1, hc⟩
  | cons x0 L0 =>
    go_enter Try.func171, Try.ntmps171
    go_wp2_with fail
    go_loopw [6] (fun i wr => ∃ (k : Nat) (A C : List α), (A ++ C).Perm (x0 :: L0) ∧ Srt lt A ∧ k = p + A.length ∧ i = .int .i64 (k : Int) ∧ St (P ++ ((A ++ C) ++ S)) wr ∧ Blk wr w.heap.size 190 #[.func (.func g) #[] lb, .func (.func sf) #[] sb] ∧ Chg 0 [46] w wr) (fun i _ => q - (intOf i).toNat)
    case atStart => exact ⟨p + 1, [x0], L0, List.Perm.refl _, srt_one _, rfl, by first | rfl | (push_cast; rfl), h1, hbk, hc⟩
    case round =>
      clear h1 hbk hc
      obtain ⟨k, A, C, hpm, hso, hk, rfl, h1, hbk, hc⟩ := hrel
      have HPM := hid hpm
      have HSO := hid hso
      have HK := hid hk
      have HCL := hid (show q = k + C.length by have := hpm.length_eq; rw [List.length_append] at this; have := HQ.out; have := HP.out; omega)
      clear hpm hso hk
      cases C with
      | nil =>
        have hkq : k = q := by have := HCL.out; simpa using this.symm
        subst hkq
        go_wp2_with fail
        go_end0
        exact ⟨rfl, A, by simpa using HPM.out, HSO.out, by simpa using h1, hc⟩
      | cons x C =>
        have hkq : k < q := by have := HCL.out; simp at this; omega
        obtain ⟨wo, hwq⟩ : ∃ x, x = wr := ⟨_, rfl⟩
        subst hwq
        go_wp2_with fail
        go_loopw [7] (fun j wr => ∃ (t : Nat) (A1 A2 : List α), A = A1 ++ A2 ∧ (∀ y ∈ A2, lt x y = true) ∧ t = p + A1.length ∧ j = .int .i64 (t : Int) ∧ St (P ++ ((A1 ++ x :: A2 ++ C) ++ S)) wr ∧ Blk wr w.heap.size 190 #[.func (.func g) #[] lb, .func (.func sf) #[] sb] ∧ Chg 0 [46] wo wr) (fun j _ => (intOf j).toNat)
        case atStart => exact ⟨k, A, [], by simp, by simp, HK.out, rfl, by simpa using h1, hbk, Chg.refl _⟩
        case round =>
          have HC := hid hc
          clear h1 hbk hc
          obtain ⟨t, A1, A2, hA, hA2, ht, rfl, h1, hbk, hc⟩ := hrel
          have HA := hid hA
          have HA2 := hid hA2
          have HT := hid ht
          have y0 := hbk.cell (i := 0) (u := .func (.func g) #[] lb) rfl
          have y1 := hbk.cell (i := 1) (u := .func (.func sf) #[] sb) rfl
          clear hA hA2 ht
          rcases List.eq_nil_or_concat A1 with rfl | ⟨A1', y, rfl⟩
          · obtain rfl : t = p := by simpa using HT.out
            rw [List.nil_append] at HA
            go_wp2_with fail
            go_roundw
            case rel =>
              refine ⟨k + 1, x :: A2, C, ?_, ?_, ?_, by first | rfl | go_num, by simpa using h1, hbk, HC.out.trans hc⟩
              · refine List.Perm.trans ?_ HPM.out
                rw [HA.out, List.cons_append]
                exact List.perm_middle.symm
              · refine srt_put O (a := []) (by rw [List.nil_append, ← HA.out]; exact HSO.out) (by simp) (fun y hy => ?_)
                exact O.asymm _ _ (HA2.out y (List.mem_of_mem_head? hy))
              · have := HK.out
                rw [HA.out] at this
                simp; omega
            case measure => simp [intOf]; omega
          · rw [List.concat_eq_append] at HA HT h1
            obtain ⟨t', rfl⟩ : ∃ t', t = t' + 1 := ⟨t - 1, by have := HT.out; simp at this; omega⟩
            have HT' := hid (show t' = p + A1'.length by have := HT.out; simp at this; omega)
            have hpt : (p : Int) ≤ (t' : Int) := by have := HT'.out; omega
            have htq : (t' : Int) < (q : Int) := by
              have h1 := HT.out
              have h2 := HK.out
              have h3 := congrArg List.length HA.out
              simp only [List.length_append, List.length_cons, List.length_nil] at h1 h3
              omega
            have h2 : St ((P ++ A1') ++ y :: ([] ++ x :: (A2 ++ (C ++ S)))) wr := by simpa using h1
            clear h1
            go_wp2_with fail
            refine (K.lessB (P ++ A1') y [] x (A2 ++ (C ++ S)) wr (t' : Int) ((t' : Int) + 1) (by rw [List.length_append]; have := HT'.out; have := HP.out; omega) (by rw [List.length_append]; have := HT'.out; have := HP.out; simp; omega) h2).mono ?_
            rintro e w2 ⟨rfl, h3, hc2⟩
            replace hbk := hbk.chg hc2 (by decide)
            replace hc := hc.trans hc2
            clear h2 y0 y1 hc2
            cases hxy : lt x y
            · have HXY := hid hxy
              clear hxy
              go_wp2_with fail
              go_roundw
              case rel =>
                refine ⟨k + 1, (A1' ++ [y]) ++ x :: A2, C, ?_, ?_, ?_, by first | rfl | go_num, by simpa using h3, hbk, HC.out.trans hc⟩
                · refine List.Perm.trans ?_ HPM.out
                  rw [HA.out, List.append_assoc, List.append_assoc (A1' ++ [y])]
                  refine List.Perm.append_left _ ?_
                  rw [List.cons_append]
                  exact List.perm_middle.symm
                · refine srt_put O (by rw [← HA.out]; exact HSO.out) (fun z hz => ?_) (fun y hy => ?_)
                  · simp at hz
                    subst hz
                    exact HXY.out
                  · exact O.asymm _ _ (HA2.out y (List.mem_of_mem_head? hy))
                · have := HK.out
                  rw [HA.out] at this
                  simp only [List.length_append, List.length_cons, List.length_nil] at this ⊢
                  omega
              case measure => simp [intOf]; omega
            · have HXY := hid hxy
              clear hxy
              have y0 := hbk.cell (i := 0) (u := .func (.func g) #[] lb) rfl
              have y1 := hbk.cell (i := 1) (u := .func (.func sf) #[] sb) rfl
              go_wp2_with fail
              obtain ⟨w3, hcall, h4, hc3⟩ := K.swapB (P ++ A1') y [] x (A2 ++ (C ++ S)) w2 (t' : Int) ((t' : Int) + 1) (by rw [List.length_append]; have := HT'.out; have := HP.out; omega) (by rw [List.length_append]; have := HT'.out; have := HP.out; simp; omega) h3
              rw [hcall]
              try simp only [Result.andThen]
              rw [Oper.upon_value]
              clear hcall
              replace hbk := hbk.chg hc3 (by decide)
              replace hc := hc.trans hc3
              clear h3 y0 y1 hc3
              go_wp2_with fail
              go_roundw
              case rel =>
                refine ⟨t', A1', y :: A2, by rw [HA.out]; simp, fun z hz => ?_, HT'.out, by first | rfl | go_num, by simpa using h4, hbk, hc⟩
                rcases List.mem_cons.1 hz with rfl | hz
                · exact HXY.out
                · exact HA2.out z hz
              case measure => simp [intOf]
end
end Go.Proofs.Ytmedmfjhpabfdaa
