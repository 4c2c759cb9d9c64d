/- The walk of sort's merge from the middle. -/
import Derived.Test.YtmedmfjhpabfdaaSrtW
namespace Go.Proofs.Ytmedmfjhpabfdaa
open Go Go.RowKit

section
variable {α : Type} {lt : α → α → Bool} {g sf : FuncId} {lb sb : Array Value} {St : List α → World → Prop}
theorem take_step {l : List α} {k : Nat} (h : k < l.length) : l = l.take k ++ l[k] :: l.drop (k + 1) := by
  rw [← List.drop_eq_getElem_cons h, List.take_append_drop]
theorem le_trans_lt (O : Ord lt) {x y z : α} (h1 : lt y z = false) (h2 : lt y x = true) : lt z x = true := by
  cases h : lt z x
  · have := O.trans x z y h h1
    rw [h2] at this
    cases this
  · rfl
theorem lt_trans_le (O : Ord lt) {x y z : α} (h1 : lt x y = true) (h2 : lt z y = false) : lt x z = true := by
  cases h : lt x z
  · have := O.trans y z x h2 h
    rw [h1] at this
    cases this
  · rfl
theorem srt_get {l : List α} (h : Srt lt l) {i j : Nat} (hj : j < l.length) (hij : i < j) : lt l[j] (l[i]'(by omega)) = false := by
  rw [Srt, List.pairwise_iff_getElem] at h
  exact h i j (by omega) hj hij
set_option maxRecDepth 100000 in
set_option maxHeartbeats 1000000 in
theorem symMerge1 (K : Srtr lt g sf lb sb St) (O : Ord lt) (P : List α) (x : α) (R S : List α) (w : World) (a m b : Int) (ha : a = (P.length : Int)) (hm : m = (P.length : Int) + 1) (hb : b = (P.length : Int) + 1 + (R.length : Int)) (hl : P.length + 1 + R.length ≤ 100000) (hR : Srt lt R) (h : St (P ++ (x :: (R ++ S))) w) :
    Calls Try.prog 172 #[.agg #[.func (.func g) #[] lb, .func (.func sf) #[] sb], .int .i64 a, .int .i64 m, .int .i64 b] w fun e w' => e = .returned (.tuple #[]) ∧ ∃ M, M.Perm (x :: R) ∧ Srt lt M ∧ St (P ++ (M ++ S)) w' ∧ Chg 0 [46] w w' := by
  obtain ⟨p, rfl⟩ : ∃ p : Nat, a = (p : Int) := ⟨P.length, ha⟩
  obtain ⟨q, rfl⟩ : ∃ q : Nat, b = (q : Int) := ⟨P.length + 1 + R.length, by rw [hb]; push_cast; rfl⟩
  obtain rfl : m = (p : Int) + 1 := by omega
  have HP := hid (show p = P.length by omega)
  have HQ := hid (show q = p + 1 + R.length by omega)
  have HR := hid hR
  have hq : q ≤ 100000 := by omega
  have hg := K.hg
  have hxa := (Ext.refl w).alloc (.cells #[.func (.func g) #[] lb, .func (.func sf) #[] sb] 190)
  have hbk := Blk.new w 190 #[.func (.func g) #[] lb, .func (.func sf) #[] sb]
  have h1 := K.ext _ _ _ h hxa
  have hc := Chg.of_ext (B := 0) (ts := [46]) hxa
  clear h ha hm hb hl hxa hR
  go_enter Try.func172, Try.ntmps172
  go_wp2_with fail
  rw [show (p : Int) + 1 - p = 1 by omega, show ((1 : Int) == 1) = true from rfl]
  go_loopw [8, 9] (fun i j wr => ∃ ri rj : Nat, i = .int .i64 ((p + 1 + ri : Nat) : Int) ∧ j = .int .i64 ((p + 1 + rj : Nat) : Int) ∧ ri ≤ rj ∧ rj ≤ R.length ∧ (∀ y ∈ R.take ri, lt y x = true) ∧ (∀ y ∈ R.drop rj, lt y x = false) ∧ St (P ++ (x :: (R ++ S))) wr ∧ Blk wr w.heap.size 190 #[.func (.func g) #[] lb, .func (.func sf) #[] sb] ∧ Chg 0 [46] w wr) (fun i j _ => (intOf j).toNat - (intOf i).toNat)
  case atStart => exact ⟨0, R.length, by first | rfl | (push_cast; rfl), by rw [← HQ.out], Nat.zero_le _, Nat.le_refl _, by simp, by simp, h1, hbk, hc⟩
  case round =>
    clear h1 hbk hc
    obtain ⟨ri, rj, rfl, rfl, hij, hj, hA, hB, h1, hbk, hc⟩ := hrel
    have HA := hid hA
    have HB := hid hB
    have HJ := hid hj
    have y0 := hbk.cell (i := 0) (u := .func (.func g) #[] lb) rfl
    have y1 := hbk.cell (i := 1) (u := .func (.func sf) #[] sb) rfl
    have hjq : p + 1 + rj ≤ q := by have := HQ.out; omega
    clear hA hB hj
    by_cases hlt : ri < rj
    · have hri : ri < R.length := by have := HJ.out; omega
      obtain ⟨rh, hrh, hr1, hr2⟩ : ∃ rh : Nat, ((p : Int) + 1 + ri + ((p : Int) + 1 + rj)) / 2 = ((p + 1 + rh : Nat) : Int) ∧ ri ≤ rh ∧ rh < rj := ⟨(ri + rj) / 2, by omega, by omega, by omega⟩
      have hrl : rh < R.length := by have := HJ.out; omega
      have h2 : St (P ++ x :: (R.take rh ++ R[rh] :: (R.drop (rh + 1) ++ S))) wr := by
        have e : R ++ S = R.take rh ++ R[rh] :: (R.drop (rh + 1) ++ S) := by
          have := congrArg (· ++ S) (take_step hrl)
          simpa only [List.append_assoc, List.cons_append] using this
        rw [e] at h1
        exact h1
      have HRH := hid hrh
      clear h1 hrh
      go_wp2_with fail
      rw [HRH.out]
      refine (K.lessB P x (R.take rh) R[rh] (R.drop (rh + 1) ++ S) wr (p : Int) ((p + 1 + rh : Nat) : Int) (by rw [HP.out]) (by rw [List.length_take]; have := HP.out; omega) h2).mono ?_
      rintro e w2 ⟨rfl, h3, hc2⟩
      have h4 : St (P ++ (x :: (R ++ S))) w2 := by
        have e : R ++ S = R.take rh ++ R[rh] :: (R.drop (rh + 1) ++ S) := by
          have := congrArg (· ++ S) (take_step hrl)
          simpa only [List.append_assoc, List.cons_append] using this
        rw [e]
        exact h3
      replace hbk := hbk.chg hc2 (by decide)
      replace hc := hc.trans hc2
      clear h2 h3 y0 y1 hc2
      cases hyx : lt R[rh] x
      · have HYX := hid hyx
        clear hyx
        go_wp2_with fail
        go_roundw
        case rel =>
          refine ⟨ri, rh, rfl, rfl, hr1, by omega, HA.out, fun y hy => ?_, h4, hbk, hc⟩
          obtain ⟨n, hn, rfl⟩ := List.getElem_of_mem hy
          rw [List.getElem_drop]
          by_cases hn0 : n = 0
          · subst hn0; exact HYX.out
          · rw [List.length_drop] at hn
            exact O.trans _ _ _ HYX.out (srt_get HR.out (by omega) (by omega))
        case measure => simp [intOf]; omega
      · have HYX := hid hyx
        clear hyx
        go_wp2_with fail
        go_roundw
        case rel =>
          refine ⟨rh + 1, rj, by first | rfl | (push_cast; rfl) | go_num, rfl, hr2, HJ.out, fun y hy => ?_, HB.out, h4, hbk, hc⟩
          obtain ⟨n, hn, rfl⟩ := List.getElem_of_mem hy
          rw [List.getElem_take]
          rw [List.length_take] at hn
          by_cases hn0 : n = rh
          · subst hn0; exact HYX.out
          · exact le_trans_lt O (srt_get HR.out hrl (by omega)) HYX.out
        case measure => simp [intOf]; omega
    · obtain rfl : ri = rj := by omega
      have HSR := hid (srt_put O (a := R.take ri) (b := R.drop ri) (x := x) (by rw [List.take_append_drop]; exact HR.out) (fun z hz => O.asymm _ _ (HA.out z (List.mem_of_getLast? hz))) (fun y hy => HB.out y (List.mem_of_mem_head? hy)))
      have hriq : ri ≤ R.length := HJ.out
      have hlq : p + 1 + R.length ≤ 100000 := by have := HQ.out; omega
      clear hlt hij hjq
      obtain ⟨I, hI⟩ : ∃ I, I = p + 1 + ri := ⟨_, rfl⟩
      rw [← hI]
      have HI := hid hI
      have hI1 : p + 1 ≤ I := by omega
      have hI2 : I ≤ 100000 := by omega
      clear hI
      go_wp2_with fail
      go_loopw [11] (fun v wr => ∃ k t : Nat, t ≤ ri ∧ k = p + t ∧ v = .int .i64 (k : Int) ∧ St (P ++ (R.take t ++ x :: R.drop t ++ S)) wr ∧ Blk wr w.heap.size 190 #[.func (.func g) #[] lb, .func (.func sf) #[] sb] ∧ Chg 0 [46] w wr) (fun k _ => p + ri - (intOf k).toNat)
      case atStart => exact ⟨p, 0, Nat.zero_le _, rfl, rfl, by simpa using h1, hbk, hc⟩
      case round =>
        clear h1 hbk hc y0 y1
        obtain ⟨k, t, ht, hk, rfl, h1, hbk, hc⟩ := hrel
        have HK := hid hk
        have hkI : k + 1 ≤ I := by have := HI.out; omega
        clear hk
        have y0 := hbk.cell (i := 0) (u := .func (.func g) #[] lb) rfl
        have y1 := hbk.cell (i := 1) (u := .func (.func sf) #[] sb) rfl
        by_cases hlt : k + 1 < I
        · have htr : t < ri := by have := HI.out; have := HK.out; omega
          have htl : t < R.length := by omega
          have h2 : St ((P ++ R.take t) ++ x :: ([] ++ R[t] :: (R.drop (t + 1) ++ S))) wr := by
            rw [List.drop_eq_getElem_cons htl] at h1
            simpa only [List.append_assoc, List.cons_append, List.nil_append] using h1
          clear h1
          go_wp2_with fail
          obtain ⟨w2, hcall, h3, hc2⟩ := K.swapA (P ++ R.take t) x [] R[t] (R.drop (t + 1) ++ S) wr (k : Int) ((k : Int) + 1) (by rw [List.length_append, List.length_take]; have := HP.out; have := HK.out; omega) (by rw [List.length_append, List.length_take]; have := HP.out; have := HK.out; simp; omega) h2
          rw [hcall]
          try simp only [Result.andThen]
          rw [Oper.upon_value]
          clear hcall
          have h4 : St (P ++ (R.take (t + 1) ++ x :: R.drop (t + 1) ++ S)) w2 := by
            rw [List.take_succ_eq_append_getElem htl]
            simpa only [List.append_assoc, List.cons_append, List.nil_append] using h3
          replace hbk := hbk.chg hc2 (by decide)
          clear h2 h3 y0 y1
          go_wp2_with fail
          go_roundw
          case rel => exact ⟨k + 1, t + 1, htr, by rw [HK.out]; rfl, by first | rfl | (push_cast; rfl) | go_num, h4, hbk, hc.trans hc2⟩
          case measure => have := HK.out; have := HI.out; simp [intOf]; omega
        · obtain rfl : t = ri := by have := HI.out; have := HK.out; omega
          have hke : k + 1 = I := by omega
          clear hlt hkI
          subst hke
          go_wp2_with fail
          refine bodyPost_ret (results_none rfl _ _ _) rfl ?_
          refine ⟨rfl, R.take t ++ x :: R.drop t, ?_, HSR.out, h1, hc⟩
          refine List.perm_middle.trans ?_
          rw [List.take_append_drop]
set_option maxRecDepth 100000 in
set_option maxHeartbeats 1000000 in
theorem symMerge2 (K : Srtr lt g sf lb sb St) (O : Ord lt) (P L : List α) (y : α) (S : List α) (w : World) (a m b : Int) (ha : a = (P.length : Int)) (hm : m = (P.length : Int) + (L.length : Int)) (hb : b = (P.length : Int) + (L.length : Int) + 1) (hl : P.length + 1 + L.length ≤ 100000) (hL1 : 2 ≤ L.length) (hR : Srt lt L) (h : St (P ++ (L ++ (y :: S))) w) :
    Calls Try.prog 172 #[.agg #[.func (.func g) #[] lb, .func (.func sf) #[] sb], .int .i64 a, .int .i64 m, .int .i64 b] w fun e w' => e = .returned (.tuple #[]) ∧ ∃ M, M.Perm (L ++ [y]) ∧ Srt lt M ∧ St (P ++ (M ++ S)) w' ∧ Chg 0 [46] w w' := by
  obtain ⟨p, rfl⟩ : ∃ p : Nat, a = (p : Int) := ⟨P.length, ha⟩
  obtain ⟨q, rfl⟩ : ∃ q : Nat, m = (q : Int) := ⟨P.length + L.length, by rw [hm]; push_cast; rfl⟩
  obtain rfl : b = (q : Int) + 1 := by omega
  have HP := hid (show p = P.length by omega)
  have HQ := hid (show q = p + L.length by omega)
  have hpq : (p : Int) + 2 ≤ (q : Int) := by omega
  have hne1 : ((q : Int) - (p : Int) == 1) = false := by rw [beq_eq_false_iff_ne]; omega
  have HR := hid hR
  have hq : q ≤ 100000 := by omega
  have hg := K.hg
  have hxa := (Ext.refl w).alloc (.cells #[.func (.func g) #[] lb, .func (.func sf) #[] sb] 190)
  have hbk := Blk.new w 190 #[.func (.func g) #[] lb, .func (.func sf) #[] sb]
  have h1 := K.ext _ _ _ h hxa
  have hc := Chg.of_ext (B := 0) (ts := [46]) hxa
  clear h ha hm hb hl hxa hR hL1
  go_enter Try.func172, Try.ntmps172
  go_wp2_with fail
  rw [show (q : Int) + 1 - q = 1 by omega, show ((1 : Int) == 1) = true from rfl]
  generalize ((q : Int) - (p : Int) == 1) = z0
  generalize (q : Int) - (p : Int) = z1
  go_loopw [12, 13] (fun i j wr => ∃ ri rj : Nat, i = .int .i64 ((p + ri : Nat) : Int) ∧ j = .int .i64 ((p + rj : Nat) : Int) ∧ ri ≤ rj ∧ rj ≤ L.length ∧ (∀ z ∈ L.take ri, lt y z = false) ∧ (∀ z ∈ L.drop rj, lt y z = true) ∧ St (P ++ (L ++ (y :: S))) wr ∧ Blk wr w.heap.size 190 #[.func (.func g) #[] lb, .func (.func sf) #[] sb] ∧ Chg 0 [46] w wr) (fun i j _ => (intOf j).toNat - (intOf i).toNat)
  case atStart => exact ⟨0, L.length, rfl, by rw [← HQ.out], Nat.zero_le _, Nat.le_refl _, by simp, by simp, h1, hbk, hc⟩
  case round =>
    clear h1 hbk hc
    obtain ⟨ri, rj, rfl, rfl, hij, hj, hA, hB, h1, hbk, hc⟩ := hrel
    have HA := hid hA
    have HB := hid hB
    have HJ := hid hj
    have y0 := hbk.cell (i := 0) (u := .func (.func g) #[] lb) rfl
    have y1 := hbk.cell (i := 1) (u := .func (.func sf) #[] sb) rfl
    have hjq : p + rj ≤ q := by have := HQ.out; omega
    clear hA hB hj
    by_cases hlt : ri < rj
    · have hri : ri < L.length := by have := HJ.out; omega
      obtain ⟨rh, hrh, hr1, hr2⟩ : ∃ rh : Nat, ((p : Int) + ri + ((p : Int) + rj)) / 2 = ((p + rh : Nat) : Int) ∧ ri ≤ rh ∧ rh < rj := ⟨(ri + rj) / 2, by omega, by omega, by omega⟩
      have hrl : rh < L.length := by have := HJ.out; omega
      have HLE := hid (show P ++ (L ++ (y :: S)) = (P ++ L.take rh) ++ L[rh] :: (L.drop (rh + 1) ++ y :: S) by
        have := congrArg (fun l => P ++ (l ++ y :: S)) (take_step hrl)
        simpa only [List.append_assoc, List.cons_append] using this)
      have h2 : St ((P ++ L.take rh) ++ L[rh] :: (L.drop (rh + 1) ++ y :: S)) wr := by rw [← HLE.out]; exact h1
      have HRH := hid hrh
      clear h1 hrh
      go_wp2_with fail
      rw [HRH.out]
      refine (K.lessB (P ++ L.take rh) L[rh] (L.drop (rh + 1)) y S wr ((p + rh : Nat) : Int) (q : Int) (by rw [List.length_append, List.length_take]; have := HP.out; omega) (by rw [List.length_append, List.length_take, List.length_drop]; have := HP.out; have := HQ.out; omega) h2).mono ?_
      rintro e w2 ⟨rfl, h3, hc2⟩
      have h4 : St (P ++ (L ++ (y :: S))) w2 := by rw [HLE.out]; exact h3
      replace hbk := hbk.chg hc2 (by decide)
      replace hc := hc.trans hc2
      clear h2 h3 y0 y1 hc2
      cases hyx : lt y L[rh]
      · have HYX := hid hyx
        clear hyx
        go_wp2_with fail
        go_roundw
        case rel =>
          refine ⟨rh + 1, rj, by first | rfl | (push_cast; rfl) | go_num, rfl, hr2, HJ.out, fun z hz => ?_, HB.out, h4, hbk, hc⟩
          obtain ⟨n, hn, rfl⟩ := List.getElem_of_mem hz
          rw [List.getElem_take]
          rw [List.length_take] at hn
          by_cases hn0 : n = rh
          · subst hn0; exact HYX.out
          · exact O.trans _ _ _ (srt_get HR.out hrl (by omega)) HYX.out
        case measure => simp [intOf]; omega
      · have HYX := hid hyx
        clear hyx
        go_wp2_with fail
        go_roundw
        case rel =>
          refine ⟨ri, rh, rfl, rfl, hr1, by omega, HA.out, fun z hz => ?_, h4, hbk, hc⟩
          obtain ⟨n, hn, rfl⟩ := List.getElem_of_mem hz
          rw [List.getElem_drop]
          by_cases hn0 : n = 0
          · subst hn0; exact HYX.out
          · rw [List.length_drop] at hn
            exact lt_trans_le O HYX.out (srt_get HR.out (by omega) (by omega))
        case measure => simp [intOf]; omega
    · obtain rfl : ri = rj := by omega
      have HSR := hid (srt_put O (a := L.take ri) (b := L.drop ri) (x := y) (by rw [List.take_append_drop]; exact HR.out) (fun z hz => HA.out z (List.mem_of_getLast? hz)) (fun z hz => O.asymm _ _ (HB.out z (List.mem_of_mem_head? hz))))
      have hriq : ri ≤ L.length := HJ.out
      have hlq : p + L.length ≤ 100000 := by have := HQ.out; omega
      clear hlt hij hjq
      obtain ⟨I, hI⟩ : ∃ I, I = p + ri := ⟨_, rfl⟩
      rw [← hI]
      have HI := hid hI
      have hI2 : I ≤ 100000 := by omega
      clear hI
      go_wp2_with fail
      go_loopw [15] (fun v wr => ∃ k t : Nat, ri ≤ t ∧ t ≤ L.length ∧ k = p + t ∧ v = .int .i64 (k : Int) ∧ St (P ++ (L.take t ++ y :: L.drop t ++ S)) wr ∧ Blk wr w.heap.size 190 #[.func (.func g) #[] lb, .func (.func sf) #[] sb] ∧ Chg 0 [46] w wr) (fun k _ => (intOf k).toNat)
      case atStart => exact ⟨q, L.length, hriq, Nat.le_refl _, HQ.out, rfl, by rw [List.take_length, List.drop_length]; simpa using h1, hbk, hc⟩
      case round =>
        clear h1 hbk hc y0 y1
        obtain ⟨k, t, ht, htL, hk, rfl, h1, hbk, hc⟩ := hrel
        have HK := hid hk
        have hkI : I ≤ k := by have := HI.out; omega
        have hkq : k ≤ 100000 := by omega
        clear hk
        have y0 := hbk.cell (i := 0) (u := .func (.func g) #[] lb) rfl
        have y1 := hbk.cell (i := 1) (u := .func (.func sf) #[] sb) rfl
        by_cases hlt : I < k
        · obtain ⟨k, rfl⟩ : ∃ k', k = k' + 1 := ⟨k - 1, by omega⟩
          obtain ⟨t, rfl⟩ : ∃ t', t = t' + 1 := ⟨t - 1, by have := HI.out; have := HK.out; omega⟩
          have htl : t < L.length := by omega
          have h2 : St ((P ++ L.take t) ++ L[t] :: ([] ++ y :: (L.drop (t + 1) ++ S))) wr := by
            rw [List.take_succ_eq_append_getElem htl] at h1
            simpa only [List.append_assoc, List.cons_append, List.nil_append] using h1
          clear h1
          go_wp2_with fail
          obtain ⟨w2, hcall, h3, hc2⟩ := K.swapB (P ++ L.take t) L[t] [] y (L.drop (t + 1) ++ S) wr (k : Int) ((k : Int) + 1) (by rw [List.length_append, List.length_take]; have := HP.out; have := HK.out; omega) (by rw [List.length_append, List.length_take]; have := HP.out; have := HK.out; simp; omega) h2
          rw [hcall]
          try simp only [Result.andThen]
          rw [Oper.upon_value]
          clear hcall
          have h4 : St (P ++ (L.take t ++ y :: L.drop t ++ S)) w2 := by
            rw [List.drop_eq_getElem_cons htl]
            simpa only [List.append_assoc, List.cons_append, List.nil_append] using h3
          replace hbk := hbk.chg hc2 (by decide)
          clear h2 h3 y0 y1
          go_wp2_with fail
          go_roundw
          case rel => exact ⟨k, t, by have := HI.out; have := HK.out; omega, by omega, by have := HK.out; omega, by first | rfl | (push_cast; rfl) | go_num, h4, hbk, hc.trans hc2⟩
          case measure => simp [intOf]
        · obtain rfl : t = ri := by have := HI.out; have := HK.out; omega
          obtain rfl : I = k := by omega
          clear hlt hkI
          go_wp2_with fail
          refine bodyPost_ret (results_none rfl _ _ _) rfl ?_
          refine ⟨rfl, L.take t ++ y :: L.drop t, ?_, HSR.out, h1, hc⟩
          refine List.perm_middle.trans ?_
          rw [List.take_append_drop]
          exact (List.perm_append_comm (l₁ := L) (l₂ := [y])).symm
end
end Go.Proofs.Ytmedmfjhpabfdaa
