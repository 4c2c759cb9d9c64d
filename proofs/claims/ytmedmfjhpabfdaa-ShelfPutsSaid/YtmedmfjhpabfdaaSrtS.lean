/- The walk of sort's stable sort, whole: what it leaves is in order, and the same elements. -/
import Derived.Test.YtmedmfjhpabfdaaSrtN
namespace Go.Proofs.Ytmedmfjhpabfdaa
open Go Go.RowKit

section
variable {α : Type} {lt : α → α → Bool} {g sf : FuncId} {lb sb : Array Value} {St : List α → World → Prop}
theorem symMergeN (K : Srtr lt g sf lb sb St) (O : Ord lt) : ∀ (n : Nat) (P L R S : List α) (w : World) (a m b : Int), L.length + R.length < n → a = (P.length : Int) → m = (P.length : Int) + (L.length : Int) → b = (P.length : Int) + (L.length : Int) + (R.length : Int) → L ≠ [] → R ≠ [] → P.length + L.length + R.length ≤ 100000 → Srt lt L → Srt lt R → St (P ++ (L ++ (R ++ S))) w →
    Calls Try.prog 172 #[.agg #[.func (.func g) #[] lb, .func (.func sf) #[] sb], .int .i64 a, .int .i64 m, .int .i64 b] w fun e w' => e = .returned (.tuple #[]) ∧ ∃ M, M.Perm (L ++ R) ∧ Srt lt M ∧ St (P ++ (M ++ S)) w' ∧ Chg 0 [46] w w'
  | 0, _, _, _, _, _, _, _, _, h, _, _, _, _, _, _, _, _, _ => absurd h (by omega)
  | n + 1, P, L, R, S, w, a, m, b, hn, ha, hm, hb, hL, hR, hl, sL, sR, h => by
    match L, hL with
    | [x], _ => exact symMerge1 K O P x R S w a m b ha hm hb (by simp at hl; omega) sR h
    | x1 :: x2 :: L', _ =>
      match R, hR with
      | [y], _ => exact symMerge2 K O P (x1 :: x2 :: L') y S w a m b ha hm hb (by simp at hl ⊢; omega) (by simp) sL h
      | y1 :: y2 :: R', _ => exact symMerge3 K O n (symMergeN K O n) P (x1 :: x2 :: L') (y1 :: y2 :: R') S w a m b (by omega) ha hm hb (by simp) (by simp) hl sL sR h
theorem symMerge (K : Srtr lt g sf lb sb St) (O : Ord lt) (P L R S : List α) (w : World) (a m b : Int) (ha : a = (P.length : Int)) (hm : m = (P.length : Int) + (L.length : Int)) (hb : b = (P.length : Int) + (L.length : Int) + (R.length : Int)) (hL : L ≠ []) (hR : R ≠ []) (hl : P.length + L.length + R.length ≤ 100000) (sL : Srt lt L) (sR : Srt lt R) (h : St (P ++ (L ++ (R ++ S))) w) :
    Calls Try.prog 172 #[.agg #[.func (.func g) #[] lb, .func (.func sf) #[] sb], .int .i64 a, .int .i64 m, .int .i64 b] w fun e w' => e = .returned (.tuple #[]) ∧ ∃ M, M.Perm (L ++ R) ∧ Srt lt M ∧ St (P ++ (M ++ S)) w' ∧ Chg 0 [46] w w' :=
  symMergeN K O _ P L R S w a m b (Nat.lt_succ_self _) ha hm hb hL hR hl sL sR h

theorem take_chunk {l : List α} {n : Nat} (h : n ≤ l.length) : ∃ x y, l = x ++ y ∧ x.length = n := ⟨l.take n, l.drop n, (List.take_append_drop _ _).symm, by rw [List.length_take]; omega⟩

set_option maxRecDepth 100000 in
set_option maxHeartbeats 4000000 in
theorem stable (K : Srtr lt g sf lb sb St) (O : Ord lt) (l : List α) (w : World) (n : Int) (hn : n = (l.length : Int)) (hl : l.length ≤ 1000) (h : St l w) :
    Calls Try.prog 135 #[.agg #[.func (.func g) #[] lb, .func (.func sf) #[] sb], .int .i64 n] w fun e w' => e = .returned (.tuple #[]) ∧ ∃ m, m.Perm l ∧ Srt lt m ∧ St m w' ∧ Chg 0 [46] w w' := by
  obtain ⟨z, rfl⟩ : ∃ z : Nat, n = (z : Int) := ⟨l.length, hn⟩
  have HZ := hid (show z = l.length by omega)
  have hz : z ≤ 1000 := by omega
  have hxa := (Ext.refl w).alloc (.cells #[.func (.func g) #[] lb, .func (.func sf) #[] sb] 190)
  have hbk := Blk.new w 190 #[.func (.func g) #[] lb, .func (.func sf) #[] sb]
  have h1 := K.ext _ _ _ h hxa
  have hc := Chg.of_ext (B := 0) (ts := [46]) hxa
  clear h hn hl hxa
  go_enter Try.func135, Try.ntmps135
  go_wp2_with fail
  go_loopw [5, 6] (fun a b wr => ∃ (k : Nat) (P Q : List α), a = .int .i64 ((20 * k : Nat) : Int) ∧ b = .int .i64 ((20 * k + 20 : Nat) : Int) ∧ P.length = k * 20 ∧ (P ++ Q).Perm l ∧ Chk lt 20 P ∧ St (P ++ Q) wr ∧ Blk wr w.heap.size 190 #[.func (.func g) #[] lb, .func (.func sf) #[] sb] ∧ Chg 0 [46] w wr) (fun a _ _ => z + 20 - (intOf a).toNat)
  case atStart => exact ⟨0, [], l, rfl, rfl, rfl, List.Perm.refl _, fun i j x y _ _ hx => by simp at hx, h1, hbk, hc⟩
  case round =>
    clear h1 hbk hc
    obtain ⟨k, P, Q, rfl, rfl, hP, hpm, hck, h1, hbk, hc⟩ := hrel
    have HP := hid hP
    have HPM := hid hpm
    have HCK := hid hck
    have HLEN := hid (show P.length + Q.length = z by have := hpm.length_eq; rw [List.length_append] at this; have := HZ.out; omega)
    have y0 := hbk.cell (i := 0) (u := .func (.func g) #[] lb) rfl
    have y1 := hbk.cell (i := 1) (u := .func (.func sf) #[] sb) rfl
    have hk : k ≤ 50 := by have := HP.out; have := HLEN.out; omega
    clear hP hpm hck
    by_cases hlt : 20 * k + 20 ≤ z
    · obtain ⟨X, Q', hQ, hX⟩ := take_chunk (l := Q) (n := 20) (by have := HP.out; have := HLEN.out; omega)
      have HQ := hid hQ
      have HX := hid hX
      have h2 : St (P ++ (X ++ Q')) wr := by rw [hQ] at h1; exact h1
      clear hQ hX h1
      go_wp2_with fail
      refine (insertion K O P X Q' wr _ _ (by have := HP.out; omega) (by have := HP.out; have := HX.out; omega) (by have := HP.out; have := HX.out; omega) h2).mono ?_
      rintro e w2 ⟨rfl, X', pX, sX, h3, hc2⟩
      have PX := hid pX
      have SX := hid sX
      replace hbk := hbk.chg hc2 (by decide)
      clear h2 pX sX y0 y1
      go_wp2_with fail
      go_roundw
      case rel =>
        refine ⟨k + 1, P ++ X', Q', by first | rfl | go_num, by first | rfl | go_num, by rw [List.length_append, HP.out, PX.out.length_eq, HX.out]; omega, ?_, chk_app (q := k) (by omega) HP.out HCK.out (one_chk SX.out), by simpa only [List.append_assoc] using h3, hbk, hc.trans hc2⟩
        refine List.Perm.trans ?_ HPM.out
        rw [HQ.out, List.append_assoc]
        exact List.Perm.append_left _ (List.Perm.append_right _ PX.out)
      case measure => simp [intOf]; omega
    · have HQL := hid (show Q.length < 20 by have := HP.out; have := HLEN.out; omega)
      go_wp2_with fail
      refine (insertion K O P Q [] wr _ _ (by have := HP.out; omega) (by have := HP.out; have := HLEN.out; omega) (by have := HP.out; have := HLEN.out; omega) (by rw [List.append_nil]; exact h1)).mono ?_
      rintro e w2 ⟨rfl, Q2, pQ, sQ, h3, hc2⟩
      rw [List.append_nil] at h3
      have hd0 := chk_app (q := k) (by omega) HP.out HCK.out (one_chk (k := 20) sQ)
      have hp0 : (P ++ Q2).Perm l := (List.Perm.append_left _ pQ).trans HPM.out
      obtain ⟨d, hd⟩ : ∃ d, d = P ++ Q2 := ⟨_, rfl⟩
      rw [← hd] at h3 hd0 hp0
      have HD0 := hid hd0
      have HP0 := hid hp0
      replace hbk := hbk.chg hc2 (by decide)
      replace hc := hc.trans hc2
      clear h1 pQ sQ hd0 hp0 hd hc2 y0 y1 HP HPM HCK HLEN HQL hlt hk
      go_wp2_with fail
      go_loopw [4] (fun s wr => ∃ (bs : Nat) (d : List α), s = .int .i64 (bs : Int) ∧ 1 ≤ bs ∧ bs ≤ 2000 ∧ d.Perm l ∧ Chk lt bs d ∧ St d wr ∧ Blk wr w.heap.size 190 #[.func (.func g) #[] lb, .func (.func sf) #[] sb] ∧ Chg 0 [46] w wr) (fun s _ => 3000 - (intOf s).toNat)
      case atStart => exact ⟨20, d, rfl, by omega, by omega, HP0.out, HD0.out, h3, hbk, hc⟩
      case round =>
        clear h3 hbk hc HP0 HD0
        obtain ⟨bs, d, rfl, hb1, hb2, hpm, hck, h1, hbk, hc⟩ := hrel
        have HPM := hid hpm
        have HCK := hid hck
        have HLD := hid (show d.length = z by have := hpm.length_eq; have := HZ.out; omega)
        clear hpm hck
        by_cases hbz : bs < z
        · go_wp2_with fail
          go_loopw [5, 6] (fun a b wr => ∃ (A k : Nat) (P Q : List α), a = .int .i64 (A : Int) ∧ b = .int .i64 ((A : Int) + 2 * (bs : Int)) ∧ A = k * (2 * bs) ∧ P.length = A ∧ (P ++ Q).Perm l ∧ Chk lt (2 * bs) P ∧ Chk lt bs Q ∧ St (P ++ Q) wr ∧ Blk wr w.heap.size 190 #[.func (.func g) #[] lb, .func (.func sf) #[] sb] ∧ Chg 0 [46] w wr) (fun a _ _ => z + 2 * bs - (intOf a).toNat)
          case atStart => exact ⟨0, 0, [], d, rfl, by simp, by simp, rfl, HPM.out, fun i j x y _ _ hx => by simp at hx, HCK.out, h1, hbk, hc⟩
          case round =>
            clear h1 hbk hc HCK HPM HLD
            obtain ⟨A, k, P, Q, rfl, rfl, hA, hP, hpm, hcP, hcQ, h1, hbk, hc⟩ := hrel
            have HA := hid hA
            have HP := hid hP
            have HPM := hid hpm
            have HCP := hid hcP
            have HCQ := hid hcQ
            have HLEN := hid (show A + Q.length = z by have := hpm.length_eq; rw [List.length_append] at this; have := HZ.out; omega)
            have hAz : A ≤ z := by have := HLEN.out; omega
            have y0 := hbk.cell (i := 0) (u := .func (.func g) #[] lb) rfl
            have y1 := hbk.cell (i := 1) (u := .func (.func sf) #[] sb) rfl
            clear hA hP hpm hcP hcQ
            by_cases hlt : A + 2 * bs ≤ z
            · obtain ⟨X, Q1, hQ, hX⟩ := take_chunk (l := Q) (n := bs) (by have := HLEN.out; omega)
              obtain ⟨Y, Q2, hQ1, hY⟩ := take_chunk (l := Q1) (n := bs) (by have := HLEN.out; have := congrArg List.length hQ; rw [List.length_append] at this; omega)
              subst hQ1
              have HQ := hid hQ
              have HX := hid hX
              have HY := hid hY
              have hcq := HCQ.out
              rw [hQ] at hcq
              have SX := hid (chk_one (chk_left hcq) (Nat.le_of_eq hX))
              have hcq1 := chk_right (q := 1) (by omega) (by omega) hcq
              have SY := hid (chk_one (chk_left hcq1) (Nat.le_of_eq hY))
              have CQ2 := hid (chk_right (q := 1) (by omega) (by omega) hcq1)
              have h2 : St (P ++ (X ++ (Y ++ Q2))) wr := by rw [hQ] at h1; exact h1
              clear hQ hX hY hcq hcq1 h1
              go_wp2_with fail
              refine (symMerge K O P X Y Q2 wr _ _ _ (by rw [HP.out]) (by rw [HP.out, HX.out]) (by rw [HP.out, HX.out, HY.out]; omega) (List.length_pos_iff.1 (by have := HX.out; omega)) (List.length_pos_iff.1 (by have := HY.out; omega)) (by have := HP.out; have := HX.out; have := HY.out; omega) SX.out SY.out h2).mono ?_
              rintro e w2 ⟨rfl, M, pM, sM, h3, hc2⟩
              have PM := hid pM
              have SM := hid sM
              replace hbk := hbk.chg hc2 (by decide)
              clear h2 pM sM y0 y1
              go_wp2_with fail
              go_roundw
              case rel =>
                refine ⟨A + 2 * bs, k + 1, P ++ M, Q2, by first | rfl | (push_cast; rfl) | go_num, by first | rfl | (push_cast; rfl) | go_num, by rw [HA.out, Nat.add_mul k 1, Nat.one_mul], by rw [List.length_append, HP.out, PM.out.length_eq, List.length_append, HX.out, HY.out]; omega, ?_, chk_app (q := k) (by omega) (by rw [HP.out, HA.out]) HCP.out (one_chk SM.out), CQ2.out, by simpa only [List.append_assoc] using h3, hbk, hc.trans hc2⟩
                refine List.Perm.trans ?_ HPM.out
                rw [HQ.out, List.append_assoc, ← List.append_assoc X]
                exact List.Perm.append_left _ (List.Perm.append_right _ PM.out)
              case measure => simp [intOf]; omega
            · by_cases hmz : A + bs < z
              · obtain ⟨X, Y, hQ, hX⟩ := take_chunk (l := Q) (n := bs) (by have := HLEN.out; omega)
                have HQ := hid hQ
                have HX := hid hX
                have HY := hid (show A + bs + Y.length = z by have := HLEN.out; have := congrArg List.length hQ; rw [List.length_append] at this; omega)
                have hcq := HCQ.out
                rw [hQ] at hcq
                have SX := hid (chk_one (chk_left hcq) (Nat.le_of_eq hX))
                have hcq1 := chk_right (q := 1) (by omega) (by omega) hcq
                have SY := hid (chk_one hcq1 (by have := HY.out; omega))
                have h2 : St (P ++ (X ++ (Y ++ []))) wr := by rw [hQ] at h1; rw [List.append_nil]; exact h1
                clear hQ hX hcq hcq1 h1
                go_wp2_with fail
                refine (symMerge K O P X Y [] wr _ _ _ (by rw [HP.out]) (by rw [HP.out, HX.out]) (by rw [HP.out, HX.out]; have := HY.out; omega) (List.length_pos_iff.1 (by have := HX.out; omega)) (List.length_pos_iff.1 (by have := HY.out; omega)) (by have := HP.out; have := HX.out; have := HY.out; omega) SX.out SY.out h2).mono ?_
                rintro e w2 ⟨rfl, M, pM, sM, h3, hc2⟩
                rw [List.append_nil] at h3
                have PM := hid pM
                have SM := hid sM
                replace hbk := hbk.chg hc2 (by decide)
                clear h2 pM sM y0 y1
                go_wp2_with fail
                go_roundw
                case rel =>
                  refine ⟨bs * 2, P ++ M, by first | rfl | (push_cast; rfl) | go_num, by omega, by omega, ?_, ?_, h3, hbk, hc.trans hc2⟩
                  · refine List.Perm.trans ?_ HPM.out
                    rw [HQ.out]
                    exact List.Perm.append_left _ PM.out
                  · rw [Nat.mul_comm]
                    exact chk_app (q := k) (by omega) (by rw [HP.out, HA.out]) HCP.out (one_chk SM.out)
                case measure => simp [intOf]; omega
              · have SQ := hid (chk_one HCQ.out (by have := HLEN.out; omega))
                go_wp2_with fail
                go_roundw
                case rel =>
                  refine ⟨bs * 2, P ++ Q, by first | rfl | (push_cast; rfl) | go_num, by omega, by omega, HPM.out, ?_, h1, hbk, hc⟩
                  rw [Nat.mul_comm]
                  exact chk_app (q := k) (by omega) (by rw [HP.out, HA.out]) HCP.out (one_chk SQ.out)
                case measure => simp [intOf]; omega
        · have HS := hid (chk_one HCK.out (by have := HLD.out; omega))
          go_wp2_with fail
          go_end0
          exact ⟨rfl, d, HPM.out, HS.out, h1, hc⟩
end
end Go.Proofs.Ytmedmfjhpabfdaa
