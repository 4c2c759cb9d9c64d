/- The walk of the law CubeSays where the first cube may be, and the second one may not. -/
import Derived.Test.YtiigbcnnapnceaaCubeS
namespace Go.Proofs.Ytiigbcnnapnceaa
open Go Go.RowKit

theorem ref_InC (c : Cube) (h : cubeCheck c = 0) (t : Nat) (ht : t < 16) (w : World) : Calls Try.prog 23 #[.agg #[.int .i64 c.yes, .int .i64 c.no], .int .i64 t] w fun e w' => e = .returned (.bool (inC c t)) ∧ Ext w w' := by
  obtain ⟨y, n, hc⟩ := cubeOk_of h
  rw [hc.inC]
  exact ref_In c y n t hc ht w
theorem ref_InCi (c : Cube) (h : cubeCheck c = 0) (t : Int) (ht : tagsOk t = true) (w : World) : Calls Try.prog 23 #[.agg #[.int .i64 c.yes, .int .i64 c.no], .int .i64 t] w fun e w' => e = .returned (.bool (inC c t.toNat)) ∧ Ext w w' := by
  have hb := tagsOk_iff.1 ht
  obtain ⟨u, hu⟩ := Int.eq_ofNat_of_zero_le hb.1
  subst hu
  rw [Int.toNat_natCast]
  exact ref_InC c h u (by omega) w
theorem count_saysC {a : Cube} (h : cubeCheck a = 0) : countTo (inC a) 16 = cubeCount a := by
  obtain ⟨y, n, hc⟩ := cubeOk_of h
  rw [countTo_congr (q := cubeIn y n) (fun i _ => hc.inC i), count_cube y hc.hy n hc.hn hc.dis, cubeCount, if_pos h, hc.yes, hc.no, Int.toNat_natCast, Int.toNat_natCast]

set_option maxRecDepth 100000 in
set_option maxHeartbeats 8000000 in
theorem law_CubeSays_two (B : Nat) (a b : Cube) (t : Int) (w : World) (hB : B ≤ w.heap.size) (h1 : cubeCheck a = 0) (h2 : cubeCheck b ≠ 0) :
    Calls Try.prog 4 #[.agg #[.int .i64 a.yes, .int .i64 a.no], .agg #[.int .i64 b.yes, .int .i64 b.no], .int .i64 t] w fun e w' => e = .returned (.bool true) ∧ Ext w w' := by
  have hT : cubeTwo a b = cubeCheck b := by rw [cubeTwo, if_pos h1]
  have hM : cubeMeetErr a b = cubeCheck b := by rw [cubeMeetErr, if_neg (by rw [hT]; exact h2), hT]
  have hMy : (cubeMeet a b).yes = 0 := by rw [cubeMeet, if_neg (by rw [hM]; exact h2)]
  have hMn : (cubeMeet a b).no = 0 := by rw [cubeMeet, if_neg (by rw [hM]; exact h2)]
  have hW : cubeWithin a b = false := by simp [cubeWithin, hT, h2]
  have hL : cubeLess a b = [] := by rw [cubeLess, if_neg (by rw [hT]; exact h2)]
  have hne : (cubeCheck b != 0) = true := by simpa using h2
  have heq : (cubeCheck b == 0) = false := by simpa using h2
  have HC := hid (count_saysC h1)
  have H1 := hid h1
  clear h2
  go_enter Try.func4, Try.ntmps4
  go_wp2_with fail
  refine (cube_Has a t _).mono ?_
  rintro e w1 ⟨rfl, hx⟩
  have q1 : w1.cell? ⟨w.heap.size, 0, none⟩ = some (.int .i64 a.yes) := hx.cell (by go_simp)
  have q2 : w1.cell? ⟨w.heap.size, 1, none⟩ = some (.int .i64 a.no) := hx.cell (by go_simp)
  have q3 : w1.cell? ⟨w.heap.size + 1, 0, none⟩ = some (.int .i64 b.yes) := hx.cell (by go_simp)
  have q4 : w1.cell? ⟨w.heap.size + 1, 1, none⟩ = some (.int .i64 b.no) := hx.cell (by go_simp)
  have hx1 : Ext w w1 := (((Ext.refl w).alloc _).alloc _).trans hx
  have hz1 : w.heap.size + 1 < w1.heap.size := by have := hx.size; simp at this; omega
  have hz2 : w.heap.size < w1.heap.size := by omega
  clear hx
  go_wp2_with fail
  refine (cube_Meet a b _).mono ?_
  rintro e w2 ⟨rfl, hx⟩
  replace q1 := hx.cell q1
  replace q2 := hx.cell q2
  replace q3 := hx.cell q3
  replace q4 := hx.cell q4
  replace hz1 := Nat.lt_of_lt_of_le hz1 hx.size
  replace hz2 := Nat.lt_of_lt_of_le hz2 hx.size
  replace hx1 := hx1.trans hx
  clear hx
  go_wp2_with fail
  refine (cube_Within a b _).mono ?_
  rintro e w3 ⟨rfl, hx⟩
  have q5 : w3.cell? ⟨w2.heap.size, 0, none⟩ = some (.int .i64 (cubeMeet a b).yes) := hx.cell (by go_simp)
  have q6 : w3.cell? ⟨w2.heap.size, 1, none⟩ = some (.int .i64 (cubeMeet a b).no) := hx.cell (by go_simp)
  have hz5 : w2.heap.size < w3.heap.size := by have := hx.size; simp at this; omega
  replace q1 := (((Ext.refl w2).alloc _).trans hx).cell q1
  replace q2 := (((Ext.refl w2).alloc _).trans hx).cell q2
  replace q3 := (((Ext.refl w2).alloc _).trans hx).cell q3
  replace q4 := (((Ext.refl w2).alloc _).trans hx).cell q4
  replace hz1 := Nat.lt_of_lt_of_le hz1 (((Ext.refl w2).alloc _).trans hx).size
  replace hz2 := Nat.lt_of_lt_of_le hz2 (((Ext.refl w2).alloc _).trans hx).size
  replace hx1 := hx1.trans (((Ext.refl w2).alloc _).trans hx)
  clear hx
  go_wp2_with fail
  refine (cube_Less B a b _ (Nat.le_trans hB hx1.size)).mono ?_
  rintro e w4 ⟨v4, rfl, hv4, hx⟩
  obtain ⟨A4, c4, rfl, k4, m4, hs4⟩ := hv4
  replace q1 := hx.cell q1
  replace q2 := hx.cell q2
  replace q3 := hx.cell q3
  replace q4 := hx.cell q4
  replace q5 := hx.cell q5
  replace q6 := hx.cell q6
  replace hz1 := Nat.lt_of_lt_of_le hz1 hx.size
  replace hz2 := Nat.lt_of_lt_of_le hz2 hx.size
  replace hz5 := Nat.lt_of_lt_of_le hz5 hx.size
  replace hx1 := hx1.trans hx
  clear hx
  go_wp2_with fail
  refine (cube_Count a _).mono ?_
  rintro e w5 ⟨rfl, hx⟩
  replace q1 := hx.cell q1
  replace q2 := hx.cell q2
  replace q3 := hx.cell q3
  replace q4 := hx.cell q4
  replace q5 := hx.cell q5
  replace q6 := hx.cell q6
  replace hz1 := Nat.lt_of_lt_of_le hz1 hx.size
  replace hz2 := Nat.lt_of_lt_of_le hz2 hx.size
  replace hz5 := Nat.lt_of_lt_of_le hz5 hx.size
  replace hs4 := hs4.ext RPair.mono hx
  replace hx1 := hx1.trans hx
  clear hx
  go_wp2_with fail
  go_cut [17, 18] (fun s17 s18 wx => s17 = .int .i64 0 ∧ s18 = .int .i64 0 ∧ Ext w5 wx)
  case first =>
    go_region_with (go_at_call 21; refine (ref_Cube a _).mono ?_; rintro e w6 ⟨rfl, hx6⟩; try (have q1' := hx6.cell q1; have q2' := hx6.cell q2; have hy6 := hx6))
    all_goals (go_wp2_with fail; go_meet; exact ⟨rfl, rfl, (Ext.refl w5).drew.trans (hy6.trans hx6)⟩)
  case rest =>
    as_aux_lemma =>
      obtain ⟨rfl, rfl, hx⟩ := hcut
      replace q1 := hx.cell q1
      replace q2 := hx.cell q2
      replace q3 := hx.cell q3
      replace q4 := hx.cell q4
      replace q5 := hx.cell q5
      replace q6 := hx.cell q6
      replace hz1 := Nat.lt_of_lt_of_le hz1 hx.size
      replace hz2 := Nat.lt_of_lt_of_le hz2 hx.size
      replace hz5 := Nat.lt_of_lt_of_le hz5 hx.size
      replace hs4 := hs4.ext RPair.mono hx
      replace hx1 := hx1.trans hx
      clear hx
      go_wp2_with fail
      refine (cube_Check a _).mono ?_
      rintro e w7 ⟨rfl, hx⟩
      replace q1 := hx.cell q1
      replace q2 := hx.cell q2
      replace q3 := hx.cell q3
      replace q4 := hx.cell q4
      replace q5 := hx.cell q5
      replace q6 := hx.cell q6
      replace hz1 := Nat.lt_of_lt_of_le hz1 hx.size
      replace hz2 := Nat.lt_of_lt_of_le hz2 hx.size
      replace hz5 := Nat.lt_of_lt_of_le hz5 hx.size
      replace hs4 := hs4.ext RPair.mono hx
      replace hx1 := hx1.trans hx
      clear hx
      go_wp2_with fail
      refine (cube_Check ⟨1, 1⟩ _).mono ?_
      rintro e w8 ⟨rfl, hx⟩
      replace q1 := hx.cell q1
      replace q2 := hx.cell q2
      replace q3 := hx.cell q3
      replace q4 := hx.cell q4
      replace q5 := hx.cell q5
      replace q6 := hx.cell q6
      replace hz1 := Nat.lt_of_lt_of_le hz1 hx.size
      replace hz2 := Nat.lt_of_lt_of_le hz2 hx.size
      replace hz5 := Nat.lt_of_lt_of_le hz5 hx.size
      replace hs4 := hs4.ext RPair.mono hx
      replace hx1 := hx1.trans hx
      clear hx
      rw [show cubeCheck ⟨1, 1⟩ = 3 by decide]
      go_wp2_with fail
      refine (ref_Cube b _).mono ?_
      rintro e w9 ⟨rfl, hx⟩
      replace q1 := hx.cell q1
      replace q2 := hx.cell q2
      replace q3 := hx.cell q3
      replace q4 := hx.cell q4
      replace q5 := hx.cell q5
      replace q6 := hx.cell q6
      replace hz1 := Nat.lt_of_lt_of_le hz1 hx.size
      replace hz2 := Nat.lt_of_lt_of_le hz2 hx.size
      replace hz5 := Nat.lt_of_lt_of_le hz5 hx.size
      replace hs4 := hs4.ext RPair.mono hx
      replace hx1 := hx1.trans hx
      clear hx
      go_upto_region 13 with fail
      go_cut [126] (fun s wx => s = .bool (!tagsOk t) ∧ Ext w9 wx)
      case first =>
        rcases Int.lt_or_le t 0 with ht | ht
        · have e0 : tagsOk t = false := by rw [← Bool.not_eq_true, tagsOk_iff]; omega
          have E0 := hid e0
          clear e0
          go_wp2_with fail
          go_meet
          exact ⟨by rw [E0.out]; rfl, Ext.refl _⟩
        · rcases Int.lt_or_le 15 t with ht2 | ht2
          · have e0 : tagsOk t = false := by rw [← Bool.not_eq_true, tagsOk_iff]; omega
            have E0 := hid e0
            clear e0
            go_wp2_with fail
            go_meet
            exact ⟨by rw [E0.out]; rfl, Ext.refl _⟩
          · have e0 : tagsOk t = true := by rw [tagsOk_iff]; omega
            have E0 := hid e0
            clear e0
            have d1 : decide (t < 0) = false := by simp; omega
            have d2 : decide (15 < t) = false := by simp; omega
            clear ht ht2
            go_wp2_with fail
            go_meet
            exact ⟨by rw [E0.out]; rfl, Ext.refl _⟩
      case rest =>
        as_aux_lemma =>
          obtain ⟨rfl, hx⟩ := hcut
          replace q1 := hx.cell q1
          replace q2 := hx.cell q2
          replace q3 := hx.cell q3
          replace q4 := hx.cell q4
          replace q5 := hx.cell q5
          replace q6 := hx.cell q6
          replace hz1 := Nat.lt_of_lt_of_le hz1 hx.size
          replace hz2 := Nat.lt_of_lt_of_le hz2 hx.size
          replace hz5 := Nat.lt_of_lt_of_le hz5 hx.size
          replace hs4 := hs4.ext RPair.mono hx
          replace hx1 := hx1.trans hx
          clear hx
          go_upto_if 126 with fail
          obtain ⟨wd, rfl⟩ : ∃ wd, wd = wc := ⟨_, rfl⟩
          go_cut [7, 8] (fun _ _ wx => Ext wd wx)
          case first =>
            by_cases hT : tagsOk t = true
            · have hHe : cubeHasErr a t = 0 := by rw [cubeHasErr, if_pos H1.out, if_pos hT]
              have hH : cubeHas a t = inC a t.toNat := by rw [cubeHas, hHe]; simp [inC]
              have HT := hid hT
              rw [hT]
              clear hT
              go_wp2_with fail
              refine (ref_InCi a H1.out t HT.out _).mono ?_
              rintro e wx ⟨rfl, hx⟩
              go_wp2_with fail
              go_meet
              exact hx
            · have hT' : tagsOk t = false := by simpa using hT
              have hHe : cubeHasErr a t = 1 := by rw [cubeHasErr, if_pos H1.out, if_neg hT]
              have hH : cubeHas a t = false := by simp [cubeHas, hHe]
              rw [hT']
              clear hT hT'
              go_wp2_with fail
              go_meet
              exact Ext.refl _
          case rest =>
            as_aux_lemma =>
              have hx := hcut
              replace q1 := hx.cell q1
              replace q2 := hx.cell q2
              replace q3 := hx.cell q3
              replace q4 := hx.cell q4
              replace q5 := hx.cell q5
              replace q6 := hx.cell q6
              replace hz1 := Nat.lt_of_lt_of_le hz1 hx.size
              replace hz2 := Nat.lt_of_lt_of_le hz2 hx.size
              replace hz5 := Nat.lt_of_lt_of_le hz5 hx.size
              replace hs4 := hs4.ext RPair.mono hx
              replace hx1 := hx1.trans hx
              clear hx hcut
              go_wp2_with fail
              obtain ⟨we, rfl⟩ : ∃ we, we = wc := ⟨_, rfl⟩
              go_loopw [19, 141] (fun c i wr => ∃ k : Nat, k ≤ 16 ∧ i = .int .i64 k ∧ c = .int .i64 (countTo (inC a) k) ∧ Ext we wr) (fun _ i _ => 16 - (intOf i).toNat)
              case atStart => exact ⟨0, by omega, rfl, rfl, Ext.refl _⟩
              case round =>
                as_aux_lemma =>
                  obtain ⟨k, hk, rfl, rfl, hx⟩ := hrel
                  replace q1 := hx.cell q1
                  replace q2 := hx.cell q2
                  replace q3 := hx.cell q3
                  replace q4 := hx.cell q4
                  replace q5 := hx.cell q5
                  replace q6 := hx.cell q6
                  replace hz1 := Nat.lt_of_lt_of_le hz1 hx.size
                  replace hz2 := Nat.lt_of_lt_of_le hz2 hx.size
                  replace hz5 := Nat.lt_of_lt_of_le hz5 hx.size
                  replace hs4 := hs4.ext RPair.mono hx
                  replace hx1 := hx1.trans hx
                  have hbd := countTo_bd (inC a) k
                  by_cases hlt : k < 16
                  · have k0 : (0 : Int) ≤ k := by omega
                    have k4 : (k : Int) < 16 := by omega
                    have HS := hid (show countTo (inC a) (k + 1) = countTo (inC a) k + (if inC a k then 1 else 0) from rfl)
                    go_wp2_with fail
                    refine (ref_InC a H1.out k hlt _).mono ?_
                    rintro e w10 ⟨rfl, hx2⟩
                    by_cases hp : inC a k = true
                    · rw [hp]
                      have HP := hid hp
                      clear hp
                      go_wp2_with fail
                      go_roundw
                      case rel => exact ⟨k + 1, by omega, by go_num, by rw [HS.out, HP.out]; go_num, hx.trans hx2⟩
                      case measure => simp [intOf]; omega
                    · rw [show inC a k = false by simpa using hp]
                      have HP := hid hp
                      clear hp
                      go_wp2_with fail
                      go_roundw
                      case rel => exact ⟨k + 1, by omega, by go_num, by rw [HS.out, if_neg HP.out]; go_num, hx.trans hx2⟩
                      case measure => simp [intOf]; omega
                  · obtain rfl : k = 16 := by omega
                    rw [HC.out]
                    clear hx hbd hlt hk
                    go_wp2_with fail
                    go_ret
                    exact ⟨ret_bool (by simp), hx1⟩

end Go.Proofs.Ytiigbcnnapnceaa
