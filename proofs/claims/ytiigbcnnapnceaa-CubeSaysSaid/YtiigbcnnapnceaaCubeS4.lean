/- The walk of the law CubeSays where both cubes may be and do not meet. -/
import Derived.Test.YtiigbcnnapnceaaCubeS3
namespace Go.Proofs.Ytiigbcnnapnceaa
open Go Go.RowKit

set_option maxRecDepth 100000 in
set_option maxHeartbeats 16000000 in
theorem law_CubeSays_meet (B : Nat) (a b : Cube) (t : Int) (w : World) (hB : B ≤ w.heap.size) (h1 : cubeCheck a = 0) (h2 : cubeCheck b = 0) (hme : meets a b = true) :
    Calls Try.prog 4 #[.agg #[.int .i64 a.yes, .int .i64 a.no], .agg #[.int .i64 b.yes, .int .i64 b.no], .int .i64 t] w fun e w' => e = .returned (.bool true) ∧ Ext w w' := by
  have hsay := two_says h1 h2
  have hT : cubeTwo a b = 0 := by rw [cubeTwo, if_pos h1, h2]
  have hM := (hsay.meet hme).1
  have hMc := (hsay.meet hme).2.1
  have HMi := hid (hsay.meet hme).2.2
  have hB0 : (countTo (bothC a b) 16 == 0) = false := by
    cases hx : (countTo (bothC a b) 16 == 0)
    · rfl
    · have h := hsay.both
      rw [hme, show (countTo (fun t => inC a t && inC b t) 16 == 0) = true from hx] at h
      cases h
  obtain ⟨L, hL⟩ : ∃ L, cubeLess a b = L := ⟨_, rfl⟩
  have hsl := hsay.len
  have hso := hsay.ok
  have hst := hsay.times
  rw [hL] at hsl hso hst
  have hl4 : decide ((4 : Int) < (L.length : Int)) = false := by simp; omega
  have HO := hid hso
  have HST := hid hst
  have HSW := hid (show allTo (subC a b) 16 = cubeWithin a b from hsay.within.symm)
  have HC := hid (count_saysC h1)
  have H1 := hid h1
  have H2 := hid h2
  clear hsay hso hst hme
  go_enter Try.func4, Try.ntmps4
  go_wp2_with fail
  refine (cube_Has a t _).mono ?_
  rintro e w1 ⟨rfl, hx⟩
  have q1 : w1.cell? ⟨w.heap.size, 0, none⟩ = some (.int .i64 a.yes) := hx.cell (by go_simp)
  have q2 : w1.cell? ⟨w.heap.size, 1, none⟩ = some (.int .i64 a.no) := hx.cell (by go_simp)
  have q3 : w1.cell? ⟨w.heap.size + 1, 0, none⟩ = some (.int .i64 b.yes) := hx.cell (by go_simp)
  have q4 : w1.cell? ⟨w.heap.size + 1, 1, none⟩ = some (.int .i64 b.no) := hx.cell (by go_simp)
  have hx1 : Ext w w1 := (((Ext.refl w).alloc _).alloc _).trans hx
  have hz1 : w.heap.size + 1 < w1.heap.size := by have := hx.size; simp at this; omega
  have hz2 : w.heap.size < w1.heap.size := by omega
  clear hx
  go_wp2_with fail
  refine (cube_Meet a b _).mono ?_
  rintro e w2 ⟨rfl, hx⟩
  replace q1 := hx.cell q1
  replace q2 := hx.cell q2
  replace q3 := hx.cell q3
  replace q4 := hx.cell q4
  replace hz1 := Nat.lt_of_lt_of_le hz1 hx.size
  replace hz2 := Nat.lt_of_lt_of_le hz2 hx.size
  replace hx1 := hx1.trans hx
  clear hx
  go_wp2_with fail
  refine (cube_Within a b _).mono ?_
  rintro e w3 ⟨rfl, hx⟩
  have q5 : w3.cell? ⟨w2.heap.size, 0, none⟩ = some (.int .i64 (cubeMeet a b).yes) := hx.cell (by go_simp)
  have q6 : w3.cell? ⟨w2.heap.size, 1, none⟩ = some (.int .i64 (cubeMeet a b).no) := hx.cell (by go_simp)
  have hz5 : w2.heap.size < w3.heap.size := by have := hx.size; simp at this; omega
  replace q1 := (((Ext.refl w2).alloc _).trans hx).cell q1
  replace q2 := (((Ext.refl w2).alloc _).trans hx).cell q2
  replace q3 := (((Ext.refl w2).alloc _).trans hx).cell q3
  replace q4 := (((Ext.refl w2).alloc _).trans hx).cell q4
  replace hz1 := Nat.lt_of_lt_of_le hz1 (((Ext.refl w2).alloc _).trans hx).size
  replace hz2 := Nat.lt_of_lt_of_le hz2 (((Ext.refl w2).alloc _).trans hx).size
  replace hx1 := hx1.trans (((Ext.refl w2).alloc _).trans hx)
  clear hx
  go_wp2_with fail
  refine (cube_Less B a b _ (Nat.le_trans hB hx1.size)).mono ?_
  rintro e w4 ⟨v4, rfl, hv4, hx⟩
  rw [hL] at hv4
  obtain ⟨A4, c4, rfl, k4, m4, hs4⟩ := hv4
  replace q1 := hx.cell q1
  replace q2 := hx.cell q2
  replace q3 := hx.cell q3
  replace q4 := hx.cell q4
  replace q5 := hx.cell q5
  replace q6 := hx.cell q6
  replace hz1 := Nat.lt_of_lt_of_le hz1 hx.size
  replace hz2 := Nat.lt_of_lt_of_le hz2 hx.size
  replace hz5 := Nat.lt_of_lt_of_le hz5 hx.size
  replace hx1 := hx1.trans hx
  clear hx
  go_wp2_with fail
  refine (cube_Count a _).mono ?_
  rintro e w5 ⟨rfl, hx⟩
  replace q1 := hx.cell q1
  replace q2 := hx.cell q2
  replace q3 := hx.cell q3
  replace q4 := hx.cell q4
  replace q5 := hx.cell q5
  replace q6 := hx.cell q6
  replace hz1 := Nat.lt_of_lt_of_le hz1 hx.size
  replace hz2 := Nat.lt_of_lt_of_le hz2 hx.size
  replace hz5 := Nat.lt_of_lt_of_le hz5 hx.size
  replace hs4 := hs4.ext RPair.mono hx
  replace hx1 := hx1.trans hx
  clear hx
  go_wp2_with fail
  go_cut [17, 18] (fun s17 s18 wx => s17 = .int .i64 0 ∧ s18 = .int .i64 0 ∧ Ext w5 wx)
  case first =>
    go_region_with (go_at_call 21; refine (ref_Cube a _).mono ?_; rintro e w6 ⟨rfl, hx6⟩; try (have q1' := hx6.cell q1; have q2' := hx6.cell q2; have hy6 := hx6))
    all_goals (go_wp2_with fail; go_meet; exact ⟨rfl, rfl, (Ext.refl w5).drew.trans (hy6.trans hx6)⟩)
  case rest =>
    as_aux_lemma =>
      obtain ⟨rfl, rfl, hx⟩ := hcut
      replace q1 := hx.cell q1
      replace q2 := hx.cell q2
      replace q3 := hx.cell q3
      replace q4 := hx.cell q4
      replace q5 := hx.cell q5
      replace q6 := hx.cell q6
      replace hz1 := Nat.lt_of_lt_of_le hz1 hx.size
      replace hz2 := Nat.lt_of_lt_of_le hz2 hx.size
      replace hz5 := Nat.lt_of_lt_of_le hz5 hx.size
      replace hs4 := hs4.ext RPair.mono hx
      replace hx1 := hx1.trans hx
      clear hx
      go_wp2_with fail
      refine (cube_Check a _).mono ?_
      rintro e w7 ⟨rfl, hx⟩
      replace q1 := hx.cell q1
      replace q2 := hx.cell q2
      replace q3 := hx.cell q3
      replace q4 := hx.cell q4
      replace q5 := hx.cell q5
      replace q6 := hx.cell q6
      replace hz1 := Nat.lt_of_lt_of_le hz1 hx.size
      replace hz2 := Nat.lt_of_lt_of_le hz2 hx.size
      replace hz5 := Nat.lt_of_lt_of_le hz5 hx.size
      replace hs4 := hs4.ext RPair.mono hx
      replace hx1 := hx1.trans hx
      clear hx
      go_wp2_with fail
      refine (cube_Check ⟨1, 1⟩ _).mono ?_
      rintro e w8 ⟨rfl, hx⟩
      replace q1 := hx.cell q1
      replace q2 := hx.cell q2
      replace q3 := hx.cell q3
      replace q4 := hx.cell q4
      replace q5 := hx.cell q5
      replace q6 := hx.cell q6
      replace hz1 := Nat.lt_of_lt_of_le hz1 hx.size
      replace hz2 := Nat.lt_of_lt_of_le hz2 hx.size
      replace hz5 := Nat.lt_of_lt_of_le hz5 hx.size
      replace hs4 := hs4.ext RPair.mono hx
      replace hx1 := hx1.trans hx
      clear hx
      rw [show cubeCheck ⟨1, 1⟩ = 3 by decide]
      go_wp2_with fail
      refine (ref_Cube b _).mono ?_
      rintro e w9 ⟨rfl, hx⟩
      replace q1 := hx.cell q1
      replace q2 := hx.cell q2
      replace q3 := hx.cell q3
      replace q4 := hx.cell q4
      replace q5 := hx.cell q5
      replace q6 := hx.cell q6
      replace hz1 := Nat.lt_of_lt_of_le hz1 hx.size
      replace hz2 := Nat.lt_of_lt_of_le hz2 hx.size
      replace hz5 := Nat.lt_of_lt_of_le hz5 hx.size
      replace hs4 := hs4.ext RPair.mono hx
      replace hx1 := hx1.trans hx
      clear hx
      go_upto_region 13 with fail
      go_cut [126] (fun s wx => s = .bool (!tagsOk t) ∧ Ext w9 wx)
      case first =>
        rcases Int.lt_or_le t 0 with ht | ht
        · have e0 : tagsOk t = false := by rw [← Bool.not_eq_true, tagsOk_iff]; omega
          have E0 := hid e0
          clear e0
          go_wp2_with fail
          go_meet
          exact ⟨by rw [E0.out]; rfl, Ext.refl _⟩
        · rcases Int.lt_or_le 15 t with ht2 | ht2
          · have e0 : tagsOk t = false := by rw [← Bool.not_eq_true, tagsOk_iff]; omega
            have E0 := hid e0
            clear e0
            go_wp2_with fail
            go_meet
            exact ⟨by rw [E0.out]; rfl, Ext.refl _⟩
          · have e0 : tagsOk t = true := by rw [tagsOk_iff]; omega
            have E0 := hid e0
            clear e0
            have d1 : decide (t < 0) = false := by simp; omega
            have d2 : decide (15 < t) = false := by simp; omega
            clear ht ht2
            go_wp2_with fail
            go_meet
            exact ⟨by rw [E0.out]; rfl, Ext.refl _⟩
      case rest =>
        as_aux_lemma =>
          obtain ⟨rfl, hx⟩ := hcut
          replace q1 := hx.cell q1
          replace q2 := hx.cell q2
          replace q3 := hx.cell q3
          replace q4 := hx.cell q4
          replace q5 := hx.cell q5
          replace q6 := hx.cell q6
          replace hz1 := Nat.lt_of_lt_of_le hz1 hx.size
          replace hz2 := Nat.lt_of_lt_of_le hz2 hx.size
          replace hz5 := Nat.lt_of_lt_of_le hz5 hx.size
          replace hs4 := hs4.ext RPair.mono hx
          replace hx1 := hx1.trans hx
          clear hx
          go_upto_if 126 with fail
          obtain ⟨wd, rfl⟩ : ∃ wd, wd = wc := ⟨_, rfl⟩
          go_cut [7, 8] (fun _ _ wx => Ext wd wx)
          case first =>
            by_cases hT : tagsOk t = true
            · have hHe : cubeHasErr a t = 0 := by rw [cubeHasErr, if_pos H1.out, if_pos hT]
              have hH : cubeHas a t = inC a t.toNat := by rw [cubeHas, hHe]; simp [inC]
              have HT := hid hT
              rw [hT]
              clear hT
              go_wp2_with fail
              refine (ref_InCi a H1.out t HT.out _).mono ?_
              rintro e wx ⟨rfl, hx⟩
              go_wp2_with fail
              go_meet
              exact hx
            · have hT' : tagsOk t = false := by simpa using hT
              have hHe : cubeHasErr a t = 1 := by rw [cubeHasErr, if_pos H1.out, if_neg hT]
              have hH : cubeHas a t = false := by simp [cubeHas, hHe]
              rw [hT']
              clear hT hT'
              go_wp2_with fail
              go_meet
              exact Ext.refl _
          case rest =>
            as_aux_lemma =>
              have hx := hcut
              replace q1 := hx.cell q1
              replace q2 := hx.cell q2
              replace q3 := hx.cell q3
              replace q4 := hx.cell q4
              replace q5 := hx.cell q5
              replace q6 := hx.cell q6
              replace hz1 := Nat.lt_of_lt_of_le hz1 hx.size
              replace hz2 := Nat.lt_of_lt_of_le hz2 hx.size
              replace hz5 := Nat.lt_of_lt_of_le hz5 hx.size
              replace hs4 := hs4.ext RPair.mono hx
              replace hx1 := hx1.trans hx
              clear hx hcut
              go_wp2_with fail
              obtain ⟨we, rfl⟩ : ∃ we, we = wc := ⟨_, rfl⟩
              go_loopw [19, 141] (fun c i wr => ∃ k : Nat, k ≤ 16 ∧ i = .int .i64 k ∧ c = .int .i64 (countTo (inC a) k) ∧ Ext we wr) (fun _ i _ => 16 - (intOf i).toNat)
              case atStart => exact ⟨0, by omega, rfl, rfl, Ext.refl _⟩
              case round =>
                as_aux_lemma =>
                  obtain ⟨k, hk, rfl, rfl, hx⟩ := hrel
                  replace q1 := hx.cell q1
                  replace q2 := hx.cell q2
                  replace q3 := hx.cell q3
                  replace q4 := hx.cell q4
                  replace q5 := hx.cell q5
                  replace q6 := hx.cell q6
                  replace hz1 := Nat.lt_of_lt_of_le hz1 hx.size
                  replace hz2 := Nat.lt_of_lt_of_le hz2 hx.size
                  replace hz5 := Nat.lt_of_lt_of_le hz5 hx.size
                  replace hs4 := hs4.ext RPair.mono hx
                  replace hx1 := hx1.trans hx
                  have hbd := countTo_bd (inC a) k
                  by_cases hlt : k < 16
                  · have k0 : (0 : Int) ≤ k := by omega
                    have k4 : (k : Int) < 16 := by omega
                    have HS := hid (show countTo (inC a) (k + 1) = countTo (inC a) k + (if inC a k then 1 else 0) from rfl)
                    go_wp2_with fail
                    refine (ref_InC a H1.out k hlt _).mono ?_
                    rintro e w10 ⟨rfl, hx2⟩
                    by_cases hp : inC a k = true
                    · rw [hp]
                      have HP := hid hp
                      clear hp
                      go_wp2_with fail
                      go_roundw
                      case rel => exact ⟨k + 1, by omega, by go_num, by rw [HS.out, HP.out]; go_num, hx.trans hx2⟩
                      case measure => simp [intOf]; omega
                    · rw [show inC a k = false by simpa using hp]
                      have HP := hid hp
                      clear hp
                      go_wp2_with fail
                      go_roundw
                      case rel => exact ⟨k + 1, by omega, by go_num, by rw [HS.out, if_neg HP.out]; go_num, hx.trans hx2⟩
                      case measure => simp [intOf]; omega
                  · obtain rfl : k = 16 := by omega
                    rw [HC.out, show ((16 : Nat) : Int) = 16 from rfl]
                    clear hx hbd hlt hk
                    go_wp2_with fail
                    obtain ⟨wf, rfl⟩ : ∃ wf, wf = wr := ⟨_, rfl⟩
                    go_loopw [21, 22, 186] (fun b0 wi i wr => ∃ k : Nat, k ≤ 16 ∧ i = .int .i64 k ∧ b0 = .int .i64 (countTo (bothC a b) k) ∧ wi = .bool (allTo (subC a b) k) ∧ Ext wf wr) (fun _ _ i _ => 16 - (intOf i).toNat)
                    case atStart => exact ⟨0, by omega, rfl, rfl, rfl, Ext.refl _⟩
                    case round =>
                      as_aux_lemma =>
                        obtain ⟨k, hk, rfl, rfl, rfl, hx⟩ := hrel
                        replace q1 := hx.cell q1
                        replace q2 := hx.cell q2
                        replace q3 := hx.cell q3
                        replace q4 := hx.cell q4
                        replace q5 := hx.cell q5
                        replace q6 := hx.cell q6
                        replace hz1 := Nat.lt_of_lt_of_le hz1 hx.size
                        replace hz2 := Nat.lt_of_lt_of_le hz2 hx.size
                        replace hz5 := Nat.lt_of_lt_of_le hz5 hx.size
                        replace hs4 := hs4.ext RPair.mono hx
                        replace hx1 := hx1.trans hx
                        have hbd := countTo_bd (bothC a b) k
                        by_cases hlt : k < 16
                        · have k0 : (0 : Int) ≤ k := by omega
                          have k4 : (k : Int) < 16 := by omega
                          have HS := hid (show countTo (bothC a b) (k + 1) = countTo (bothC a b) k + (if (inC a k && inC b k) then 1 else 0) from rfl)
                          have HA := hid (show allTo (subC a b) (k + 1) = (allTo (subC a b) k && (!inC a k || inC b k)) from rfl)
                          have HST' := hid (show timesC L k = if (inC a k && !inC b k) = true then 1 else 0 by unfold timesC; rw [HST.out k hlt]; split <;> rfl)
                          go_wp2_with fail
                          obtain ⟨wg, rfl⟩ : ∃ wg, wg = wr := ⟨_, rfl⟩
                          go_loopw [24, 191] (fun ti i ws => ∃ j : Nat, j ≤ L.length ∧ i = .int .i64 j ∧ ti = .int .i64 (timesC (L.take j) k) ∧ Ext wg ws) (fun _ i _ => L.length - (intOf i).toNat)
                          case atStart => exact ⟨0, by omega, rfl, rfl, Ext.refl _⟩
                          case round =>
                            as_aux_lemma =>
                              obtain ⟨j, hj, rfl, rfl, hx3⟩ := hrel
                              replace q1 := hx3.cell q1
                              replace q2 := hx3.cell q2
                              replace q3 := hx3.cell q3
                              replace q4 := hx3.cell q4
                              replace q5 := hx3.cell q5
                              replace q6 := hx3.cell q6
                              replace hz1 := Nat.lt_of_lt_of_le hz1 hx3.size
                              replace hz2 := Nat.lt_of_lt_of_le hz2 hx3.size
                              replace hz5 := Nat.lt_of_lt_of_le hz5 hx3.size
                              replace hs4 := hs4.ext RPair.mono hx3
                              replace hx1 := hx1.trans hx3
                              have htb : 0 ≤ timesC (L.take j) k ∧ timesC (L.take j) k ≤ 4 := by
                                have h1 := timesC_bd (L.take j) k
                                have h2 : (L.take j).length ≤ L.length := by rw [List.length_take]; omega
                                omega
                              by_cases hjl : j < L.length
                              · obtain ⟨bb, off, rfl, hbl, g1, g2⟩ := hs4.pair hjl
                                have HT := hid (timesC_take L k j hjl)
                                generalize timesC (L.take j) k = tc at *
                                have hok := HO.out _ (List.getElem_mem hjl)
                                have j0 : (0 : Int) ≤ j := by omega
                                have jl : (j : Int) < L.length := by omega
                                go_wp2_with fail
                                refine (ref_Cube L[j] _).mono ?_
                                rintro e w11 ⟨rfl, hx4⟩
                                have g3 : w11.cell? ⟨wr.heap.size, 0, none⟩ = some (.int .i64 L[j].yes) := hx4.cell (by go_simp)
                                have g4 : w11.cell? ⟨wr.heap.size, 1, none⟩ = some (.int .i64 L[j].no) := hx4.cell (by go_simp)
                                go_wp2_with fail
                                refine (ref_InC L[j] hok k hlt _).mono ?_
                                rintro e w12 ⟨rfl, hx5⟩
                                have hxx := hx3.trans ((((Ext.refl wr).alloc _).trans hx4).trans hx5)
                                by_cases hp : inC L[j] k = true
                                · rw [hp]
                                  have HP := hid hp
                                  clear hp
                                  go_wp2_with fail
                                  go_roundw
                                  case rel => exact ⟨j + 1, by omega, by go_num, by rw [HT.out, HP.out]; go_num, hxx⟩
                                  case measure => simp [intOf]; omega
                                · rw [show inC L[j] k = false by simpa using hp]
                                  have HP := hid hp
                                  clear hp
                                  go_wp2_with fail
                                  go_roundw
                                  case rel => exact ⟨j + 1, by omega, by go_num, by rw [HT.out, if_neg HP.out]; go_num, hxx⟩
                                  case measure => simp [intOf]; omega
                              · obtain rfl : j = L.length := by omega
                                rw [List.take_length, HST'.out]
                                have hxx := hx.trans hx3
                                clear hjl hj htb hx hx3 HST' hl4
                                cases hia : inC a k <;> cases hib : inC b k
                                · as_aux_lemma =>
                                    have him : inC (cubeMeet a b) k = false := by rw [HMi.out k hlt, hia, hib]; rfl
                                    go_wp2_with fail
                                    refine (ref_InC a H1.out k hlt _).mono ?_
                                    rintro e w13 ⟨rfl, hx⟩
                                    replace q1 := hx.cell q1
                                    replace q2 := hx.cell q2
                                    replace q3 := hx.cell q3
                                    replace q4 := hx.cell q4
                                    replace q5 := hx.cell q5
                                    replace q6 := hx.cell q6
                                    replace hz1 := Nat.lt_of_lt_of_le hz1 hx.size
                                    replace hz2 := Nat.lt_of_lt_of_le hz2 hx.size
                                    replace hz5 := Nat.lt_of_lt_of_le hz5 hx.size
                                    replace hs4 := hs4.ext RPair.mono hx
                                    replace hx1 := hx1.trans hx
                                    replace hxx := hxx.trans hx
                                    clear hx
                                    go_wp2_with fail
                                    refine (ref_InC a H1.out k hlt _).mono ?_
                                    rintro e w13 ⟨rfl, hx⟩
                                    replace q1 := hx.cell q1
                                    replace q2 := hx.cell q2
                                    replace q3 := hx.cell q3
                                    replace q4 := hx.cell q4
                                    replace q5 := hx.cell q5
                                    replace q6 := hx.cell q6
                                    replace hz1 := Nat.lt_of_lt_of_le hz1 hx.size
                                    replace hz2 := Nat.lt_of_lt_of_le hz2 hx.size
                                    replace hz5 := Nat.lt_of_lt_of_le hz5 hx.size
                                    replace hs4 := hs4.ext RPair.mono hx
                                    replace hx1 := hx1.trans hx
                                    replace hxx := hxx.trans hx
                                    clear hx
                                    go_wp2_with fail
                                    refine (ref_InC (cubeMeet a b) hMc k hlt _).mono ?_
                                    rintro e w13 ⟨rfl, hx⟩
                                    replace q1 := hx.cell q1
                                    replace q2 := hx.cell q2
                                    replace q3 := hx.cell q3
                                    replace q4 := hx.cell q4
                                    replace q5 := hx.cell q5
                                    replace q6 := hx.cell q6
                                    replace hz1 := Nat.lt_of_lt_of_le hz1 hx.size
                                    replace hz2 := Nat.lt_of_lt_of_le hz2 hx.size
                                    replace hz5 := Nat.lt_of_lt_of_le hz5 hx.size
                                    replace hs4 := hs4.ext RPair.mono hx
                                    replace hx1 := hx1.trans hx
                                    replace hxx := hxx.trans hx
                                    clear hx
                                    go_wp2_with fail
                                    go_roundw
                                    case rel => exact ⟨k + 1, by omega, by go_num, by rw [HS.out]; simp [hia, hib], by rw [HA.out]; simp [hia, hib], hxx⟩
                                    case measure => simp [intOf]; omega
                                · as_aux_lemma =>
                                    have him : inC (cubeMeet a b) k = false := by rw [HMi.out k hlt, hia, hib]; rfl
                                    go_wp2_with fail
                                    refine (ref_InC a H1.out k hlt _).mono ?_
                                    rintro e w13 ⟨rfl, hx⟩
                                    replace q1 := hx.cell q1
                                    replace q2 := hx.cell q2
                                    replace q3 := hx.cell q3
                                    replace q4 := hx.cell q4
                                    replace q5 := hx.cell q5
                                    replace q6 := hx.cell q6
                                    replace hz1 := Nat.lt_of_lt_of_le hz1 hx.size
                                    replace hz2 := Nat.lt_of_lt_of_le hz2 hx.size
                                    replace hz5 := Nat.lt_of_lt_of_le hz5 hx.size
                                    replace hs4 := hs4.ext RPair.mono hx
                                    replace hx1 := hx1.trans hx
                                    replace hxx := hxx.trans hx
                                    clear hx
                                    go_wp2_with fail
                                    refine (ref_InC a H1.out k hlt _).mono ?_
                                    rintro e w13 ⟨rfl, hx⟩
                                    replace q1 := hx.cell q1
                                    replace q2 := hx.cell q2
                                    replace q3 := hx.cell q3
                                    replace q4 := hx.cell q4
                                    replace q5 := hx.cell q5
                                    replace q6 := hx.cell q6
                                    replace hz1 := Nat.lt_of_lt_of_le hz1 hx.size
                                    replace hz2 := Nat.lt_of_lt_of_le hz2 hx.size
                                    replace hz5 := Nat.lt_of_lt_of_le hz5 hx.size
                                    replace hs4 := hs4.ext RPair.mono hx
                                    replace hx1 := hx1.trans hx
                                    replace hxx := hxx.trans hx
                                    clear hx
                                    go_wp2_with fail
                                    refine (ref_InC (cubeMeet a b) hMc k hlt _).mono ?_
                                    rintro e w13 ⟨rfl, hx⟩
                                    replace q1 := hx.cell q1
                                    replace q2 := hx.cell q2
                                    replace q3 := hx.cell q3
                                    replace q4 := hx.cell q4
                                    replace q5 := hx.cell q5
                                    replace q6 := hx.cell q6
                                    replace hz1 := Nat.lt_of_lt_of_le hz1 hx.size
                                    replace hz2 := Nat.lt_of_lt_of_le hz2 hx.size
                                    replace hz5 := Nat.lt_of_lt_of_le hz5 hx.size
                                    replace hs4 := hs4.ext RPair.mono hx
                                    replace hx1 := hx1.trans hx
                                    replace hxx := hxx.trans hx
                                    clear hx
                                    go_wp2_with fail
                                    go_roundw
                                    case rel => exact ⟨k + 1, by omega, by go_num, by rw [HS.out]; simp [hia, hib], by rw [HA.out]; simp [hia, hib], hxx⟩
                                    case measure => simp [intOf]; omega
                                · as_aux_lemma =>
                                    have him : inC (cubeMeet a b) k = false := by rw [HMi.out k hlt, hia, hib]; rfl
                                    go_wp2_with fail
                                    refine (ref_InC a H1.out k hlt _).mono ?_
                                    rintro e w13 ⟨rfl, hx⟩
                                    replace q1 := hx.cell q1
                                    replace q2 := hx.cell q2
                                    replace q3 := hx.cell q3
                                    replace q4 := hx.cell q4
                                    replace q5 := hx.cell q5
                                    replace q6 := hx.cell q6
                                    replace hz1 := Nat.lt_of_lt_of_le hz1 hx.size
                                    replace hz2 := Nat.lt_of_lt_of_le hz2 hx.size
                                    replace hz5 := Nat.lt_of_lt_of_le hz5 hx.size
                                    replace hs4 := hs4.ext RPair.mono hx
                                    replace hx1 := hx1.trans hx
                                    replace hxx := hxx.trans hx
                                    clear hx
                                    go_wp2_with fail
                                    refine (ref_InC b H2.out k hlt _).mono ?_
                                    rintro e w13 ⟨rfl, hx⟩
                                    replace q1 := hx.cell q1
                                    replace q2 := hx.cell q2
                                    replace q3 := hx.cell q3
                                    replace q4 := hx.cell q4
                                    replace q5 := hx.cell q5
                                    replace q6 := hx.cell q6
                                    replace hz1 := Nat.lt_of_lt_of_le hz1 hx.size
                                    replace hz2 := Nat.lt_of_lt_of_le hz2 hx.size
                                    replace hz5 := Nat.lt_of_lt_of_le hz5 hx.size
                                    replace hs4 := hs4.ext RPair.mono hx
                                    replace hx1 := hx1.trans hx
                                    replace hxx := hxx.trans hx
                                    clear hx
                                    go_wp2_with fail
                                    refine (ref_InC a H1.out k hlt _).mono ?_
                                    rintro e w13 ⟨rfl, hx⟩
                                    replace q1 := hx.cell q1
                                    replace q2 := hx.cell q2
                                    replace q3 := hx.cell q3
                                    replace q4 := hx.cell q4
                                    replace q5 := hx.cell q5
                                    replace q6 := hx.cell q6
                                    replace hz1 := Nat.lt_of_lt_of_le hz1 hx.size
                                    replace hz2 := Nat.lt_of_lt_of_le hz2 hx.size
                                    replace hz5 := Nat.lt_of_lt_of_le hz5 hx.size
                                    replace hs4 := hs4.ext RPair.mono hx
                                    replace hx1 := hx1.trans hx
                                    replace hxx := hxx.trans hx
                                    clear hx
                                    go_wp2_with fail
                                    refine (ref_InC b H2.out k hlt _).mono ?_
                                    rintro e w13 ⟨rfl, hx⟩
                                    replace q1 := hx.cell q1
                                    replace q2 := hx.cell q2
                                    replace q3 := hx.cell q3
                                    replace q4 := hx.cell q4
                                    replace q5 := hx.cell q5
                                    replace q6 := hx.cell q6
                                    replace hz1 := Nat.lt_of_lt_of_le hz1 hx.size
                                    replace hz2 := Nat.lt_of_lt_of_le hz2 hx.size
                                    replace hz5 := Nat.lt_of_lt_of_le hz5 hx.size
                                    replace hs4 := hs4.ext RPair.mono hx
                                    replace hx1 := hx1.trans hx
                                    replace hxx := hxx.trans hx
                                    clear hx
                                    go_wp2_with fail
                                    refine (ref_InC (cubeMeet a b) hMc k hlt _).mono ?_
                                    rintro e w13 ⟨rfl, hx⟩
                                    replace q1 := hx.cell q1
                                    replace q2 := hx.cell q2
                                    replace q3 := hx.cell q3
                                    replace q4 := hx.cell q4
                                    replace q5 := hx.cell q5
                                    replace q6 := hx.cell q6
                                    replace hz1 := Nat.lt_of_lt_of_le hz1 hx.size
                                    replace hz2 := Nat.lt_of_lt_of_le hz2 hx.size
                                    replace hz5 := Nat.lt_of_lt_of_le hz5 hx.size
                                    replace hs4 := hs4.ext RPair.mono hx
                                    replace hx1 := hx1.trans hx
                                    replace hxx := hxx.trans hx
                                    clear hx
                                    go_wp2_with fail
                                    go_roundw
                                    case rel => exact ⟨k + 1, by omega, by go_num, by rw [HS.out]; simp [hia, hib], by rw [HA.out]; simp [hia, hib], hxx⟩
                                    case measure => simp [intOf]; omega
                                · as_aux_lemma =>
                                    have him : inC (cubeMeet a b) k = true := by rw [HMi.out k hlt, hia, hib]; rfl
                                    go_wp2_with fail
                                    refine (ref_InC a H1.out k hlt _).mono ?_
                                    rintro e w13 ⟨rfl, hx⟩
                                    replace q1 := hx.cell q1
                                    replace q2 := hx.cell q2
                                    replace q3 := hx.cell q3
                                    replace q4 := hx.cell q4
                                    replace q5 := hx.cell q5
                                    replace q6 := hx.cell q6
                                    replace hz1 := Nat.lt_of_lt_of_le hz1 hx.size
                                    replace hz2 := Nat.lt_of_lt_of_le hz2 hx.size
                                    replace hz5 := Nat.lt_of_lt_of_le hz5 hx.size
                                    replace hs4 := hs4.ext RPair.mono hx
                                    replace hx1 := hx1.trans hx
                                    replace hxx := hxx.trans hx
                                    clear hx
                                    go_wp2_with fail
                                    refine (ref_InC b H2.out k hlt _).mono ?_
                                    rintro e w13 ⟨rfl, hx⟩
                                    replace q1 := hx.cell q1
                                    replace q2 := hx.cell q2
                                    replace q3 := hx.cell q3
                                    replace q4 := hx.cell q4
                                    replace q5 := hx.cell q5
                                    replace q6 := hx.cell q6
                                    replace hz1 := Nat.lt_of_lt_of_le hz1 hx.size
                                    replace hz2 := Nat.lt_of_lt_of_le hz2 hx.size
                                    replace hz5 := Nat.lt_of_lt_of_le hz5 hx.size
                                    replace hs4 := hs4.ext RPair.mono hx
                                    replace hx1 := hx1.trans hx
                                    replace hxx := hxx.trans hx
                                    clear hx
                                    go_wp2_with fail
                                    refine (ref_InC a H1.out k hlt _).mono ?_
                                    rintro e w13 ⟨rfl, hx⟩
                                    replace q1 := hx.cell q1
                                    replace q2 := hx.cell q2
                                    replace q3 := hx.cell q3
                                    replace q4 := hx.cell q4
                                    replace q5 := hx.cell q5
                                    replace q6 := hx.cell q6
                                    replace hz1 := Nat.lt_of_lt_of_le hz1 hx.size
                                    replace hz2 := Nat.lt_of_lt_of_le hz2 hx.size
                                    replace hz5 := Nat.lt_of_lt_of_le hz5 hx.size
                                    replace hs4 := hs4.ext RPair.mono hx
                                    replace hx1 := hx1.trans hx
                                    replace hxx := hxx.trans hx
                                    clear hx
                                    go_wp2_with fail
                                    refine (ref_InC b H2.out k hlt _).mono ?_
                                    rintro e w13 ⟨rfl, hx⟩
                                    replace q1 := hx.cell q1
                                    replace q2 := hx.cell q2
                                    replace q3 := hx.cell q3
                                    replace q4 := hx.cell q4
                                    replace q5 := hx.cell q5
                                    replace q6 := hx.cell q6
                                    replace hz1 := Nat.lt_of_lt_of_le hz1 hx.size
                                    replace hz2 := Nat.lt_of_lt_of_le hz2 hx.size
                                    replace hz5 := Nat.lt_of_lt_of_le hz5 hx.size
                                    replace hs4 := hs4.ext RPair.mono hx
                                    replace hx1 := hx1.trans hx
                                    replace hxx := hxx.trans hx
                                    clear hx
                                    go_wp2_with fail
                                    refine (ref_InC (cubeMeet a b) hMc k hlt _).mono ?_
                                    rintro e w13 ⟨rfl, hx⟩
                                    replace q1 := hx.cell q1
                                    replace q2 := hx.cell q2
                                    replace q3 := hx.cell q3
                                    replace q4 := hx.cell q4
                                    replace q5 := hx.cell q5
                                    replace q6 := hx.cell q6
                                    replace hz1 := Nat.lt_of_lt_of_le hz1 hx.size
                                    replace hz2 := Nat.lt_of_lt_of_le hz2 hx.size
                                    replace hz5 := Nat.lt_of_lt_of_le hz5 hx.size
                                    replace hs4 := hs4.ext RPair.mono hx
                                    replace hx1 := hx1.trans hx
                                    replace hxx := hxx.trans hx
                                    clear hx
                                    go_wp2_with fail
                                    go_roundw
                                    case rel => exact ⟨k + 1, by omega, by go_num, by rw [HS.out]; simp [hia, hib], by rw [HA.out]; simp [hia, hib], hxx⟩
                                    case measure => simp [intOf]; omega
                        · obtain rfl : k = 16 := by omega
                          rw [HSW.out]
                          clear hlt hk hbd hx
                          have hwf : Ext w wr := hx1
                          go_wp2_with fail
                          refine (ref_Cube (cubeMeet a b) _).mono ?_
                          rintro e w13 ⟨rfl, hx⟩
                          go_wp2_with fail
                          go_ret
                          exact ⟨ret_bool (by simp), hx1.trans hx⟩

end Go.Proofs.Ytiigbcnnapnceaa
