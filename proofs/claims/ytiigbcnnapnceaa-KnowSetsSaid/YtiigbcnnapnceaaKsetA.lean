/- The law KnowSets, where a set may not be. -/
import Derived.Test.YtiigbcnnapnceaaKnZ
import Derived.Test.YtiigbcnnapnceaaKnR
import Derived.Test.YtiigbcnnapnceaaKnF
import Derived.Test.YtiigbcnnapnceaaKnO
namespace Go.Proofs.Ytiigbcnnapnceaa
open Go Go.RowKit

set_option maxRecDepth 100000 in
set_option maxHeartbeats 8000000 in
theorem law_KnowSets_err1 (B : Nat) (va vb : Value) (k l : Know) (w : World) (hka0 : IsK B w va k) (hkb0 : IsK B w vb l) (C : Int) (hC : C ≠ 0) (h1 : knowCheck k = C) :
    Calls Try.prog 9 #[va, vb] w fun e w' => e = .returned (.bool true) ∧ Ext w w' := by
  have HA := hid hka0
  have HB := hid hkb0
  have ha := hka0
  have hb := hkb0
  obtain ⟨Av, cv, Am, cm, rfl, _, _, _, _, h⟩ := hka0
  obtain ⟨Bv, dv, Bm, dm, rfl, _, _, _, _, g⟩ := hkb0
  have hx := ((Ext.refl w).alloc (.cells #[.slice Av k.vec.length cv, .slice Am k.more.length cm] 72)).alloc (.cells #[.slice Bv l.vec.length dv, .slice Bm l.more.length dm] 72)
  have htw : twoErr k l = C := by rw [twoErr, if_neg (by rw [h1]; exact hC), h1]
  have HE1 := hid (show joinErr k l = C by rw [joinErr, if_neg (by rw [htw]; exact hC), htw])
  have HA1 := hid (show joinK k l = ⟨[], []⟩ by rw [joinK, if_neg (by rw [htw]; exact hC)])
  have HE2 := hid (show (if twoErr k l = 0 then toldErr (formOf (andD (hasK k) (hasK l))) else twoErr k l) = C by rw [if_neg (by rw [htw]; exact hC), htw])
  have HA2 := hid (show (if twoErr k l = 0 then toldKn (formOf (andD (hasK k) (hasK l))) else ⟨[], []⟩) = (⟨[], []⟩ : Know) by rw [if_neg (by rw [htw]; exact hC)])
  have HI := hid (show withinIs k l = false by rw [withinIs, if_neg (by rw [htw]; exact hC)])
  have HC := hid htw
  have hc : (C != 0) = true := by simpa using hC
  have hc' : (C == 0) = false := by simpa using hC
  have hcc : (C == C) = true := by simp
  have HN1 := hid h1
  clear h1 htw hC
  go_enter Try.func9, Try.ntmps9
  go_wp2_with fail
  refine (know_Join _ _ _ k l _ (ha.ext hx) (hb.ext hx)).mono ?_
  rintro e w1 ⟨x1, rfl, hk1, hx1⟩
  rw [HE1.out]
  obtain ⟨K1, hK1⟩ : ∃ K1, K1 = joinK k l := ⟨_, rfl⟩
  rw [← hK1] at hk1
  have HK1 := hid (hK1.trans HA1.out)
  obtain ⟨A1, c1, A2, c2, rfl, _, _, _, _, hk1⟩ := hk1
  have q0 : w1.cell? ⟨w.heap.size, 0, none⟩ = some (.slice Av k.vec.length cv) := hx1.cell (by go_simp)
  have q1 : w1.cell? ⟨w.heap.size, 1, none⟩ = some (.slice Am k.more.length cm) := hx1.cell (by go_simp)
  have d0 : w1.cell? ⟨w.heap.size + 1, 0, none⟩ = some (.slice Bv l.vec.length dv) := hx1.cell (by go_simp)
  have d1 : w1.cell? ⟨w.heap.size + 1, 1, none⟩ = some (.slice Bm l.more.length dm) := hx1.cell (by go_simp)
  replace hx := hx.trans hx1
  clear hx1 hK1
  have hlt_q0 := World.block_lt_of_cell? _ _ q0
  simp only at hlt_q0
  have hlt_d0 := World.block_lt_of_cell? _ _ d0
  simp only at hlt_d0
  go_wp2_with fail
  clear hlt_q0 hlt_d0
  have hxa := (Ext.refl w1).alloc (.cells #[.slice A1 K1.vec.length c1, .slice A2 K1.more.length c2] 72)
  have p0 : (w1.alloc (.cells #[.slice A1 K1.vec.length c1, .slice A2 K1.more.length c2] 72)).cell? ⟨w1.heap.size, 0, none⟩ = some (.slice A1 K1.vec.length c1) := by go_simp
  have p1 : (w1.alloc (.cells #[.slice A1 K1.vec.length c1, .slice A2 K1.more.length c2] 72)).cell? ⟨w1.heap.size, 1, none⟩ = some (.slice A2 K1.more.length c2) := by go_simp
  replace hx := hx.trans hxa
  replace hk1 := hk1.ext hxa
  replace q0 := hxa.cell q0
  replace q1 := hxa.cell q1
  replace d0 := hxa.cell d0
  replace d1 := hxa.cell d1
  obtain ⟨b5, hbn⟩ : ∃ b, b = w1.heap.size := ⟨_, rfl⟩
  obtain ⟨w2, hwn⟩ : ∃ w', w' = w1.alloc (.cells #[.slice A1 K1.vec.length c1, .slice A2 K1.more.length c2] 72) := ⟨_, rfl⟩
  rw [← hwn] at hx q0 q1 d0 d1 hk1 p0 p1
  rw [← hwn]
  rw [← hbn] at p0 p1
  rw [← hbn]
  clear hxa hwn hbn
  refine (know_Meet _ _ _ k l w2 (ha.ext hx) (hb.ext hx)).mono ?_
  rintro e w3 ⟨x2, rfl, hk2, hx3⟩
  rw [HE2.out]
  obtain ⟨K2, hK2⟩ : ∃ K2, K2 = (if twoErr k l = 0 then toldKn (formOf (andD (hasK k) (hasK l))) else ⟨[], []⟩) := ⟨_, rfl⟩
  rw [← hK2] at hk2
  have HK2 := hid (hK2.trans HA2.out)
  obtain ⟨A3, c3, A4, c4, rfl, _, _, _, _, hk2⟩ := hk2
  replace hk1 := hk1.ext hx3
  replace q0 := hx3.cell q0
  replace q1 := hx3.cell q1
  replace d0 := hx3.cell d0
  replace d1 := hx3.cell d1
  replace p0 := hx3.cell p0
  replace p1 := hx3.cell p1
  replace hx := hx.trans hx3
  clear hx3 hK2
  have hlt_q0 := World.block_lt_of_cell? _ _ q0
  simp only at hlt_q0
  have hlt_d0 := World.block_lt_of_cell? _ _ d0
  simp only at hlt_d0
  go_wp2_with fail
  clear hlt_q0 hlt_d0
  have hxa := (Ext.refl w3).alloc (.cells #[.slice A3 K2.vec.length c3, .slice A4 K2.more.length c4] 72)
  have m0 : (w3.alloc (.cells #[.slice A3 K2.vec.length c3, .slice A4 K2.more.length c4] 72)).cell? ⟨w3.heap.size, 0, none⟩ = some (.slice A3 K2.vec.length c3) := by go_simp
  have m1 : (w3.alloc (.cells #[.slice A3 K2.vec.length c3, .slice A4 K2.more.length c4] 72)).cell? ⟨w3.heap.size, 1, none⟩ = some (.slice A4 K2.more.length c4) := by go_simp
  replace hx := hx.trans hxa
  replace hk1 := hk1.ext hxa
  replace hk2 := hk2.ext hxa
  replace q0 := hxa.cell q0
  replace q1 := hxa.cell q1
  replace d0 := hxa.cell d0
  replace d1 := hxa.cell d1
  replace p0 := hxa.cell p0
  replace p1 := hxa.cell p1
  obtain ⟨b7, hbn⟩ : ∃ b, b = w3.heap.size := ⟨_, rfl⟩
  obtain ⟨w4, hwn⟩ : ∃ w', w' = w3.alloc (.cells #[.slice A3 K2.vec.length c3, .slice A4 K2.more.length c4] 72) := ⟨_, rfl⟩
  rw [← hwn] at hx q0 q1 d0 d1 p0 p1 hk1 hk2 m0 m1
  rw [← hwn]
  rw [← hbn] at m0 m1
  rw [← hbn]
  clear hxa hwn hbn
  refine (know_Within _ _ _ k l w4 (ha.ext hx) (hb.ext hx)).mono ?_
  rintro e w5 ⟨rfl, hx5⟩
  rw [HI.out, HC.out]
  replace hk1 := hk1.ext hx5
  replace hk2 := hk2.ext hx5
  replace q0 := hx5.cell q0
  replace q1 := hx5.cell q1
  replace d0 := hx5.cell d0
  replace d1 := hx5.cell d1
  replace p0 := hx5.cell p0
  replace p1 := hx5.cell p1
  replace m0 := hx5.cell m0
  replace m1 := hx5.cell m1
  replace hx := hx.trans hx5
  clear hx5
  go_wp2_with fail
  have hxl := ((Ext.refl w5).alloc (.cells #[.int .i64 1] 3)).alloc (.cells #[.int .i64 0, .int .i64 2] 74)
  have hl1 : SlInts 0 (w5.alloc (.cells #[.int .i64 1] 3)) (some ⟨w5.heap.size, 0, none⟩) [1] := Sl.one (cs := [.int .i64 1]) rfl rfl rfl
  have hl2 : SlDots 0 ((w5.alloc (.cells #[.int .i64 1] 3)).alloc (.cells #[.int .i64 0, .int .i64 2] 74)) (some ⟨(w5.alloc (.cells #[.int .i64 1] 3)).heap.size, 0, none⟩) [(⟨0, 2⟩ : Dot)] := Sl.one (cs := [.int .i64 0, .int .i64 2]) rfl rfl rfl
  rw [World.size_alloc] at hl2
  have hka : IsK 0 ((w5.alloc (.cells #[.int .i64 1] 3)).alloc (.cells #[.int .i64 0, .int .i64 2] 74)) (.agg #[.slice (some ⟨w5.heap.size, 0, none⟩) 1 1, .slice none 0 0]) ⟨[1], []⟩ := IsK.of ⟨_, 1, rfl, Nat.le_refl _, by unfold maxLen; simp, hl1.ext RInt.mono ((Ext.refl _).alloc _)⟩ IsSl.nil
  have hkb : IsK 0 ((w5.alloc (.cells #[.int .i64 1] 3)).alloc (.cells #[.int .i64 0, .int .i64 2] 74)) (.agg #[.slice none 0 0, .slice (some ⟨w5.heap.size + 1, 0, none⟩) 1 1]) ⟨[], [⟨0, 2⟩]⟩ := IsK.of IsSl.nil ⟨_, 1, rfl, Nat.le_refl _, by unfold maxLen; simp, hl2⟩
  refine (know_Join 0 _ _ ⟨[1], []⟩ ⟨[], [⟨0, 2⟩]⟩ _ hka hkb).mono ?_
  rintro e w6 ⟨x3, rfl, hk3, hx6⟩
  rw [own_err]
  rw [own_know] at hk3
  replace hx6 := hxl.trans hx6
  obtain ⟨K3, hK3⟩ : ∃ K3, K3 = (⟨[2], []⟩ : Know) := ⟨_, rfl⟩
  rw [← hK3] at hk3
  have HK3 := hid hK3
  obtain ⟨A5, c5, A6, c6, rfl, _, _, _, _, hk3⟩ := hk3
  replace hk1 := hk1.ext hx6
  replace hk2 := hk2.ext hx6
  replace q0 := hx6.cell q0
  replace q1 := hx6.cell q1
  replace d0 := hx6.cell d0
  replace d1 := hx6.cell d1
  replace p0 := hx6.cell p0
  replace p1 := hx6.cell p1
  replace m0 := hx6.cell m0
  replace m1 := hx6.cell m1
  replace hx := hx.trans hx6
  clear hx6 hxl hl1 hl2 hka hkb hK3
  go_wp2_with fail
  have hxb := ((Ext.refl w6).alloc (.cells #[.slice A5 K3.vec.length c5, .slice A6 K3.more.length c6] 72)).alloc (.cells #[.int .i64 2] 3)
  have hl3 : SlInts 0 ((w6.alloc (.cells #[.slice A5 K3.vec.length c5, .slice A6 K3.more.length c6] 72)).alloc (.cells #[.int .i64 2] 3)) (some ⟨(w6.alloc (.cells #[.slice A5 K3.vec.length c5, .slice A6 K3.more.length c6] 72)).heap.size, 0, none⟩) [2] := Sl.one (cs := [.int .i64 2]) rfl rfl rfl
  rw [World.size_alloc] at hl3
  have HS3 := hid (show decide (K3 = (⟨[2], []⟩ : Know)) = true by rw [HK3.out]; rfl)
  refine (ref_SameKnow 0 0 K3 ⟨[2], []⟩ A5 c5 A6 c6 (some ⟨w6.heap.size + 1, 0, none⟩) 1 none 0 _ (hk3.ext hxb) ⟨by unfold maxLen; simp, Nat.zero_le _, hl3, Sl.nil⟩).mono ?_
  rintro e w7 ⟨rfl, hx7⟩
  rw [HS3.out]
  replace hx7 := hxb.trans hx7
  replace hk1 := hk1.ext hx7
  replace hk2 := hk2.ext hx7
  replace q0 := hx7.cell q0
  replace q1 := hx7.cell q1
  replace d0 := hx7.cell d0
  replace d1 := hx7.cell d1
  replace p0 := hx7.cell p0
  replace p1 := hx7.cell p1
  replace m0 := hx7.cell m0
  replace m1 := hx7.cell m1
  replace hx := hx.trans hx7
  clear hx7 hxb hl3 hk3 HS3
  go_wp2_with fail
  refine (ref_Know _ k Av cv Am cm w7 (h.ext hx)).mono ?_
  rintro e w8 ⟨rfl, hx8⟩
  replace hk1 := hk1.ext hx8
  replace hk2 := hk2.ext hx8
  replace q0 := hx8.cell q0
  replace q1 := hx8.cell q1
  replace d0 := hx8.cell d0
  replace d1 := hx8.cell d1
  replace p0 := hx8.cell p0
  replace p1 := hx8.cell p1
  replace m0 := hx8.cell m0
  replace m1 := hx8.cell m1
  replace hx := hx.trans hx8
  clear hx8
  rw [HN1.out]
  go_wp2_with fail
  have HS1 := hid (show decide (K1 = (⟨[], []⟩ : Know)) = true by rw [HK1.out]; rfl)
  have HS2 := hid (show decide (K2 = (⟨[], []⟩ : Know)) = true by rw [HK2.out]; rfl)
  refine (ref_SameKnow 0 0 K1 ⟨[], []⟩ A1 c1 A2 c2 none 0 none 0 w8 hk1 ⟨Nat.zero_le _, Nat.zero_le _, Sl.nil, Sl.nil⟩).mono ?_
  rintro e w11 ⟨rfl, hx11⟩
  rw [HS1.out]
  replace m0 := hx11.cell m0
  replace m1 := hx11.cell m1
  replace hk2 := hk2.ext hx11
  replace hx := hx.trans hx11
  clear hx11
  go_wp2_with fail
  refine (ref_SameKnow 0 0 K2 ⟨[], []⟩ A3 c3 A4 c4 none 0 none 0 w11 hk2 ⟨Nat.zero_le _, Nat.zero_le _, Sl.nil, Sl.nil⟩).mono ?_
  rintro e w12 ⟨rfl, hx12⟩
  rw [HS2.out]
  go_wp2_with fail
  go_ret
  exact ⟨rfl, hx.trans hx12⟩

set_option maxRecDepth 100000 in
set_option maxHeartbeats 8000000 in
theorem law_KnowSets_err2 (B : Nat) (va vb : Value) (k l : Know) (w : World) (hka0 : IsK B w va k) (hkb0 : IsK B w vb l) (C : Int) (hC : C ≠ 0) (h1 : knowCheck k = 0) (h2 : knowCheck l = C) :
    Calls Try.prog 9 #[va, vb] w fun e w' => e = .returned (.bool true) ∧ Ext w w' := by
  have HA := hid hka0
  have HB := hid hkb0
  have ha := hka0
  have hb := hkb0
  obtain ⟨Av, cv, Am, cm, rfl, _, _, _, _, h⟩ := hka0
  obtain ⟨Bv, dv, Bm, dm, rfl, _, _, _, _, g⟩ := hkb0
  have hx := ((Ext.refl w).alloc (.cells #[.slice Av k.vec.length cv, .slice Am k.more.length cm] 72)).alloc (.cells #[.slice Bv l.vec.length dv, .slice Bm l.more.length dm] 72)
  have htw : twoErr k l = C := by rw [twoErr, if_pos h1, h2]
  have HE1 := hid (show joinErr k l = C by rw [joinErr, if_neg (by rw [htw]; exact hC), htw])
  have HA1 := hid (show joinK k l = ⟨[], []⟩ by rw [joinK, if_neg (by rw [htw]; exact hC)])
  have HE2 := hid (show (if twoErr k l = 0 then toldErr (formOf (andD (hasK k) (hasK l))) else twoErr k l) = C by rw [if_neg (by rw [htw]; exact hC), htw])
  have HA2 := hid (show (if twoErr k l = 0 then toldKn (formOf (andD (hasK k) (hasK l))) else ⟨[], []⟩) = (⟨[], []⟩ : Know) by rw [if_neg (by rw [htw]; exact hC)])
  have HI := hid (show withinIs k l = false by rw [withinIs, if_neg (by rw [htw]; exact hC)])
  have HC := hid htw
  have hc : (C != 0) = true := by simpa using hC
  have hc' : (C == 0) = false := by simpa using hC
  have hcc : (C == C) = true := by simp
  have HN1 := hid h1
  have HN2 := hid h2
  clear h1 h2 htw hC
  go_enter Try.func9, Try.ntmps9
  go_wp2_with fail
  refine (know_Join _ _ _ k l _ (ha.ext hx) (hb.ext hx)).mono ?_
  rintro e w1 ⟨x1, rfl, hk1, hx1⟩
  rw [HE1.out]
  obtain ⟨K1, hK1⟩ : ∃ K1, K1 = joinK k l := ⟨_, rfl⟩
  rw [← hK1] at hk1
  have HK1 := hid (hK1.trans HA1.out)
  obtain ⟨A1, c1, A2, c2, rfl, _, _, _, _, hk1⟩ := hk1
  have q0 : w1.cell? ⟨w.heap.size, 0, none⟩ = some (.slice Av k.vec.length cv) := hx1.cell (by go_simp)
  have q1 : w1.cell? ⟨w.heap.size, 1, none⟩ = some (.slice Am k.more.length cm) := hx1.cell (by go_simp)
  have d0 : w1.cell? ⟨w.heap.size + 1, 0, none⟩ = some (.slice Bv l.vec.length dv) := hx1.cell (by go_simp)
  have d1 : w1.cell? ⟨w.heap.size + 1, 1, none⟩ = some (.slice Bm l.more.length dm) := hx1.cell (by go_simp)
  replace hx := hx.trans hx1
  clear hx1 hK1
  have hlt_q0 := World.block_lt_of_cell? _ _ q0
  simp only at hlt_q0
  have hlt_d0 := World.block_lt_of_cell? _ _ d0
  simp only at hlt_d0
  go_wp2_with fail
  clear hlt_q0 hlt_d0
  have hxa := (Ext.refl w1).alloc (.cells #[.slice A1 K1.vec.length c1, .slice A2 K1.more.length c2] 72)
  have p0 : (w1.alloc (.cells #[.slice A1 K1.vec.length c1, .slice A2 K1.more.length c2] 72)).cell? ⟨w1.heap.size, 0, none⟩ = some (.slice A1 K1.vec.length c1) := by go_simp
  have p1 : (w1.alloc (.cells #[.slice A1 K1.vec.length c1, .slice A2 K1.more.length c2] 72)).cell? ⟨w1.heap.size, 1, none⟩ = some (.slice A2 K1.more.length c2) := by go_simp
  replace hx := hx.trans hxa
  replace hk1 := hk1.ext hxa
  replace q0 := hxa.cell q0
  replace q1 := hxa.cell q1
  replace d0 := hxa.cell d0
  replace d1 := hxa.cell d1
  obtain ⟨b5, hbn⟩ : ∃ b, b = w1.heap.size := ⟨_, rfl⟩
  obtain ⟨w2, hwn⟩ : ∃ w', w' = w1.alloc (.cells #[.slice A1 K1.vec.length c1, .slice A2 K1.more.length c2] 72) := ⟨_, rfl⟩
  rw [← hwn] at hx q0 q1 d0 d1 hk1 p0 p1
  rw [← hwn]
  rw [← hbn] at p0 p1
  rw [← hbn]
  clear hxa hwn hbn
  refine (know_Meet _ _ _ k l w2 (ha.ext hx) (hb.ext hx)).mono ?_
  rintro e w3 ⟨x2, rfl, hk2, hx3⟩
  rw [HE2.out]
  obtain ⟨K2, hK2⟩ : ∃ K2, K2 = (if twoErr k l = 0 then toldKn (formOf (andD (hasK k) (hasK l))) else ⟨[], []⟩) := ⟨_, rfl⟩
  rw [← hK2] at hk2
  have HK2 := hid (hK2.trans HA2.out)
  obtain ⟨A3, c3, A4, c4, rfl, _, _, _, _, hk2⟩ := hk2
  replace hk1 := hk1.ext hx3
  replace q0 := hx3.cell q0
  replace q1 := hx3.cell q1
  replace d0 := hx3.cell d0
  replace d1 := hx3.cell d1
  replace p0 := hx3.cell p0
  replace p1 := hx3.cell p1
  replace hx := hx.trans hx3
  clear hx3 hK2
  have hlt_q0 := World.block_lt_of_cell? _ _ q0
  simp only at hlt_q0
  have hlt_d0 := World.block_lt_of_cell? _ _ d0
  simp only at hlt_d0
  go_wp2_with fail
  clear hlt_q0 hlt_d0
  have hxa := (Ext.refl w3).alloc (.cells #[.slice A3 K2.vec.length c3, .slice A4 K2.more.length c4] 72)
  have m0 : (w3.alloc (.cells #[.slice A3 K2.vec.length c3, .slice A4 K2.more.length c4] 72)).cell? ⟨w3.heap.size, 0, none⟩ = some (.slice A3 K2.vec.length c3) := by go_simp
  have m1 : (w3.alloc (.cells #[.slice A3 K2.vec.length c3, .slice A4 K2.more.length c4] 72)).cell? ⟨w3.heap.size, 1, none⟩ = some (.slice A4 K2.more.length c4) := by go_simp
  replace hx := hx.trans hxa
  replace hk1 := hk1.ext hxa
  replace hk2 := hk2.ext hxa
  replace q0 := hxa.cell q0
  replace q1 := hxa.cell q1
  replace d0 := hxa.cell d0
  replace d1 := hxa.cell d1
  replace p0 := hxa.cell p0
  replace p1 := hxa.cell p1
  obtain ⟨b7, hbn⟩ : ∃ b, b = w3.heap.size := ⟨_, rfl⟩
  obtain ⟨w4, hwn⟩ : ∃ w', w' = w3.alloc (.cells #[.slice A3 K2.vec.length c3, .slice A4 K2.more.length c4] 72) := ⟨_, rfl⟩
  rw [← hwn] at hx q0 q1 d0 d1 p0 p1 hk1 hk2 m0 m1
  rw [← hwn]
  rw [← hbn] at m0 m1
  rw [← hbn]
  clear hxa hwn hbn
  refine (know_Within _ _ _ k l w4 (ha.ext hx) (hb.ext hx)).mono ?_
  rintro e w5 ⟨rfl, hx5⟩
  rw [HI.out, HC.out]
  replace hk1 := hk1.ext hx5
  replace hk2 := hk2.ext hx5
  replace q0 := hx5.cell q0
  replace q1 := hx5.cell q1
  replace d0 := hx5.cell d0
  replace d1 := hx5.cell d1
  replace p0 := hx5.cell p0
  replace p1 := hx5.cell p1
  replace m0 := hx5.cell m0
  replace m1 := hx5.cell m1
  replace hx := hx.trans hx5
  clear hx5
  go_wp2_with fail
  have hxl := ((Ext.refl w5).alloc (.cells #[.int .i64 1] 3)).alloc (.cells #[.int .i64 0, .int .i64 2] 74)
  have hl1 : SlInts 0 (w5.alloc (.cells #[.int .i64 1] 3)) (some ⟨w5.heap.size, 0, none⟩) [1] := Sl.one (cs := [.int .i64 1]) rfl rfl rfl
  have hl2 : SlDots 0 ((w5.alloc (.cells #[.int .i64 1] 3)).alloc (.cells #[.int .i64 0, .int .i64 2] 74)) (some ⟨(w5.alloc (.cells #[.int .i64 1] 3)).heap.size, 0, none⟩) [(⟨0, 2⟩ : Dot)] := Sl.one (cs := [.int .i64 0, .int .i64 2]) rfl rfl rfl
  rw [World.size_alloc] at hl2
  have hka : IsK 0 ((w5.alloc (.cells #[.int .i64 1] 3)).alloc (.cells #[.int .i64 0, .int .i64 2] 74)) (.agg #[.slice (some ⟨w5.heap.size, 0, none⟩) 1 1, .slice none 0 0]) ⟨[1], []⟩ := IsK.of ⟨_, 1, rfl, Nat.le_refl _, by unfold maxLen; simp, hl1.ext RInt.mono ((Ext.refl _).alloc _)⟩ IsSl.nil
  have hkb : IsK 0 ((w5.alloc (.cells #[.int .i64 1] 3)).alloc (.cells #[.int .i64 0, .int .i64 2] 74)) (.agg #[.slice none 0 0, .slice (some ⟨w5.heap.size + 1, 0, none⟩) 1 1]) ⟨[], [⟨0, 2⟩]⟩ := IsK.of IsSl.nil ⟨_, 1, rfl, Nat.le_refl _, by unfold maxLen; simp, hl2⟩
  refine (know_Join 0 _ _ ⟨[1], []⟩ ⟨[], [⟨0, 2⟩]⟩ _ hka hkb).mono ?_
  rintro e w6 ⟨x3, rfl, hk3, hx6⟩
  rw [own_err]
  rw [own_know] at hk3
  replace hx6 := hxl.trans hx6
  obtain ⟨K3, hK3⟩ : ∃ K3, K3 = (⟨[2], []⟩ : Know) := ⟨_, rfl⟩
  rw [← hK3] at hk3
  have HK3 := hid hK3
  obtain ⟨A5, c5, A6, c6, rfl, _, _, _, _, hk3⟩ := hk3
  replace hk1 := hk1.ext hx6
  replace hk2 := hk2.ext hx6
  replace q0 := hx6.cell q0
  replace q1 := hx6.cell q1
  replace d0 := hx6.cell d0
  replace d1 := hx6.cell d1
  replace p0 := hx6.cell p0
  replace p1 := hx6.cell p1
  replace m0 := hx6.cell m0
  replace m1 := hx6.cell m1
  replace hx := hx.trans hx6
  clear hx6 hxl hl1 hl2 hka hkb hK3
  go_wp2_with fail
  have hxb := ((Ext.refl w6).alloc (.cells #[.slice A5 K3.vec.length c5, .slice A6 K3.more.length c6] 72)).alloc (.cells #[.int .i64 2] 3)
  have hl3 : SlInts 0 ((w6.alloc (.cells #[.slice A5 K3.vec.length c5, .slice A6 K3.more.length c6] 72)).alloc (.cells #[.int .i64 2] 3)) (some ⟨(w6.alloc (.cells #[.slice A5 K3.vec.length c5, .slice A6 K3.more.length c6] 72)).heap.size, 0, none⟩) [2] := Sl.one (cs := [.int .i64 2]) rfl rfl rfl
  rw [World.size_alloc] at hl3
  have HS3 := hid (show decide (K3 = (⟨[2], []⟩ : Know)) = true by rw [HK3.out]; rfl)
  refine (ref_SameKnow 0 0 K3 ⟨[2], []⟩ A5 c5 A6 c6 (some ⟨w6.heap.size + 1, 0, none⟩) 1 none 0 _ (hk3.ext hxb) ⟨by unfold maxLen; simp, Nat.zero_le _, hl3, Sl.nil⟩).mono ?_
  rintro e w7 ⟨rfl, hx7⟩
  rw [HS3.out]
  replace hx7 := hxb.trans hx7
  replace hk1 := hk1.ext hx7
  replace hk2 := hk2.ext hx7
  replace q0 := hx7.cell q0
  replace q1 := hx7.cell q1
  replace d0 := hx7.cell d0
  replace d1 := hx7.cell d1
  replace p0 := hx7.cell p0
  replace p1 := hx7.cell p1
  replace m0 := hx7.cell m0
  replace m1 := hx7.cell m1
  replace hx := hx.trans hx7
  clear hx7 hxb hl3 hk3 HS3
  go_wp2_with fail
  refine (ref_Know _ k Av cv Am cm w7 (h.ext hx)).mono ?_
  rintro e w8 ⟨rfl, hx8⟩
  replace hk1 := hk1.ext hx8
  replace hk2 := hk2.ext hx8
  replace q0 := hx8.cell q0
  replace q1 := hx8.cell q1
  replace d0 := hx8.cell d0
  replace d1 := hx8.cell d1
  replace p0 := hx8.cell p0
  replace p1 := hx8.cell p1
  replace m0 := hx8.cell m0
  replace m1 := hx8.cell m1
  replace hx := hx.trans hx8
  clear hx8
  rw [HN1.out]
  go_wp2_with fail
  refine (ref_Know _ l Bv dv Bm dm w8 (g.ext hx)).mono ?_
  rintro e w9 ⟨rfl, hx9⟩
  rw [HN2.out]
  replace hk1 := hk1.ext hx9
  replace hk2 := hk2.ext hx9
  replace p0 := hx9.cell p0
  replace p1 := hx9.cell p1
  replace m0 := hx9.cell m0
  replace m1 := hx9.cell m1
  replace hx := hx.trans hx9
  clear hx9
  go_wp2_with fail
  have HS1 := hid (show decide (K1 = (⟨[], []⟩ : Know)) = true by rw [HK1.out]; rfl)
  have HS2 := hid (show decide (K2 = (⟨[], []⟩ : Know)) = true by rw [HK2.out]; rfl)
  refine (ref_SameKnow 0 0 K1 ⟨[], []⟩ A1 c1 A2 c2 none 0 none 0 w9 hk1 ⟨Nat.zero_le _, Nat.zero_le _, Sl.nil, Sl.nil⟩).mono ?_
  rintro e w11 ⟨rfl, hx11⟩
  rw [HS1.out]
  replace m0 := hx11.cell m0
  replace m1 := hx11.cell m1
  replace hk2 := hk2.ext hx11
  replace hx := hx.trans hx11
  clear hx11
  go_wp2_with fail
  refine (ref_SameKnow 0 0 K2 ⟨[], []⟩ A3 c3 A4 c4 none 0 none 0 w11 hk2 ⟨Nat.zero_le _, Nat.zero_le _, Sl.nil, Sl.nil⟩).mono ?_
  rintro e w12 ⟨rfl, hx12⟩
  rw [HS2.out]
  go_wp2_with fail
  go_ret
  exact ⟨rfl, hx.trans hx12⟩

end Go.Proofs.Ytiigbcnnapnceaa
