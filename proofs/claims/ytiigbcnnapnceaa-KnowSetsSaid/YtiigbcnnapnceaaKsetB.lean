/- The law KnowSets, where both sets may be. -/
import Derived.Test.YtiigbcnnapnceaaKnZ
import Derived.Test.YtiigbcnnapnceaaKnR
import Derived.Test.YtiigbcnnapnceaaKnF
import Derived.Test.YtiigbcnnapnceaaKnO
namespace Go.Proofs.Ytiigbcnnapnceaa
open Go Go.RowKit

set_option maxRecDepth 100000 in
set_option maxHeartbeats 8000000 in
theorem law_KnowSets_ok (B : Nat) (va vb : Value) (k l : Know) (w : World) (hka0 : IsK B w va k) (hkb0 : IsK B w vb l) (htw : twoErr k l = 0) :
    Calls Try.prog 9 #[va, vb] w fun e w' => e = .returned (.bool true) ∧ Ext w w' := by
  have HA := hid hka0
  have HB := hid hkb0
  have ha := hka0
  have hb := hkb0
  obtain ⟨Av, cv, Am, cm, rfl, _, _, _, _, h⟩ := hka0
  obtain ⟨Bv, dv, Bm, dm, rfl, _, _, _, _, g⟩ := hkb0
  have hx := ((Ext.refl w).alloc (.cells #[.slice Av k.vec.length cv, .slice Am k.more.length cm] 72)).alloc (.cells #[.slice Bv l.vec.length dv, .slice Bm l.more.length dm] 72)
  have hk := (two_ok htw).1
  have hl := (two_ok htw).2
  have hjf := join_form k l hk hl
  obtain ⟨EJ, hEJ⟩ : ∃ E, E = toldErr (formOf (orD (hasK k) (hasK l))) := ⟨_, rfl⟩
  obtain ⟨EM, hEM⟩ : ∃ E, E = toldErr (formOf (andD (hasK k) (hasK l))) := ⟨_, rfl⟩
  obtain ⟨W, hW⟩ : ∃ W, W = eqD (orD (hasK k) (hasK l)) (hasK l) := ⟨_, rfl⟩
  have HE1 := hid (show joinErr k l = EJ by rw [joinErr, if_pos htw, hjf, hEJ])
  have HA1 := hid (show joinK k l = toldKn (formOf (orD (hasK k) (hasK l))) by rw [joinK, if_pos htw, hjf])
  have HE2 := hid (show (if twoErr k l = 0 then toldErr (formOf (andD (hasK k) (hasK l))) else twoErr k l) = EM by rw [if_pos htw, hEM])
  have HA2 := hid (show (if twoErr k l = 0 then toldKn (formOf (andD (hasK k) (hasK l))) else ⟨[], []⟩) = toldKn (formOf (andD (hasK k) (hasK l))) by rw [if_pos htw])
  have HI := hid (show withinIs k l = W by rw [within_eq htw, hW])
  have HC := hid htw
  have HKO := hid hk
  have HLO := hid hl
  have HEJ := hid hEJ
  have HEM := hid hEM
  have HWW := hid hW
  have HN1 := hid (knowCheck_iff.2 hk)
  have HN2 := hid (knowCheck_iff.2 hl)
  clear htw hk hl hjf hEJ hEM hW
  go_enter Try.func9, Try.ntmps9
  go_wp2_with fail
  refine (know_Join _ _ _ k l _ (ha.ext hx) (hb.ext hx)).mono ?_
  rintro e w1 ⟨x1, rfl, hk1, hx1⟩
  rw [HE1.out]
  obtain ⟨K1, hK1⟩ : ∃ K1, K1 = joinK k l := ⟨_, rfl⟩
  rw [← hK1] at hk1
  have HK1 := hid (hK1.trans HA1.out)
  obtain ⟨A1, c1, A2, c2, rfl, _, _, _, _, hk1⟩ := hk1
  have q0 : w1.cell? ⟨w.heap.size, 0, none⟩ = some (.slice Av k.vec.length cv) := hx1.cell (by go_simp)
  have q1 : w1.cell? ⟨w.heap.size, 1, none⟩ = some (.slice Am k.more.length cm) := hx1.cell (by go_simp)
  have d0 : w1.cell? ⟨w.heap.size + 1, 0, none⟩ = some (.slice Bv l.vec.length dv) := hx1.cell (by go_simp)
  have d1 : w1.cell? ⟨w.heap.size + 1, 1, none⟩ = some (.slice Bm l.more.length dm) := hx1.cell (by go_simp)
  replace hx := hx.trans hx1
  clear hx1 hK1
  have hlt_q0 := World.block_lt_of_cell? _ _ q0
  simp only at hlt_q0
  have hlt_d0 := World.block_lt_of_cell? _ _ d0
  simp only at hlt_d0
  go_wp2_with fail
  clear hlt_q0 hlt_d0
  have hxa := (Ext.refl w1).alloc (.cells #[.slice A1 K1.vec.length c1, .slice A2 K1.more.length c2] 72)
  have p0 : (w1.alloc (.cells #[.slice A1 K1.vec.length c1, .slice A2 K1.more.length c2] 72)).cell? ⟨w1.heap.size, 0, none⟩ = some (.slice A1 K1.vec.length c1) := by go_simp
  have p1 : (w1.alloc (.cells #[.slice A1 K1.vec.length c1, .slice A2 K1.more.length c2] 72)).cell? ⟨w1.heap.size, 1, none⟩ = some (.slice A2 K1.more.length c2) := by go_simp
  replace hx := hx.trans hxa
  replace hk1 := hk1.ext hxa
  replace q0 := hxa.cell q0
  replace q1 := hxa.cell q1
  replace d0 := hxa.cell d0
  replace d1 := hxa.cell d1
  obtain ⟨b5, hbn⟩ : ∃ b, b = w1.heap.size := ⟨_, rfl⟩
  obtain ⟨w2, hwn⟩ : ∃ w', w' = w1.alloc (.cells #[.slice A1 K1.vec.length c1, .slice A2 K1.more.length c2] 72) := ⟨_, rfl⟩
  rw [← hwn] at hx q0 q1 d0 d1 hk1 p0 p1
  rw [← hwn]
  rw [← hbn] at p0 p1
  rw [← hbn]
  clear hxa hwn hbn
  refine (know_Meet _ _ _ k l w2 (ha.ext hx) (hb.ext hx)).mono ?_
  rintro e w3 ⟨x2, rfl, hk2, hx3⟩
  rw [HE2.out]
  obtain ⟨K2, hK2⟩ : ∃ K2, K2 = (if twoErr k l = 0 then toldKn (formOf (andD (hasK k) (hasK l))) else ⟨[], []⟩) := ⟨_, rfl⟩
  rw [← hK2] at hk2
  have HK2 := hid (hK2.trans HA2.out)
  obtain ⟨A3, c3, A4, c4, rfl, _, _, _, _, hk2⟩ := hk2
  replace hk1 := hk1.ext hx3
  replace q0 := hx3.cell q0
  replace q1 := hx3.cell q1
  replace d0 := hx3.cell d0
  replace d1 := hx3.cell d1
  replace p0 := hx3.cell p0
  replace p1 := hx3.cell p1
  replace hx := hx.trans hx3
  clear hx3 hK2
  have hlt_q0 := World.block_lt_of_cell? _ _ q0
  simp only at hlt_q0
  have hlt_d0 := World.block_lt_of_cell? _ _ d0
  simp only at hlt_d0
  go_wp2_with fail
  clear hlt_q0 hlt_d0
  have hxa := (Ext.refl w3).alloc (.cells #[.slice A3 K2.vec.length c3, .slice A4 K2.more.length c4] 72)
  have m0 : (w3.alloc (.cells #[.slice A3 K2.vec.length c3, .slice A4 K2.more.length c4] 72)).cell? ⟨w3.heap.size, 0, none⟩ = some (.slice A3 K2.vec.length c3) := by go_simp
  have m1 : (w3.alloc (.cells #[.slice A3 K2.vec.length c3, .slice A4 K2.more.length c4] 72)).cell? ⟨w3.heap.size, 1, none⟩ = some (.slice A4 K2.more.length c4) := by go_simp
  replace hx := hx.trans hxa
  replace hk1 := hk1.ext hxa
  replace hk2 := hk2.ext hxa
  replace q0 := hxa.cell q0
  replace q1 := hxa.cell q1
  replace d0 := hxa.cell d0
  replace d1 := hxa.cell d1
  replace p0 := hxa.cell p0
  replace p1 := hxa.cell p1
  obtain ⟨b7, hbn⟩ : ∃ b, b = w3.heap.size := ⟨_, rfl⟩
  obtain ⟨w4, hwn⟩ : ∃ w', w' = w3.alloc (.cells #[.slice A3 K2.vec.length c3, .slice A4 K2.more.length c4] 72) := ⟨_, rfl⟩
  rw [← hwn] at hx q0 q1 d0 d1 p0 p1 hk1 hk2 m0 m1
  rw [← hwn]
  rw [← hbn] at m0 m1
  rw [← hbn]
  clear hxa hwn hbn
  refine (know_Within _ _ _ k l w4 (ha.ext hx) (hb.ext hx)).mono ?_
  rintro e w5 ⟨rfl, hx5⟩
  rw [HI.out, HC.out]
  replace hk1 := hk1.ext hx5
  replace hk2 := hk2.ext hx5
  replace q0 := hx5.cell q0
  replace q1 := hx5.cell q1
  replace d0 := hx5.cell d0
  replace d1 := hx5.cell d1
  replace p0 := hx5.cell p0
  replace p1 := hx5.cell p1
  replace m0 := hx5.cell m0
  replace m1 := hx5.cell m1
  replace hx := hx.trans hx5
  clear hx5
  go_wp2_with fail
  have hxl := ((Ext.refl w5).alloc (.cells #[.int .i64 1] 3)).alloc (.cells #[.int .i64 0, .int .i64 2] 74)
  have hl1 : SlInts 0 (w5.alloc (.cells #[.int .i64 1] 3)) (some ⟨w5.heap.size, 0, none⟩) [1] := Sl.one (cs := [.int .i64 1]) rfl rfl rfl
  have hl2 : SlDots 0 ((w5.alloc (.cells #[.int .i64 1] 3)).alloc (.cells #[.int .i64 0, .int .i64 2] 74)) (some ⟨(w5.alloc (.cells #[.int .i64 1] 3)).heap.size, 0, none⟩) [(⟨0, 2⟩ : Dot)] := Sl.one (cs := [.int .i64 0, .int .i64 2]) rfl rfl rfl
  rw [World.size_alloc] at hl2
  have hka : IsK 0 ((w5.alloc (.cells #[.int .i64 1] 3)).alloc (.cells #[.int .i64 0, .int .i64 2] 74)) (.agg #[.slice (some ⟨w5.heap.size, 0, none⟩) 1 1, .slice none 0 0]) ⟨[1], []⟩ := IsK.of ⟨_, 1, rfl, Nat.le_refl _, by unfold maxLen; simp, hl1.ext RInt.mono ((Ext.refl _).alloc _)⟩ IsSl.nil
  have hkb : IsK 0 ((w5.alloc (.cells #[.int .i64 1] 3)).alloc (.cells #[.int .i64 0, .int .i64 2] 74)) (.agg #[.slice none 0 0, .slice (some ⟨w5.heap.size + 1, 0, none⟩) 1 1]) ⟨[], [⟨0, 2⟩]⟩ := IsK.of IsSl.nil ⟨_, 1, rfl, Nat.le_refl _, by unfold maxLen; simp, hl2⟩
  refine (know_Join 0 _ _ ⟨[1], []⟩ ⟨[], [⟨0, 2⟩]⟩ _ hka hkb).mono ?_
  rintro e w6 ⟨x3, rfl, hk3, hx6⟩
  rw [own_err]
  rw [own_know] at hk3
  replace hx6 := hxl.trans hx6
  obtain ⟨K3, hK3⟩ : ∃ K3, K3 = (⟨[2], []⟩ : Know) := ⟨_, rfl⟩
  rw [← hK3] at hk3
  have HK3 := hid hK3
  obtain ⟨A5, c5, A6, c6, rfl, _, _, _, _, hk3⟩ := hk3
  replace hk1 := hk1.ext hx6
  replace hk2 := hk2.ext hx6
  replace q0 := hx6.cell q0
  replace q1 := hx6.cell q1
  replace d0 := hx6.cell d0
  replace d1 := hx6.cell d1
  replace p0 := hx6.cell p0
  replace p1 := hx6.cell p1
  replace m0 := hx6.cell m0
  replace m1 := hx6.cell m1
  replace hx := hx.trans hx6
  clear hx6 hxl hl1 hl2 hka hkb hK3
  go_wp2_with fail
  have hxb := ((Ext.refl w6).alloc (.cells #[.slice A5 K3.vec.length c5, .slice A6 K3.more.length c6] 72)).alloc (.cells #[.int .i64 2] 3)
  have hl3 : SlInts 0 ((w6.alloc (.cells #[.slice A5 K3.vec.length c5, .slice A6 K3.more.length c6] 72)).alloc (.cells #[.int .i64 2] 3)) (some ⟨(w6.alloc (.cells #[.slice A5 K3.vec.length c5, .slice A6 K3.more.length c6] 72)).heap.size, 0, none⟩) [2] := Sl.one (cs := [.int .i64 2]) rfl rfl rfl
  rw [World.size_alloc] at hl3
  have HS3 := hid (show decide (K3 = (⟨[2], []⟩ : Know)) = true by rw [HK3.out]; rfl)
  refine (ref_SameKnow 0 0 K3 ⟨[2], []⟩ A5 c5 A6 c6 (some ⟨w6.heap.size + 1, 0, none⟩) 1 none 0 _ (hk3.ext hxb) ⟨by unfold maxLen; simp, Nat.zero_le _, hl3, Sl.nil⟩).mono ?_
  rintro e w7 ⟨rfl, hx7⟩
  rw [HS3.out]
  replace hx7 := hxb.trans hx7
  replace hk1 := hk1.ext hx7
  replace hk2 := hk2.ext hx7
  replace q0 := hx7.cell q0
  replace q1 := hx7.cell q1
  replace d0 := hx7.cell d0
  replace d1 := hx7.cell d1
  replace p0 := hx7.cell p0
  replace p1 := hx7.cell p1
  replace m0 := hx7.cell m0
  replace m1 := hx7.cell m1
  replace hx := hx.trans hx7
  clear hx7 hxb hl3 hk3 HS3
  go_wp2_with fail
  refine (ref_Know _ k Av cv Am cm w7 (h.ext hx)).mono ?_
  rintro e w8 ⟨rfl, hx8⟩
  replace hk1 := hk1.ext hx8
  replace hk2 := hk2.ext hx8
  replace q0 := hx8.cell q0
  replace q1 := hx8.cell q1
  replace d0 := hx8.cell d0
  replace d1 := hx8.cell d1
  replace p0 := hx8.cell p0
  replace p1 := hx8.cell p1
  replace m0 := hx8.cell m0
  replace m1 := hx8.cell m1
  replace hx := hx.trans hx8
  clear hx8
  rw [HN1.out]
  go_wp2_with fail
  refine (ref_Know _ l Bv dv Bm dm w8 (g.ext hx)).mono ?_
  rintro e w9 ⟨rfl, hx9⟩
  rw [HN2.out]
  replace hk1 := hk1.ext hx9
  replace hk2 := hk2.ext hx9
  replace q0 := hx9.cell q0
  replace q1 := hx9.cell q1
  replace d0 := hx9.cell d0
  replace d1 := hx9.cell d1
  replace p0 := hx9.cell p0
  replace p1 := hx9.cell p1
  replace m0 := hx9.cell m0
  replace m1 := hx9.cell m1
  replace hx := hx.trans hx9
  clear hx9
  go_wp2_with fail
  have HAll := hid (fun w' (x : Ext w9 w') => show w'.cell? ⟨w.heap.size, 0, none⟩ = some (.slice Av k.vec.length cv) ∧ w'.cell? ⟨w.heap.size, 1, none⟩ = some (.slice Am k.more.length cm) ∧ w'.cell? ⟨w.heap.size + 1, 0, none⟩ = some (.slice Bv l.vec.length dv) ∧ w'.cell? ⟨w.heap.size + 1, 1, none⟩ = some (.slice Bm l.more.length dm) from ⟨x.cell q0, x.cell q1, x.cell d0, x.cell d1⟩)
  have HKn := hid (fun w' (x : Ext w9 w') => h.ext (hx.trans x))
  have HLn := hid (fun w' (x : Ext w9 w') => g.ext (hx.trans x))
  apply wp_meet2 (fun x y wz => Ext w9 wz ∧ Blk wz x 85 (rowD (hasK k)) ∧ Blk wz y 85 (rowD (hasK l)))
  case h2 =>
    have hyn := (Ext.refl w9).drew
    refine wp_region_held_drew (S := fun w' => Ext w9 w' ∧ w'.cell? ⟨w.heap.size, 0, none⟩ = some (.slice Av k.vec.length cv) ∧ w'.cell? ⟨w.heap.size, 1, none⟩ = some (.slice Am k.more.length cm) ∧ w'.cell? ⟨w.heap.size + 1, 0, none⟩ = some (.slice Bv l.vec.length dv) ∧ w'.cell? ⟨w.heap.size + 1, 1, none⟩ = some (.slice Bm l.more.length dm)) (by kernel_rfl) ⟨hyn, HAll.out _ hyn⟩ (fun hHeld => ?_)
    obtain ⟨wc, hwc⟩ : ∃ wc, wc = w9.drew := ⟨_, rfl⟩
    rw [← hwc] at hHeld hyn ⊢
    clear hwc
    refine wpAnyH_take (i := 0) (oi := _) (v := ?_) rfl (by kernel_rfl) (by kernel_rfl) (by kernel_rfl) (fun _ _ _ h => h) (Or.inl ⟨by rfl, ?_⟩) (by assumption) ?_
    rotate_left
    · intro w' hSw
      try dsimp only at hSw
      first
        | (go_simp; done)
        | (go_simp; with_reducible rfl)
    simp only [List.getElem_toArray, List.getElem_cons_zero]
    try simp only [Act.put, List.setIfInBounds_toArray, List.set_cons_zero, List.set_cons_succ]
    refine wpAnyH_take (i := 2) (oi := _) (v := ?_) rfl (by kernel_rfl) (by kernel_rfl) (by kernel_rfl) (fun _ _ _ h => h) (Or.inl ⟨by rfl, ?_⟩) (by assumption) ?_
    rotate_left
    · intro w' hSw
      try dsimp only at hSw
      first
        | (go_simp; done)
        | (go_simp; with_reducible rfl)
    simp only [List.getElem_toArray, List.getElem_cons_zero, List.getElem_cons_succ]
    try simp only [Act.put, List.setIfInBounds_toArray, List.set_cons_zero, List.set_cons_succ]
    refine wpAnyH_ready (rs := [1, 4, 5]) (by kernel_rfl) (by simp) ?_
    refine AllReadyH.cons rfl (fun K hK => ?_) ?_
    · simp only [List.getElem_toArray, List.getElem_cons_zero, List.getElem_cons_succ]
      go_simp
      refine (ref_All _ k Av cv Am cm wc (HKn.out _ hyn) HKO.out).mono ?_
      rintro e wn ⟨rfl, hxa⟩
      dsimp only
      replace hyn := hyn.trans hxa
      clear hxa
      obtain ⟨wc, rfl⟩ : ∃ wc', wc' = wn := ⟨_, rfl⟩
      refine hK.out _ _ ⟨hyn, HAll.out _ hyn⟩ (fun hHeld => ?_)
      clear hK K
      try simp only [Act.put, List.setIfInBounds_toArray, List.set_cons_zero, List.set_cons_succ]
      refine wpAnyH_ready (rs := [3, 4, 5]) (by kernel_rfl) (by simp) ?_
      refine AllReadyH.cons rfl (fun K hK => ?_) ?_
      · simp only [List.getElem_toArray, List.getElem_cons_zero, List.getElem_cons_succ]
        go_simp
        refine (ref_All _ l Bv dv Bm dm wc (HLn.out _ hyn) HLO.out).mono ?_
        rintro e wn ⟨rfl, hxa⟩
        dsimp only
        replace hyn := hyn.trans hxa
        clear hxa
        obtain ⟨wc, rfl⟩ : ∃ wc', wc' = wn := ⟨_, rfl⟩
        refine hK.out _ _ ⟨hyn, HAll.out _ hyn⟩ (fun hHeld => ?_)
        clear hK K
        try simp only [Act.put, List.setIfInBounds_toArray, List.set_cons_zero, List.set_cons_succ]
        refine wpAnyH_ready (rs := [4, 5]) (by kernel_rfl) (by simp) ?_
        refine AllReadyH.cons rfl (fun K hK => ?_) ?_
        · simp only [List.getElem_toArray, List.getElem_cons_zero, List.getElem_cons_succ]
          simp only [Region.wanted, if_true]
          refine wp_allocArr zi_dots rfl ?_
          intro wn hxa hb14 hsn
          have hge14 : w9.heap.size ≤ wc.heap.size := hyn.size
          obtain ⟨b14, hbe⟩ : ∃ b, b = wc.heap.size := ⟨_, rfl⟩
          rw [← hbe] at hb14 hge14
          rw [← hbe]
          replace hyn := hyn.trans hxa
          clear hxa hsn hbe
          obtain ⟨wc, rfl⟩ : ∃ wc', wc' = wn := ⟨_, rfl⟩
          refine hK.out _ _ ⟨hyn, HAll.out _ hyn⟩ (fun hHeld => ?_)
          clear hK K
          try simp only [Act.put, List.setIfInBounds_toArray, List.set_cons_zero, List.set_cons_succ]
          refine wpAnyH_ready (rs := [5]) (by kernel_rfl) (by simp) ?_
          refine AllReadyH.cons rfl (fun K hK => ?_) AllReadyH.nil
          simp only [List.getElem_toArray, List.getElem_cons_zero, List.getElem_cons_succ]
          simp only [Region.wanted, if_true]
          refine wp_allocArr zi_dots rfl ?_
          intro wn hxa hb15 hsn
          have hne : b14 ≠ wc.heap.size := Nat.ne_of_lt hb14.lt
          replace hb14 := hb14.ext hxa
          have hge15 : w9.heap.size ≤ wc.heap.size := hyn.size
          obtain ⟨b15, hbe⟩ : ∃ b, b = wc.heap.size := ⟨_, rfl⟩
          rw [← hbe] at hb15 hge15 hne
          rw [← hbe]
          replace hyn := hyn.trans hxa
          clear hxa hsn hbe
          obtain ⟨wc, rfl⟩ : ∃ wc', wc' = wn := ⟨_, rfl⟩
          refine hK.out _ _ ⟨hyn, HAll.out _ hyn⟩ (fun hHeld => ?_)
          clear hK K
          try simp only [Act.put, List.setIfInBounds_toArray, List.set_cons_zero, List.set_cons_succ]
          refine wpAnyH_ready (rs := [6]) (by kernel_rfl) (by simp) ?_
          refine AllReadyH.cons rfl (fun K hK => ?_) AllReadyH.nil
          simp only [List.getElem_toArray, List.getElem_cons_zero, List.getElem_cons_succ]
          simp only [Region.wanted, if_true]
          with_reducible refine wp_putArr (b := b14) (cs := rowD (hasK k)) (old := rowD fun _ _ => false) (n := 80) (t := 85) ai_dots (.tmp 14) (.tmp 92) rfl ?_ ?_ hb14 (rowD_size _) (rowD_size _) (rowD_all _) ?_
          · rfl
          · rfl
          intro wn hxb hbn hsn hon
          replace hyn := hyn.below hxb hge14
          replace hb15 := hb15.other hon (by omega)
          clear hb14
          have hb14 := hbn
          clear hxb hsn hon hbn
          obtain ⟨wc, rfl⟩ : ∃ wc', wc' = wn := ⟨_, rfl⟩
          refine hK.out _ _ ⟨hyn, HAll.out _ hyn⟩ (fun hHeld => ?_)
          clear hK K
          try simp only [Act.put]
          refine wpAnyH_ready (rs := [7]) (by kernel_rfl) (by simp) ?_
          refine AllReadyH.cons rfl (fun K hK => ?_) AllReadyH.nil
          simp only [List.getElem_toArray, List.getElem_cons_zero, List.getElem_cons_succ]
          simp only [Region.wanted, if_true]
          with_reducible refine wp_putArr (b := b15) (cs := rowD (hasK l)) (old := rowD fun _ _ => false) (n := 80) (t := 85) ai_dots (.tmp 15) (.tmp 94) rfl ?_ ?_ hb15 (rowD_size _) (rowD_size _) (rowD_all _) ?_
          · rfl
          · rfl
          intro wn hxb hbn hsn hon
          replace hyn := hyn.below hxb hge15
          replace hb14 := hb14.other hon (by omega)
          clear hb15
          have hb15 := hbn
          clear hxb hsn hon hbn
          obtain ⟨wc, rfl⟩ : ∃ wc', wc' = wn := ⟨_, rfl⟩
          refine hK.out _ _ ⟨hyn, HAll.out _ hyn⟩ (fun hHeld => ?_)
          clear hK K
          try simp only [Act.put]
          refine wpAnyH_done (by kernel_rfl) ?_ _
          exact ⟨b14, b15, rfl, hyn, hb14, hb15⟩
        refine AllReadyH.cons rfl (fun K hK => ?_) AllReadyH.nil
        simp only [List.getElem_toArray, List.getElem_cons_zero, List.getElem_cons_succ]
        simp only [Region.wanted, if_true]
        refine wp_allocArr zi_dots rfl ?_
        intro wn hxa hb15 hsn
        have hge15 : w9.heap.size ≤ wc.heap.size := hyn.size
        obtain ⟨b15, hbe⟩ : ∃ b, b = wc.heap.size := ⟨_, rfl⟩
        rw [← hbe] at hb15 hge15
        rw [← hbe]
        replace hyn := hyn.trans hxa
        clear hxa hsn hbe
        obtain ⟨wc, rfl⟩ : ∃ wc', wc' = wn := ⟨_, rfl⟩
        refine hK.out _ _ ⟨hyn, HAll.out _ hyn⟩ (fun hHeld => ?_)
        clear hK K
        try simp only [Act.put, List.setIfInBounds_toArray, List.set_cons_zero, List.set_cons_succ]
        refine wpAnyH_ready (rs := [4]) (by kernel_rfl) (by simp) ?_
        refine AllReadyH.cons rfl (fun K hK => ?_) AllReadyH.nil
        simp only [List.getElem_toArray, List.getElem_cons_zero, List.getElem_cons_succ]
        simp only [Region.wanted, if_true]
        refine wp_allocArr zi_dots rfl ?_
        intro wn hxa hb14 hsn
        have hne : b15 ≠ wc.heap.size := Nat.ne_of_lt hb15.lt
        replace hb15 := hb15.ext hxa
        have hge14 : w9.heap.size ≤ wc.heap.size := hyn.size
        obtain ⟨b14, hbe⟩ : ∃ b, b = wc.heap.size := ⟨_, rfl⟩
        rw [← hbe] at hb14 hge14 hne
        rw [← hbe]
        replace hyn := hyn.trans hxa
        clear hxa hsn hbe
        obtain ⟨wc, rfl⟩ : ∃ wc', wc' = wn := ⟨_, rfl⟩
        refine hK.out _ _ ⟨hyn, HAll.out _ hyn⟩ (fun hHeld => ?_)
        clear hK K
        try simp only [Act.put, List.setIfInBounds_toArray, List.set_cons_zero, List.set_cons_succ]
        refine wpAnyH_ready (rs := [6]) (by kernel_rfl) (by simp) ?_
        refine AllReadyH.cons rfl (fun K hK => ?_) AllReadyH.nil
        simp only [List.getElem_toArray, List.getElem_cons_zero, List.getElem_cons_succ]
        simp only [Region.wanted, if_true]
        with_reducible refine wp_putArr (b := b14) (cs := rowD (hasK k)) (old := rowD fun _ _ => false) (n := 80) (t := 85) ai_dots (.tmp 14) (.tmp 92) rfl ?_ ?_ hb14 (rowD_size _) (rowD_size _) (rowD_all _) ?_
        · rfl
        · rfl
        intro wn hxb hbn hsn hon
        replace hyn := hyn.below hxb hge14
        replace hb15 := hb15.other hon (by omega)
        clear hb14
        have hb14 := hbn
        clear hxb hsn hon hbn
        obtain ⟨wc, rfl⟩ : ∃ wc', wc' = wn := ⟨_, rfl⟩
        refine hK.out _ _ ⟨hyn, HAll.out _ hyn⟩ (fun hHeld => ?_)
        clear hK K
        try simp only [Act.put]
        refine wpAnyH_ready (rs := [7]) (by kernel_rfl) (by simp) ?_
        refine AllReadyH.cons rfl (fun K hK => ?_) AllReadyH.nil
        simp only [List.getElem_toArray, List.getElem_cons_zero, List.getElem_cons_succ]
        simp only [Region.wanted, if_true]
        with_reducible refine wp_putArr (b := b15) (cs := rowD (hasK l)) (old := rowD fun _ _ => false) (n := 80) (t := 85) ai_dots (.tmp 15) (.tmp 94) rfl ?_ ?_ hb15 (rowD_size _) (rowD_size _) (rowD_all _) ?_
        · rfl
        · rfl
        intro wn hxb hbn hsn hon
        replace hyn := hyn.below hxb hge15
        replace hb14 := hb14.other hon (by omega)
        clear hb15
        have hb15 := hbn
        clear hxb hsn hon hbn
        obtain ⟨wc, rfl⟩ : ∃ wc', wc' = wn := ⟨_, rfl⟩
        refine hK.out _ _ ⟨hyn, HAll.out _ hyn⟩ (fun hHeld => ?_)
        clear hK K
        try simp only [Act.put]
        refine wpAnyH_done (by kernel_rfl) ?_ _
        exact ⟨b14, b15, rfl, hyn, hb14, hb15⟩
      refine AllReadyH.cons rfl (fun K hK => ?_) ?_
      · simp only [List.getElem_toArray, List.getElem_cons_zero, List.getElem_cons_succ]
        simp only [Region.wanted, if_true]
        refine wp_allocArr zi_dots rfl ?_
        intro wn hxa hb14 hsn
        have hge14 : w9.heap.size ≤ wc.heap.size := hyn.size
        obtain ⟨b14, hbe⟩ : ∃ b, b = wc.heap.size := ⟨_, rfl⟩
        rw [← hbe] at hb14 hge14
        rw [← hbe]
        replace hyn := hyn.trans hxa
        clear hxa hsn hbe
        obtain ⟨wc, rfl⟩ : ∃ wc', wc' = wn := ⟨_, rfl⟩
        refine hK.out _ _ ⟨hyn, HAll.out _ hyn⟩ (fun hHeld => ?_)
        clear hK K
        try simp only [Act.put, List.setIfInBounds_toArray, List.set_cons_zero, List.set_cons_succ]
        refine wpAnyH_ready (rs := [3, 5]) (by kernel_rfl) (by simp) ?_
        refine AllReadyH.cons rfl (fun K hK => ?_) ?_
        · simp only [List.getElem_toArray, List.getElem_cons_zero, List.getElem_cons_succ]
          go_simp
          refine (ref_All _ l Bv dv Bm dm wc (HLn.out _ hyn) HLO.out).mono ?_
          rintro e wn ⟨rfl, hxa⟩
          dsimp only
          replace hyn := hyn.trans hxa
          replace hb14 := hb14.ext hxa
          clear hxa
          obtain ⟨wc, rfl⟩ : ∃ wc', wc' = wn := ⟨_, rfl⟩
          refine hK.out _ _ ⟨hyn, HAll.out _ hyn⟩ (fun hHeld => ?_)
          clear hK K
          try simp only [Act.put, List.setIfInBounds_toArray, List.set_cons_zero, List.set_cons_succ]
          refine wpAnyH_ready (rs := [5]) (by kernel_rfl) (by simp) ?_
          refine AllReadyH.cons rfl (fun K hK => ?_) AllReadyH.nil
          simp only [List.getElem_toArray, List.getElem_cons_zero, List.getElem_cons_succ]
          simp only [Region.wanted, if_true]
          refine wp_allocArr zi_dots rfl ?_
          intro wn hxa hb15 hsn
          have hne : b14 ≠ wc.heap.size := Nat.ne_of_lt hb14.lt
          replace hb14 := hb14.ext hxa
          have hge15 : w9.heap.size ≤ wc.heap.size := hyn.size
          obtain ⟨b15, hbe⟩ : ∃ b, b = wc.heap.size := ⟨_, rfl⟩
          rw [← hbe] at hb15 hge15 hne
          rw [← hbe]
          replace hyn := hyn.trans hxa
          clear hxa hsn hbe
          obtain ⟨wc, rfl⟩ : ∃ wc', wc' = wn := ⟨_, rfl⟩
          refine hK.out _ _ ⟨hyn, HAll.out _ hyn⟩ (fun hHeld => ?_)
          clear hK K
          try simp only [Act.put, List.setIfInBounds_toArray, List.set_cons_zero, List.set_cons_succ]
          refine wpAnyH_ready (rs := [6]) (by kernel_rfl) (by simp) ?_
          refine AllReadyH.cons rfl (fun K hK => ?_) AllReadyH.nil
          simp only [List.getElem_toArray, List.getElem_cons_zero, List.getElem_cons_succ]
          simp only [Region.wanted, if_true]
          with_reducible refine wp_putArr (b := b14) (cs := rowD (hasK k)) (old := rowD fun _ _ => false) (n := 80) (t := 85) ai_dots (.tmp 14) (.tmp 92) rfl ?_ ?_ hb14 (rowD_size _) (rowD_size _) (rowD_all _) ?_
          · rfl
          · rfl
          intro wn hxb hbn hsn hon
          replace hyn := hyn.below hxb hge14
          replace hb15 := hb15.other hon (by omega)
          clear hb14
          have hb14 := hbn
          clear hxb hsn hon hbn
          obtain ⟨wc, rfl⟩ : ∃ wc', wc' = wn := ⟨_, rfl⟩
          refine hK.out _ _ ⟨hyn, HAll.out _ hyn⟩ (fun hHeld => ?_)
          clear hK K
          try simp only [Act.put]
          refine wpAnyH_ready (rs := [7]) (by kernel_rfl) (by simp) ?_
          refine AllReadyH.cons rfl (fun K hK => ?_) AllReadyH.nil
          simp only [List.getElem_toArray, List.getElem_cons_zero, List.getElem_cons_succ]
          simp only [Region.wanted, if_true]
          with_reducible refine wp_putArr (b := b15) (cs := rowD (hasK l)) (old := rowD fun _ _ => false) (n := 80) (t := 85) ai_dots (.tmp 15) (.tmp 94) rfl ?_ ?_ hb15 (rowD_size _) (rowD_size _) (rowD_all _) ?_
          · rfl
          · rfl
          intro wn hxb hbn hsn hon
          replace hyn := hyn.below hxb hge15
          replace hb14 := hb14.other hon (by omega)
          clear hb15
          have hb15 := hbn
          clear hxb hsn hon hbn
          obtain ⟨wc, rfl⟩ : ∃ wc', wc' = wn := ⟨_, rfl⟩
          refine hK.out _ _ ⟨hyn, HAll.out _ hyn⟩ (fun hHeld => ?_)
          clear hK K
          try simp only [Act.put]
          refine wpAnyH_done (by kernel_rfl) ?_ _
          exact ⟨b14, b15, rfl, hyn, hb14, hb15⟩
        refine AllReadyH.cons rfl (fun K hK => ?_) AllReadyH.nil
        simp only [List.getElem_toArray, List.getElem_cons_zero, List.getElem_cons_succ]
        simp only [Region.wanted, if_true]
        refine wp_allocArr zi_dots rfl ?_
        intro wn hxa hb15 hsn
        have hne : b14 ≠ wc.heap.size := Nat.ne_of_lt hb14.lt
        replace hb14 := hb14.ext hxa
        have hge15 : w9.heap.size ≤ wc.heap.size := hyn.size
        obtain ⟨b15, hbe⟩ : ∃ b, b = wc.heap.size := ⟨_, rfl⟩
        rw [← hbe] at hb15 hge15 hne
        rw [← hbe]
        replace hyn := hyn.trans hxa
        clear hxa hsn hbe
        obtain ⟨wc, rfl⟩ : ∃ wc', wc' = wn := ⟨_, rfl⟩
        refine hK.out _ _ ⟨hyn, HAll.out _ hyn⟩ (fun hHeld => ?_)
        clear hK K
        try simp only [Act.put, List.setIfInBounds_toArray, List.set_cons_zero, List.set_cons_succ]
        refine wpAnyH_ready (rs := [3]) (by kernel_rfl) (by simp) ?_
        refine AllReadyH.cons rfl (fun K hK => ?_) AllReadyH.nil
        simp only [List.getElem_toArray, List.getElem_cons_zero, List.getElem_cons_succ]
        go_simp
        refine (ref_All _ l Bv dv Bm dm wc (HLn.out _ hyn) HLO.out).mono ?_
        rintro e wn ⟨rfl, hxa⟩
        dsimp only
        replace hyn := hyn.trans hxa
        replace hb14 := hb14.ext hxa
        replace hb15 := hb15.ext hxa
        clear hxa
        obtain ⟨wc, rfl⟩ : ∃ wc', wc' = wn := ⟨_, rfl⟩
        refine hK.out _ _ ⟨hyn, HAll.out _ hyn⟩ (fun hHeld => ?_)
        clear hK K
        try simp only [Act.put, List.setIfInBounds_toArray, List.set_cons_zero, List.set_cons_succ]
        refine wpAnyH_ready (rs := [6]) (by kernel_rfl) (by simp) ?_
        refine AllReadyH.cons rfl (fun K hK => ?_) AllReadyH.nil
        simp only [List.getElem_toArray, List.getElem_cons_zero, List.getElem_cons_succ]
        simp only [Region.wanted, if_true]
        with_reducible refine wp_putArr (b := b14) (cs := rowD (hasK k)) (old := rowD fun _ _ => false) (n := 80) (t := 85) ai_dots (.tmp 14) (.tmp 92) rfl ?_ ?_ hb14 (rowD_size _) (rowD_size _) (rowD_all _) ?_
        · rfl
        · rfl
        intro wn hxb hbn hsn hon
        replace hyn := hyn.below hxb hge14
        replace hb15 := hb15.other hon (by omega)
        clear hb14
        have hb14 := hbn
        clear hxb hsn hon hbn
        obtain ⟨wc, rfl⟩ : ∃ wc', wc' = wn := ⟨_, rfl⟩
        refine hK.out _ _ ⟨hyn, HAll.out _ hyn⟩ (fun hHeld => ?_)
        clear hK K
        try simp only [Act.put]
        refine wpAnyH_ready (rs := [7]) (by kernel_rfl) (by simp) ?_
        refine AllReadyH.cons rfl (fun K hK => ?_) AllReadyH.nil
        simp only [List.getElem_toArray, List.getElem_cons_zero, List.getElem_cons_succ]
        simp only [Region.wanted, if_true]
        with_reducible refine wp_putArr (b := b15) (cs := rowD (hasK l)) (old := rowD fun _ _ => false) (n := 80) (t := 85) ai_dots (.tmp 15) (.tmp 94) rfl ?_ ?_ hb15 (rowD_size _) (rowD_size _) (rowD_all _) ?_
        · rfl
        · rfl
        intro wn hxb hbn hsn hon
        replace hyn := hyn.below hxb hge15
        replace hb14 := hb14.other hon (by omega)
        clear hb15
        have hb15 := hbn
        clear hxb hsn hon hbn
        obtain ⟨wc, rfl⟩ : ∃ wc', wc' = wn := ⟨_, rfl⟩
        refine hK.out _ _ ⟨hyn, HAll.out _ hyn⟩ (fun hHeld => ?_)
        clear hK K
        try simp only [Act.put]
        refine wpAnyH_done (by kernel_rfl) ?_ _
        exact ⟨b14, b15, rfl, hyn, hb14, hb15⟩
      refine AllReadyH.cons rfl (fun K hK => ?_) AllReadyH.nil
      simp only [List.getElem_toArray, List.getElem_cons_zero, List.getElem_cons_succ]
      simp only [Region.wanted, if_true]
      refine wp_allocArr zi_dots rfl ?_
      intro wn hxa hb15 hsn
      have hge15 : w9.heap.size ≤ wc.heap.size := hyn.size
      obtain ⟨b15, hbe⟩ : ∃ b, b = wc.heap.size := ⟨_, rfl⟩
      rw [← hbe] at hb15 hge15
      rw [← hbe]
      replace hyn := hyn.trans hxa
      clear hxa hsn hbe
      obtain ⟨wc, rfl⟩ : ∃ wc', wc' = wn := ⟨_, rfl⟩
      refine hK.out _ _ ⟨hyn, HAll.out _ hyn⟩ (fun hHeld => ?_)
      clear hK K
      try simp only [Act.put, List.setIfInBounds_toArray, List.set_cons_zero, List.set_cons_succ]
      refine wpAnyH_ready (rs := [3, 4]) (by kernel_rfl) (by simp) ?_
      refine AllReadyH.cons rfl (fun K hK => ?_) ?_
      · simp only [List.getElem_toArray, List.getElem_cons_zero, List.getElem_cons_succ]
        go_simp
        refine (ref_All _ l Bv dv Bm dm wc (HLn.out _ hyn) HLO.out).mono ?_
        rintro e wn ⟨rfl, hxa⟩
        dsimp only
        replace hyn := hyn.trans hxa
        replace hb15 := hb15.ext hxa
        clear hxa
        obtain ⟨wc, rfl⟩ : ∃ wc', wc' = wn := ⟨_, rfl⟩
        refine hK.out _ _ ⟨hyn, HAll.out _ hyn⟩ (fun hHeld => ?_)
        clear hK K
        try simp only [Act.put, List.setIfInBounds_toArray, List.set_cons_zero, List.set_cons_succ]
        refine wpAnyH_ready (rs := [4]) (by kernel_rfl) (by simp) ?_
        refine AllReadyH.cons rfl (fun K hK => ?_) AllReadyH.nil
        simp only [List.getElem_toArray, List.getElem_cons_zero, List.getElem_cons_succ]
        simp only [Region.wanted, if_true]
        refine wp_allocArr zi_dots rfl ?_
        intro wn hxa hb14 hsn
        have hne : b15 ≠ wc.heap.size := Nat.ne_of_lt hb15.lt
        replace hb15 := hb15.ext hxa
        have hge14 : w9.heap.size ≤ wc.heap.size := hyn.size
        obtain ⟨b14, hbe⟩ : ∃ b, b = wc.heap.size := ⟨_, rfl⟩
        rw [← hbe] at hb14 hge14 hne
        rw [← hbe]
        replace hyn := hyn.trans hxa
        clear hxa hsn hbe
        obtain ⟨wc, rfl⟩ : ∃ wc', wc' = wn := ⟨_, rfl⟩
        refine hK.out _ _ ⟨hyn, HAll.out _ hyn⟩ (fun hHeld => ?_)
        clear hK K
        try simp only [Act.put, List.setIfInBounds_toArray, List.set_cons_zero, List.set_cons_succ]
        refine wpAnyH_ready (rs := [6]) (by kernel_rfl) (by simp) ?_
        refine AllReadyH.cons rfl (fun K hK => ?_) AllReadyH.nil
        simp only [List.getElem_toArray, List.getElem_cons_zero, List.getElem_cons_succ]
        simp only [Region.wanted, if_true]
        with_reducible refine wp_putArr (b := b14) (cs := rowD (hasK k)) (old := rowD fun _ _ => false) (n := 80) (t := 85) ai_dots (.tmp 14) (.tmp 92) rfl ?_ ?_ hb14 (rowD_size _) (rowD_size _) (rowD_all _) ?_
        · rfl
        · rfl
        intro wn hxb hbn hsn hon
        replace hyn := hyn.below hxb hge14
        replace hb15 := hb15.other hon (by omega)
        clear hb14
        have hb14 := hbn
        clear hxb hsn hon hbn
        obtain ⟨wc, rfl⟩ : ∃ wc', wc' = wn := ⟨_, rfl⟩
        refine hK.out _ _ ⟨hyn, HAll.out _ hyn⟩ (fun hHeld => ?_)
        clear hK K
        try simp only [Act.put]
        refine wpAnyH_ready (rs := [7]) (by kernel_rfl) (by simp) ?_
        refine AllReadyH.cons rfl (fun K hK => ?_) AllReadyH.nil
        simp only [List.getElem_toArray, List.getElem_cons_zero, List.getElem_cons_succ]
        simp only [Region.wanted, if_true]
        with_reducible refine wp_putArr (b := b15) (cs := rowD (hasK l)) (old := rowD fun _ _ => false) (n := 80) (t := 85) ai_dots (.tmp 15) (.tmp 94) rfl ?_ ?_ hb15 (rowD_size _) (rowD_size _) (rowD_all _) ?_
        · rfl
        · rfl
        intro wn hxb hbn hsn hon
        replace hyn := hyn.below hxb hge15
        replace hb14 := hb14.other hon (by omega)
        clear hb15
        have hb15 := hbn
        clear hxb hsn hon hbn
        obtain ⟨wc, rfl⟩ : ∃ wc', wc' = wn := ⟨_, rfl⟩
        refine hK.out _ _ ⟨hyn, HAll.out _ hyn⟩ (fun hHeld => ?_)
        clear hK K
        try simp only [Act.put]
        refine wpAnyH_done (by kernel_rfl) ?_ _
        exact ⟨b14, b15, rfl, hyn, hb14, hb15⟩
      refine AllReadyH.cons rfl (fun K hK => ?_) AllReadyH.nil
      simp only [List.getElem_toArray, List.getElem_cons_zero, List.getElem_cons_succ]
      simp only [Region.wanted, if_true]
      refine wp_allocArr zi_dots rfl ?_
      intro wn hxa hb14 hsn
      have hne : b15 ≠ wc.heap.size := Nat.ne_of_lt hb15.lt
      replace hb15 := hb15.ext hxa
      have hge14 : w9.heap.size ≤ wc.heap.size := hyn.size
      obtain ⟨b14, hbe⟩ : ∃ b, b = wc.heap.size := ⟨_, rfl⟩
      rw [← hbe] at hb14 hge14 hne
      rw [← hbe]
      replace hyn := hyn.trans hxa
      clear hxa hsn hbe
      obtain ⟨wc, rfl⟩ : ∃ wc', wc' = wn := ⟨_, rfl⟩
      refine hK.out _ _ ⟨hyn, HAll.out _ hyn⟩ (fun hHeld => ?_)
      clear hK K
      try simp only [Act.put, List.setIfInBounds_toArray, List.set_cons_zero, List.set_cons_succ]
      refine wpAnyH_ready (rs := [3]) (by kernel_rfl) (by simp) ?_
      refine AllReadyH.cons rfl (fun K hK => ?_) AllReadyH.nil
      simp only [List.getElem_toArray, List.getElem_cons_zero, List.getElem_cons_succ]
      go_simp
      refine (ref_All _ l Bv dv Bm dm wc (HLn.out _ hyn) HLO.out).mono ?_
      rintro e wn ⟨rfl, hxa⟩
      dsimp only
      replace hyn := hyn.trans hxa
      replace hb14 := hb14.ext hxa
      replace hb15 := hb15.ext hxa
      clear hxa
      obtain ⟨wc, rfl⟩ : ∃ wc', wc' = wn := ⟨_, rfl⟩
      refine hK.out _ _ ⟨hyn, HAll.out _ hyn⟩ (fun hHeld => ?_)
      clear hK K
      try simp only [Act.put, List.setIfInBounds_toArray, List.set_cons_zero, List.set_cons_succ]
      refine wpAnyH_ready (rs := [6]) (by kernel_rfl) (by simp) ?_
      refine AllReadyH.cons rfl (fun K hK => ?_) AllReadyH.nil
      simp only [List.getElem_toArray, List.getElem_cons_zero, List.getElem_cons_succ]
      simp only [Region.wanted, if_true]
      with_reducible refine wp_putArr (b := b14) (cs := rowD (hasK k)) (old := rowD fun _ _ => false) (n := 80) (t := 85) ai_dots (.tmp 14) (.tmp 92) rfl ?_ ?_ hb14 (rowD_size _) (rowD_size _) (rowD_all _) ?_
      · rfl
      · rfl
      intro wn hxb hbn hsn hon
      replace hyn := hyn.below hxb hge14
      replace hb15 := hb15.other hon (by omega)
      clear hb14
      have hb14 := hbn
      clear hxb hsn hon hbn
      obtain ⟨wc, rfl⟩ : ∃ wc', wc' = wn := ⟨_, rfl⟩
      refine hK.out _ _ ⟨hyn, HAll.out _ hyn⟩ (fun hHeld => ?_)
      clear hK K
      try simp only [Act.put]
      refine wpAnyH_ready (rs := [7]) (by kernel_rfl) (by simp) ?_
      refine AllReadyH.cons rfl (fun K hK => ?_) AllReadyH.nil
      simp only [List.getElem_toArray, List.getElem_cons_zero, List.getElem_cons_succ]
      simp only [Region.wanted, if_true]
      with_reducible refine wp_putArr (b := b15) (cs := rowD (hasK l)) (old := rowD fun _ _ => false) (n := 80) (t := 85) ai_dots (.tmp 15) (.tmp 94) rfl ?_ ?_ hb15 (rowD_size _) (rowD_size _) (rowD_all _) ?_
      · rfl
      · rfl
      intro wn hxb hbn hsn hon
      replace hyn := hyn.below hxb hge15
      replace hb14 := hb14.other hon (by omega)
      clear hb15
      have hb15 := hbn
      clear hxb hsn hon hbn
      obtain ⟨wc, rfl⟩ : ∃ wc', wc' = wn := ⟨_, rfl⟩
      refine hK.out _ _ ⟨hyn, HAll.out _ hyn⟩ (fun hHeld => ?_)
      clear hK K
      try simp only [Act.put]
      refine wpAnyH_done (by kernel_rfl) ?_ _
      exact ⟨b14, b15, rfl, hyn, hb14, hb15⟩
    refine AllReadyH.cons rfl (fun K hK => ?_) ?_
    · simp only [List.getElem_toArray, List.getElem_cons_zero, List.getElem_cons_succ]
      simp only [Region.wanted, if_true]
      refine wp_allocArr zi_dots rfl ?_
      intro wn hxa hb14 hsn
      have hge14 : w9.heap.size ≤ wc.heap.size := hyn.size
      obtain ⟨b14, hbe⟩ : ∃ b, b = wc.heap.size := ⟨_, rfl⟩
      rw [← hbe] at hb14 hge14
      rw [← hbe]
      replace hyn := hyn.trans hxa
      clear hxa hsn hbe
      obtain ⟨wc, rfl⟩ : ∃ wc', wc' = wn := ⟨_, rfl⟩
      refine hK.out _ _ ⟨hyn, HAll.out _ hyn⟩ (fun hHeld => ?_)
      clear hK K
      try simp only [Act.put, List.setIfInBounds_toArray, List.set_cons_zero, List.set_cons_succ]
      refine wpAnyH_ready (rs := [1, 5]) (by kernel_rfl) (by simp) ?_
      refine AllReadyH.cons rfl (fun K hK => ?_) ?_
      · simp only [List.getElem_toArray, List.getElem_cons_zero, List.getElem_cons_succ]
        go_simp
        refine (ref_All _ k Av cv Am cm wc (HKn.out _ hyn) HKO.out).mono ?_
        rintro e wn ⟨rfl, hxa⟩
        dsimp only
        replace hyn := hyn.trans hxa
        replace hb14 := hb14.ext hxa
        clear hxa
        obtain ⟨wc, rfl⟩ : ∃ wc', wc' = wn := ⟨_, rfl⟩
        refine hK.out _ _ ⟨hyn, HAll.out _ hyn⟩ (fun hHeld => ?_)
        clear hK K
        try simp only [Act.put, List.setIfInBounds_toArray, List.set_cons_zero, List.set_cons_succ]
        refine wpAnyH_ready (rs := [3, 5]) (by kernel_rfl) (by simp) ?_
        refine AllReadyH.cons rfl (fun K hK => ?_) ?_
        · simp only [List.getElem_toArray, List.getElem_cons_zero, List.getElem_cons_succ]
          go_simp
          refine (ref_All _ l Bv dv Bm dm wc (HLn.out _ hyn) HLO.out).mono ?_
          rintro e wn ⟨rfl, hxa⟩
          dsimp only
          replace hyn := hyn.trans hxa
          replace hb14 := hb14.ext hxa
          clear hxa
          obtain ⟨wc, rfl⟩ : ∃ wc', wc' = wn := ⟨_, rfl⟩
          refine hK.out _ _ ⟨hyn, HAll.out _ hyn⟩ (fun hHeld => ?_)
          clear hK K
          try simp only [Act.put, List.setIfInBounds_toArray, List.set_cons_zero, List.set_cons_succ]
          refine wpAnyH_ready (rs := [5]) (by kernel_rfl) (by simp) ?_
          refine AllReadyH.cons rfl (fun K hK => ?_) AllReadyH.nil
          simp only [List.getElem_toArray, List.getElem_cons_zero, List.getElem_cons_succ]
          simp only [Region.wanted, if_true]
          refine wp_allocArr zi_dots rfl ?_
          intro wn hxa hb15 hsn
          have hne : b14 ≠ wc.heap.size := Nat.ne_of_lt hb14.lt
          replace hb14 := hb14.ext hxa
          have hge15 : w9.heap.size ≤ wc.heap.size := hyn.size
          obtain ⟨b15, hbe⟩ : ∃ b, b = wc.heap.size := ⟨_, rfl⟩
          rw [← hbe] at hb15 hge15 hne
          rw [← hbe]
          replace hyn := hyn.trans hxa
          clear hxa hsn hbe
          obtain ⟨wc, rfl⟩ : ∃ wc', wc' = wn := ⟨_, rfl⟩
          refine hK.out _ _ ⟨hyn, HAll.out _ hyn⟩ (fun hHeld => ?_)
          clear hK K
          try simp only [Act.put, List.setIfInBounds_toArray, List.set_cons_zero, List.set_cons_succ]
          refine wpAnyH_ready (rs := [6]) (by kernel_rfl) (by simp) ?_
          refine AllReadyH.cons rfl (fun K hK => ?_) AllReadyH.nil
          simp only [List.getElem_toArray, List.getElem_cons_zero, List.getElem_cons_succ]
          simp only [Region.wanted, if_true]
          with_reducible refine wp_putArr (b := b14) (cs := rowD (hasK k)) (old := rowD fun _ _ => false) (n := 80) (t := 85) ai_dots (.tmp 14) (.tmp 92) rfl ?_ ?_ hb14 (rowD_size _) (rowD_size _) (rowD_all _) ?_
          · rfl
          · rfl
          intro wn hxb hbn hsn hon
          replace hyn := hyn.below hxb hge14
          replace hb15 := hb15.other hon (by omega)
          clear hb14
          have hb14 := hbn
          clear hxb hsn hon hbn
          obtain ⟨wc, rfl⟩ : ∃ wc', wc' = wn := ⟨_, rfl⟩
          refine hK.out _ _ ⟨hyn, HAll.out _ hyn⟩ (fun hHeld => ?_)
          clear hK K
          try simp only [Act.put]
          refine wpAnyH_ready (rs := [7]) (by kernel_rfl) (by simp) ?_
          refine AllReadyH.cons rfl (fun K hK => ?_) AllReadyH.nil
          simp only [List.getElem_toArray, List.getElem_cons_zero, List.getElem_cons_succ]
          simp only [Region.wanted, if_true]
          with_reducible refine wp_putArr (b := b15) (cs := rowD (hasK l)) (old := rowD fun _ _ => false) (n := 80) (t := 85) ai_dots (.tmp 15) (.tmp 94) rfl ?_ ?_ hb15 (rowD_size _) (rowD_size _) (rowD_all _) ?_
          · rfl
          · rfl
          intro wn hxb hbn hsn hon
          replace hyn := hyn.below hxb hge15
          replace hb14 := hb14.other hon (by omega)
          clear hb15
          have hb15 := hbn
          clear hxb hsn hon hbn
          obtain ⟨wc, rfl⟩ : ∃ wc', wc' = wn := ⟨_, rfl⟩
          refine hK.out _ _ ⟨hyn, HAll.out _ hyn⟩ (fun hHeld => ?_)
          clear hK K
          try simp only [Act.put]
          refine wpAnyH_done (by kernel_rfl) ?_ _
          exact ⟨b14, b15, rfl, hyn, hb14, hb15⟩
        refine AllReadyH.cons rfl (fun K hK => ?_) AllReadyH.nil
        simp only [List.getElem_toArray, List.getElem_cons_zero, List.getElem_cons_succ]
        simp only [Region.wanted, if_true]
        refine wp_allocArr zi_dots rfl ?_
        intro wn hxa hb15 hsn
        have hne : b14 ≠ wc.heap.size := Nat.ne_of_lt hb14.lt
        replace hb14 := hb14.ext hxa
        have hge15 : w9.heap.size ≤ wc.heap.size := hyn.size
        obtain ⟨b15, hbe⟩ : ∃ b, b = wc.heap.size := ⟨_, rfl⟩
        rw [← hbe] at hb15 hge15 hne
        rw [← hbe]
        replace hyn := hyn.trans hxa
        clear hxa hsn hbe
        obtain ⟨wc, rfl⟩ : ∃ wc', wc' = wn := ⟨_, rfl⟩
        refine hK.out _ _ ⟨hyn, HAll.out _ hyn⟩ (fun hHeld => ?_)
        clear hK K
        try simp only [Act.put, List.setIfInBounds_toArray, List.set_cons_zero, List.set_cons_succ]
        refine wpAnyH_ready (rs := [3]) (by kernel_rfl) (by simp) ?_
        refine AllReadyH.cons rfl (fun K hK => ?_) AllReadyH.nil
        simp only [List.getElem_toArray, List.getElem_cons_zero, List.getElem_cons_succ]
        go_simp
        refine (ref_All _ l Bv dv Bm dm wc (HLn.out _ hyn) HLO.out).mono ?_
        rintro e wn ⟨rfl, hxa⟩
        dsimp only
        replace hyn := hyn.trans hxa
        replace hb14 := hb14.ext hxa
        replace hb15 := hb15.ext hxa
        clear hxa
        obtain ⟨wc, rfl⟩ : ∃ wc', wc' = wn := ⟨_, rfl⟩
        refine hK.out _ _ ⟨hyn, HAll.out _ hyn⟩ (fun hHeld => ?_)
        clear hK K
        try simp only [Act.put, List.setIfInBounds_toArray, List.set_cons_zero, List.set_cons_succ]
        refine wpAnyH_ready (rs := [6]) (by kernel_rfl) (by simp) ?_
        refine AllReadyH.cons rfl (fun K hK => ?_) AllReadyH.nil
        simp only [List.getElem_toArray, List.getElem_cons_zero, List.getElem_cons_succ]
        simp only [Region.wanted, if_true]
        with_reducible refine wp_putArr (b := b14) (cs := rowD (hasK k)) (old := rowD fun _ _ => false) (n := 80) (t := 85) ai_dots (.tmp 14) (.tmp 92) rfl ?_ ?_ hb14 (rowD_size _) (rowD_size _) (rowD_all _) ?_
        · rfl
        · rfl
        intro wn hxb hbn hsn hon
        replace hyn := hyn.below hxb hge14
        replace hb15 := hb15.other hon (by omega)
        clear hb14
        have hb14 := hbn
        clear hxb hsn hon hbn
        obtain ⟨wc, rfl⟩ : ∃ wc', wc' = wn := ⟨_, rfl⟩
        refine hK.out _ _ ⟨hyn, HAll.out _ hyn⟩ (fun hHeld => ?_)
        clear hK K
        try simp only [Act.put]
        refine wpAnyH_ready (rs := [7]) (by kernel_rfl) (by simp) ?_
        refine AllReadyH.cons rfl (fun K hK => ?_) AllReadyH.nil
        simp only [List.getElem_toArray, List.getElem_cons_zero, List.getElem_cons_succ]
        simp only [Region.wanted, if_true]
        with_reducible refine wp_putArr (b := b15) (cs := rowD (hasK l)) (old := rowD fun _ _ => false) (n := 80) (t := 85) ai_dots (.tmp 15) (.tmp 94) rfl ?_ ?_ hb15 (rowD_size _) (rowD_size _) (rowD_all _) ?_
        · rfl
        · rfl
        intro wn hxb hbn hsn hon
        replace hyn := hyn.below hxb hge15
        replace hb14 := hb14.other hon (by omega)
        clear hb15
        have hb15 := hbn
        clear hxb hsn hon hbn
        obtain ⟨wc, rfl⟩ : ∃ wc', wc' = wn := ⟨_, rfl⟩
        refine hK.out _ _ ⟨hyn, HAll.out _ hyn⟩ (fun hHeld => ?_)
        clear hK K
        try simp only [Act.put]
        refine wpAnyH_done (by kernel_rfl) ?_ _
        exact ⟨b14, b15, rfl, hyn, hb14, hb15⟩
      refine AllReadyH.cons rfl (fun K hK => ?_) AllReadyH.nil
      simp only [List.getElem_toArray, List.getElem_cons_zero, List.getElem_cons_succ]
      simp only [Region.wanted, if_true]
      refine wp_allocArr zi_dots rfl ?_
      intro wn hxa hb15 hsn
      have hne : b14 ≠ wc.heap.size := Nat.ne_of_lt hb14.lt
      replace hb14 := hb14.ext hxa
      have hge15 : w9.heap.size ≤ wc.heap.size := hyn.size
      obtain ⟨b15, hbe⟩ : ∃ b, b = wc.heap.size := ⟨_, rfl⟩
      rw [← hbe] at hb15 hge15 hne
      rw [← hbe]
      replace hyn := hyn.trans hxa
      clear hxa hsn hbe
      obtain ⟨wc, rfl⟩ : ∃ wc', wc' = wn := ⟨_, rfl⟩
      refine hK.out _ _ ⟨hyn, HAll.out _ hyn⟩ (fun hHeld => ?_)
      clear hK K
      try simp only [Act.put, List.setIfInBounds_toArray, List.set_cons_zero, List.set_cons_succ]
      refine wpAnyH_ready (rs := [1]) (by kernel_rfl) (by simp) ?_
      refine AllReadyH.cons rfl (fun K hK => ?_) AllReadyH.nil
      simp only [List.getElem_toArray, List.getElem_cons_zero, List.getElem_cons_succ]
      go_simp
      refine (ref_All _ k Av cv Am cm wc (HKn.out _ hyn) HKO.out).mono ?_
      rintro e wn ⟨rfl, hxa⟩
      dsimp only
      replace hyn := hyn.trans hxa
      replace hb14 := hb14.ext hxa
      replace hb15 := hb15.ext hxa
      clear hxa
      obtain ⟨wc, rfl⟩ : ∃ wc', wc' = wn := ⟨_, rfl⟩
      refine hK.out _ _ ⟨hyn, HAll.out _ hyn⟩ (fun hHeld => ?_)
      clear hK K
      try simp only [Act.put, List.setIfInBounds_toArray, List.set_cons_zero, List.set_cons_succ]
      refine wpAnyH_ready (rs := [3]) (by kernel_rfl) (by simp) ?_
      refine AllReadyH.cons rfl (fun K hK => ?_) AllReadyH.nil
      simp only [List.getElem_toArray, List.getElem_cons_zero, List.getElem_cons_succ]
      go_simp
      refine (ref_All _ l Bv dv Bm dm wc (HLn.out _ hyn) HLO.out).mono ?_
      rintro e wn ⟨rfl, hxa⟩
      dsimp only
      replace hyn := hyn.trans hxa
      replace hb14 := hb14.ext hxa
      replace hb15 := hb15.ext hxa
      clear hxa
      obtain ⟨wc, rfl⟩ : ∃ wc', wc' = wn := ⟨_, rfl⟩
      refine hK.out _ _ ⟨hyn, HAll.out _ hyn⟩ (fun hHeld => ?_)
      clear hK K
      try simp only [Act.put, List.setIfInBounds_toArray, List.set_cons_zero, List.set_cons_succ]
      refine wpAnyH_ready (rs := [6]) (by kernel_rfl) (by simp) ?_
      refine AllReadyH.cons rfl (fun K hK => ?_) AllReadyH.nil
      simp only [List.getElem_toArray, List.getElem_cons_zero, List.getElem_cons_succ]
      simp only [Region.wanted, if_true]
      with_reducible refine wp_putArr (b := b14) (cs := rowD (hasK k)) (old := rowD fun _ _ => false) (n := 80) (t := 85) ai_dots (.tmp 14) (.tmp 92) rfl ?_ ?_ hb14 (rowD_size _) (rowD_size _) (rowD_all _) ?_
      · rfl
      · rfl
      intro wn hxb hbn hsn hon
      replace hyn := hyn.below hxb hge14
      replace hb15 := hb15.other hon (by omega)
      clear hb14
      have hb14 := hbn
      clear hxb hsn hon hbn
      obtain ⟨wc, rfl⟩ : ∃ wc', wc' = wn := ⟨_, rfl⟩
      refine hK.out _ _ ⟨hyn, HAll.out _ hyn⟩ (fun hHeld => ?_)
      clear hK K
      try simp only [Act.put]
      refine wpAnyH_ready (rs := [7]) (by kernel_rfl) (by simp) ?_
      refine AllReadyH.cons rfl (fun K hK => ?_) AllReadyH.nil
      simp only [List.getElem_toArray, List.getElem_cons_zero, List.getElem_cons_succ]
      simp only [Region.wanted, if_true]
      with_reducible refine wp_putArr (b := b15) (cs := rowD (hasK l)) (old := rowD fun _ _ => false) (n := 80) (t := 85) ai_dots (.tmp 15) (.tmp 94) rfl ?_ ?_ hb15 (rowD_size _) (rowD_size _) (rowD_all _) ?_
      · rfl
      · rfl
      intro wn hxb hbn hsn hon
      replace hyn := hyn.below hxb hge15
      replace hb14 := hb14.other hon (by omega)
      clear hb15
      have hb15 := hbn
      clear hxb hsn hon hbn
      obtain ⟨wc, rfl⟩ : ∃ wc', wc' = wn := ⟨_, rfl⟩
      refine hK.out _ _ ⟨hyn, HAll.out _ hyn⟩ (fun hHeld => ?_)
      clear hK K
      try simp only [Act.put]
      refine wpAnyH_done (by kernel_rfl) ?_ _
      exact ⟨b14, b15, rfl, hyn, hb14, hb15⟩
    refine AllReadyH.cons rfl (fun K hK => ?_) AllReadyH.nil
    simp only [List.getElem_toArray, List.getElem_cons_zero, List.getElem_cons_succ]
    simp only [Region.wanted, if_true]
    refine wp_allocArr zi_dots rfl ?_
    intro wn hxa hb15 hsn
    have hge15 : w9.heap.size ≤ wc.heap.size := hyn.size
    obtain ⟨b15, hbe⟩ : ∃ b, b = wc.heap.size := ⟨_, rfl⟩
    rw [← hbe] at hb15 hge15
    rw [← hbe]
    replace hyn := hyn.trans hxa
    clear hxa hsn hbe
    obtain ⟨wc, rfl⟩ : ∃ wc', wc' = wn := ⟨_, rfl⟩
    refine hK.out _ _ ⟨hyn, HAll.out _ hyn⟩ (fun hHeld => ?_)
    clear hK K
    try simp only [Act.put, List.setIfInBounds_toArray, List.set_cons_zero, List.set_cons_succ]
    refine wpAnyH_ready (rs := [1, 4]) (by kernel_rfl) (by simp) ?_
    refine AllReadyH.cons rfl (fun K hK => ?_) ?_
    · simp only [List.getElem_toArray, List.getElem_cons_zero, List.getElem_cons_succ]
      go_simp
      refine (ref_All _ k Av cv Am cm wc (HKn.out _ hyn) HKO.out).mono ?_
      rintro e wn ⟨rfl, hxa⟩
      dsimp only
      replace hyn := hyn.trans hxa
      replace hb15 := hb15.ext hxa
      clear hxa
      obtain ⟨wc, rfl⟩ : ∃ wc', wc' = wn := ⟨_, rfl⟩
      refine hK.out _ _ ⟨hyn, HAll.out _ hyn⟩ (fun hHeld => ?_)
      clear hK K
      try simp only [Act.put, List.setIfInBounds_toArray, List.set_cons_zero, List.set_cons_succ]
      refine wpAnyH_ready (rs := [3, 4]) (by kernel_rfl) (by simp) ?_
      refine AllReadyH.cons rfl (fun K hK => ?_) ?_
      · simp only [List.getElem_toArray, List.getElem_cons_zero, List.getElem_cons_succ]
        go_simp
        refine (ref_All _ l Bv dv Bm dm wc (HLn.out _ hyn) HLO.out).mono ?_
        rintro e wn ⟨rfl, hxa⟩
        dsimp only
        replace hyn := hyn.trans hxa
        replace hb15 := hb15.ext hxa
        clear hxa
        obtain ⟨wc, rfl⟩ : ∃ wc', wc' = wn := ⟨_, rfl⟩
        refine hK.out _ _ ⟨hyn, HAll.out _ hyn⟩ (fun hHeld => ?_)
        clear hK K
        try simp only [Act.put, List.setIfInBounds_toArray, List.set_cons_zero, List.set_cons_succ]
        refine wpAnyH_ready (rs := [4]) (by kernel_rfl) (by simp) ?_
        refine AllReadyH.cons rfl (fun K hK => ?_) AllReadyH.nil
        simp only [List.getElem_toArray, List.getElem_cons_zero, List.getElem_cons_succ]
        simp only [Region.wanted, if_true]
        refine wp_allocArr zi_dots rfl ?_
        intro wn hxa hb14 hsn
        have hne : b15 ≠ wc.heap.size := Nat.ne_of_lt hb15.lt
        replace hb15 := hb15.ext hxa
        have hge14 : w9.heap.size ≤ wc.heap.size := hyn.size
        obtain ⟨b14, hbe⟩ : ∃ b, b = wc.heap.size := ⟨_, rfl⟩
        rw [← hbe] at hb14 hge14 hne
        rw [← hbe]
        replace hyn := hyn.trans hxa
        clear hxa hsn hbe
        obtain ⟨wc, rfl⟩ : ∃ wc', wc' = wn := ⟨_, rfl⟩
        refine hK.out _ _ ⟨hyn, HAll.out _ hyn⟩ (fun hHeld => ?_)
        clear hK K
        try simp only [Act.put, List.setIfInBounds_toArray, List.set_cons_zero, List.set_cons_succ]
        refine wpAnyH_ready (rs := [6]) (by kernel_rfl) (by simp) ?_
        refine AllReadyH.cons rfl (fun K hK => ?_) AllReadyH.nil
        simp only [List.getElem_toArray, List.getElem_cons_zero, List.getElem_cons_succ]
        simp only [Region.wanted, if_true]
        with_reducible refine wp_putArr (b := b14) (cs := rowD (hasK k)) (old := rowD fun _ _ => false) (n := 80) (t := 85) ai_dots (.tmp 14) (.tmp 92) rfl ?_ ?_ hb14 (rowD_size _) (rowD_size _) (rowD_all _) ?_
        · rfl
        · rfl
        intro wn hxb hbn hsn hon
        replace hyn := hyn.below hxb hge14
        replace hb15 := hb15.other hon (by omega)
        clear hb14
        have hb14 := hbn
        clear hxb hsn hon hbn
        obtain ⟨wc, rfl⟩ : ∃ wc', wc' = wn := ⟨_, rfl⟩
        refine hK.out _ _ ⟨hyn, HAll.out _ hyn⟩ (fun hHeld => ?_)
        clear hK K
        try simp only [Act.put]
        refine wpAnyH_ready (rs := [7]) (by kernel_rfl) (by simp) ?_
        refine AllReadyH.cons rfl (fun K hK => ?_) AllReadyH.nil
        simp only [List.getElem_toArray, List.getElem_cons_zero, List.getElem_cons_succ]
        simp only [Region.wanted, if_true]
        with_reducible refine wp_putArr (b := b15) (cs := rowD (hasK l)) (old := rowD fun _ _ => false) (n := 80) (t := 85) ai_dots (.tmp 15) (.tmp 94) rfl ?_ ?_ hb15 (rowD_size _) (rowD_size _) (rowD_all _) ?_
        · rfl
        · rfl
        intro wn hxb hbn hsn hon
        replace hyn := hyn.below hxb hge15
        replace hb14 := hb14.other hon (by omega)
        clear hb15
        have hb15 := hbn
        clear hxb hsn hon hbn
        obtain ⟨wc, rfl⟩ : ∃ wc', wc' = wn := ⟨_, rfl⟩
        refine hK.out _ _ ⟨hyn, HAll.out _ hyn⟩ (fun hHeld => ?_)
        clear hK K
        try simp only [Act.put]
        refine wpAnyH_done (by kernel_rfl) ?_ _
        exact ⟨b14, b15, rfl, hyn, hb14, hb15⟩
      refine AllReadyH.cons rfl (fun K hK => ?_) AllReadyH.nil
      simp only [List.getElem_toArray, List.getElem_cons_zero, List.getElem_cons_succ]
      simp only [Region.wanted, if_true]
      refine wp_allocArr zi_dots rfl ?_
      intro wn hxa hb14 hsn
      have hne : b15 ≠ wc.heap.size := Nat.ne_of_lt hb15.lt
      replace hb15 := hb15.ext hxa
      have hge14 : w9.heap.size ≤ wc.heap.size := hyn.size
      obtain ⟨b14, hbe⟩ : ∃ b, b = wc.heap.size := ⟨_, rfl⟩
      rw [← hbe] at hb14 hge14 hne
      rw [← hbe]
      replace hyn := hyn.trans hxa
      clear hxa hsn hbe
      obtain ⟨wc, rfl⟩ : ∃ wc', wc' = wn := ⟨_, rfl⟩
      refine hK.out _ _ ⟨hyn, HAll.out _ hyn⟩ (fun hHeld => ?_)
      clear hK K
      try simp only [Act.put, List.setIfInBounds_toArray, List.set_cons_zero, List.set_cons_succ]
      refine wpAnyH_ready (rs := [3]) (by kernel_rfl) (by simp) ?_
      refine AllReadyH.cons rfl (fun K hK => ?_) AllReadyH.nil
      simp only [List.getElem_toArray, List.getElem_cons_zero, List.getElem_cons_succ]
      go_simp
      refine (ref_All _ l Bv dv Bm dm wc (HLn.out _ hyn) HLO.out).mono ?_
      rintro e wn ⟨rfl, hxa⟩
      dsimp only
      replace hyn := hyn.trans hxa
      replace hb14 := hb14.ext hxa
      replace hb15 := hb15.ext hxa
      clear hxa
      obtain ⟨wc, rfl⟩ : ∃ wc', wc' = wn := ⟨_, rfl⟩
      refine hK.out _ _ ⟨hyn, HAll.out _ hyn⟩ (fun hHeld => ?_)
      clear hK K
      try simp only [Act.put, List.setIfInBounds_toArray, List.set_cons_zero, List.set_cons_succ]
      refine wpAnyH_ready (rs := [6]) (by kernel_rfl) (by simp) ?_
      refine AllReadyH.cons rfl (fun K hK => ?_) AllReadyH.nil
      simp only [List.getElem_toArray, List.getElem_cons_zero, List.getElem_cons_succ]
      simp only [Region.wanted, if_true]
      with_reducible refine wp_putArr (b := b14) (cs := rowD (hasK k)) (old := rowD fun _ _ => false) (n := 80) (t := 85) ai_dots (.tmp 14) (.tmp 92) rfl ?_ ?_ hb14 (rowD_size _) (rowD_size _) (rowD_all _) ?_
      · rfl
      · rfl
      intro wn hxb hbn hsn hon
      replace hyn := hyn.below hxb hge14
      replace hb15 := hb15.other hon (by omega)
      clear hb14
      have hb14 := hbn
      clear hxb hsn hon hbn
      obtain ⟨wc, rfl⟩ : ∃ wc', wc' = wn := ⟨_, rfl⟩
      refine hK.out _ _ ⟨hyn, HAll.out _ hyn⟩ (fun hHeld => ?_)
      clear hK K
      try simp only [Act.put]
      refine wpAnyH_ready (rs := [7]) (by kernel_rfl) (by simp) ?_
      refine AllReadyH.cons rfl (fun K hK => ?_) AllReadyH.nil
      simp only [List.getElem_toArray, List.getElem_cons_zero, List.getElem_cons_succ]
      simp only [Region.wanted, if_true]
      with_reducible refine wp_putArr (b := b15) (cs := rowD (hasK l)) (old := rowD fun _ _ => false) (n := 80) (t := 85) ai_dots (.tmp 15) (.tmp 94) rfl ?_ ?_ hb15 (rowD_size _) (rowD_size _) (rowD_all _) ?_
      · rfl
      · rfl
      intro wn hxb hbn hsn hon
      replace hyn := hyn.below hxb hge15
      replace hb14 := hb14.other hon (by omega)
      clear hb15
      have hb15 := hbn
      clear hxb hsn hon hbn
      obtain ⟨wc, rfl⟩ : ∃ wc', wc' = wn := ⟨_, rfl⟩
      refine hK.out _ _ ⟨hyn, HAll.out _ hyn⟩ (fun hHeld => ?_)
      clear hK K
      try simp only [Act.put]
      refine wpAnyH_done (by kernel_rfl) ?_ _
      exact ⟨b14, b15, rfl, hyn, hb14, hb15⟩
    refine AllReadyH.cons rfl (fun K hK => ?_) AllReadyH.nil
    simp only [List.getElem_toArray, List.getElem_cons_zero, List.getElem_cons_succ]
    simp only [Region.wanted, if_true]
    refine wp_allocArr zi_dots rfl ?_
    intro wn hxa hb14 hsn
    have hne : b15 ≠ wc.heap.size := Nat.ne_of_lt hb15.lt
    replace hb15 := hb15.ext hxa
    have hge14 : w9.heap.size ≤ wc.heap.size := hyn.size
    obtain ⟨b14, hbe⟩ : ∃ b, b = wc.heap.size := ⟨_, rfl⟩
    rw [← hbe] at hb14 hge14 hne
    rw [← hbe]
    replace hyn := hyn.trans hxa
    clear hxa hsn hbe
    obtain ⟨wc, rfl⟩ : ∃ wc', wc' = wn := ⟨_, rfl⟩
    refine hK.out _ _ ⟨hyn, HAll.out _ hyn⟩ (fun hHeld => ?_)
    clear hK K
    try simp only [Act.put, List.setIfInBounds_toArray, List.set_cons_zero, List.set_cons_succ]
    refine wpAnyH_ready (rs := [1]) (by kernel_rfl) (by simp) ?_
    refine AllReadyH.cons rfl (fun K hK => ?_) AllReadyH.nil
    simp only [List.getElem_toArray, List.getElem_cons_zero, List.getElem_cons_succ]
    go_simp
    refine (ref_All _ k Av cv Am cm wc (HKn.out _ hyn) HKO.out).mono ?_
    rintro e wn ⟨rfl, hxa⟩
    dsimp only
    replace hyn := hyn.trans hxa
    replace hb14 := hb14.ext hxa
    replace hb15 := hb15.ext hxa
    clear hxa
    obtain ⟨wc, rfl⟩ : ∃ wc', wc' = wn := ⟨_, rfl⟩
    refine hK.out _ _ ⟨hyn, HAll.out _ hyn⟩ (fun hHeld => ?_)
    clear hK K
    try simp only [Act.put, List.setIfInBounds_toArray, List.set_cons_zero, List.set_cons_succ]
    refine wpAnyH_ready (rs := [3]) (by kernel_rfl) (by simp) ?_
    refine AllReadyH.cons rfl (fun K hK => ?_) AllReadyH.nil
    simp only [List.getElem_toArray, List.getElem_cons_zero, List.getElem_cons_succ]
    go_simp
    refine (ref_All _ l Bv dv Bm dm wc (HLn.out _ hyn) HLO.out).mono ?_
    rintro e wn ⟨rfl, hxa⟩
    dsimp only
    replace hyn := hyn.trans hxa
    replace hb14 := hb14.ext hxa
    replace hb15 := hb15.ext hxa
    clear hxa
    obtain ⟨wc, rfl⟩ : ∃ wc', wc' = wn := ⟨_, rfl⟩
    refine hK.out _ _ ⟨hyn, HAll.out _ hyn⟩ (fun hHeld => ?_)
    clear hK K
    try simp only [Act.put, List.setIfInBounds_toArray, List.set_cons_zero, List.set_cons_succ]
    refine wpAnyH_ready (rs := [6]) (by kernel_rfl) (by simp) ?_
    refine AllReadyH.cons rfl (fun K hK => ?_) AllReadyH.nil
    simp only [List.getElem_toArray, List.getElem_cons_zero, List.getElem_cons_succ]
    simp only [Region.wanted, if_true]
    with_reducible refine wp_putArr (b := b14) (cs := rowD (hasK k)) (old := rowD fun _ _ => false) (n := 80) (t := 85) ai_dots (.tmp 14) (.tmp 92) rfl ?_ ?_ hb14 (rowD_size _) (rowD_size _) (rowD_all _) ?_
    · rfl
    · rfl
    intro wn hxb hbn hsn hon
    replace hyn := hyn.below hxb hge14
    replace hb15 := hb15.other hon (by omega)
    clear hb14
    have hb14 := hbn
    clear hxb hsn hon hbn
    obtain ⟨wc, rfl⟩ : ∃ wc', wc' = wn := ⟨_, rfl⟩
    refine hK.out _ _ ⟨hyn, HAll.out _ hyn⟩ (fun hHeld => ?_)
    clear hK K
    try simp only [Act.put]
    refine wpAnyH_ready (rs := [7]) (by kernel_rfl) (by simp) ?_
    refine AllReadyH.cons rfl (fun K hK => ?_) AllReadyH.nil
    simp only [List.getElem_toArray, List.getElem_cons_zero, List.getElem_cons_succ]
    simp only [Region.wanted, if_true]
    with_reducible refine wp_putArr (b := b15) (cs := rowD (hasK l)) (old := rowD fun _ _ => false) (n := 80) (t := 85) ai_dots (.tmp 15) (.tmp 94) rfl ?_ ?_ hb15 (rowD_size _) (rowD_size _) (rowD_all _) ?_
    · rfl
    · rfl
    intro wn hxb hbn hsn hon
    replace hyn := hyn.below hxb hge15
    replace hb14 := hb14.other hon (by omega)
    clear hb15
    have hb15 := hbn
    clear hxb hsn hon hbn
    obtain ⟨wc, rfl⟩ : ∃ wc', wc' = wn := ⟨_, rfl⟩
    refine hK.out _ _ ⟨hyn, HAll.out _ hyn⟩ (fun hHeld => ?_)
    clear hK K
    try simp only [Act.put]
    refine wpAnyH_done (by kernel_rfl) ?_ _
    exact ⟨b14, b15, rfl, hyn, hb14, hb15⟩
  intro b14 b15 w10 hfacts
  obtain ⟨hx10, hb14, hb15⟩ := hfacts
  replace hk1 := hk1.ext hx10
  replace hk2 := hk2.ext hx10
  replace p0 := hx10.cell p0
  replace p1 := hx10.cell p1
  replace m0 := hx10.cell m0
  replace m1 := hx10.cell m1
  replace hx := hx.trans hx10
  clear hx10 HAll HKn HLn q0 q1 d0 d1
  go_wp2_with (first
    | ((with_reducible refine wpList_loadArr (o := ⟨some 96, _, _, _, _, _⟩) ai_dots _ rfl rfl rfl hb14 (rowD_size _) ?_))
    | ((with_reducible refine wpList_loadArr (o := ⟨some 97, _, _, _, _, _⟩) ai_dots _ rfl rfl rfl hb15 (rowD_size _) ?_)))
  refine (dots_Join (hasK k) (hasK l) w10).mono ?_
  rintro e w11 ⟨rfl, hx11⟩
  replace hk1 := hk1.ext hx11
  replace hk2 := hk2.ext hx11
  replace p0 := hx11.cell p0
  replace p1 := hx11.cell p1
  replace m0 := hx11.cell m0
  replace m1 := hx11.cell m1
  replace hx := hx.trans hx11
  replace hb14 := hb14.ext hx11
  replace hb15 := hb15.ext hx11
  clear hx11
  go_wp2_with fail
  refine (ref_Formed (orD (hasK k) (hasK l)) w11).mono ?_
  rintro e w12 ⟨y1, rfl, hk4, hx12⟩
  rw [← HEJ.out]
  obtain ⟨K4, hK4⟩ : ∃ K4, K4 = toldKn (formOf (orD (hasK k) (hasK l))) := ⟨_, rfl⟩
  rw [← hK4] at hk4
  have HK4 := hid hK4
  obtain ⟨A7, c7, A8, c8, rfl, _, _, _, _, hk4⟩ := hk4
  replace hk1 := hk1.ext hx12
  replace hk2 := hk2.ext hx12
  replace p0 := hx12.cell p0
  replace p1 := hx12.cell p1
  replace m0 := hx12.cell m0
  replace m1 := hx12.cell m1
  replace hx := hx.trans hx12
  replace hb14 := hb14.ext hx12
  replace hb15 := hb15.ext hx12
  clear hx12 hK4
  have hxk := (Ext.refl w12).alloc (.cells #[.slice A7 K4.vec.length c7, .slice A8 K4.more.length c8] 72)
  have hc14 := hb14.ext hxk
  have hc15 := hb15.ext hxk
  go_wp2_with (first
    | ((with_reducible refine wpList_loadArr (o := ⟨some 103, _, _, _, _, _⟩) ai_dots _ rfl rfl rfl hc14 (rowD_size _) ?_))
    | ((with_reducible refine wpList_loadArr (o := ⟨some 104, _, _, _, _, _⟩) ai_dots _ rfl rfl rfl hc15 (rowD_size _) ?_)))
  clear hxk hb14 hb15
  have hb14 := hc14
  have hb15 := hc15
  clear hc14 hc15
  have hxa := (Ext.refl w12).alloc (.cells #[.slice A7 K4.vec.length c7, .slice A8 K4.more.length c8] 72)
  have n0 : (w12.alloc (.cells #[.slice A7 K4.vec.length c7, .slice A8 K4.more.length c8] 72)).cell? ⟨w12.heap.size, 0, none⟩ = some (.slice A7 K4.vec.length c7) := by go_simp
  have n1 : (w12.alloc (.cells #[.slice A7 K4.vec.length c7, .slice A8 K4.more.length c8] 72)).cell? ⟨w12.heap.size, 1, none⟩ = some (.slice A8 K4.more.length c8) := by go_simp
  replace hx := hx.trans hxa
  replace hk1 := hk1.ext hxa
  replace hk2 := hk2.ext hxa
  replace hk4 := hk4.ext hxa
  replace p0 := hxa.cell p0
  replace p1 := hxa.cell p1
  replace m0 := hxa.cell m0
  replace m1 := hxa.cell m1
  obtain ⟨b16, hbn⟩ : ∃ b, b = w12.heap.size := ⟨_, rfl⟩
  obtain ⟨w13, hwn⟩ : ∃ w', w' = w12.alloc (.cells #[.slice A7 K4.vec.length c7, .slice A8 K4.more.length c8] 72) := ⟨_, rfl⟩
  rw [← hwn] at hb14 hb15 hx p0 p1 m0 m1 hk1 hk2 hk4 n0 n1
  rw [← hwn]
  rw [← hbn] at n0 n1
  rw [← hbn]
  clear hxa hwn hbn
  refine (dots_Meet (hasK k) (hasK l) w13).mono ?_
  rintro e w14 ⟨rfl, hx14⟩
  replace hk1 := hk1.ext hx14
  replace hk2 := hk2.ext hx14
  replace hk4 := hk4.ext hx14
  replace p0 := hx14.cell p0
  replace p1 := hx14.cell p1
  replace m0 := hx14.cell m0
  replace m1 := hx14.cell m1
  replace n0 := hx14.cell n0
  replace n1 := hx14.cell n1
  replace hx := hx.trans hx14
  replace hb14 := hb14.ext hx14
  replace hb15 := hb15.ext hx14
  clear hx14
  go_wp2_with fail
  refine (ref_Formed (andD (hasK k) (hasK l)) w14).mono ?_
  rintro e w15 ⟨y2, rfl, hk5, hx15⟩
  rw [← HEM.out]
  obtain ⟨K5, hK5⟩ : ∃ K5, K5 = toldKn (formOf (andD (hasK k) (hasK l))) := ⟨_, rfl⟩
  rw [← hK5] at hk5
  have HK5 := hid hK5
  obtain ⟨A9, c9, A10, c10, rfl, _, _, _, _, hk5⟩ := hk5
  replace hk1 := hk1.ext hx15
  replace hk2 := hk2.ext hx15
  replace hk4 := hk4.ext hx15
  replace p0 := hx15.cell p0
  replace p1 := hx15.cell p1
  replace m0 := hx15.cell m0
  replace m1 := hx15.cell m1
  replace n0 := hx15.cell n0
  replace n1 := hx15.cell n1
  replace hx := hx.trans hx15
  replace hb14 := hb14.ext hx15
  replace hb15 := hb15.ext hx15
  clear hx15 hK5
  have hxk := (Ext.refl w15).alloc (.cells #[.slice A9 K5.vec.length c9, .slice A10 K5.more.length c10] 72)
  replace hb14 := hb14.ext hxk
  replace hb15 := hb15.ext hxk
  clear hxk
  go_wp2_with fail
  have hxa := (Ext.refl w15).alloc (.cells #[.slice A9 K5.vec.length c9, .slice A10 K5.more.length c10] 72)
  have s0 : (w15.alloc (.cells #[.slice A9 K5.vec.length c9, .slice A10 K5.more.length c10] 72)).cell? ⟨w15.heap.size, 0, none⟩ = some (.slice A9 K5.vec.length c9) := by go_simp
  have s1 : (w15.alloc (.cells #[.slice A9 K5.vec.length c9, .slice A10 K5.more.length c10] 72)).cell? ⟨w15.heap.size, 1, none⟩ = some (.slice A10 K5.more.length c10) := by go_simp
  replace hx := hx.trans hxa
  replace hk1 := hk1.ext hxa
  replace hk2 := hk2.ext hxa
  replace hk4 := hk4.ext hxa
  replace hk5 := hk5.ext hxa
  replace p0 := hxa.cell p0
  replace p1 := hxa.cell p1
  replace m0 := hxa.cell m0
  replace m1 := hxa.cell m1
  replace n0 := hxa.cell n0
  replace n1 := hxa.cell n1
  obtain ⟨b18, hbn⟩ : ∃ b, b = w15.heap.size := ⟨_, rfl⟩
  obtain ⟨w16, hwn⟩ : ∃ w', w' = w15.alloc (.cells #[.slice A9 K5.vec.length c9, .slice A10 K5.more.length c10] 72) := ⟨_, rfl⟩
  rw [← hwn] at hb14 hb15 hx p0 p1 m0 m1 n0 n1 hk1 hk2 hk4 hk5 s0 s1
  rw [← hwn]
  rw [← hbn] at s0 s1
  rw [← hbn]
  clear hxa hwn hbn
  have HB14 := hid (fun w' (x : Ext w16 w') => hb14.ext x)
  have HB15 := hid (fun w' (x : Ext w16 w') => hb15.ext x)
  have HSA := hid (show decide (K1 = K4) = true by rw [HK1.out, HK4.out]; simp)
  have HSB := hid (show decide (K2 = K5) = true by rw [HK2.out, HK5.out]; simp)
  have HC1 := hid (fun w' (x : Ext w16 w') => ref_SameKnow 0 0 K1 K4 A1 c1 A2 c2 A7 c7 A8 c8 w' (hk1.ext x) (hk4.ext x))
  have HC2 := hid (fun w' (x : Ext w16 w') => ref_SameKnow 0 0 K2 K5 A3 c3 A4 c4 A9 c9 A10 c10 w' (hk2.ext x) (hk5.ext x))
  rw [HSA.out] at HC1
  rw [HSB.out] at HC2
  have HC3 := hid (fun w' => dots_Join (hasK k) (hasK l) w')
  have heq : ∀ w, (Op.equalIn 10000 85 (.agg (rowD (orD (hasK k) (hasK l)))) (.agg (rowD (hasK l)))).run Try.prog w = .ok W w := fun w => by rw [HWW.out]; exact eq_dotsets _ _ w
  have HAll := hid (fun w' (x : Ext w16 w') => show w'.cell? ⟨b5, 0, none⟩ = some (.slice A1 K1.vec.length c1) ∧ w'.cell? ⟨b5, 1, none⟩ = some (.slice A2 K1.more.length c2) ∧ w'.cell? ⟨b7, 0, none⟩ = some (.slice A3 K2.vec.length c3) ∧ w'.cell? ⟨b7, 1, none⟩ = some (.slice A4 K2.more.length c4) ∧ w'.cell? ⟨b16, 0, none⟩ = some (.slice A7 K4.vec.length c7) ∧ w'.cell? ⟨b16, 1, none⟩ = some (.slice A8 K4.more.length c8) ∧ w'.cell? ⟨b18, 0, none⟩ = some (.slice A9 K5.vec.length c9) ∧ w'.cell? ⟨b18, 1, none⟩ = some (.slice A10 K5.more.length c10) from ⟨x.cell p0, x.cell p1, x.cell m0, x.cell m1, x.cell n0, x.cell n1, x.cell s0, x.cell s1⟩)
  clear p0 p1 m0 m1 n0 n1 s0 s1 hb14 hb15 hk1 hk2 hk4 hk5
  refine wq_region (fun w' => Ext w16 w') (by kernel_rfl) (by kernel_rfl) (Ext.refl _).drew ?_
  refine wq_get (v := ?_) (fun w' hw' => ?_) ?_
  rotate_left
  · have hA := HAll.out w' hw'
    go_split_ands
    first
      | (go_simp; done)
      | (go_simp; with_reducible rfl)
  try simp only [Act.put, List.setIfInBounds_toArray, List.set_cons_zero, List.set_cons_succ]
  refine wq_get (v := ?_) (fun w' hw' => ?_) ?_
  rotate_left
  · have hA := HAll.out w' hw'
    go_split_ands
    first
      | (go_simp; done)
      | (go_simp; with_reducible rfl)
  try simp only [Act.put, List.setIfInBounds_toArray, List.set_cons_zero, List.set_cons_succ]
  refine wq_get (v := ?_) (fun w' hw' => ?_) ?_
  rotate_left
  · have hA := HAll.out w' hw'
    go_split_ands
    first
      | (go_simp; done)
      | (go_simp; with_reducible rfl)
  try simp only [Act.put, List.setIfInBounds_toArray, List.set_cons_zero, List.set_cons_succ]
  refine wq_get (v := ?_) (fun w' hw' => ?_) ?_
  rotate_left
  · have hA := HAll.out w' hw'
    go_split_ands
    first
      | (go_simp; done)
      | (go_simp; with_reducible rfl)
  try simp only [Act.put, List.setIfInBounds_toArray, List.set_cons_zero, List.set_cons_succ]
  refine wq_getOn (v := ?_) (yields_at rfl rfl rfl) (fun w' hw' => ?_) ?_
  rotate_left
  · have hA := HAll.out w' hw'
    go_split_ands
    first
      | (go_simp; done)
      | (go_simp; with_reducible rfl)
  try simp only [Act.put, List.setIfInBounds_toArray, List.set_cons_zero, List.set_cons_succ]
  refine wq_getOn (v := ?_) (yields_at rfl rfl rfl) (fun w' hw' => ?_) ?_
  rotate_left
  · have hA := HAll.out w' hw'
    go_split_ands
    first
      | (go_simp; done)
      | (go_simp; with_reducible rfl)
  try simp only [Act.put, List.setIfInBounds_toArray, List.set_cons_zero, List.set_cons_succ]
  refine wq_callOn Try.call53 (yields_at rfl rfl rfl) (by rfl) (fun w' x => (HC1.out w' x).mono fun _ _ h => ⟨h.1, x.trans h.2⟩) ?_
  try simp only [Act.put, List.setIfInBounds_toArray, List.set_cons_zero, List.set_cons_succ]
  refine wq_get (v := ?_) (fun w' hw' => ?_) ?_
  rotate_left
  · have hA := HAll.out w' hw'
    go_split_ands
    first
      | (go_simp; done)
      | (go_simp; with_reducible rfl)
  try simp only [Act.put, List.setIfInBounds_toArray, List.set_cons_zero, List.set_cons_succ]
  refine wq_get (v := ?_) (fun w' hw' => ?_) ?_
  rotate_left
  · have hA := HAll.out w' hw'
    go_split_ands
    first
      | (go_simp; done)
      | (go_simp; with_reducible rfl)
  try simp only [Act.put, List.setIfInBounds_toArray, List.set_cons_zero, List.set_cons_succ]
  refine wq_getOn (v := ?_) (yields_at rfl rfl rfl) (fun w' hw' => ?_) ?_
  rotate_left
  · have hA := HAll.out w' hw'
    go_split_ands
    first
      | (go_simp; done)
      | (go_simp; with_reducible rfl)
  try simp only [Act.put, List.setIfInBounds_toArray, List.set_cons_zero, List.set_cons_succ]
  refine wq_getOn (v := ?_) (yields_at rfl rfl rfl) (fun w' hw' => ?_) ?_
  rotate_left
  · have hA := HAll.out w' hw'
    go_split_ands
    first
      | (go_simp; done)
      | (go_simp; with_reducible rfl)
  try simp only [Act.put, List.setIfInBounds_toArray, List.set_cons_zero, List.set_cons_succ]
  refine wq_getOn (v := ?_) (yields_at rfl rfl rfl) (fun w' hw' => ?_) ?_
  rotate_left
  · have hA := HAll.out w' hw'
    go_split_ands
    first
      | (go_simp; done)
      | (go_simp; with_reducible rfl)
  try simp only [Act.put, List.setIfInBounds_toArray, List.set_cons_zero, List.set_cons_succ]
  refine wq_get (v := ?_) (fun w' hw' => ?_) ?_
  rotate_left
  · have hA := HAll.out w' hw'
    go_split_ands
    first
      | (go_simp; done)
      | (go_simp; with_reducible rfl)
  try simp only [Act.put, List.setIfInBounds_toArray, List.set_cons_zero, List.set_cons_succ]
  refine wq_get (v := ?_) (fun w' hw' => ?_) ?_
  rotate_left
  · have hA := HAll.out w' hw'
    go_split_ands
    first
      | (go_simp; done)
      | (go_simp; with_reducible rfl)
  try simp only [Act.put, List.setIfInBounds_toArray, List.set_cons_zero, List.set_cons_succ]
  refine wq_getOn (v := ?_) (yields_at rfl rfl rfl) (fun w' hw' => ?_) ?_
  rotate_left
  · have hA := HAll.out w' hw'
    go_split_ands
    first
      | (go_simp; done)
      | (go_simp; with_reducible rfl)
  try simp only [Act.put, List.setIfInBounds_toArray, List.set_cons_zero, List.set_cons_succ]
  refine wq_getOn (v := ?_) (yields_at rfl rfl rfl) (fun w' hw' => ?_) ?_
  rotate_left
  · have hA := HAll.out w' hw'
    go_split_ands
    first
      | (go_simp; done)
      | (go_simp; with_reducible rfl)
  try simp only [Act.put, List.setIfInBounds_toArray, List.set_cons_zero, List.set_cons_succ]
  refine wq_callOn Try.call53 (yields_at rfl rfl rfl) (by rfl) (fun w' x => (HC2.out w' x).mono fun _ _ h => ⟨h.1, x.trans h.2⟩) ?_
  try simp only [Act.put, List.setIfInBounds_toArray, List.set_cons_zero, List.set_cons_succ]
  refine wq_get (v := ?_) (fun w' hw' => ?_) ?_
  rotate_left
  · have hA := HAll.out w' hw'
    go_split_ands
    first
      | (go_simp; done)
      | (go_simp; with_reducible rfl)
  try simp only [Act.put, List.setIfInBounds_toArray, List.set_cons_zero, List.set_cons_succ]
  refine wq_get (v := ?_) (fun w' hw' => ?_) ?_
  rotate_left
  · have hA := HAll.out w' hw'
    go_split_ands
    first
      | (go_simp; done)
      | (go_simp; with_reducible rfl)
  try simp only [Act.put, List.setIfInBounds_toArray, List.set_cons_zero, List.set_cons_succ]
  refine wq_getOn (v := ?_) (yields_at rfl rfl rfl) (fun w' hw' => ?_) ?_
  rotate_left
  · have hA := HAll.out w' hw'
    go_split_ands
    first
      | (go_simp; done)
      | (go_simp; with_reducible rfl)
  try simp only [Act.put, List.setIfInBounds_toArray, List.set_cons_zero, List.set_cons_succ]
  refine wq_getOn (v := ?_) (yields_at rfl rfl rfl) (fun w' hw' => ?_) ?_
  rotate_left
  · have hA := HAll.out w' hw'
    go_split_ands
    first
      | (go_simp; done)
      | (go_simp; with_reducible rfl)
  try simp only [Act.put, List.setIfInBounds_toArray, List.set_cons_zero, List.set_cons_succ]
  refine wq_get (v := ?_) (fun w' hw' => ?_) ?_
  rotate_left
  · have hA := HAll.out w' hw'
    go_split_ands
    first
      | (go_simp; done)
      | (go_simp; with_reducible rfl)
  try simp only [Act.put, List.setIfInBounds_toArray, List.set_cons_zero, List.set_cons_succ]
  refine wq_get (v := ?_) (fun w' hw' => ?_) ?_
  rotate_left
  · have hA := HAll.out w' hw'
    go_split_ands
    first
      | (go_simp; done)
      | (go_simp; with_reducible rfl)
  try simp only [Act.put, List.setIfInBounds_toArray, List.set_cons_zero, List.set_cons_succ]
  refine wq_getOn (v := ?_) (yields_at rfl rfl rfl) (fun w' hw' => ?_) ?_
  rotate_left
  · have hA := HAll.out w' hw'
    go_split_ands
    first
      | (go_simp; done)
      | (go_simp; with_reducible rfl)
  try simp only [Act.put, List.setIfInBounds_toArray, List.set_cons_zero, List.set_cons_succ]
  refine wq_loadArrOn ai_dots (yields_at rfl rfl rfl) (by rfl) HB14.out (rowD_size _) ?_
  try simp only [Act.put, List.setIfInBounds_toArray, List.set_cons_zero, List.set_cons_succ]
  refine wq_loadArrOn ai_dots (yields_at rfl rfl rfl) (by rfl) HB15.out (rowD_size _) ?_
  try simp only [Act.put, List.setIfInBounds_toArray, List.set_cons_zero, List.set_cons_succ]
  refine wq_callOn Try.call62 (yields_at rfl rfl rfl) (by rfl) (fun w' x => (HC3.out w').mono fun _ _ h => ⟨h.1, x.trans h.2⟩) ?_
  try simp only [Act.put, List.setIfInBounds_toArray, List.set_cons_zero, List.set_cons_succ]
  refine wq_loadArrOn ai_dots (yields_at rfl rfl rfl) (by rfl) HB15.out (rowD_size _) ?_
  try simp only [Act.put, List.setIfInBounds_toArray, List.set_cons_zero, List.set_cons_succ]
  refine wq_getOn (v := ?_) (yields_at rfl rfl rfl) (fun w' hw' => ?_) ?_
  rotate_left
  · have hA := HAll.out w' hw'
    go_split_ands
    first
      | (go_simp; done)
      | (go_simp; with_reducible rfl)
  try simp only [Act.put, List.setIfInBounds_toArray, List.set_cons_zero, List.set_cons_succ]
  refine wq_getOn (v := ?_) (yields_at rfl rfl rfl) (fun w' hw' => ?_) ?_
  rotate_left
  · have hA := HAll.out w' hw'
    go_split_ands
    first
      | (go_simp; done)
      | (go_simp; with_reducible rfl)
  try simp only [Act.put, List.setIfInBounds_toArray, List.set_cons_zero, List.set_cons_succ]
  refine wq_get (v := ?_) (fun w' hw' => ?_) ?_
  rotate_left
  · have hA := HAll.out w' hw'
    go_split_ands
    first
      | (go_simp; done)
      | (go_simp; with_reducible rfl)
  try simp only [Act.put, List.setIfInBounds_toArray, List.set_cons_zero, List.set_cons_succ]
  refine wq_get (v := ?_) (fun w' hw' => ?_) ?_
  rotate_left
  · have hA := HAll.out w' hw'
    go_split_ands
    first
      | (go_simp; done)
      | (go_simp; with_reducible rfl)
  try simp only [Act.put, List.setIfInBounds_toArray, List.set_cons_zero, List.set_cons_succ]
  refine wq_nil ?_
  intro w17 hyn
  go_wp2_with fail
  go_ret
  exact ⟨rfl, hx.trans hyn⟩

end Go.Proofs.Ytiigbcnnapnceaa
