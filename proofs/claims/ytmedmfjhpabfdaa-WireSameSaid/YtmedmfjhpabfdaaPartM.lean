/- The walks of the reference's Mean, Knows, PartsWithin. -/
import Derived.Test.YtmedmfjhpabfdaaPartW
import Derived.Test.YtmedmfjhpabfdaaKnW
import Derived.Test.YtmedmfjhpabfdaaKnT
import Derived.Test.YtmedmfjhpabfdaaKnEq
import Derived.Test.YtmedmfjhpabfdaaFilR
namespace Go.Proofs.Ytmedmfjhpabfdaa
open Go Go.RowKit

set_option maxRecDepth 100000 in
set_option maxHeartbeats 2000000 in
theorem ref_Mean (B : Nat) (A : Option Addr) (c : Nat) (l : List Part) (w : World) (hl : l.length ≤ 30) (hok : ∀ x ∈ l, PartOk x) (h : SlParts B w A l) :
    Calls Try.prog 40 #[.slice A l.length c] w fun e w' => ∃ v, e = .returned v ∧ Own RRef 592 85 w' w.heap.size v (l.map meanOf) ∧ Ext w w' := by
  have HOK := hid hok
  clear hok
  go_enter Try.func40, Try.ntmps40
  go_wp2_with fail
  go_loopw [8, 3] (fun i v wr => ∃ k : Nat, k ≤ l.length ∧ i = .int .i64 k ∧ Own RRef 592 85 wr w.heap.size v ((l.take k).map meanOf) ∧ Ext w wr) (fun i _ _ => l.length - (intOf i).toNat)
  case atStart => exact ⟨0, Nat.zero_le _, rfl, Own.nil, Ext.refl _⟩
  case round =>
    obtain ⟨k, hk, rfl, hov, hx⟩ := hrel
    rename_i v _
    by_cases hlt : k < l.length
    · obtain ⟨b, off, Af, cf, Av, cv, Am, cm, rfl, hb, g0, g1, g2, hp⟩ := (h.ext RPart.monoE hx).part hlt
      have HO := hid (HOK.out _ (List.getElem_mem hlt))
      have HP := hid hp
      have HLen := hid (show ((l.take k).map meanOf).length + 1 ≤ 30 by rw [List.length_map, List.length_take]; omega)
      have HSucc := hid (show (l.take (k + 1)).map meanOf = (l.take k).map meanOf ++ [meanOf l[k]] by rw [List.take_succ_eq_append_getElem hlt, List.map_append]; rfl)
      clear hp
      go_wp2_with fail
      have q0 : (wr.alloc (.cells #[.slice Af l[k].filter.length cf, .slice Av l[k].know.vec.length cv, .slice Am l[k].know.more.length cm] 69)).cell? ⟨wr.heap.size, 0, none⟩ = some (.slice Af l[k].filter.length cf) := by go_simp
      have q1 : (wr.alloc (.cells #[.slice Af l[k].filter.length cf, .slice Av l[k].know.vec.length cv, .slice Am l[k].know.more.length cm] 69)).cell? ⟨wr.heap.size, 1, none⟩ = some (.slice Av l[k].know.vec.length cv) := by go_simp
      have q2 : (wr.alloc (.cells #[.slice Af l[k].filter.length cf, .slice Av l[k].know.vec.length cv, .slice Am l[k].know.more.length cm] 69)).cell? ⟨wr.heap.size, 2, none⟩ = some (.slice Am l[k].know.more.length cm) := by go_simp
      have ht : tyAt (wr.alloc (.cells #[.slice Af l[k].filter.length cf, .slice Av l[k].know.vec.length cv, .slice Am l[k].know.more.length cm] 69)) wr.heap.size = some 69 := by unfold tyAt; rw [heap_alloc_new]
      have hz : wr.heap.size < (wr.alloc (.cells #[.slice Af l[k].filter.length cf, .slice Av l[k].know.vec.length cv, .slice Am l[k].know.more.length cm] 69)).heap.size := by simp
      have hxl := (Ext.refl wr).alloc (.cells #[.slice Af l[k].filter.length cf, .slice Av l[k].know.vec.length cv, .slice Am l[k].know.more.length cm] 69)
      obtain ⟨wa, hwa⟩ : ∃ wa, wa = wr.alloc (.cells #[.slice Af l[k].filter.length cf, .slice Av l[k].know.vec.length cv, .slice Am l[k].know.more.length cm] 69) := ⟨_, rfl⟩
      obtain ⟨r, hr⟩ : ∃ r, r = wr.heap.size := ⟨_, rfl⟩
      rw [← hwa] at q0 q1 q2 ht hz hxl ⊢
      rw [← hr] at q0 q1 q2 ht hz ⊢
      clear hwa hr g0 g1 g2
      have HPn := hid (fun w' (x : Ext wa w') => HP.out.ext (hxl.trans x))
      have HBS := hid (show w.heap.size ≤ wa.heap.size from (hx.trans hxl).size)
      have HXW := hid (hx.trans hxl)
      replace hov := hov.ext (RRef.mono (B := 0)) hxl
      have HAll := hid (fun w' (x : Ext wa w') => show w'.cell? ⟨r, 0, none⟩ = some (.slice Af l[k].filter.length cf) ∧ w'.cell? ⟨r, 1, none⟩ = some (.slice Av l[k].know.vec.length cv) ∧ w'.cell? ⟨r, 2, none⟩ = some (.slice Am l[k].know.more.length cm) from ⟨x.cell q0, x.cell q1, x.cell q2⟩)
      have HT := hid (fun w' (x : Ext wa w') => (tyAt_of (x.blockAt hz)).trans ht)
      clear q0 q1 q2 ht hz hxl hx
      have hyn := (Ext.refl wa).drew
      replace hov := hov.ext (RRef.mono (B := 0)) hyn
      refine wp_region_held_drew (S := fun w' => w'.cell? ⟨r, 0, none⟩ = some (.slice Af l[k].filter.length cf) ∧ w'.cell? ⟨r, 1, none⟩ = some (.slice Av l[k].know.vec.length cv) ∧ w'.cell? ⟨r, 2, none⟩ = some (.slice Am l[k].know.more.length cm)) (by kernel_rfl) (HAll.out _ hyn) (fun hHeld => ?_)
      obtain ⟨wc, hwc⟩ : ∃ wc, wc = wa.drew := ⟨_, rfl⟩
      rw [← hwc] at hHeld hyn hov ⊢
      clear hwc
      refine wpAnyH_take (i := 0) (oi := _) (v := ?_) rfl (by kernel_rfl) (by kernel_rfl) (by kernel_rfl) (fun _ _ _ h => h) (Or.inl ⟨by rfl, ?_⟩) (by assumption) ?_
      rotate_left
      · intro w' hSw
        try dsimp only at hSw
        first
          | (go_simp; done)
          | (go_simp; with_reducible rfl)
      simp only [List.getElem_toArray, List.getElem_cons_zero]
      try simp only [Act.put, List.setIfInBounds_toArray, List.set_cons_zero, List.set_cons_succ]
      refine wpAnyH_take (i := 1) (oi := _) (v := ?_) rfl (by kernel_rfl) (by kernel_rfl) (by kernel_rfl) (fun _ _ _ h => h) (Or.inl ⟨by rfl, ?_⟩) (by assumption) ?_
      rotate_left
      · intro w' hSw
        try dsimp only at hSw
        first
          | (go_simp; done)
          | (go_simp; with_reducible rfl)
      simp only [List.getElem_toArray, List.getElem_cons_zero, List.getElem_cons_succ]
      try simp only [Act.put, List.setIfInBounds_toArray, List.set_cons_zero, List.set_cons_succ]
      refine wpAnyH_take (i := 2) (oi := _) (v := ?_) rfl (by kernel_rfl) (by kernel_rfl) (by kernel_rfl) (fun _ _ _ h => h) (Or.inl ⟨by rfl, ?_⟩) (by assumption) ?_
      rotate_left
      · intro w' hSw
        try dsimp only at hSw
        first
          | (go_simp; done)
          | (go_simp; with_reducible rfl)
      simp only [List.getElem_toArray, List.getElem_cons_zero, List.getElem_cons_succ]
      try simp only [Act.put, List.setIfInBounds_toArray, List.set_cons_zero, List.set_cons_succ]
      refine wpAnyH_take (i := 4) (oi := _) (v := ?_) rfl (by kernel_rfl) (by kernel_rfl) (by kernel_rfl) (fun _ _ _ h => h) (Or.inl ⟨by rfl, ?_⟩) (by assumption) ?_
      rotate_left
      · intro w' hSw
        try dsimp only at hSw
        first
          | (go_simp; done)
          | (go_simp; with_reducible rfl)
      simp only [List.getElem_toArray, List.getElem_cons_zero, List.getElem_cons_succ]
      try simp only [Act.put, List.setIfInBounds_toArray, List.set_cons_zero, List.set_cons_succ]
      refine wpAnyH_take (i := 5) (oi := _) (v := ?_) rfl (by kernel_rfl) (by kernel_rfl) (by kernel_rfl) (fun _ _ _ h => h) (Or.inl ⟨by rfl, ?_⟩) (by assumption) ?_
      rotate_left
      · intro w' hSw
        try dsimp only at hSw
        first
          | (go_simp; done)
          | (go_simp; with_reducible rfl)
      simp only [List.getElem_toArray, List.getElem_cons_zero, List.getElem_cons_succ]
      try simp only [Act.put, List.setIfInBounds_toArray, List.set_cons_zero, List.set_cons_succ]
      refine wpAnyH_ready (rs := [3]) (by kernel_rfl) (by simp) ?_
      refine AllReadyH.cons rfl (fun K hK => ?_) AllReadyH.nil
      simp only [List.getElem_toArray, List.getElem_cons_zero, List.getElem_cons_succ]
      go_simp
      refine (ref_Of B Af cf l[k].filter wc HP.out.lf (filterCheck_ok HO.out.f).2 (HPn.out wc hyn).sf).mono ?_
      rintro e wn ⟨rfl, hxa⟩
      dsimp only
      replace hov := hov.ext (RRef.mono (B := 0)) hxa
      replace hyn := hyn.trans hxa
      clear hxa
      obtain ⟨wc, rfl⟩ : ∃ wc', wc' = wn := ⟨_, rfl⟩
      refine hK.out _ _ (HAll.out _ hyn) (fun hHeld => ?_)
      clear hK K
      try simp only [Act.put, List.setIfInBounds_toArray, List.set_cons_zero, List.set_cons_succ]
      refine wpAnyH_ready (rs := [6]) (by kernel_rfl) (by simp) ?_
      refine AllReadyH.cons rfl (fun K hK => ?_) AllReadyH.nil
      simp only [List.getElem_toArray, List.getElem_cons_zero, List.getElem_cons_succ]
      go_simp
      refine (ref_All B l[k].know Av cv Am cm wc (HPn.out wc hyn).k HO.out.k).mono ?_
      rintro e wn ⟨rfl, hxa⟩
      dsimp only
      replace hov := hov.ext (RRef.mono (B := 0)) hxa
      replace hyn := hyn.trans hxa
      clear hxa
      obtain ⟨wc, rfl⟩ : ∃ wc', wc' = wn := ⟨_, rfl⟩
      refine hK.out _ _ (HAll.out _ hyn) (fun hHeld => ?_)
      clear hK K
      try simp only [Act.put, List.setIfInBounds_toArray, List.set_cons_zero, List.set_cons_succ]
      refine wpAnyH_ready (rs := [7]) (by kernel_rfl) (by simp) ?_
      refine AllReadyH.cons rfl (fun K hK => ?_) AllReadyH.nil
      simp only [List.getElem_toArray, List.getElem_cons_zero, List.getElem_cons_succ]
      simp only [Region.wanted, if_true]
      refine wp_build2 p2_ref (.tmp 15) (.tmp 18) rfl (by rfl) (by rfl) (rowB_size _ _) (rowD_size _) ?_
      generalize hcs : rowB 512 (pts l[k].filter) ++ rowD (hasK l[k].know) = cs
      have HCS := hid hcs.symm
      clear hcs
      refine hK.out _ _ (HAll.out _ hyn) (fun hHeld => ?_)
      clear hK K
      try simp only [Act.put, List.setIfInBounds_toArray, List.set_cons_zero, List.set_cons_succ]
      refine wpAnyH_ready (rs := [8]) (by kernel_rfl) (by simp) ?_
      refine AllReadyH.cons rfl (fun K hK => ?_) AllReadyH.nil
      simp only [List.getElem_toArray, List.getElem_cons_zero, List.getElem_cons_succ]
      simp only [Region.wanted, if_true]
      refine wp_buildRow Try.underlying73 info_refs ⟨by omega, by omega⟩ (.tmp 19) rfl (by rfl) (by rw [HCS.out]; exact refRow_size (meanOf l[k])) ?_
      have hxa := (Ext.refl wc).alloc (.cells cs 85)
      obtain ⟨wn, hwn⟩ : ∃ wn, wn = wc.alloc (.cells cs 85) := ⟨_, rfl⟩
      have hL8 : SlRefs 0 wn (some ⟨wc.heap.size, 0, none⟩) [meanOf l[k]] := Sl.one (cs := cs.toList) (by rw [hwn, Array.toArray_toList]) (by rw [HCS.out, Array.length_toList]; exact refRow_size (meanOf l[k])) (by unfold RRef; rw [HCS.out]; rfl)
      obtain ⟨a8, ha8⟩ : ∃ a, a = some (⟨wc.heap.size, 0, none⟩ : Addr) := ⟨_, rfl⟩
      rw [← hwn] at hxa
      rw [← hwn, ← ha8]
      rw [← ha8] at hL8
      replace hov := hov.ext (RRef.mono (B := 0)) hxa
      replace hyn := hyn.trans hxa
      clear hxa hwn ha8
      obtain ⟨wc, rfl⟩ : ∃ wc', wc' = wn := ⟨_, rfl⟩
      refine hK.out _ _ (HAll.out _ hyn) (fun hHeld => ?_)
      clear hK K
      try simp only [Act.put, List.setIfInBounds_toArray, List.set_cons_zero, List.set_cons_succ]
      refine wpAnyH_ready (rs := [9]) (by kernel_rfl) (by simp) ?_
      refine AllReadyH.cons rfl (fun K hK => ?_) AllReadyH.nil
      simp only [List.getElem_toArray, List.getElem_cons_zero, List.getElem_cons_succ]
      simp only [Region.wanted, if_true]
      refine wp_app (.tmp 12) (.tmp 20) rfl ei_ref rfl hov (B := 0) (Nat.zero_le _) (Nat.le_trans HBS.out hyn.size) (ys := [meanOf l[k]]) (c := 1) rfl hL8 RRef.oneC RRef.mono (by have := HLen.out; simp [maxLen]; omega) (by have := HLen.out; simp; omega) ?_
      intro v9 wn hL9 hch hbl _
      have hne : r < 0 ∨ ∀ t ∈ [85], tyAt wc r ≠ some t := .inr fun t ht => by rw [HT.out wc hyn, List.mem_singleton.1 ht]; decide
      have hq := HAll.out wc hyn
      have hxw := (HXW.out.trans hyn).below hbl (Nat.le_refl _)
      refine hK.out _ _ ⟨hch.cell hne hq.1, hch.cell hne hq.2.1, hch.cell hne hq.2.2⟩ (fun hHeld => ?_)
      clear hch hbl hne hq hov hL8 hyn
      clear hK K
      try simp only [Act.put, List.setIfInBounds_toArray, List.set_cons_zero, List.set_cons_succ]
      refine wpAnyH_take (i := 10) (oi := _) (v := ?_) rfl (by kernel_rfl) (by kernel_rfl) (by kernel_rfl) (fun _ _ _ h => h) (Or.inl ⟨by rfl, ?_⟩) (by assumption) ?_
      rotate_left
      · intro w' hSw
        try dsimp only at hSw
        first
          | (go_simp; done)
          | (go_simp; with_reducible rfl)
      simp only [List.getElem_toArray, List.getElem_cons_zero, List.getElem_cons_succ]
      try simp only [Act.put, List.setIfInBounds_toArray, List.set_cons_zero, List.set_cons_succ]
      refine wpAnyH_done (by kernel_rfl) ?_ _
      go_wp2_with fail
      go_roundw
      case rel =>
        refine ⟨k + 1, hlt, by go_num, ?_, hxw⟩
        rw [HSucc.out]
        exact hL9
      case measure => simp [intOf]; omega
    · obtain rfl : k = l.length := by omega
      rw [List.take_length] at hov
      go_wp2_with fail
      go_ret
      exact ⟨_, rfl, hov, hx⟩

set_option maxRecDepth 100000 in
set_option maxHeartbeats 2000000 in
theorem ref_Knows (B : Nat) (A : Option Addr) (c : Nat) (l : List RP) (p : Point) (s n : Nat) (w : World) (hp : pointOk p = true) (hs : s < 5) (hn : n < 1024) (hl : l.length ≤ maxLen) (h : SlRefs B w A l) :
    Calls Try.prog 39 #[.slice A l.length c, .agg #[.int .i64 p.tags, .int .i64 p.num], .agg #[.int .i64 (s : Int), .int .i64 (n : Int)]] w fun e w' => e = .returned (.bool (knowsR l (32 * p.tags + p.num).toNat s n)) ∧ Ext w w' := by
  unfold maxLen at hl
  have HP := hid hp
  clear hp
  obtain ⟨i, hi⟩ : ∃ i, i = (32 * p.tags + p.num).toNat := ⟨_, rfl⟩
  have HI := hid hi
  rw [← hi]
  clear hi
  have hx0 := ((Ext.refl w).alloc (.cells #[.int .i64 p.tags, .int .i64 p.num] 40)).alloc (.cells #[.int .i64 (s : Int), .int .i64 (n : Int)] 38)
  go_enter Try.func39, Try.ntmps39
  go_wp2_with fail
  go_loopw [11] (fun j wr => ∃ k : Nat, k ≤ l.length ∧ j = .int .i64 k ∧ knowsR (l.take k) i s n = false ∧ wr.cell? ⟨w.heap.size, 0, none⟩ = some (.int .i64 p.tags) ∧ wr.cell? ⟨w.heap.size, 1, none⟩ = some (.int .i64 p.num) ∧ wr.cell? ⟨w.heap.size + 1, 0, none⟩ = some (.int .i64 (s : Int)) ∧ wr.cell? ⟨w.heap.size + 1, 1, none⟩ = some (.int .i64 (n : Int)) ∧ Ext w wr) (fun j _ => l.length - (intOf j).toNat)
  case atStart => exact ⟨0, Nat.zero_le _, rfl, rfl, by go_simp, by go_simp, by go_simp, by go_simp, hx0⟩
  case round =>
    clear hx0
    obtain ⟨k, hk, rfl, hG, p0, p1, d0, d1, hx⟩ := hrel
    have HG := hid hG
    clear hG
    by_cases hlt : k < l.length
    · obtain ⟨b, off, rfl, hb, hr⟩ := (h.ext RRef.mono hx).ref hlt
      have HS := hid (show knowsR (l.take (k + 1)) i s n = (knowsR (l.take k) i s n || (l[k].P i && l[k].K s n)) from any_takeR _ l k hlt)
      obtain ⟨X, hX⟩ : ∃ X, X = l[k] := ⟨_, rfl⟩
      rw [← hX] at hr HS
      have HXL := hid hX
      clear hX
      go_wp2_with (first
        | ((with_reducible refine wpList_loadMid (o := ⟨some 14, _, _, _, _, _⟩) ri_ref _ rfl rfl rfl hr (refRow_size _) ?_))
        | ((with_reducible refine wpList_allocArr (o := ⟨some 8, _, _, _, _, _⟩) zi_ref rfl rfl ?_); intro w1 hx1 hb1 hs1)
        | ((with_reducible refine wpList_storeRow (o := ⟨none, _, _, _, _, _⟩) ri_ref _ _ rfl rfl rfl rfl hb1 (refRow_size _) (refRow_size ⟨fun _ => false, fun _ _ => false⟩) (refRow_all _) ?_); intro w2 hx2 hb2 hs2 ho2; have hxw := hx1.below hx2 (Nat.le_refl _); replace p0 := hxw.cell p0; replace p1 := hxw.cell p1; replace d0 := hxw.cell d0; replace d1 := hxw.cell d1; clear hx1 hx2 hr)
        | ((with_reducible refine wp_loadMid (o := ⟨some 16, _, _, _, _, _⟩) ri_points _ rfl rfl (ref_P hb2) (rowB_size _ _) ?_))
        | ((with_reducible refine wpList_loadMid (o := ⟨some 16, _, _, _, _, _⟩) ri_points _ rfl rfl rfl (ref_P hb2) (rowB_size _ _) ?_)))
      replace hx := hx.trans hxw
      clear hxw
      refine (ref_At X.P p HP.out _).mono ?_
      rintro e w3 ⟨rfl, hx3⟩
      rw [← HI.out]
      replace hx := hx.trans hx3
      replace hb2 := hb2.ext hx3
      replace p0 := hx3.cell p0
      replace p1 := hx3.cell p1
      replace d0 := hx3.cell d0
      replace d1 := hx3.cell d1
      clear hx3
      cases hA : X.P i
      · have HA := hid (show (X.P i && X.K s n) = false by rw [hA]; rfl)
        clear hA
        go_wp2_with fail
        go_roundw
        case rel => exact ⟨k + 1, hlt, by go_num, by rw [HS.out, HG.out, HA.out]; rfl, p0, p1, d0, d1, hx⟩
        case measure => simp [intOf]; omega
      · have HA := hid (show (X.P i && X.K s n) = X.K s n by rw [hA]; rfl)
        clear hA
        go_wp2_with fail
        refine wp_loadMid (o := ⟨some 21, _, _, _, _, _⟩) ri_dots _ rfl rfl (ref_K hb2) (rowD_size _) ?_
        go_wp2_with fail
        refine (dots_Has X.K s n _ hs hn).mono ?_
        rintro e w4 ⟨rfl, hx4⟩
        replace hx := hx.trans hx4
        replace p0 := hx4.cell p0
        replace p1 := hx4.cell p1
        replace d0 := hx4.cell d0
        replace d1 := hx4.cell d1
        clear hx4
        cases hB : X.K s n
        · have HB := hid hB
          clear hB
          go_wp2_with fail
          go_roundw
          case rel => exact ⟨k + 1, hlt, by go_num, by rw [HS.out, HG.out, HA.out, HB.out]; rfl, p0, p1, d0, d1, hx⟩
          case measure => simp [intOf]; omega
        · have HB := hid hB
          clear hB
          have HT := hid (show knowsR l i s n = true from List.any_eq_true.2 ⟨l[k], List.getElem_mem hlt, by rw [← HXL.out, HA.out, HB.out]⟩)
          go_wp2_with fail
          go_ret
          exact ⟨ret_bool HT.out.symm, hx⟩
    · obtain rfl : k = l.length := by omega
      rw [List.take_length] at HG
      go_wp2_with fail
      go_ret
      exact ⟨ret_bool HG.out.symm, hx⟩

set_option maxRecDepth 100000 in
set_option maxHeartbeats 2000000 in
theorem refs_Within (Ba Bb : Nat) (A A' : Option Addr) (c c' : Nat) (a b : List RP) (w : World) (hla : a.length ≤ maxLen) (hlb : b.length ≤ maxLen) (ha : SlRefs Ba w A a) (hb : SlRefs Bb w A' b) :
    Calls Try.prog 41 #[.slice A a.length c, .slice A' b.length c'] w fun e w' => e = .returned (.bool (partsWithinR a b)) ∧ Ext w w' := by
  unfold maxLen at hla hlb
  have HA := hid ha
  have HB := hid hb
  clear ha hb
  go_enter Try.func41, Try.ntmps41
  go_wp2_with fail
  go_loopw [12] (fun j wr => ∃ i : Nat, i ≤ 512 ∧ j = .int .i64 i ∧ allTo (fun i => eqD (andD (setAt a i) (setAt b i)) (setAt a i)) i = true ∧ Ext w wr) (fun j _ => 512 - (intOf j).toNat)
  case atStart => exact ⟨0, by omega, rfl, rfl, Ext.refl _⟩
  case round =>
    obtain ⟨i, hi, rfl, hG, hx⟩ := hrel
    have HG := hid hG
    clear hG
    by_cases hi5 : i < 512
    · have i0 : (0 : Int) ≤ i := by omega
      have i4 : (i : Int) < 512 := by omega
      go_wp2_with (first
        | ((with_reducible refine wpList_allocArr (o := ⟨some 6, _, _, _, _, _⟩) zi_dots rfl rfl ?_); intro w1 hx1 hb1 hs1)
        | ((with_reducible refine wpList_allocArr (o := ⟨some 7, _, _, _, _, _⟩) zi_dots rfl rfl ?_); intro w2 hx2 hb2 hs2))
      have h6 := hb1.ext hx2
      have h7 := hb2
      have hwb : w.heap.size ≤ wr.heap.size := hx.size
      replace hx := (hx.trans hx1).trans hx2
      clear hb1 hb2 hx1 hx2
      obtain ⟨r6, hr6⟩ : ∃ r, r = wr.heap.size := ⟨_, rfl⟩
      obtain ⟨r7, hr7⟩ : ∃ r, r = wr.heap.size + 1 := ⟨_, rfl⟩
      have hw6 : w.heap.size ≤ r6 := by omega
      have hw7 : w.heap.size ≤ r7 := by omega
      have hne : r6 ≠ r7 := by omega
      rw [hs1, ← hr7] at h7
      rw [← hr7]
      rw [← hr6] at h6 ⊢
      clear hs1 hs2 hr6 hr7 hwb
      go_loopw [17] (fun j ws => ∃ k : Nat, k ≤ a.length ∧ j = .int .i64 k ∧ Blk ws r6 83 (rowD (setAt (a.take k) i)) ∧ Blk ws r7 83 (rowD fun _ _ => false) ∧ Ext w ws) (fun j _ => a.length - (intOf j).toNat)
      case atStart => exact ⟨0, Nat.zero_le _, rfl, by rw [show setAt (a.take 0) i = fun _ _ => false from by funext s c; simp [setAt]]; exact h6, h7, hx⟩
      case round =>
        clear h6 h7 hx
        obtain ⟨k, hk, rfl, h6, h7, hx⟩ := hrel
        by_cases hlt : k < a.length
        · obtain ⟨bk, off, rfl, hb, hr⟩ := (HA.out.ext RRef.mono hx).ref hlt
          have HS := hid (setAt_step a i k hlt)
          obtain ⟨X, hX⟩ : ∃ X, X = a[k] := ⟨_, rfl⟩
          rw [← hX] at hr HS
          clear hX
          have hz6 := h6.lt
          have hz7 := h7.lt
          cases hp : X.P i
          · rw [hp] at HS
            go_wp2_with (first
              | ((with_reducible refine wpList_loadMid (o := ⟨some 20, _, _, _, _, _⟩) ri_ref _ rfl rfl rfl hr (refRow_size _) ?_))
              | ((with_reducible refine wpList_allocArr (o := ⟨some 9, _, _, _, _, _⟩) zi_ref rfl rfl ?_); intro w1 hx1 hb1 hs1)
              | ((with_reducible refine wpList_storeRow (o := ⟨none, _, _, _, _, _⟩) ri_ref _ _ rfl rfl rfl rfl hb1 (refRow_size _) (refRow_size ⟨fun _ => false, fun _ _ => false⟩) (refRow_all _) ?_); intro w2 hx2 hb2 hs2 ho2; have hxw := hx1.below hx2 (Nat.le_refl _); have hbit := ref_bit hb2 hi5; rw [hp] at hbit; clear hx1 hx2 hr))
            go_roundw
            case rel => exact ⟨k + 1, hlt, by go_num, by rw [HS.out]; exact h6.ext hxw, h7.ext hxw, hx.trans hxw⟩
            case measure => simp [intOf]; omega
          · rw [hp] at HS
            go_wp2_with (first
              | ((with_reducible refine wpList_loadMid (o := ⟨some 20, _, _, _, _, _⟩) ri_ref _ rfl rfl rfl hr (refRow_size _) ?_))
              | ((with_reducible refine wpList_allocArr (o := ⟨some 9, _, _, _, _, _⟩) zi_ref rfl rfl ?_); intro w1 hx1 hb1 hs1)
              | ((with_reducible refine wpList_storeRow (o := ⟨none, _, _, _, _, _⟩) ri_ref _ _ rfl rfl rfl rfl hb1 (refRow_size _) (refRow_size ⟨fun _ => false, fun _ _ => false⟩) (refRow_all _) ?_); intro w2 hx2 hb2 hs2 ho2; have hxw := hx1.below hx2 (Nat.le_refl _); have hbit := ref_bit hb2 hi5; rw [hp] at hbit; replace h6 := h6.ext hxw; replace h7 := h7.ext hxw; clear hx1 hx2 hr)
              | ((with_reducible refine wpList_loadArr (o := ⟨some 25, _, _, _, _, _⟩) ai_dots _ rfl rfl rfl h6 (rowD_size _) ?_))
              | ((with_reducible refine wpList_loadMid (o := ⟨some 27, _, _, _, _, _⟩) ri_dots _ rfl rfl rfl (ref_K hb2) (rowD_size _) ?_)))
            refine (dots_Join (setAt (a.take k) i) X.K _).mono ?_
            rintro e w3 ⟨rfl, hx3⟩
            replace h6 := h6.ext hx3
            replace h7 := h7.ext hx3
            go_wp2_with ((with_reducible refine wpList_storeArr (o := ⟨none, _, _, _, _, _⟩) ai_dots _ _ rfl rfl rfl rfl h6 (rowD_size _) (rowD_size _) (rowD_all _) ?_); intro w4 hx4 hb4 hs4 ho4)
            go_roundw
            case rel => exact ⟨k + 1, hlt, by go_num, by rw [HS.out]; exact hb4, h7.other ho4 (by omega), ((hx.trans hxw).trans hx3).below hx4 (by omega)⟩
            case measure => simp [intOf]; omega
        · obtain rfl : k = a.length := by omega
          rw [List.take_length] at h6
          go_wp2_with fail
          go_loopw [32] (fun j ws => ∃ k : Nat, k ≤ b.length ∧ j = .int .i64 k ∧ Blk ws r7 83 (rowD (setAt (b.take k) i)) ∧ Blk ws r6 83 (rowD (setAt a i)) ∧ Ext w ws) (fun j _ => b.length - (intOf j).toNat)
          case atStart => exact ⟨0, Nat.zero_le _, rfl, by rw [show setAt (b.take 0) i = fun _ _ => false from by funext s c; simp [setAt]]; exact h7, h6, hx⟩
          case round =>
            clear h6 h7 hx
            obtain ⟨k, hk, rfl, h7, h6, hx⟩ := hrel
            by_cases hlt : k < b.length
            · obtain ⟨bk, off, rfl, hb, hr⟩ := (HB.out.ext RRef.mono hx).ref hlt
              have HS := hid (setAt_step b i k hlt)
              obtain ⟨X, hX⟩ : ∃ X, X = b[k] := ⟨_, rfl⟩
              rw [← hX] at hr HS
              clear hX
              have hz6 := h6.lt
              have hz7 := h7.lt
              cases hp : X.P i
              · rw [hp] at HS
                go_wp2_with (first
                  | ((with_reducible refine wpList_loadMid (o := ⟨some 35, _, _, _, _, _⟩) ri_ref _ rfl rfl rfl hr (refRow_size _) ?_))
                  | ((with_reducible refine wpList_allocArr (o := ⟨some 11, _, _, _, _, _⟩) zi_ref rfl rfl ?_); intro w1 hx1 hb1 hs1)
                  | ((with_reducible refine wpList_storeRow (o := ⟨none, _, _, _, _, _⟩) ri_ref _ _ rfl rfl rfl rfl hb1 (refRow_size _) (refRow_size ⟨fun _ => false, fun _ _ => false⟩) (refRow_all _) ?_); intro w2 hx2 hb2 hs2 ho2; have hxw := hx1.below hx2 (Nat.le_refl _); have hbit := ref_bit hb2 hi5; rw [hp] at hbit; clear hx1 hx2 hr))
                go_roundw
                case rel => exact ⟨k + 1, hlt, by go_num, by rw [HS.out]; exact h7.ext hxw, h6.ext hxw, hx.trans hxw⟩
                case measure => simp [intOf]; omega
              · rw [hp] at HS
                go_wp2_with (first
                  | ((with_reducible refine wpList_loadMid (o := ⟨some 35, _, _, _, _, _⟩) ri_ref _ rfl rfl rfl hr (refRow_size _) ?_))
                  | ((with_reducible refine wpList_allocArr (o := ⟨some 11, _, _, _, _, _⟩) zi_ref rfl rfl ?_); intro w1 hx1 hb1 hs1)
                  | ((with_reducible refine wpList_storeRow (o := ⟨none, _, _, _, _, _⟩) ri_ref _ _ rfl rfl rfl rfl hb1 (refRow_size _) (refRow_size ⟨fun _ => false, fun _ _ => false⟩) (refRow_all _) ?_); intro w2 hx2 hb2 hs2 ho2; have hxw := hx1.below hx2 (Nat.le_refl _); have hbit := ref_bit hb2 hi5; rw [hp] at hbit; replace h6 := h6.ext hxw; replace h7 := h7.ext hxw; clear hx1 hx2 hr)
                  | ((with_reducible refine wpList_loadArr (o := ⟨some 40, _, _, _, _, _⟩) ai_dots _ rfl rfl rfl h7 (rowD_size _) ?_))
                  | ((with_reducible refine wpList_loadMid (o := ⟨some 42, _, _, _, _, _⟩) ri_dots _ rfl rfl rfl (ref_K hb2) (rowD_size _) ?_)))
                refine (dots_Join (setAt (b.take k) i) X.K _).mono ?_
                rintro e w3 ⟨rfl, hx3⟩
                replace h6 := h6.ext hx3
                replace h7 := h7.ext hx3
                go_wp2_with ((with_reducible refine wpList_storeArr (o := ⟨none, _, _, _, _, _⟩) ai_dots _ _ rfl rfl rfl rfl h7 (rowD_size _) (rowD_size _) (rowD_all _) ?_); intro w4 hx4 hb4 hs4 ho4)
                go_roundw
                case rel => exact ⟨k + 1, hlt, by go_num, by rw [HS.out]; exact hb4, h6.other ho4 (by omega), ((hx.trans hxw).trans hx3).below hx4 (by omega)⟩
                case measure => simp [intOf]; omega
            · obtain rfl : k = b.length := by omega
              rw [List.take_length] at h7
              go_wp2_with fail
              have H6 := hid (fun w' (x : Ext wr w') => h6.ext x)
              have H7 := hid (fun w' (x : Ext wr w') => h7.ext x)
              obtain ⟨W, hW⟩ : ∃ W, W = eqD (andD (setAt a i) (setAt b i)) (setAt a i) := ⟨_, rfl⟩
              have HWW := hid hW
              have heq : ∀ w, (Op.equalIn 10000 83 (.agg (rowD (andD (setAt a i) (setAt b i)))) (.agg (rowD (setAt a i)))).run Try.prog w = .ok W w := fun w => by rw [HWW.out]; exact eq_dotsets _ _ w
              have HN := hid (show allTo (fun i => eqD (andD (setAt a i) (setAt b i)) (setAt a i)) (i + 1) = W from by rw [allTo, HG.out, Bool.true_and, HWW.out])
              clear h6 h7 hW
              cases W
              · refine wq_region (fun w' => Ext wr w') (by kernel_rfl) (by kernel_rfl) (Ext.refl _).drew ?_
                refine wq_loadArr ai_dots (by rfl) H6.out (rowD_size _) ?_
                try simp only [Act.put, List.setIfInBounds_toArray, List.set_cons_zero, List.set_cons_succ]
                refine wq_loadArr ai_dots (by rfl) H7.out (rowD_size _) ?_
                try simp only [Act.put, List.setIfInBounds_toArray, List.set_cons_zero, List.set_cons_succ]
                refine wq_call Try.call105 (by rfl) (fun w' x => (dots_Meet (setAt a i) (setAt b i) w').mono fun _ _ h => ⟨h.1, x.trans h.2⟩) ?_
                try simp only [Act.put, List.setIfInBounds_toArray, List.set_cons_zero, List.set_cons_succ]
                refine wq_loadArr ai_dots (by rfl) H6.out (rowD_size _) ?_
                try simp only [Act.put, List.setIfInBounds_toArray, List.set_cons_zero, List.set_cons_succ]
                refine wq_get (v := ?_) (fun w' hw' => ?_) ?_
                rotate_left
                · first
                    | (go_simp; done)
                    | (go_simp; with_reducible rfl)
                try simp only [Act.put, List.setIfInBounds_toArray, List.set_cons_zero, List.set_cons_succ]
                refine wq_nil ?_
                intro w8 hyn
                go_wp2_with fail
                go_ret
                have hF : partsWithinR a b = false := by
                  rw [← Bool.not_eq_true, partsWithinR, allTo_iff]
                  intro h
                  have := (allTo_iff _ (i + 1)).2 fun j hj => h j (by omega)
                  rw [HN.out] at this
                  cases this
                exact ⟨ret_bool hF.symm, hx.trans hyn⟩
              · refine wq_region (fun w' => Ext wr w') (by kernel_rfl) (by kernel_rfl) (Ext.refl _).drew ?_
                refine wq_loadArr ai_dots (by rfl) H6.out (rowD_size _) ?_
                try simp only [Act.put, List.setIfInBounds_toArray, List.set_cons_zero, List.set_cons_succ]
                refine wq_loadArr ai_dots (by rfl) H7.out (rowD_size _) ?_
                try simp only [Act.put, List.setIfInBounds_toArray, List.set_cons_zero, List.set_cons_succ]
                refine wq_call Try.call105 (by rfl) (fun w' x => (dots_Meet (setAt a i) (setAt b i) w').mono fun _ _ h => ⟨h.1, x.trans h.2⟩) ?_
                try simp only [Act.put, List.setIfInBounds_toArray, List.set_cons_zero, List.set_cons_succ]
                refine wq_loadArr ai_dots (by rfl) H6.out (rowD_size _) ?_
                try simp only [Act.put, List.setIfInBounds_toArray, List.set_cons_zero, List.set_cons_succ]
                refine wq_get (v := ?_) (fun w' hw' => ?_) ?_
                rotate_left
                · first
                    | (go_simp; done)
                    | (go_simp; with_reducible rfl)
                try simp only [Act.put, List.setIfInBounds_toArray, List.set_cons_zero, List.set_cons_succ]
                refine wq_nil ?_
                intro w8 hyn
                go_wp2_with fail
                go_roundw
                case rel => exact ⟨i + 1, by omega, by go_num, HN.out, hx.trans hyn⟩
                case measure => simp [intOf]; omega
    · obtain rfl : i = 512 := by omega
      go_wp2_with fail
      go_ret
      exact ⟨ret_bool HG.out.symm, hx⟩

end Go.Proofs.Ytmedmfjhpabfdaa
