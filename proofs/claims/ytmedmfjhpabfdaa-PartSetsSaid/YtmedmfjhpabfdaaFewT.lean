/- The walks of the reference's Narrowed, SayParts. -/
import Derived.Test.YtmedmfjhpabfdaaFewQ
import Derived.Test.YtmedmfjhpabfdaaKnF
namespace Go.Proofs.Ytmedmfjhpabfdaa
open Go Go.RowKit

/-- a load of many cells may be taken first. -/
theorem yields_mid {P : Program} {ops : Array Oper} {S : World → Prop} {t : TypeId} {n : Nat} (ri : RowInfo P t n) {o : Oper} {a : Act} (hw : Region.wanted o (yielded ops a.tmps) = true) (x : Operand) (ho : o.op = .load t x) {b i : Nat} (hx : a.eval x = .pointer (some ⟨b, i, none⟩)) {cs : Array Value} (hS : ∀ w, S w → w.rangeAt b i cs.toList) (hn : cs.size = n) : YieldsIf P ops S o (.agg cs) a := by
  obtain ⟨⟨d, hu, hd⟩, hi⟩ := ri
  have h := yieldsIf_load_mid (P := P) (ops := ops) (S := S) (op := o) (a := a) hw t x ho b i hx cs.toList d hS hu hd (by rw [hi, Array.length_toList, hn])
  rwa [Array.toArray_toList] at h
theorem narrow1 (a b : Bool) (w : World) : Calls Try.prog 117 #[.bool a, .bool b] w fun e w' => e = .returned (.bool (a && b)) ∧ w = w' := by
  cases a
  · go_enter Try.func117, Try.ntmps117
    go_wp2_with fail
    go_ret
    exact ⟨rfl, rfl⟩
  · go_enter Try.func117, Try.ntmps117
    go_wp2_with fail
    go_ret
    exact ⟨rfl, rfl⟩

set_option maxRecDepth 100000 in
set_option maxHeartbeats 4000000 in
theorem ref_Narrowed (B : Nat) (A : Option Addr) (c : Nat) (l : List RP) (F : Nat → Bool) (w : World) (hl : l.length ≤ 1000) (h : SlRefs B w A l) :
    Calls Try.prog 49 #[.slice A l.length c, .agg (rowB 512 F)] w fun e w' => ∃ v, e = .returned v ∧ Own RRef 592 85 w' w.heap.size v (fewR (l.map (narrowR F))) ∧ Ext w w' := by
  go_enter Try.func49, Try.ntmps49
  go_wp2_with ((with_reducible refine wpList_boxArr (o := ⟨some 3, _, _, _, _, _⟩) _ rfl rfl rfl ?_); intro w1 hx1 hb1 hs1)
  go_loopw [10, 5] (fun i v wr => ∃ k : Nat, k ≤ l.length ∧ i = .int .i64 k ∧ Own RRef 592 85 wr (w.heap.size + 1) v ((l.take k).map (narrowR F)) ∧ Blk wr w.heap.size 79 (rowB 512 F) ∧ Ext w wr) (fun i _ _ => l.length - (intOf i).toNat)
  case atStart => exact ⟨0, Nat.zero_le _, rfl, Own.nil, hb1, hx1⟩
  case round =>
    clear hb1 hs1 hx1
    obtain ⟨k, hk, rfl, hov, hbF, hx⟩ := hrel
    by_cases hlt : k < l.length
    · obtain ⟨b, off, rfl, hb, hr⟩ := (h.ext RRef.mono hx).ref hlt
      have HLen := hid (show ((l.take k).map (narrowR F)).length + 1 ≤ 1001 by rw [List.length_map, List.length_take]; omega)
      have HSucc := hid (show (l.take (k + 1)).map (narrowR F) = (l.take k).map (narrowR F) ++ [narrowR F l[k]] by rw [List.take_succ_eq_append_getElem hlt, List.map_append]; rfl)
      obtain ⟨X, hX⟩ : ∃ X, X = l[k] := ⟨_, rfl⟩
      rw [← hX] at hr HSucc
      have HVR := hid (fun g hg => (hov.lt (g := g) hg).2)
      have HVF := hid (fun g hg => (hov.lt (g := g) hg).1)
      have hwr := hx.size
      have hwf := hbF.lt
      clear hX
      go_wp2_with (first
        | ((with_reducible refine wpList_loadMid (o := ⟨some 13, _, _, _, _, _⟩) ri_ref _ rfl rfl rfl hr (refRow_size _) ?_))
        | ((with_reducible refine wpList_allocArr (o := ⟨some 7, _, _, _, _, _⟩) zi_ref rfl rfl ?_); intro w1 hx1 hb1 hs1)
        | ((with_reducible refine wpList_storeRow (o := ⟨none, _, _, _, _, _⟩) ri_ref _ _ rfl rfl rfl rfl hb1 (refRow_size _) (refRow_size ⟨fun _ => false, fun _ _ => false⟩) (refRow_all _) ?_); intro wa hx2 hb2 hs2 ho2; have hxl := hx1.below hx2 (Nat.le_refl _); clear hx1 hx2 hr))
      obtain ⟨r, hr⟩ : ∃ r, r = wr.heap.size := ⟨_, rfl⟩
      rw [← hr] at HVR hb2 ⊢
      have HWS := hid (show w.heap.size + 1 ≤ wa.heap.size by have := hxl.size; omega)
      have HXW := hid (hx.trans hxl)
      replace hov := hov.ext (RRef.mono (B := 0)) hxl
      have hbF2 := hbF.ext hxl
      have HAll := hid (fun w' (x : Ext wa w') => show Blk w' r 85 (rowB 512 X.P ++ rowD X.K) ∧ Blk w' w.heap.size 79 (rowB 512 F) from ⟨hb2.ext x, hbF2.ext x⟩)
      clear hb2 hbF hbF2 hxl hx hs1 hs2 ho2 hb1 hr hwr hwf
      have hyn := (Ext.refl wa).drew
      replace hov := hov.ext (RRef.mono (B := 0)) hyn
      refine wp_region_held_drew (S := fun w' => Blk w' r 85 (rowB 512 X.P ++ rowD X.K) ∧ Blk w' w.heap.size 79 (rowB 512 F)) (by kernel_rfl) (HAll.out _ hyn) (fun hHeld => ?_)
      obtain ⟨wc, hwc⟩ : ∃ wc, wc = wa.drew := ⟨_, rfl⟩
      rw [← hwc] at hHeld hyn hov ⊢
      clear hwc
      refine wpAnyH_take (i := 0) (oi := _) (v := ?_) rfl (by kernel_rfl) (by kernel_rfl) (by kernel_rfl) (fun _ _ _ h => h) (Or.inl ⟨by rfl, ?_⟩) (by assumption) ?_
      rotate_left
      · intro w' hSw
        try dsimp only at hSw
        first
          | (go_simp; done)
          | (go_simp; with_reducible rfl)
      simp only [List.getElem_toArray, List.getElem_cons_zero]
      try simp only [Act.put, List.setIfInBounds_toArray, List.set_cons_zero, List.set_cons_succ]
      refine wpAnyH_take (i := 1) (oi := _) (v := ?_) rfl (by kernel_rfl) (by kernel_rfl) (by kernel_rfl) (fun _ _ _ h => h) (Or.inl ⟨by rfl, ?_⟩) (by assumption) ?_
      rotate_left
      · intro w' hSw
        try dsimp only at hSw
        first
          | (go_simp; done)
          | (go_simp; with_reducible rfl)
      simp only [List.getElem_toArray, List.getElem_cons_zero, List.getElem_cons_succ]
      try simp only [Act.put, List.setIfInBounds_toArray, List.set_cons_zero, List.set_cons_succ]
      refine wpAnyH_take (i := 2) (oi := _) (v := _) rfl (by kernel_rfl) (by kernel_rfl) (by kernel_rfl) (fun _ _ _ h => h) (yields_mid ri_points (by rfl) (.tmp 15) rfl (by rfl) (fun w' hS => ref_P hS.1) (rowB_size _ _)) (by assumption) ?_
      simp only [List.getElem_toArray, List.getElem_cons_zero, List.getElem_cons_succ]
      try simp only [Act.put, List.setIfInBounds_toArray, List.set_cons_zero, List.set_cons_succ]
      refine wpAnyH_take (i := 3) (oi := _) (v := _) rfl (by kernel_rfl) (by kernel_rfl) (by kernel_rfl) (fun _ _ _ h => h) (yields_mid ri_points (by rfl) (.tmp 3) rfl (by rfl) (fun w' hS => hS.2.whole) (rowB_size _ _)) (by assumption) ?_
      simp only [List.getElem_toArray, List.getElem_cons_zero, List.getElem_cons_succ]
      try simp only [Act.put, List.setIfInBounds_toArray, List.set_cons_zero, List.set_cons_succ]
      refine wpAnyH_take (i := 5) (oi := _) (v := ?_) rfl (by kernel_rfl) (by kernel_rfl) (by kernel_rfl) (fun _ _ _ h => h) (Or.inl ⟨by rfl, ?_⟩) (by assumption) ?_
      rotate_left
      · intro w' hSw
        try dsimp only at hSw
        first
          | (go_simp; done)
          | (go_simp; with_reducible rfl)
      simp only [List.getElem_toArray, List.getElem_cons_zero, List.getElem_cons_succ]
      try simp only [Act.put, List.setIfInBounds_toArray, List.set_cons_zero, List.set_cons_succ]
      refine wpAnyH_take (i := 6) (oi := _) (v := _) rfl (by kernel_rfl) (by kernel_rfl) (by kernel_rfl) (fun _ _ _ h => h) (yields_mid ri_dots (by rfl) (.tmp 19) rfl (by rfl) (fun w' hS => ref_K hS.1) (rowD_size _)) (by assumption) ?_
      simp only [List.getElem_toArray, List.getElem_cons_zero, List.getElem_cons_succ]
      try simp only [Act.put, List.setIfInBounds_toArray, List.set_cons_zero, List.set_cons_succ]
      refine wpAnyH_ready (rs := [4]) (by kernel_rfl) (by simp) ?_
      refine AllReadyH.cons rfl (fun K hK => ?_) AllReadyH.nil
      simp only [List.getElem_toArray, List.getElem_cons_zero, List.getElem_cons_succ]
      go_simp
      refine (ref_Each 117 (fun a b => a && b) X.P F wc Try.call117 narrow1).mono ?_
      rintro e wn ⟨rfl, hxa⟩
      dsimp only
      replace hov := hov.ext (RRef.mono (B := 0)) hxa
      replace hyn := hyn.trans hxa
      clear hxa
      obtain ⟨wc, rfl⟩ : ∃ wc', wc' = wn := ⟨_, rfl⟩
      refine hK.out _ _ (HAll.out _ hyn) (fun hHeld => ?_)
      clear hK K
      try simp only [Act.put, List.setIfInBounds_toArray, List.set_cons_zero, List.set_cons_succ]
      refine wpAnyH_ready (rs := [7]) (by kernel_rfl) (by simp) ?_
      refine AllReadyH.cons rfl (fun K hK => ?_) AllReadyH.nil
      simp only [List.getElem_toArray, List.getElem_cons_zero, List.getElem_cons_succ]
      simp only [Region.wanted, if_true]
      refine wp_build2 p2_ref (.tmp 18) (.tmp 20) rfl (by rfl) (by rfl) (rowB_size _ _) (rowD_size _) ?_
      generalize hcs : (rowB 512 fun i => X.P i && F i) ++ rowD X.K = cs
      have HCS := hid hcs.symm
      clear hcs
      refine hK.out _ _ (HAll.out _ hyn) (fun hHeld => ?_)
      clear hK K
      try simp only [Act.put, List.setIfInBounds_toArray, List.set_cons_zero, List.set_cons_succ]
      refine wpAnyH_ready (rs := [8]) (by kernel_rfl) (by simp) ?_
      refine AllReadyH.cons rfl (fun K hK => ?_) AllReadyH.nil
      simp only [List.getElem_toArray, List.getElem_cons_zero, List.getElem_cons_succ]
      simp only [Region.wanted, if_true]
      refine wp_buildRow Try.underlying73 info_refs ⟨by omega, by omega⟩ (.tmp 21) rfl (by rfl) (by rw [HCS.out]; exact refRow_size (narrowR F X)) ?_
      have hxa := (Ext.refl wc).alloc (.cells cs 85)
      obtain ⟨wn, hwn⟩ : ∃ wn, wn = wc.alloc (.cells cs 85) := ⟨_, rfl⟩
      have hL8 : SlRefs 0 wn (some ⟨wc.heap.size, 0, none⟩) [narrowR F X] := Sl.one (cs := cs.toList) (by rw [hwn, Array.toArray_toList]) (by rw [HCS.out, Array.length_toList]; exact refRow_size (narrowR F X)) (by unfold RRef; rw [HCS.out]; rfl)
      obtain ⟨a8, ha8⟩ : ∃ a, a = some (⟨wc.heap.size, 0, none⟩ : Addr) := ⟨_, rfl⟩
      rw [← hwn] at hxa
      rw [← hwn, ← ha8]
      rw [← ha8] at hL8
      replace hov := hov.ext (RRef.mono (B := 0)) hxa
      replace hyn := hyn.trans hxa
      clear hxa hwn ha8
      obtain ⟨wc, rfl⟩ : ∃ wc', wc' = wn := ⟨_, rfl⟩
      refine hK.out _ _ (HAll.out _ hyn) (fun hHeld => ?_)
      clear hK K
      try simp only [Act.put, List.setIfInBounds_toArray, List.set_cons_zero, List.set_cons_succ]
      refine wpAnyH_ready (rs := [9]) (by kernel_rfl) (by simp) ?_
      refine AllReadyH.cons rfl (fun K hK => ?_) AllReadyH.nil
      simp only [List.getElem_toArray, List.getElem_cons_zero, List.getElem_cons_succ]
      simp only [Region.wanted, if_true]
      refine wp_app (.tmp 14) (.tmp 22) rfl ei_ref rfl hov (B := 0) (Nat.zero_le _) (Nat.le_trans HWS.out hyn.size) (ys := [narrowR F X]) (c := 1) rfl hL8 RRef.oneC RRef.mono (by have := HLen.out; simp [maxLen]; omega) (by have := HLen.out; simp; omega) ?_
      intro v9 wn hL9 hch hbl hgr
      have hne : some r ≠ u5.ownBlock := fun e => by have := HVR.out r e.symm; omega
      have hne2 : some w.heap.size ≠ u5.ownBlock := fun e => by have := HVF.out _ e.symm; omega
      have hq := HAll.out wc hyn
      have hxw := (HXW.out.trans hyn).below hbl (by omega)
      have hqa : Blk wn r 85 (rowB 512 X.P ++ rowD X.K) := (hgr.block r hq.1.lt hne).trans hq.1
      have hqb : Blk wn w.heap.size 79 (rowB 512 F) := (hgr.block _ hq.2.lt hne2).trans hq.2
      refine hK.out _ _ ⟨hqa, hqb⟩ (fun hHeld => ?_)
      clear hch hbl hgr hne hne2 hq hov hL8 hyn hqa
      clear hK K
      try simp only [Act.put, List.setIfInBounds_toArray, List.set_cons_zero, List.set_cons_succ]
      refine wpAnyH_take (i := 10) (oi := _) (v := ?_) rfl (by kernel_rfl) (by kernel_rfl) (by kernel_rfl) (fun _ _ _ h => h) (Or.inl ⟨by rfl, ?_⟩) (by assumption) ?_
      rotate_left
      · intro w' hSw
        try dsimp only at hSw
        first
          | (go_simp; done)
          | (go_simp; with_reducible rfl)
      simp only [List.getElem_toArray, List.getElem_cons_zero, List.getElem_cons_succ]
      try simp only [Act.put, List.setIfInBounds_toArray, List.set_cons_zero, List.set_cons_succ]
      refine wpAnyH_done (by kernel_rfl) ?_ _
      go_wp2_with fail
      go_roundw
      case rel =>
        refine ⟨k + 1, hlt, by go_num, ?_, hqb, hxw⟩
        rw [HSucc.out]
        exact hL9
      case measure => simp [intOf]; omega
    · obtain rfl : k = l.length := by omega
      rw [List.take_length] at hov
      obtain ⟨NL, hNL⟩ : ∃ n, n = l.map (narrowR F) := ⟨_, rfl⟩
      have HNL := hid hNL
      have HLn := hid (show NL.length ≤ 1000 by rw [hNL, List.length_map]; exact hl)
      rw [← hNL] at hov
      obtain ⟨A5, c5, rfl, _, _⟩ := hov.len
      clear hNL
      go_wp2_with fail
      refine (ref_Few 0 A5 c5 NL wr HLn.out (hov.sl 0)).mono ?_
      rintro e w2 ⟨v2, rfl, hv2, hx2⟩
      rw [HNL.out] at hv2
      go_wp2_with fail
      go_ret
      exact ⟨_, rfl, hv2.weaken hx.size, hx.trans hx2⟩

theorem refR_P {w : World} {b o : Nat} {x : RP} (h : w.rangeAt b o (rowB 512 x.P ++ rowD x.K).toList) : w.rangeAt b o (rowB 512 x.P).toList := fun j v hv => by
  refine h j v ?_
  have hj : j < 512 := by have := (List.getElem?_eq_some_iff.1 hv).1; rwa [Array.length_toList, rowB_size] at this
  rw [Array.getElem?_toList] at hv ⊢
  rwa [Array.getElem?_append_left (by rw [rowB_size]; exact hj)]
theorem refR_K {w : World} {b o : Nat} {x : RP} (h : w.rangeAt b o (rowB 512 x.P ++ rowD x.K).toList) : w.rangeAt b (o + 512) (rowD x.K).toList := fun j v hv => by
  rw [Nat.add_assoc]
  refine h (512 + j) v ?_
  rw [Array.getElem?_toList] at hv ⊢
  rwa [Array.getElem?_append_right (by rw [rowB_size]; omega), rowB_size, show 512 + j - 512 = j by omega]

set_option maxRecDepth 100000 in
set_option maxHeartbeats 4000000 in
theorem ref_SayParts (B B' : Nat) (A A' : Option Addr) (c c' : Nat) (l : List Part) (want : List RP) (w : World) (hl : l.length ≤ 1000) (hs : SayOk l want) (h : SlParts B w A l) (g : SlRefs B' w A' want) :
    Calls Try.prog 48 #[.slice A l.length c, .slice A' want.length c'] w fun e w' => e = .returned (.bool true) ∧ Ext w w' := by
  have HS := hid hs
  have HLL := hid hs.len
  rw [← HLL.out]
  clear hs
  go_enter Try.func48, Try.ntmps48
  go_wp2_with fail
  go_loopw [16] (fun i wr => ∃ k : Nat, k ≤ l.length ∧ i = .int .i64 k ∧ Ext w wr) (fun i _ => l.length - (intOf i).toNat)
  case atStart => exact ⟨0, Nat.zero_le _, rfl, Ext.refl _⟩
  case round =>
    obtain ⟨k, hk, rfl, hx⟩ := hrel
    by_cases hlt : k < l.length
    · obtain ⟨b, off, Af, cf, Av, cv, Am, cm, rfl, hb, g0, g1, g2, hp⟩ := (h.ext RPart.monoE hx).part hlt
      have hlw : k < want.length := by have := HLL.out; omega
      obtain ⟨b', off', hA', hb', hr⟩ := (g.ext RRef.mono hx).ref hlw
      subst hA'
      have HOK := hid (HS.out.at_ k l[k] want[k] (List.getElem?_eq_getElem hlt) (List.getElem?_eq_getElem hlw))
      obtain ⟨X, hX⟩ : ∃ X, X = want[k] := ⟨_, rfl⟩
      rw [← hX] at hr HOK
      have HP := hid hp
      have k0 : (0 : Int) ≤ k := by omega
      have k1 : (k : Int) < l.length := by omega
      clear hX hp hlw
      go_wp2_with fail
      have q0 : (wr.alloc (.cells #[.slice Af l[k].filter.length cf, .slice Av l[k].know.vec.length cv, .slice Am l[k].know.more.length cm] 69)).cell? ⟨wr.heap.size, 0, none⟩ = some (.slice Af l[k].filter.length cf) := by go_simp
      have q1 : (wr.alloc (.cells #[.slice Af l[k].filter.length cf, .slice Av l[k].know.vec.length cv, .slice Am l[k].know.more.length cm] 69)).cell? ⟨wr.heap.size, 1, none⟩ = some (.slice Av l[k].know.vec.length cv) := by go_simp
      have q2 : (wr.alloc (.cells #[.slice Af l[k].filter.length cf, .slice Av l[k].know.vec.length cv, .slice Am l[k].know.more.length cm] 69)).cell? ⟨wr.heap.size, 2, none⟩ = some (.slice Am l[k].know.more.length cm) := by go_simp
      have hxl := (Ext.refl wr).alloc (.cells #[.slice Af l[k].filter.length cf, .slice Av l[k].know.vec.length cv, .slice Am l[k].know.more.length cm] 69)
      obtain ⟨wa, hwa⟩ : ∃ wa, wa = wr.alloc (.cells #[.slice Af l[k].filter.length cf, .slice Av l[k].know.vec.length cv, .slice Am l[k].know.more.length cm] 69) := ⟨_, rfl⟩
      obtain ⟨r, hr0⟩ : ∃ r, r = wr.heap.size := ⟨_, rfl⟩
      rw [← hwa] at q0 q1 q2 hxl ⊢
      rw [← hr0] at q0 q1 q2 ⊢
      clear hwa hr0 g0 g1 g2
      have HX := hid (hx.trans hxl)
      have HAll := hid (fun w' (x : Ext wa w') => show w'.cell? ⟨r, 0, none⟩ = some (.slice Af l[k].filter.length cf) ∧ w'.cell? ⟨r, 1, none⟩ = some (.slice Av l[k].know.vec.length cv) ∧ w'.cell? ⟨r, 2, none⟩ = some (.slice Am l[k].know.more.length cm) from ⟨x.cell q0, x.cell q1, x.cell q2⟩)
      have HWR := hid (fun w' (x : Ext wa w') => rangeAt_ext (hxl.trans x) hr)
      have HWP := hid (fun w' (x : Ext wa w') => refR_P (HWR.out w' x))
      have HMn := hid (fun w' (x : Ext wa w') => ref_Means B Af cf l[k].filter X.P w' HOK.out.1 HOK.out.2.1 HOK.out.2.2.1 (HP.out.sf.ext RBox.monoE (hxl.trans x)))
      have HPn := hid (fun w' (x : Ext wa w') => HP.out.ext (hxl.trans x))
      clear q0 q1 q2 hxl hx hr
      refine wq_region (fun w' => Ext wa w') (by kernel_rfl) (by kernel_rfl) (Ext.refl _).drew ?_
      refine wq_get (v := ?_) (fun w' hw' => ?_) ?_
      rotate_left
      · have hA := HAll.out w' hw'
        go_split_ands
        first
          | (go_simp; done)
          | (go_simp; with_reducible rfl)
      try simp only [Act.put, List.setIfInBounds_toArray, List.set_cons_zero, List.set_cons_succ]
      refine wq_get (v := ?_) (fun w' hw' => ?_) ?_
      rotate_left
      · have hA := HAll.out w' hw'
        go_split_ands
        first
          | (go_simp; done)
          | (go_simp; with_reducible rfl)
      try simp only [Act.put, List.setIfInBounds_toArray, List.set_cons_zero, List.set_cons_succ]
      refine wq_get (v := ?_) (fun w' hw' => ?_) ?_
      rotate_left
      · have hA := HAll.out w' hw'
        go_split_ands
        first
          | (go_simp; done)
          | (go_simp; with_reducible rfl)
      try simp only [Act.put, List.setIfInBounds_toArray, List.set_cons_zero, List.set_cons_succ]
      refine wq_get (v := ?_) (fun w' hw' => ?_) ?_
      rotate_left
      · have hA := HAll.out w' hw'
        go_split_ands
        first
          | (go_simp; done)
          | (go_simp; with_reducible rfl)
      try simp only [Act.put, List.setIfInBounds_toArray, List.set_cons_zero, List.set_cons_succ]
      refine wq_get (v := ?_) (fun w' hw' => ?_) ?_
      rotate_left
      · have hA := HAll.out w' hw'
        go_split_ands
        first
          | (go_simp; done)
          | (go_simp; with_reducible rfl)
      try simp only [Act.put, List.setIfInBounds_toArray, List.set_cons_zero, List.set_cons_succ]
      refine wq_get (v := ?_) (fun w' hw' => ?_) ?_
      rotate_left
      · have hA := HAll.out w' hw'
        go_split_ands
        first
          | (go_simp; done)
          | (go_simp; with_reducible rfl)
      try simp only [Act.put, List.setIfInBounds_toArray, List.set_cons_zero, List.set_cons_succ]
      refine wq_loadMid ri_points (by rfl) (fun w' x => HWP.out w' x) (rowB_size _ _) ?_
      try simp only [Act.put, List.setIfInBounds_toArray, List.set_cons_zero, List.set_cons_succ]
      refine wq_call Try.call114 (by rfl) (fun w' x => (HMn.out w' x).mono fun _ _ h => ⟨h.1, x.trans h.2⟩) ?_
      try simp only [Act.put, List.setIfInBounds_toArray, List.set_cons_zero, List.set_cons_succ]
      refine wq_get (v := ?_) (fun w' hw' => ?_) ?_
      rotate_left
      · have hA := HAll.out w' hw'
        go_split_ands
        first
          | (go_simp; done)
          | (go_simp; with_reducible rfl)
      try simp only [Act.put, List.setIfInBounds_toArray, List.set_cons_zero, List.set_cons_succ]
      refine wq_nil ?_
      intro w2 hyn
      have hrK := refR_K (HWR.out _ hyn)
      go_wp2_with ((with_reducible refine wpList_loadMid (o := ⟨some 35, _, _, _, _, _⟩) ri_dots _ rfl rfl rfl hrK (rowD_size _) ?_))
      refine (ref_Form X.K _).mono ?_
      rintro e w3 ⟨x, rfl, hk3, hx3⟩
      rw [HOK.out.2.2.2.1] at hk3 ⊢
      have h60 : decide (l[k].know.more.length ≤ 60) = true := decide_eq_true HOK.out.2.2.2.2
      rw [h60]
      obtain ⟨Ax, cx, Ay, cy, rfl, _, _, _, _, hk3⟩ := hk3
      obtain ⟨q0, q1, q2⟩ := HAll.out _ (hyn.trans hx3)
      have hyw := hyn.trans hx3
      have hrl : r < w3.heap.size := World.block_lt_of_cell? _ _ q0
      clear hrK hyn hx3 h60
      go_wp2_with fail
      have hxa := (Ext.refl w3).alloc (.cells #[.slice Ax l[k].know.vec.length cx, .slice Ay l[k].know.more.length cy] 44)
      refine (ref_SameKnow B 0 l[k].know l[k].know Av cv Am cm Ax cx Ay cy _ (HPn.out _ (hyw.trans hxa)).k (hk3.ext hxa)).mono ?_
      rintro e w4 ⟨rfl, hx4⟩
      rw [show decide (l[k].know = l[k].know) = true from by simp]
      go_wp2_with fail
      go_roundw
      case rel => exact ⟨k + 1, hlt, by go_num, ((HX.out.trans hyw).trans hxa).trans hx4⟩
      case measure => simp [intOf]; omega
    · obtain rfl : k = l.length := by omega
      go_wp2_with fail
      go_ret
      exact ⟨rfl, hx⟩

end Go.Proofs.Ytmedmfjhpabfdaa
