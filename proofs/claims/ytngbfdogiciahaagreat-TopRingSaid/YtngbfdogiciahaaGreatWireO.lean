/- The walk of the reader: filters. -/
import Derived.Test.YtngbfdogiciahaaGreatShort
import Derived.Test.YtngbfdogiciahaaGreatWireM
import Derived.Test.YtngbfdogiciahaaGreatFilB
namespace Go.Proofs.YtngbfdogiciahaaGreat
open Go Go.RowKit
set_option maxRecDepth 100000 in
set_option maxHeartbeats 2000000 in
theorem rd_filter (base p : Nat) (st : RS) (w : World) (hp : base ≤ p) (hbr : Blk w p 220 #[.string (bstr st.1), .bool st.2]) :
  Calls Tryz.prog 133 #[.pointer (some ⟨p, 0, none⟩)] w fun e w' => ∃ v, e = .returned v ∧ IsBoxes 0 w' v (rlist 40 rbox st).1 ∧ Blk w' p 220 #[.string (bstr (rlist 40 rbox st).2.1), .bool (rlist 40 rbox st).2.2] ∧ Chg base [220] w w' := by
 have hx := Chg.refl (B := base) (ts := [220]) w
 go_enter Tryz.func133, Tryz.ntmps133
 go_wp2_with fail
 refine (rd_num base p 40 st w hp hbr).mono ?_
 rintro e w1 ⟨rfl, hbn, hc⟩
 clear hbr
 have hbr := hbn
 clear hbn
 replace hx := hx.trans hc
 clear hc
 obtain ⟨N, hN, hNm⟩ := rnum_nat (most := 40) (by decide) st
 have HN1 := hid hNm
 have HR1 := hid (rlist_n rbox hN)
 obtain ⟨s1, hs1⟩ : ∃ s, s = (rnum 40 st).2 := ⟨_, rfl⟩
 rw [← hs1] at hbr HR1
 rw [hN]
 clear hN hNm hs1
 go_wp2_with fail
 go_loopw [4, 3] (fun i f wr => ∃ (jo ro : Nat), jo + ro = N ∧ i = .int .i64 (ro : Int) ∧ Blk wr p 220 #[.string (bstr (rmany rbox jo s1).2.1), .bool (rmany rbox jo s1).2.2] ∧ Own (RBox 0) 3 142 wr w.heap.size f (rmany rbox jo s1).1 ∧ Chg base [220] w wr) (fun i _ _ => (intOf i).toNat)
 case atStart => exact ⟨0, N, Nat.zero_add _, rfl, hbr, Own.nil, hx⟩
 case round =>
  clear hbr hx
  obtain ⟨jo, ro, hjr, rfl, hbr, hovo, hx⟩ := hrel
  obtain ⟨wo, hwq⟩ : ∃ x, x = wr := ⟨_, rfl⟩
  subst hwq
  by_cases hr0 : ro = 0
  ·subst hr0
   obtain rfl : jo = N := by omega
   rw [← HR1.out] at hbr hovo
   obtain ⟨A, c, rfl, h1, h2⟩ := hovo.len
   have hL := hovo.isSl 0
   clear hovo hjr
   go_wp2_with fail
   go_ret
   exact ⟨_, rfl, hL, hbr, hx⟩
  ·obtain ⟨qo, rfl⟩ : ∃ q, ro = q + 1 := ⟨ro - 1, by omega⟩
   have hd : decide ((0 : Int) < ((qo + 1 : Nat) : Int)) = true := decide_eq_true (by omega)
   have hqso : (qo : Int) ≤ 1000 := by have := HN1.out; omega
   have HSO := hid (rmany_succ rbox jo s1)
   have HLenO := hid (show (rmany rbox jo s1).1.length + 1 ≤ 1000 by rw [rmany_len]; have := HN1.out; omega)
   obtain ⟨lo, hl⟩ : ∃ l, l = (rmany rbox jo s1).1 := ⟨_, rfl⟩
   obtain ⟨so, hs⟩ : ∃ s, s = (rmany rbox jo s1).2 := ⟨_, rfl⟩
   rw [← hl] at hovo HLenO HSO
   rw [← hs] at hbr HSO
   clear hl hs hr0
   have HOV := hid hovo
   have HXO := hid hx
   have HBX := hid (show rbox so = (⟨⟨(rnum 15 so).1, (rnum 15 (rnum 15 so).2).1⟩, (rlist 16 rspan (rnum 15 (rnum 15 so).2).2).1⟩, (rlist 16 rspan (rnum 15 (rnum 15 so).2).2).2) from rfl)
   clear hovo hx
   have hx := Chg.refl (B := base) (ts := [220]) wo
   go_wp2_with fail
   clear hd
   refine (rd_num base p 15 so wo hp hbr).mono ?_
   rintro e w2 ⟨rfl, hbn, hc⟩
   clear hbr
   have hbr := hbn
   clear hbn
   replace hx := hx.trans hc
   clear hc
   go_wp2_with fail
   refine (rd_num base p 15 (rnum 15 so).2 w2 hp hbr).mono ?_
   rintro e w3 ⟨rfl, hbn, hc⟩
   clear hbr
   have hbr := hbn
   clear hbn
   replace hx := hx.trans hc
   clear hc
   obtain ⟨ny, hny⟩ : ∃ n, n = (rnum 15 so).1 := ⟨_, rfl⟩
   obtain ⟨nn, hnn⟩ : ∃ n, n = (rnum 15 (rnum 15 so).2).1 := ⟨_, rfl⟩
   obtain ⟨s2, hs2⟩ : ∃ n, n = (rnum 15 (rnum 15 so).2).2 := ⟨_, rfl⟩
   rw [← hny, ← hnn, ← hs2] at HBX
   rw [← hs2] at hbr
   rw [← hny, ← hnn]
   clear hny hnn hs2
   have hxa := (Ext.refl w3).alloc (.cells #[.int .i64 ny, .int .i64 nn, .slice none 0 0] 142)
   have hbk := Blk.new w3 142 #[.int .i64 ny, .int .i64 nn, .slice none 0 0]
   obtain ⟨w4, hw4⟩ : ∃ x, x = w3.alloc (.cells #[.int .i64 ny, .int .i64 nn, .slice none 0 0] 142) := ⟨_, rfl⟩
   obtain ⟨bb, hbb⟩ : ∃ x, x = w3.heap.size := ⟨_, rfl⟩
   have hkb : wo.heap.size ≤ bb := by rw [hbb]; exact hx.size
   go_wp2_with fail
   rw [← hw4, ← hbb]
   rw [← hw4, ← hbb] at hbk
   rw [← hw4] at hxa
   clear hw4 hbb
   replace hbr := hbr.ext hxa
   replace hx := hx.trans (Chg.of_ext hxa)
   clear hxa
   refine (rd_num base p 16 s2 w4 hp hbr).mono ?_
   rintro e w5 ⟨rfl, hbn, hc⟩
   clear hbr
   have hbr := hbn
   clear hbn
   replace hbk := hbk.chg hc (by decide)
   replace hx := hx.trans hc
   clear hc
   obtain ⟨M, hN, hNm⟩ := rnum_nat (most := 16) (by decide) s2
   have HN2 := hid hNm
   have HR2 := hid (rlist_n rspan hN)
   obtain ⟨s3, hs1⟩ : ∃ s, s = (rnum 16 s2).2 := ⟨_, rfl⟩
   rw [← hs1] at hbr HR2
   rw [hN]
   clear hN hNm hs1
   go_wp2_with fail
   go_loopw [6] (fun i wr => ∃ (j r : Nat) (v : Value), j + r = M ∧ i = .int .i64 (r : Int) ∧ Blk wr p 220 #[.string (bstr (rmany rspan j s3).2.1), .bool (rmany rspan j s3).2.2] ∧ Blk wr bb 142 #[.int .i64 ny, .int .i64 nn, v] ∧ Own RSpan 2 137 wr wo.heap.size v (rmany rspan j s3).1 ∧ Chg base [220] wo wr) (fun i _ => (intOf i).toNat)
   case atStart => exact ⟨0, M, _, Nat.zero_add _, rfl, hbr, hbk, Own.nil, hx⟩
   case round =>
    clear hbr hbk hx
    obtain ⟨j, r, v, hjr, rfl, hbr, hbk, hov, hx⟩ := hrel
    obtain ⟨wi, hwq⟩ : ∃ x, x = wr := ⟨_, rfl⟩
    subst hwq
    by_cases hr0 : r = 0
    ·subst hr0
     obtain rfl : j = M := by omega
     obtain ⟨As, cs, rfl, hcs, hms⟩ := hov.len
     have hs1 := hov.isSl 0
     have HF := hid (show rbox so = (⟨⟨ny, nn⟩, (rmany rspan j s3).1⟩, (rmany rspan j s3).2) by rw [HBX.out, HR2.out])
     clear hov
     obtain ⟨D, hD⟩ : ∃ l, l = (rmany rspan j s3).1 := ⟨_, rfl⟩
     obtain ⟨s4, hs4⟩ : ∃ s, s = (rmany rspan j s3).2 := ⟨_, rfl⟩
     rw [← hD] at hs1 hbk HF
     rw [← hs4] at hbr HF
     clear hD hs4 hcs hms hjr
     have y0 := hbk.cell (i := 0) (u := .int .i64 ny) rfl
     have y1 := hbk.cell (i := 1) (u := .int .i64 nn) rfl
     have y2 := hbk.cell (i := 2) (u := .slice As D.length cs) rfl
     have hxa := (Ext.refl wi).alloc (.cells #[.int .i64 ny, .int .i64 nn, .slice As D.length cs] 142)
     have hL : Sl 0 142 (RBox 0) 3 (wi.alloc (.cells #[.int .i64 ny, .int .i64 nn, .slice As D.length cs] 142)) (some ⟨wi.heap.size, 0, none⟩) [⟨⟨ny, nn⟩, D⟩] := Sl.one (cs := [.int .i64 ny, .int .i64 nn, .slice As D.length cs]) rfl rfl ⟨_, rfl, hs1.ext RPair.mono hxa⟩
     have hov1 := (HOV.out.chgT (B := 0) (RBox.mono (by decide)) (by decide) (hx.down (Nat.zero_le _))).ext (B := 0) (RBox.mono (by decide)) hxa
     have hbs : w.heap.size ≤ (wi.alloc (.cells #[.int .i64 ny, .int .i64 nn, .slice As D.length cs] 142)).heap.size := Nat.le_trans HXO.out.size (Nat.le_trans hx.size hxa.size)
     have hx1 := (HXO.out.trans hx).trans (Chg.of_ext (B := base) (ts := [220]) hxa)
     replace hbr := hbr.ext hxa
     obtain ⟨Ao, co, rfl, _, _⟩ := hov1.len
     clear hs1 hbk hxa hx
     go_wp2_with (at_builtin; refine wpList_app (ys := [(⟨⟨ny, nn⟩, D⟩ : Box)]) (c := 1) (B := 0) rfl _ _ rfl ei_box rfl hov1 (Nat.zero_le _) hbs rfl hL RBox.oneC (RBox.mono (by decide)) (by have := HLenO.out; simp [maxLen]; omega) (by have := HLenO.out; simp; omega) ?_; intro v2 w6 ho2 hc2 hb6 _; replace hbr := hbr.chg hc2 (by decide); replace hx1 := hx1.below hb6)
     go_roundw
     case rel => exact ⟨jo + 1, qo, by omega, by first | rfl | go_num, by rw [HSO.out, HF.out]; exact hbr, by rw [HSO.out, HF.out]; exact ho2, hx1⟩
     case measure => simp [intOf]
    ·obtain ⟨q, rfl⟩ : ∃ q, r = q + 1 := ⟨r - 1, by omega⟩
     have hd : decide ((0 : Int) < ((q + 1 : Nat) : Int)) = true := decide_eq_true (by omega)
     have hqs : (q : Int) ≤ 1000 := by have := HN2.out; omega
     have HS := hid (rmany_succ rspan j s3)
     have HLen := hid (show (rmany rspan j s3).1.length + 1 ≤ 1000 by rw [rmany_len]; have := HN2.out; omega)
     obtain ⟨l, hl⟩ : ∃ l, l = (rmany rspan j s3).1 := ⟨_, rfl⟩
     obtain ⟨s, hs⟩ : ∃ s, s = (rmany rspan j s3).2 := ⟨_, rfl⟩
     rw [← hl] at hov HLen HS
     rw [← hs] at hbr HS
     clear hl hs hr0
     go_wp2_with fail
     clear hd
     have hxa := (Ext.refl wi).drew
     replace hbk := hbk.ext hxa
     replace hov := hov.ext (B := 0) RPair.mono hxa
     replace hx := hx.trans (Chg.of_ext hxa)
     replace hbr := hbr.ext hxa
     refine wp_region_held_drew (S := fun _ => True) (by kernel_rfl) trivial (fun hHeld => ?_)
     obtain ⟨wc, hwc⟩ : ∃ wc, wc = wi.drew := ⟨_, rfl⟩
     rw [← hwc] at hbk hov hx hbr ⊢
     clear hwc hxa
     refine tk 0 ?_ rfl (by kernel_rfl) (fun _ _ _ h => h) (by rfl) ?_ (by assumption) ?_
     rotate_left
     ·intro w' hSw; (try dsimp only at hSw); go_simp <;> with_reducible rfl
     simp only [gq]; try simp only [pq]
     refine tk 2 ?_ rfl (by kernel_rfl) (fun _ _ _ h => h) (by rfl) ?_ (by assumption) ?_
     rotate_left
     ·intro w' hSw; (try dsimp only at hSw); go_simp <;> with_reducible rfl
     simp only [gq]; try simp only [pq]
     refine tk 4 ?_ rfl (by kernel_rfl) (fun _ _ _ h => h) (by rfl) ?_ (by assumption) ?_
     rotate_left
     ·intro w' hSw; (try dsimp only at hSw); go_simp <;> with_reducible rfl
     simp only [gq]; try simp only [pq]
     refine wpAnyH_ready (rs := [1, 3]) (by kernel_rfl) (by simp) ?_
     refine AllReadyH.cons rfl (fun K hK => ?_) ?_
     ·simp only [gq]
      have y0 := hbk.cell (i := 2) (u := v) rfl
      go_simp
      clear y0
      refine hK.out _ _ trivial (fun hHeld => ?_)
      clear hK K
      try simp only [pq]
      refine wpAnyH_ready (rs := [3]) (by kernel_rfl) (by simp) ?_
      refine AllReadyH.cons rfl (fun K hK => ?_) AllReadyH.nil
      simp only [gq]
      go_simp
      refine (rd_num base p 32 (s) wc hp hbr).mono ?_
      rintro e wn ⟨rfl, hbn, hc⟩
      dsimp only
      clear hbr
      have hbr := hbn
      clear hbn
      replace hbk := hbk.chg hc (by decide)
      replace hov := hov.chgT (B := base) RPair.mono (by decide) hc
      replace hx := hx.trans hc
      clear hc
      obtain ⟨wc, rfl⟩ : ∃ wc', wc' = wn := ⟨_, rfl⟩
      refine hK.out _ _ trivial (fun hHeld => ?_)
      clear hK K
      try simp only [pq]
      refine wpAnyH_ready (rs := [5]) (by kernel_rfl) (by simp) ?_
      refine AllReadyH.cons rfl (fun K hK => ?_) AllReadyH.nil
      simp only [gq]
      go_simp
      refine (rd_num base p 32 ((rnum 32 s).2) wc hp hbr).mono ?_
      rintro e wn ⟨rfl, hbn, hc⟩
      dsimp only
      clear hbr
      have hbr := hbn
      clear hbn
      replace hbk := hbk.chg hc (by decide)
      replace hov := hov.chgT (B := base) RPair.mono (by decide) hc
      replace hx := hx.trans hc
      clear hc
      obtain ⟨wc, rfl⟩ : ∃ wc', wc' = wn := ⟨_, rfl⟩
      refine hK.out _ _ trivial (fun hHeld => ?_)
      clear hK K
      try simp only [pq]
      refine tk 6 ?_ rfl (by kernel_rfl) (fun _ _ _ h => h) (by rfl) ?_ (by assumption) ?_
      rotate_left
      ·intro w' hSw; (try dsimp only at hSw); go_simp <;> with_reducible rfl
      simp only [gq]; try simp only [pq]
      refine wpAnyH_ready (rs := [7]) (by kernel_rfl) (by simp) ?_
      refine AllReadyH.cons rfl (fun K hK => ?_) AllReadyH.nil
      simp only [gq]
      go_simp
      have hxa := (Ext.refl wc).alloc (.cells #[.int .i64 (rnum 32 s).1, .int .i64 (rnum 32 (rnum 32 s).2).1] 137)
      obtain ⟨wn, hwn⟩ : ∃ wn, wn = wc.alloc (.cells #[.int .i64 (rnum 32 s).1, .int .i64 (rnum 32 (rnum 32 s).2).1] 137) := ⟨_, rfl⟩
      rw [← hwn] at hxa
      replace hbk := hbk.ext hxa
      replace hov := hov.ext (B := 0) RPair.mono hxa
      replace hx := hx.trans (Chg.of_ext hxa)
      replace hbr := hbr.ext hxa
      have hL : Sl 0 137 RSpan 2 wn (some ⟨wc.heap.size, 0, none⟩) [(rspan s).1] := Sl.one (cs := [.int .i64 (rnum 32 s).1, .int .i64 (rnum 32 (rnum 32 s).2).1]) hwn rfl rfl
      obtain ⟨a4, ha4⟩ : ∃ a, a = some (⟨wc.heap.size, 0, none⟩ : Addr) := ⟨_, rfl⟩
      rw [← hwn, ← ha4]
      rw [← ha4] at hL
      clear hxa hwn ha4
      obtain ⟨wc, rfl⟩ : ∃ wc', wc' = wn := ⟨_, rfl⟩
      refine hK.out _ _ trivial (fun hHeld => ?_)
      clear hK K
      try simp only [pq]
      refine wpAnyH_ready (rs := [8]) (by kernel_rfl) (by simp) ?_
      refine AllReadyH.cons rfl (fun K hK => ?_) AllReadyH.nil
      simp only [gq]
      simp only [Region.wanted, if_true]
      refine wp_app (.tmp 26) (.tmp 32) rfl ei_span rfl hov (B := 0) (Nat.zero_le _) hx.size (ys := [(rspan s).1]) (c := 1) rfl hL RPair.oneC RPair.mono (by have := HLen.out; simp [maxLen]; omega) (by have := HLen.out; simp; omega) ?_
      intro v5 wn hov5 hch hbl _
      replace hbr := hbr.chg hch (by decide)
      replace hbk := hbk.chg hch (by decide)
      replace hx := hx.below hbl
      clear hch hbl hov hL
      obtain ⟨wc, rfl⟩ : ∃ wc', wc' = wn := ⟨_, rfl⟩
      refine hK.out _ _ trivial (fun hHeld => ?_)
      clear hK K
      try simp only [pq]
      refine tk 9 ?_ rfl (by kernel_rfl) (fun _ _ _ h => h) (by rfl) ?_ (by assumption) ?_
      rotate_left
      ·intro w' hSw; (try dsimp only at hSw); go_simp <;> with_reducible rfl
      simp only [gq]; try simp only [pq]
      refine wpAnyH_ready (rs := [10]) (by kernel_rfl) (by simp) ?_
      refine AllReadyH.cons rfl (fun K hK => ?_) AllReadyH.nil
      simp only [gq]
      obtain ⟨A5, c5, hv5, _, _⟩ := hov5.len
      obtain ⟨n5, hn5⟩ : ∃ n, n = (l ++ [(rspan s).1]).length := ⟨_, rfl⟩
      rw [← hn5] at hv5
      subst hv5
      clear hn5
      obtain ⟨v5, hv5⟩ : ∃ v, v = Value.slice A5 n5 c5 := ⟨_, rfl⟩
      rw [← hv5] at hov5
      have y0 := hbk.cell (i := 2) (u := v) rfl
      have z0 := hbk.frozen 2
      go_simp
      rw [← hv5]
      clear hv5
      have hch := (Chg.refl (B := 0) (ts := [142]) wc).setCell (p := ⟨bb, 2, none⟩) hbk.ty (by simp) v5 (Nat.zero_le _)
      have hbl : Below wo.heap.size wc (wc.setCell ⟨bb, 2, none⟩ v5) := (Below.refl _ _).setCell (p := ⟨bb, 2, none⟩) hkb v5
      replace hbr := hbr.chg hch (by decide)
      replace hov5 := hov5.chgT (B := 0) RPair.mono (by decide) hch
      replace hx := hx.below hbl
      replace hbk := hbk.set 2 v5
      clear y0 z0 hch hbl
      obtain ⟨wn, hwn⟩ : ∃ wn, wn = wc.setCell ⟨bb, 2, none⟩ v5 := ⟨_, rfl⟩
      rw [← hwn] at hbr hov5 hbk hx ⊢
      clear hwn
      obtain ⟨wc, rfl⟩ : ∃ wc', wc' = wn := ⟨_, rfl⟩
      refine hK.out _ _ trivial (fun hHeld => ?_)
      clear hK K
      try simp only [pq]
      refine wpAnyH_done (by kernel_rfl) ?_ _
      go_wp2_with fail
      go_roundw
      case rel => exact ⟨j + 1, q, v5, by omega, by first | rfl | go_num, by rw [HS.out]; exact hbr, hbk, by rw [HS.out]; exact hov5, hx⟩
      case measure => simp [intOf]
     refine AllReadyH.cons rfl (fun K hK => ?_) AllReadyH.nil
     simp only [gq]
     go_simp
     refine (rd_num base p 32 (s) wc hp hbr).mono ?_
     rintro e wn ⟨rfl, hbn, hc⟩
     dsimp only
     clear hbr
     have hbr := hbn
     clear hbn
     replace hbk := hbk.chg hc (by decide)
     replace hov := hov.chgT (B := base) RPair.mono (by decide) hc
     replace hx := hx.trans hc
     clear hc
     obtain ⟨wc, rfl⟩ : ∃ wc', wc' = wn := ⟨_, rfl⟩
     refine hK.out _ _ trivial (fun hHeld => ?_)
     clear hK K
     try simp only [pq]
     refine wpAnyH_ready (rs := [1, 5]) (by kernel_rfl) (by simp) ?_
     refine AllReadyH.cons rfl (fun K hK => ?_) ?_
     ·simp only [gq]
      have y0 := hbk.cell (i := 2) (u := v) rfl
      go_simp
      clear y0
      refine hK.out _ _ trivial (fun hHeld => ?_)
      clear hK K
      try simp only [pq]
      refine wpAnyH_ready (rs := [5]) (by kernel_rfl) (by simp) ?_
      refine AllReadyH.cons rfl (fun K hK => ?_) AllReadyH.nil
      simp only [gq]
      go_simp
      refine (rd_num base p 32 ((rnum 32 s).2) wc hp hbr).mono ?_
      rintro e wn ⟨rfl, hbn, hc⟩
      dsimp only
      clear hbr
      have hbr := hbn
      clear hbn
      replace hbk := hbk.chg hc (by decide)
      replace hov := hov.chgT (B := base) RPair.mono (by decide) hc
      replace hx := hx.trans hc
      clear hc
      obtain ⟨wc, rfl⟩ : ∃ wc', wc' = wn := ⟨_, rfl⟩
      refine hK.out _ _ trivial (fun hHeld => ?_)
      clear hK K
      try simp only [pq]
      refine tk 6 ?_ rfl (by kernel_rfl) (fun _ _ _ h => h) (by rfl) ?_ (by assumption) ?_
      rotate_left
      ·intro w' hSw; (try dsimp only at hSw); go_simp <;> with_reducible rfl
      simp only [gq]; try simp only [pq]
      refine wpAnyH_ready (rs := [7]) (by kernel_rfl) (by simp) ?_
      refine AllReadyH.cons rfl (fun K hK => ?_) AllReadyH.nil
      simp only [gq]
      go_simp
      have hxa := (Ext.refl wc).alloc (.cells #[.int .i64 (rnum 32 s).1, .int .i64 (rnum 32 (rnum 32 s).2).1] 137)
      obtain ⟨wn, hwn⟩ : ∃ wn, wn = wc.alloc (.cells #[.int .i64 (rnum 32 s).1, .int .i64 (rnum 32 (rnum 32 s).2).1] 137) := ⟨_, rfl⟩
      rw [← hwn] at hxa
      replace hbk := hbk.ext hxa
      replace hov := hov.ext (B := 0) RPair.mono hxa
      replace hx := hx.trans (Chg.of_ext hxa)
      replace hbr := hbr.ext hxa
      have hL : Sl 0 137 RSpan 2 wn (some ⟨wc.heap.size, 0, none⟩) [(rspan s).1] := Sl.one (cs := [.int .i64 (rnum 32 s).1, .int .i64 (rnum 32 (rnum 32 s).2).1]) hwn rfl rfl
      obtain ⟨a4, ha4⟩ : ∃ a, a = some (⟨wc.heap.size, 0, none⟩ : Addr) := ⟨_, rfl⟩
      rw [← hwn, ← ha4]
      rw [← ha4] at hL
      clear hxa hwn ha4
      obtain ⟨wc, rfl⟩ : ∃ wc', wc' = wn := ⟨_, rfl⟩
      refine hK.out _ _ trivial (fun hHeld => ?_)
      clear hK K
      try simp only [pq]
      refine wpAnyH_ready (rs := [8]) (by kernel_rfl) (by simp) ?_
      refine AllReadyH.cons rfl (fun K hK => ?_) AllReadyH.nil
      simp only [gq]
      simp only [Region.wanted, if_true]
      refine wp_app (.tmp 26) (.tmp 32) rfl ei_span rfl hov (B := 0) (Nat.zero_le _) hx.size (ys := [(rspan s).1]) (c := 1) rfl hL RPair.oneC RPair.mono (by have := HLen.out; simp [maxLen]; omega) (by have := HLen.out; simp; omega) ?_
      intro v5 wn hov5 hch hbl _
      replace hbr := hbr.chg hch (by decide)
      replace hbk := hbk.chg hch (by decide)
      replace hx := hx.below hbl
      clear hch hbl hov hL
      obtain ⟨wc, rfl⟩ : ∃ wc', wc' = wn := ⟨_, rfl⟩
      refine hK.out _ _ trivial (fun hHeld => ?_)
      clear hK K
      try simp only [pq]
      refine tk 9 ?_ rfl (by kernel_rfl) (fun _ _ _ h => h) (by rfl) ?_ (by assumption) ?_
      rotate_left
      ·intro w' hSw; (try dsimp only at hSw); go_simp <;> with_reducible rfl
      simp only [gq]; try simp only [pq]
      refine wpAnyH_ready (rs := [10]) (by kernel_rfl) (by simp) ?_
      refine AllReadyH.cons rfl (fun K hK => ?_) AllReadyH.nil
      simp only [gq]
      obtain ⟨A5, c5, hv5, _, _⟩ := hov5.len
      obtain ⟨n5, hn5⟩ : ∃ n, n = (l ++ [(rspan s).1]).length := ⟨_, rfl⟩
      rw [← hn5] at hv5
      subst hv5
      clear hn5
      obtain ⟨v5, hv5⟩ : ∃ v, v = Value.slice A5 n5 c5 := ⟨_, rfl⟩
      rw [← hv5] at hov5
      have y0 := hbk.cell (i := 2) (u := v) rfl
      have z0 := hbk.frozen 2
      go_simp
      rw [← hv5]
      clear hv5
      have hch := (Chg.refl (B := 0) (ts := [142]) wc).setCell (p := ⟨bb, 2, none⟩) hbk.ty (by simp) v5 (Nat.zero_le _)
      have hbl : Below wo.heap.size wc (wc.setCell ⟨bb, 2, none⟩ v5) := (Below.refl _ _).setCell (p := ⟨bb, 2, none⟩) hkb v5
      replace hbr := hbr.chg hch (by decide)
      replace hov5 := hov5.chgT (B := 0) RPair.mono (by decide) hch
      replace hx := hx.below hbl
      replace hbk := hbk.set 2 v5
      clear y0 z0 hch hbl
      obtain ⟨wn, hwn⟩ : ∃ wn, wn = wc.setCell ⟨bb, 2, none⟩ v5 := ⟨_, rfl⟩
      rw [← hwn] at hbr hov5 hbk hx ⊢
      clear hwn
      obtain ⟨wc, rfl⟩ : ∃ wc', wc' = wn := ⟨_, rfl⟩
      refine hK.out _ _ trivial (fun hHeld => ?_)
      clear hK K
      try simp only [pq]
      refine wpAnyH_done (by kernel_rfl) ?_ _
      go_wp2_with fail
      go_roundw
      case rel => exact ⟨j + 1, q, v5, by omega, by first | rfl | go_num, by rw [HS.out]; exact hbr, hbk, by rw [HS.out]; exact hov5, hx⟩
      case measure => simp [intOf]
     refine AllReadyH.cons rfl (fun K hK => ?_) AllReadyH.nil
     simp only [gq]
     go_simp
     refine (rd_num base p 32 ((rnum 32 s).2) wc hp hbr).mono ?_
     rintro e wn ⟨rfl, hbn, hc⟩
     dsimp only
     clear hbr
     have hbr := hbn
     clear hbn
     replace hbk := hbk.chg hc (by decide)
     replace hov := hov.chgT (B := base) RPair.mono (by decide) hc
     replace hx := hx.trans hc
     clear hc
     obtain ⟨wc, rfl⟩ : ∃ wc', wc' = wn := ⟨_, rfl⟩
     refine hK.out _ _ trivial (fun hHeld => ?_)
     clear hK K
     try simp only [pq]
     refine tk 6 ?_ rfl (by kernel_rfl) (fun _ _ _ h => h) (by rfl) ?_ (by assumption) ?_
     rotate_left
     ·intro w' hSw; (try dsimp only at hSw); go_simp <;> with_reducible rfl
     simp only [gq]; try simp only [pq]
     refine wpAnyH_ready (rs := [1, 7]) (by kernel_rfl) (by simp) ?_
     refine AllReadyH.cons rfl (fun K hK => ?_) ?_
     ·simp only [gq]
      have y0 := hbk.cell (i := 2) (u := v) rfl
      go_simp
      clear y0
      refine hK.out _ _ trivial (fun hHeld => ?_)
      clear hK K
      try simp only [pq]
      refine wpAnyH_ready (rs := [7]) (by kernel_rfl) (by simp) ?_
      refine AllReadyH.cons rfl (fun K hK => ?_) AllReadyH.nil
      simp only [gq]
      go_simp
      have hxa := (Ext.refl wc).alloc (.cells #[.int .i64 (rnum 32 s).1, .int .i64 (rnum 32 (rnum 32 s).2).1] 137)
      obtain ⟨wn, hwn⟩ : ∃ wn, wn = wc.alloc (.cells #[.int .i64 (rnum 32 s).1, .int .i64 (rnum 32 (rnum 32 s).2).1] 137) := ⟨_, rfl⟩
      rw [← hwn] at hxa
      replace hbk := hbk.ext hxa
      replace hov := hov.ext (B := 0) RPair.mono hxa
      replace hx := hx.trans (Chg.of_ext hxa)
      replace hbr := hbr.ext hxa
      have hL : Sl 0 137 RSpan 2 wn (some ⟨wc.heap.size, 0, none⟩) [(rspan s).1] := Sl.one (cs := [.int .i64 (rnum 32 s).1, .int .i64 (rnum 32 (rnum 32 s).2).1]) hwn rfl rfl
      obtain ⟨a4, ha4⟩ : ∃ a, a = some (⟨wc.heap.size, 0, none⟩ : Addr) := ⟨_, rfl⟩
      rw [← hwn, ← ha4]
      rw [← ha4] at hL
      clear hxa hwn ha4
      obtain ⟨wc, rfl⟩ : ∃ wc', wc' = wn := ⟨_, rfl⟩
      refine hK.out _ _ trivial (fun hHeld => ?_)
      clear hK K
      try simp only [pq]
      refine wpAnyH_ready (rs := [8]) (by kernel_rfl) (by simp) ?_
      refine AllReadyH.cons rfl (fun K hK => ?_) AllReadyH.nil
      simp only [gq]
      simp only [Region.wanted, if_true]
      refine wp_app (.tmp 26) (.tmp 32) rfl ei_span rfl hov (B := 0) (Nat.zero_le _) hx.size (ys := [(rspan s).1]) (c := 1) rfl hL RPair.oneC RPair.mono (by have := HLen.out; simp [maxLen]; omega) (by have := HLen.out; simp; omega) ?_
      intro v5 wn hov5 hch hbl _
      replace hbr := hbr.chg hch (by decide)
      replace hbk := hbk.chg hch (by decide)
      replace hx := hx.below hbl
      clear hch hbl hov hL
      obtain ⟨wc, rfl⟩ : ∃ wc', wc' = wn := ⟨_, rfl⟩
      refine hK.out _ _ trivial (fun hHeld => ?_)
      clear hK K
      try simp only [pq]
      refine tk 9 ?_ rfl (by kernel_rfl) (fun _ _ _ h => h) (by rfl) ?_ (by assumption) ?_
      rotate_left
      ·intro w' hSw; (try dsimp only at hSw); go_simp <;> with_reducible rfl
      simp only [gq]; try simp only [pq]
      refine wpAnyH_ready (rs := [10]) (by kernel_rfl) (by simp) ?_
      refine AllReadyH.cons rfl (fun K hK => ?_) AllReadyH.nil
      simp only [gq]
      obtain ⟨A5, c5, hv5, _, _⟩ := hov5.len
      obtain ⟨n5, hn5⟩ : ∃ n, n = (l ++ [(rspan s).1]).length := ⟨_, rfl⟩
      rw [← hn5] at hv5
      subst hv5
      clear hn5
      obtain ⟨v5, hv5⟩ : ∃ v, v = Value.slice A5 n5 c5 := ⟨_, rfl⟩
      rw [← hv5] at hov5
      have y0 := hbk.cell (i := 2) (u := v) rfl
      have z0 := hbk.frozen 2
      go_simp
      rw [← hv5]
      clear hv5
      have hch := (Chg.refl (B := 0) (ts := [142]) wc).setCell (p := ⟨bb, 2, none⟩) hbk.ty (by simp) v5 (Nat.zero_le _)
      have hbl : Below wo.heap.size wc (wc.setCell ⟨bb, 2, none⟩ v5) := (Below.refl _ _).setCell (p := ⟨bb, 2, none⟩) hkb v5
      replace hbr := hbr.chg hch (by decide)
      replace hov5 := hov5.chgT (B := 0) RPair.mono (by decide) hch
      replace hx := hx.below hbl
      replace hbk := hbk.set 2 v5
      clear y0 z0 hch hbl
      obtain ⟨wn, hwn⟩ : ∃ wn, wn = wc.setCell ⟨bb, 2, none⟩ v5 := ⟨_, rfl⟩
      rw [← hwn] at hbr hov5 hbk hx ⊢
      clear hwn
      obtain ⟨wc, rfl⟩ : ∃ wc', wc' = wn := ⟨_, rfl⟩
      refine hK.out _ _ trivial (fun hHeld => ?_)
      clear hK K
      try simp only [pq]
      refine wpAnyH_done (by kernel_rfl) ?_ _
      go_wp2_with fail
      go_roundw
      case rel => exact ⟨j + 1, q, v5, by omega, by first | rfl | go_num, by rw [HS.out]; exact hbr, hbk, by rw [HS.out]; exact hov5, hx⟩
      case measure => simp [intOf]
     refine AllReadyH.cons rfl (fun K hK => ?_) AllReadyH.nil
     simp only [gq]
     go_simp
     have hxa := (Ext.refl wc).alloc (.cells #[.int .i64 (rnum 32 s).1, .int .i64 (rnum 32 (rnum 32 s).2).1] 137)
     obtain ⟨wn, hwn⟩ : ∃ wn, wn = wc.alloc (.cells #[.int .i64 (rnum 32 s).1, .int .i64 (rnum 32 (rnum 32 s).2).1] 137) := ⟨_, rfl⟩
     rw [← hwn] at hxa
     replace hbk := hbk.ext hxa
     replace hov := hov.ext (B := 0) RPair.mono hxa
     replace hx := hx.trans (Chg.of_ext hxa)
     replace hbr := hbr.ext hxa
     have hL : Sl 0 137 RSpan 2 wn (some ⟨wc.heap.size, 0, none⟩) [(rspan s).1] := Sl.one (cs := [.int .i64 (rnum 32 s).1, .int .i64 (rnum 32 (rnum 32 s).2).1]) hwn rfl rfl
     obtain ⟨a4, ha4⟩ : ∃ a, a = some (⟨wc.heap.size, 0, none⟩ : Addr) := ⟨_, rfl⟩
     rw [← hwn, ← ha4]
     rw [← ha4] at hL
     clear hxa hwn ha4
     obtain ⟨wc, rfl⟩ : ∃ wc', wc' = wn := ⟨_, rfl⟩
     refine hK.out _ _ trivial (fun hHeld => ?_)
     clear hK K
     try simp only [pq]
     refine wpAnyH_ready (rs := [1]) (by kernel_rfl) (by simp) ?_
     refine AllReadyH.cons rfl (fun K hK => ?_) AllReadyH.nil
     simp only [gq]
     have y0 := hbk.cell (i := 2) (u := v) rfl
     go_simp
     clear y0
     refine hK.out _ _ trivial (fun hHeld => ?_)
     clear hK K
     try simp only [pq]
     refine wpAnyH_ready (rs := [8]) (by kernel_rfl) (by simp) ?_
     refine AllReadyH.cons rfl (fun K hK => ?_) AllReadyH.nil
     simp only [gq]
     simp only [Region.wanted, if_true]
     refine wp_app (.tmp 26) (.tmp 32) rfl ei_span rfl hov (B := 0) (Nat.zero_le _) hx.size (ys := [(rspan s).1]) (c := 1) rfl hL RPair.oneC RPair.mono (by have := HLen.out; simp [maxLen]; omega) (by have := HLen.out; simp; omega) ?_
     intro v5 wn hov5 hch hbl _
     replace hbr := hbr.chg hch (by decide)
     replace hbk := hbk.chg hch (by decide)
     replace hx := hx.below hbl
     clear hch hbl hov hL
     obtain ⟨wc, rfl⟩ : ∃ wc', wc' = wn := ⟨_, rfl⟩
     refine hK.out _ _ trivial (fun hHeld => ?_)
     clear hK K
     try simp only [pq]
     refine tk 9 ?_ rfl (by kernel_rfl) (fun _ _ _ h => h) (by rfl) ?_ (by assumption) ?_
     rotate_left
     ·intro w' hSw; (try dsimp only at hSw); go_simp <;> with_reducible rfl
     simp only [gq]; try simp only [pq]
     refine wpAnyH_ready (rs := [10]) (by kernel_rfl) (by simp) ?_
     refine AllReadyH.cons rfl (fun K hK => ?_) AllReadyH.nil
     simp only [gq]
     obtain ⟨A5, c5, hv5, _, _⟩ := hov5.len
     obtain ⟨n5, hn5⟩ : ∃ n, n = (l ++ [(rspan s).1]).length := ⟨_, rfl⟩
     rw [← hn5] at hv5
     subst hv5
     clear hn5
     obtain ⟨v5, hv5⟩ : ∃ v, v = Value.slice A5 n5 c5 := ⟨_, rfl⟩
     rw [← hv5] at hov5
     have y0 := hbk.cell (i := 2) (u := v) rfl
     have z0 := hbk.frozen 2
     go_simp
     rw [← hv5]
     clear hv5
     have hch := (Chg.refl (B := 0) (ts := [142]) wc).setCell (p := ⟨bb, 2, none⟩) hbk.ty (by simp) v5 (Nat.zero_le _)
     have hbl : Below wo.heap.size wc (wc.setCell ⟨bb, 2, none⟩ v5) := (Below.refl _ _).setCell (p := ⟨bb, 2, none⟩) hkb v5
     replace hbr := hbr.chg hch (by decide)
     replace hov5 := hov5.chgT (B := 0) RPair.mono (by decide) hch
     replace hx := hx.below hbl
     replace hbk := hbk.set 2 v5
     clear y0 z0 hch hbl
     obtain ⟨wn, hwn⟩ : ∃ wn, wn = wc.setCell ⟨bb, 2, none⟩ v5 := ⟨_, rfl⟩
     rw [← hwn] at hbr hov5 hbk hx ⊢
     clear hwn
     obtain ⟨wc, rfl⟩ : ∃ wc', wc' = wn := ⟨_, rfl⟩
     refine hK.out _ _ trivial (fun hHeld => ?_)
     clear hK K
     try simp only [pq]
     refine wpAnyH_done (by kernel_rfl) ?_ _
     go_wp2_with fail
     go_roundw
     case rel => exact ⟨j + 1, q, v5, by omega, by first | rfl | go_num, by rw [HS.out]; exact hbr, hbk, by rw [HS.out]; exact hov5, hx⟩
     case measure => simp [intOf]
end Go.Proofs.YtngbfdogiciahaaGreat
