/- The walks of the reader: sets of dots. -/
import Derived.Test.YtngbfdogiciahaaGreatShort
import Derived.Test.YtngbfdogiciahaaGreatJoinWireR
import Derived.Test.YtngbfdogiciahaaGreatKnM
import Derived.Test.YtngbfdogiciahaaGreatJoinKnW
namespace Go.Proofs.YtngbfdogiciahaaGreat
open Go Go.RowKit
theorem Chg.below {B : Nat} {ts : List TypeId} {a b c : World} (h : Chg B ts a b) (k : Below a.heap.size b c) : Chg B ts a c :=
 ⟨(Below.os k).trans h.os, (Below.tape k).trans h.tape, (Below.output k).trans h.output, Nat.le_trans h.size (Below.size k), fun i hi hc => (Below.block k i hi).trans (h.block i hi hc)⟩
theorem rlist_n {α : Type} {most : Int} (f : RS → α × RS) {s : RS} {N : Nat} (h : (rnum most s).1 = (N : Int)) : rlist most f s = rmany f N (rnum most s).2 := by
 rw [rlist, h, Int.toNat_natCast]
theorem rnum_nat {most : Int} (hm : 0 ≤ most) (s : RS) : ∃ N : Nat, (rnum most s).1 = (N : Int) ∧ (N : Int) ≤ most := by
 have := rnum_range hm s
 exact ⟨(rnum most s).1.toNat, by omega, by omega⟩
theorem res_rknow {w : World} {v : Value} {b : Nat} {x y : Value} {tmps : Array Value} (h4 : tmps.getD 2 undef = .pointer (some ⟨b, 0, none⟩)) (c1 : w.cell? ⟨b, 0, none⟩ = some x) (c2 : w.cell? ⟨b, 1, none⟩ = some y) (hv : v = .agg #[x, y]) :
  (results Tryz.f132 tmps).run Tryz.prog w = .ok v w := by
 have h4' : tmps[2]?.getD undef = .pointer (some ⟨b, 0, none⟩) := by simpa using h4
 subst hv
 simp [results, Tryz.results132, go_sem, h4', c1, c2]
set_option maxRecDepth 100000 in
set_option maxHeartbeats 2000000 in
theorem rd_know (base p : Nat) (st : RS) (w : World) (hp : base ≤ p) (hb : Blk w p 220 #[.string (bstr st.1), .bool st.2]) :
  Calls Tryz.prog 132 #[.pointer (some ⟨p, 0, none⟩)] w fun e w' => ∃ x, e = .returned x ∧ IsK 0 w' x (rknow st).1 ∧ Blk w' p 220 #[.string (bstr (rknow st).2.1), .bool (rknow st).2.2] ∧ Chg base [220] w w' := by
 have hxa := ((Ext.refl w).alloc (.cells #[.slice none 0 0, .slice none 0 0] 101)).alloc (.cells #[.slice none 0 0, .slice none 0 0] 101)
 have hbr := hb.ext hxa
 have hbk := Blk.new (w.alloc (.cells #[.slice none 0 0, .slice none 0 0] 101)) 101 #[.slice none 0 0, .slice none 0 0]
 rw [World.size_alloc] at hbk
 have hb2 := (Blk.new w 101 #[.slice none 0 0, .slice none 0 0]).ext ((Ext.refl _).alloc (.cells #[.slice none 0 0, .slice none 0 0] 101))
 have hx := Chg.of_ext (B := base) (ts := [220]) hxa
 clear hb
 obtain ⟨w1, hw1⟩ : ∃ x, x = (w.alloc (.cells #[.slice none 0 0, .slice none 0 0] 101)).alloc (.cells #[.slice none 0 0, .slice none 0 0] 101) := ⟨_, rfl⟩
 rw [← hw1] at hbr hbk hb2 hx
 obtain ⟨kb, hkb0⟩ : ∃ x, x = w.heap.size + 1 := ⟨_, rfl⟩
 obtain ⟨k2, hk20⟩ : ∃ x, x = w.heap.size := ⟨_, rfl⟩
 have hkb : w.heap.size ≤ kb := by omega
 have hkf : k2 ≠ kb := by omega
 have HK3 := hid (show w.heap.size ≤ k2 by omega)
 have HRk := hid (show rknow st = (⟨(rlist 5 (rnum 1000) st).1, (rlist 60 rdot (rlist 5 (rnum 1000) st).2).1⟩, (rlist 60 rdot (rlist 5 (rnum 1000) st).2).2) from rfl)
 go_enter Tryz.func132, Tryz.ntmps132
 go_wp2_with fail
 rw [← hw1, ← hkb0, ← hk20]
 rw [← hkb0] at hbk
 rw [← hk20] at hb2
 clear hw1 hkb0 hk20 hxa
 refine (rd_num base p 5 st w1 hp hbr).mono ?_
 rintro e w2 ⟨rfl, hbn, hc⟩
 clear hbr
 have hbr := hbn
 clear hbn
 replace hbk := hbk.chg hc (by decide)
 replace hb2 := hb2.chg hc (by decide)
 replace hx := hx.trans hc
 clear hc
 obtain ⟨N, hN, hNm⟩ := rnum_nat (most := 5) (by decide) st
 have HN1 := hid hNm
 have HR1 := hid (rlist_n (rnum 1000) hN)
 obtain ⟨s1, hs1⟩ : ∃ s, s = (rnum 5 st).2 := ⟨_, rfl⟩
 rw [← hs1] at hbr HR1
 rw [hN]
 clear hN hNm hs1
 go_wp2_with fail
 go_loopw [4] (fun i wr => ∃ (j r : Nat) (v : Value), j + r = N ∧ i = .int .i64 (r : Int) ∧ Blk wr p 220 #[.string (bstr (rmany (rnum 1000) j s1).2.1), .bool (rmany (rnum 1000) j s1).2.2] ∧ Blk wr kb 101 #[v, .slice none 0 0] ∧ Own RInt 1 3 wr w.heap.size v (rmany (rnum 1000) j s1).1 ∧ Chg base [220] w wr ∧ Blk wr k2 101 #[.slice none 0 0, .slice none 0 0]) (fun i _ => (intOf i).toNat)
 case atStart => exact ⟨0, N, _, Nat.zero_add _, rfl, hbr, hbk, Own.nil, hx, hb2⟩
 case round =>
  clear hbr hbk hx hb2
  obtain ⟨j, r, v, hjr, rfl, hbr, hbk, hov, hx, hb2⟩ := hrel
  by_cases hr0 : r = 0
  ·subst hr0
   obtain rfl : j = N := by omega
   obtain ⟨Av, cv, rfl, hcv, hmv⟩ := hov.len
   have hv1 := hov.isSl 0
   have hcv5 : (rmany (rnum 1000) j s1).1.length ≤ 5 := by rw [rmany_len]; have := HN1.out; omega
   obtain ⟨V, hV⟩ : ∃ l, l = (rmany (rnum 1000) j s1).1 := ⟨_, rfl⟩
   obtain ⟨s2, hs2⟩ : ∃ s, s = (rmany (rnum 1000) j s1).2 := ⟨_, rfl⟩
   rw [← hV] at hv1 hbk hcv hcv5
   rw [← hs2] at hbr
   have HR1' := hid (show rlist 5 (rnum 1000) st = (V, s2) by rw [HR1.out, hV, hs2])
   clear hov hV hs2 HR1
   go_wp2_with fail
   refine (rd_num base p 60 s2 wr hp hbr).mono ?_
   rintro e w3 ⟨rfl, hbn, hc⟩
   clear hbr
   have hbr := hbn
   clear hbn
   replace hbk := hbk.chg hc (by decide)
   replace hb2 := hb2.chg hc (by decide)
   replace hv1 := hv1.chg RInt.mono (by decide) (hc.down (Nat.zero_le _))
   replace hx := hx.trans hc
   clear hc
   obtain ⟨M, hN, hNm⟩ := rnum_nat (most := 60) (by decide) s2
   have HN2 := hid hNm
   have HR2 := hid (rlist_n rdot hN)
   obtain ⟨s3, hs1⟩ : ∃ s, s = (rnum 60 s2).2 := ⟨_, rfl⟩
   rw [← hs1] at hbr HR2
   rw [hN]
   clear hN hNm hs1
   go_wp2_with fail
   go_loopw [5] (fun i wr => ∃ (j r : Nat) (v : Value), j + r = M ∧ i = .int .i64 (r : Int) ∧ Blk wr p 220 #[.string (bstr (rmany rdot j s3).2.1), .bool (rmany rdot j s3).2.2] ∧ Blk wr kb 101 #[.slice Av V.length cv, v] ∧ Own RDot 2 35 wr w.heap.size v (rmany rdot j s3).1 ∧ Chg base [220] w wr ∧ Blk wr k2 101 #[.slice none 0 0, .slice none 0 0] ∧ IsInts 0 wr (.slice Av V.length cv) V) (fun i _ => (intOf i).toNat)
   case atStart => exact ⟨0, M, _, Nat.zero_add _, rfl, hbr, hbk, Own.nil, hx, hb2, hv1⟩
   case round =>
    clear hbr hbk hx hb2 hv1
    obtain ⟨j, r, v, hjr, rfl, hbr, hbk, hov, hx, hb2, hv1⟩ := hrel
    by_cases hr0 : r = 0
    ·subst hr0
     obtain rfl : j = M := by omega
     obtain ⟨Am, cm, rfl, hcm, hmm⟩ := hov.len
     have hm1 := hov.isSl 0
     have HF := hid (show rknow st = (⟨V, (rmany rdot j s3).1⟩, (rmany rdot j s3).2) by rw [HRk.out, HR1'.out, HR2.out])
     clear hov
     obtain ⟨D, hD⟩ : ∃ l, l = (rmany rdot j s3).1 := ⟨_, rfl⟩
     obtain ⟨s4, hs4⟩ : ∃ s, s = (rmany rdot j s3).2 := ⟨_, rfl⟩
     rw [← hD] at hm1 hbk hcm HF
     rw [← hs4] at hbr HF
     clear hD hs4
     have y0 := hbk.cell (i := 0) (u := .slice Av V.length cv) rfl
     have y1 := hbk.cell (i := 1) (u := .slice Am D.length cm) rfl
     have y2 := hb2.cell (i := 0) (u := .slice none 0 0) rfl
     have y3 := hb2.cell (i := 1) (u := .slice none 0 0) rfl
     have z2 := hb2.frozen 0
     have z3 := hb2.frozen 1
     have HB2 := hid hb2
     have HBR := hid hbr
     have HXX := hid hx
     have HV1 := hid hv1
     have HM1 := hid hm1
     have HKF := hid hkf
     clear hb2 hbr hbk hx hv1 hm1 hkf hcv hcm hmv hmm
     go_wp2_with fail
     have hch := ((Chg.refl (B := 0) (ts := [101]) wr).setCell (p := ⟨k2, 0, none⟩) HB2.out.ty (by simp) (.slice Av V.length cv) (Nat.zero_le _)).setCell (p := ⟨k2, 1, none⟩) (tyAt_put HB2.out.ty) (by simp) (.slice Am D.length cm) (Nat.zero_le _)
     refine bodyPost_ret (v := .agg #[.slice Av V.length cv, .slice Am D.length cm]) (res_rknow (b := k2) rfl ?_ ?_ rfl) rfl ⟨_, rfl, ?_, ?_, ?_⟩
     ·go_simp
     ·go_simp
     ·rw [HF.out]
      exact IsK.of (HV1.out.chg RInt.mono (by decide) hch) (HM1.out.chg RPair.mono (by decide) hch)
     ·rw [HF.out]
      exact HBR.out.chg hch (by decide)
     ·exact (HXX.out.below ((Below.refl _ _).setCell (p := ⟨k2, 0, none⟩) HK3.out _)).below ((Below.refl _ _).setCell (p := ⟨k2, 1, none⟩) HK3.out _)
    ·obtain ⟨q, rfl⟩ : ∃ q, r = q + 1 := ⟨r - 1, by omega⟩
     have hd : decide ((0 : Int) < ((q + 1 : Nat) : Int)) = true := decide_eq_true (by omega)
     have hqs : (q : Int) ≤ 1000 := by have := HN2.out; omega
     have HS := hid (rmany_succ rdot j s3)
     have HLen := hid (show (rmany rdot j s3).1.length + 1 ≤ 1000 by rw [rmany_len]; have := HN2.out; omega)
     obtain ⟨l, hl⟩ : ∃ l, l = (rmany rdot j s3).1 := ⟨_, rfl⟩
     obtain ⟨s, hs⟩ : ∃ s, s = (rmany rdot j s3).2 := ⟨_, rfl⟩
     rw [← hl] at hov HLen HS
     rw [← hs] at hbr HS
     clear hl hs hr0
     go_wp2_with fail
     clear hd
     have hxa := (Ext.refl wr).drew
     replace hbk := hbk.ext hxa
     replace hov := hov.ext (B := 0) RPair.mono hxa
     replace hx := hx.trans (Chg.of_ext hxa)
     replace hb2 := hb2.ext hxa
     replace hv1 := hv1.ext RInt.mono hxa
     replace hbr := hbr.ext hxa
     refine wp_region_held_drew (S := fun _ => True) (by kernel_rfl) trivial (fun hHeld => ?_)
     obtain ⟨wc, hwc⟩ : ∃ wc, wc = wr.drew := ⟨_, rfl⟩
     rw [← hwc] at hbk hov hx hb2 hv1 hbr ⊢
     clear hwc hxa
     refine tk 0 ?_ rfl (by kernel_rfl) (fun _ _ _ h => h) (by rfl) ?_ (by assumption) ?_
     rotate_left
     ·intro w' hSw; (try dsimp only at hSw); go_simp <;> with_reducible rfl
     simp only [gq]; try simp only [pq]
     refine tk 2 ?_ rfl (by kernel_rfl) (fun _ _ _ h => h) (by rfl) ?_ (by assumption) ?_
     rotate_left
     ·intro w' hSw; (try dsimp only at hSw); go_simp <;> with_reducible rfl
     simp only [gq]; try simp only [pq]
     refine tk 4 ?_ rfl (by kernel_rfl) (fun _ _ _ h => h) (by rfl) ?_ (by assumption) ?_
     rotate_left
     ·intro w' hSw; (try dsimp only at hSw); go_simp <;> with_reducible rfl
     simp only [gq]; try simp only [pq]
     refine wpAnyH_ready (rs := [1, 3]) (by kernel_rfl) (by simp) ?_
     refine AllReadyH.cons rfl (fun K hK => ?_) ?_
     ·simp only [gq]
      have y0 := hbk.cell (i := 1) (u := v) rfl
      go_simp
      clear y0
      refine hK.out _ _ trivial (fun hHeld => ?_)
      clear hK K
      try simp only [pq]
      refine wpAnyH_ready (rs := [3]) (by kernel_rfl) (by simp) ?_
      refine AllReadyH.cons rfl (fun K hK => ?_) AllReadyH.nil
      simp only [gq]
      go_simp
      refine (rd_num base p 5 (s) wc hp hbr).mono ?_
      rintro e wn ⟨rfl, hbn, hc⟩
      dsimp only
      clear hbr
      have hbr := hbn
      clear hbn
      replace hbk := hbk.chg hc (by decide)
      replace hov := hov.chgT (B := base) RPair.mono (by decide) hc
      replace hx := hx.trans hc
      replace hb2 := hb2.chg hc (by decide)
      replace hv1 := hv1.chg RInt.mono (by decide) (hc.down (Nat.zero_le _))
      clear hc
      obtain ⟨wc, rfl⟩ : ∃ wc', wc' = wn := ⟨_, rfl⟩
      refine hK.out _ _ trivial (fun hHeld => ?_)
      clear hK K
      try simp only [pq]
      refine wpAnyH_ready (rs := [5]) (by kernel_rfl) (by simp) ?_
      refine AllReadyH.cons rfl (fun K hK => ?_) AllReadyH.nil
      simp only [gq]
      go_simp
      refine (rd_num base p 1000 ((rnum 5 s).2) wc hp hbr).mono ?_
      rintro e wn ⟨rfl, hbn, hc⟩
      dsimp only
      clear hbr
      have hbr := hbn
      clear hbn
      replace hbk := hbk.chg hc (by decide)
      replace hov := hov.chgT (B := base) RPair.mono (by decide) hc
      replace hx := hx.trans hc
      replace hb2 := hb2.chg hc (by decide)
      replace hv1 := hv1.chg RInt.mono (by decide) (hc.down (Nat.zero_le _))
      clear hc
      obtain ⟨wc, rfl⟩ : ∃ wc', wc' = wn := ⟨_, rfl⟩
      refine hK.out _ _ trivial (fun hHeld => ?_)
      clear hK K
      try simp only [pq]
      refine tk 6 ?_ rfl (by kernel_rfl) (fun _ _ _ h => h) (by rfl) ?_ (by assumption) ?_
      rotate_left
      ·intro w' hSw; (try dsimp only at hSw); go_simp <;> with_reducible rfl
      simp only [gq]; try simp only [pq]
      refine wpAnyH_ready (rs := [7]) (by kernel_rfl) (by simp) ?_
      refine AllReadyH.cons rfl (fun K hK => ?_) AllReadyH.nil
      simp only [gq]
      go_simp
      have hxa := (Ext.refl wc).alloc (.cells #[.int .i64 (rnum 5 s).1, .int .i64 (rnum 1000 (rnum 5 s).2).1] 35)
      obtain ⟨wn, hwn⟩ : ∃ wn, wn = wc.alloc (.cells #[.int .i64 (rnum 5 s).1, .int .i64 (rnum 1000 (rnum 5 s).2).1] 35) := ⟨_, rfl⟩
      rw [← hwn] at hxa
      replace hbk := hbk.ext hxa
      replace hov := hov.ext (B := 0) RPair.mono hxa
      replace hx := hx.trans (Chg.of_ext hxa)
      replace hb2 := hb2.ext hxa
      replace hv1 := hv1.ext RInt.mono hxa
      replace hbr := hbr.ext hxa
      have hL : Sl 0 35 RDot 2 wn (some ⟨wc.heap.size, 0, none⟩) [(rdot s).1] := Sl.one (cs := [.int .i64 (rnum 5 s).1, .int .i64 (rnum 1000 (rnum 5 s).2).1]) hwn rfl rfl
      obtain ⟨a4, ha4⟩ : ∃ a, a = some (⟨wc.heap.size, 0, none⟩ : Addr) := ⟨_, rfl⟩
      rw [← hwn, ← ha4]
      rw [← ha4] at hL
      clear hxa hwn ha4
      obtain ⟨wc, rfl⟩ : ∃ wc', wc' = wn := ⟨_, rfl⟩
      refine hK.out _ _ trivial (fun hHeld => ?_)
      clear hK K
      try simp only [pq]
      refine wpAnyH_ready (rs := [8]) (by kernel_rfl) (by simp) ?_
      refine AllReadyH.cons rfl (fun K hK => ?_) AllReadyH.nil
      simp only [gq]
      simp only [Region.wanted, if_true]
      refine wp_app (.tmp 26) (.tmp 32) rfl ei_dot rfl hov (B := 0) (Nat.zero_le _) hx.size (ys := [(rdot s).1]) (c := 1) rfl hL RPair.oneC RPair.mono (by have := HLen.out; simp [maxLen]; omega) (by have := HLen.out; simp; omega) ?_
      intro v5 wn hov5 hch hbl _
      replace hbr := hbr.chg hch (by decide)
      replace hbk := hbk.chg hch (by decide)
      replace hx := hx.below hbl
      replace hb2 := hb2.chg hch (by decide)
      replace hv1 := hv1.chg RInt.mono (by decide) hch
      clear hch hbl hov hL
      obtain ⟨wc, rfl⟩ : ∃ wc', wc' = wn := ⟨_, rfl⟩
      refine hK.out _ _ trivial (fun hHeld => ?_)
      clear hK K
      try simp only [pq]
      refine tk 9 ?_ rfl (by kernel_rfl) (fun _ _ _ h => h) (by rfl) ?_ (by assumption) ?_
      rotate_left
      ·intro w' hSw; (try dsimp only at hSw); go_simp <;> with_reducible rfl
      simp only [gq]; try simp only [pq]
      refine wpAnyH_ready (rs := [10]) (by kernel_rfl) (by simp) ?_
      refine AllReadyH.cons rfl (fun K hK => ?_) AllReadyH.nil
      simp only [gq]
      obtain ⟨A5, c5, hv5, _, _⟩ := hov5.len
      obtain ⟨n5, hn5⟩ : ∃ n, n = (l ++ [(rdot s).1]).length := ⟨_, rfl⟩
      rw [← hn5] at hv5
      subst hv5
      clear hn5
      obtain ⟨v5, hv5⟩ : ∃ v, v = Value.slice A5 n5 c5 := ⟨_, rfl⟩
      rw [← hv5] at hov5
      have y0 := hbk.cell (i := 1) (u := v) rfl
      have z0 := hbk.frozen 1
      go_simp
      rw [← hv5]
      clear hv5
      have hch := (Chg.refl (B := 0) (ts := [101]) wc).setCell (p := ⟨kb, 1, none⟩) hbk.ty (by simp) v5 (Nat.zero_le _)
      have hbl : Below w.heap.size wc (wc.setCell ⟨kb, 1, none⟩ v5) := (Below.refl _ _).setCell (p := ⟨kb, 1, none⟩) hkb v5
      replace hbr := hbr.chg hch (by decide)
      replace hov5 := hov5.chgT (B := 0) RPair.mono (by decide) hch
      replace hx := hx.below hbl
      replace hb2 := hb2.far (p := ⟨kb, 1, none⟩) hkf v5
      replace hv1 := hv1.chg RInt.mono (by decide) hch
      replace hbk := hbk.set 1 v5
      clear y0 z0 hch hbl
      obtain ⟨wn, hwn⟩ : ∃ wn, wn = wc.setCell ⟨kb, 1, none⟩ v5 := ⟨_, rfl⟩
      rw [← hwn] at hbr hov5 hbk hx hb2 hv1 ⊢
      clear hwn
      obtain ⟨wc, rfl⟩ : ∃ wc', wc' = wn := ⟨_, rfl⟩
      refine hK.out _ _ trivial (fun hHeld => ?_)
      clear hK K
      try simp only [pq]
      refine wpAnyH_done (by kernel_rfl) ?_ _
      go_wp2_with fail
      go_roundw
      case rel => exact ⟨j + 1, q, v5, by omega, by first | rfl | go_num, by rw [HS.out]; exact hbr, hbk, by rw [HS.out]; exact hov5, hx, hb2, hv1⟩
      case measure => simp [intOf]
     refine AllReadyH.cons rfl (fun K hK => ?_) AllReadyH.nil
     simp only [gq]
     go_simp
     refine (rd_num base p 5 (s) wc hp hbr).mono ?_
     rintro e wn ⟨rfl, hbn, hc⟩
     dsimp only
     clear hbr
     have hbr := hbn
     clear hbn
     replace hbk := hbk.chg hc (by decide)
     replace hov := hov.chgT (B := base) RPair.mono (by decide) hc
     replace hx := hx.trans hc
     replace hb2 := hb2.chg hc (by decide)
     replace hv1 := hv1.chg RInt.mono (by decide) (hc.down (Nat.zero_le _))
     clear hc
     obtain ⟨wc, rfl⟩ : ∃ wc', wc' = wn := ⟨_, rfl⟩
     refine hK.out _ _ trivial (fun hHeld => ?_)
     clear hK K
     try simp only [pq]
     refine wpAnyH_ready (rs := [1, 5]) (by kernel_rfl) (by simp) ?_
     refine AllReadyH.cons rfl (fun K hK => ?_) ?_
     ·simp only [gq]
      have y0 := hbk.cell (i := 1) (u := v) rfl
      go_simp
      clear y0
      refine hK.out _ _ trivial (fun hHeld => ?_)
      clear hK K
      try simp only [pq]
      refine wpAnyH_ready (rs := [5]) (by kernel_rfl) (by simp) ?_
      refine AllReadyH.cons rfl (fun K hK => ?_) AllReadyH.nil
      simp only [gq]
      go_simp
      refine (rd_num base p 1000 ((rnum 5 s).2) wc hp hbr).mono ?_
      rintro e wn ⟨rfl, hbn, hc⟩
      dsimp only
      clear hbr
      have hbr := hbn
      clear hbn
      replace hbk := hbk.chg hc (by decide)
      replace hov := hov.chgT (B := base) RPair.mono (by decide) hc
      replace hx := hx.trans hc
      replace hb2 := hb2.chg hc (by decide)
      replace hv1 := hv1.chg RInt.mono (by decide) (hc.down (Nat.zero_le _))
      clear hc
      obtain ⟨wc, rfl⟩ : ∃ wc', wc' = wn := ⟨_, rfl⟩
      refine hK.out _ _ trivial (fun hHeld => ?_)
      clear hK K
      try simp only [pq]
      refine tk 6 ?_ rfl (by kernel_rfl) (fun _ _ _ h => h) (by rfl) ?_ (by assumption) ?_
      rotate_left
      ·intro w' hSw; (try dsimp only at hSw); go_simp <;> with_reducible rfl
      simp only [gq]; try simp only [pq]
      refine wpAnyH_ready (rs := [7]) (by kernel_rfl) (by simp) ?_
      refine AllReadyH.cons rfl (fun K hK => ?_) AllReadyH.nil
      simp only [gq]
      go_simp
      have hxa := (Ext.refl wc).alloc (.cells #[.int .i64 (rnum 5 s).1, .int .i64 (rnum 1000 (rnum 5 s).2).1] 35)
      obtain ⟨wn, hwn⟩ : ∃ wn, wn = wc.alloc (.cells #[.int .i64 (rnum 5 s).1, .int .i64 (rnum 1000 (rnum 5 s).2).1] 35) := ⟨_, rfl⟩
      rw [← hwn] at hxa
      replace hbk := hbk.ext hxa
      replace hov := hov.ext (B := 0) RPair.mono hxa
      replace hx := hx.trans (Chg.of_ext hxa)
      replace hb2 := hb2.ext hxa
      replace hv1 := hv1.ext RInt.mono hxa
      replace hbr := hbr.ext hxa
      have hL : Sl 0 35 RDot 2 wn (some ⟨wc.heap.size, 0, none⟩) [(rdot s).1] := Sl.one (cs := [.int .i64 (rnum 5 s).1, .int .i64 (rnum 1000 (rnum 5 s).2).1]) hwn rfl rfl
      obtain ⟨a4, ha4⟩ : ∃ a, a = some (⟨wc.heap.size, 0, none⟩ : Addr) := ⟨_, rfl⟩
      rw [← hwn, ← ha4]
      rw [← ha4] at hL
      clear hxa hwn ha4
      obtain ⟨wc, rfl⟩ : ∃ wc', wc' = wn := ⟨_, rfl⟩
      refine hK.out _ _ trivial (fun hHeld => ?_)
      clear hK K
      try simp only [pq]
      refine wpAnyH_ready (rs := [8]) (by kernel_rfl) (by simp) ?_
      refine AllReadyH.cons rfl (fun K hK => ?_) AllReadyH.nil
      simp only [gq]
      simp only [Region.wanted, if_true]
      refine wp_app (.tmp 26) (.tmp 32) rfl ei_dot rfl hov (B := 0) (Nat.zero_le _) hx.size (ys := [(rdot s).1]) (c := 1) rfl hL RPair.oneC RPair.mono (by have := HLen.out; simp [maxLen]; omega) (by have := HLen.out; simp; omega) ?_
      intro v5 wn hov5 hch hbl _
      replace hbr := hbr.chg hch (by decide)
      replace hbk := hbk.chg hch (by decide)
      replace hx := hx.below hbl
      replace hb2 := hb2.chg hch (by decide)
      replace hv1 := hv1.chg RInt.mono (by decide) hch
      clear hch hbl hov hL
      obtain ⟨wc, rfl⟩ : ∃ wc', wc' = wn := ⟨_, rfl⟩
      refine hK.out _ _ trivial (fun hHeld => ?_)
      clear hK K
      try simp only [pq]
      refine tk 9 ?_ rfl (by kernel_rfl) (fun _ _ _ h => h) (by rfl) ?_ (by assumption) ?_
      rotate_left
      ·intro w' hSw; (try dsimp only at hSw); go_simp <;> with_reducible rfl
      simp only [gq]; try simp only [pq]
      refine wpAnyH_ready (rs := [10]) (by kernel_rfl) (by simp) ?_
      refine AllReadyH.cons rfl (fun K hK => ?_) AllReadyH.nil
      simp only [gq]
      obtain ⟨A5, c5, hv5, _, _⟩ := hov5.len
      obtain ⟨n5, hn5⟩ : ∃ n, n = (l ++ [(rdot s).1]).length := ⟨_, rfl⟩
      rw [← hn5] at hv5
      subst hv5
      clear hn5
      obtain ⟨v5, hv5⟩ : ∃ v, v = Value.slice A5 n5 c5 := ⟨_, rfl⟩
      rw [← hv5] at hov5
      have y0 := hbk.cell (i := 1) (u := v) rfl
      have z0 := hbk.frozen 1
      go_simp
      rw [← hv5]
      clear hv5
      have hch := (Chg.refl (B := 0) (ts := [101]) wc).setCell (p := ⟨kb, 1, none⟩) hbk.ty (by simp) v5 (Nat.zero_le _)
      have hbl : Below w.heap.size wc (wc.setCell ⟨kb, 1, none⟩ v5) := (Below.refl _ _).setCell (p := ⟨kb, 1, none⟩) hkb v5
      replace hbr := hbr.chg hch (by decide)
      replace hov5 := hov5.chgT (B := 0) RPair.mono (by decide) hch
      replace hx := hx.below hbl
      replace hb2 := hb2.far (p := ⟨kb, 1, none⟩) hkf v5
      replace hv1 := hv1.chg RInt.mono (by decide) hch
      replace hbk := hbk.set 1 v5
      clear y0 z0 hch hbl
      obtain ⟨wn, hwn⟩ : ∃ wn, wn = wc.setCell ⟨kb, 1, none⟩ v5 := ⟨_, rfl⟩
      rw [← hwn] at hbr hov5 hbk hx hb2 hv1 ⊢
      clear hwn
      obtain ⟨wc, rfl⟩ : ∃ wc', wc' = wn := ⟨_, rfl⟩
      refine hK.out _ _ trivial (fun hHeld => ?_)
      clear hK K
      try simp only [pq]
      refine wpAnyH_done (by kernel_rfl) ?_ _
      go_wp2_with fail
      go_roundw
      case rel => exact ⟨j + 1, q, v5, by omega, by first | rfl | go_num, by rw [HS.out]; exact hbr, hbk, by rw [HS.out]; exact hov5, hx, hb2, hv1⟩
      case measure => simp [intOf]
     refine AllReadyH.cons rfl (fun K hK => ?_) AllReadyH.nil
     simp only [gq]
     go_simp
     refine (rd_num base p 1000 ((rnum 5 s).2) wc hp hbr).mono ?_
     rintro e wn ⟨rfl, hbn, hc⟩
     dsimp only
     clear hbr
     have hbr := hbn
     clear hbn
     replace hbk := hbk.chg hc (by decide)
     replace hov := hov.chgT (B := base) RPair.mono (by decide) hc
     replace hx := hx.trans hc
     replace hb2 := hb2.chg hc (by decide)
     replace hv1 := hv1.chg RInt.mono (by decide) (hc.down (Nat.zero_le _))
     clear hc
     obtain ⟨wc, rfl⟩ : ∃ wc', wc' = wn := ⟨_, rfl⟩
     refine hK.out _ _ trivial (fun hHeld => ?_)
     clear hK K
     try simp only [pq]
     refine tk 6 ?_ rfl (by kernel_rfl) (fun _ _ _ h => h) (by rfl) ?_ (by assumption) ?_
     rotate_left
     ·intro w' hSw; (try dsimp only at hSw); go_simp <;> with_reducible rfl
     simp only [gq]; try simp only [pq]
     refine wpAnyH_ready (rs := [1, 7]) (by kernel_rfl) (by simp) ?_
     refine AllReadyH.cons rfl (fun K hK => ?_) ?_
     ·simp only [gq]
      have y0 := hbk.cell (i := 1) (u := v) rfl
      go_simp
      clear y0
      refine hK.out _ _ trivial (fun hHeld => ?_)
      clear hK K
      try simp only [pq]
      refine wpAnyH_ready (rs := [7]) (by kernel_rfl) (by simp) ?_
      refine AllReadyH.cons rfl (fun K hK => ?_) AllReadyH.nil
      simp only [gq]
      go_simp
      have hxa := (Ext.refl wc).alloc (.cells #[.int .i64 (rnum 5 s).1, .int .i64 (rnum 1000 (rnum 5 s).2).1] 35)
      obtain ⟨wn, hwn⟩ : ∃ wn, wn = wc.alloc (.cells #[.int .i64 (rnum 5 s).1, .int .i64 (rnum 1000 (rnum 5 s).2).1] 35) := ⟨_, rfl⟩
      rw [← hwn] at hxa
      replace hbk := hbk.ext hxa
      replace hov := hov.ext (B := 0) RPair.mono hxa
      replace hx := hx.trans (Chg.of_ext hxa)
      replace hb2 := hb2.ext hxa
      replace hv1 := hv1.ext RInt.mono hxa
      replace hbr := hbr.ext hxa
      have hL : Sl 0 35 RDot 2 wn (some ⟨wc.heap.size, 0, none⟩) [(rdot s).1] := Sl.one (cs := [.int .i64 (rnum 5 s).1, .int .i64 (rnum 1000 (rnum 5 s).2).1]) hwn rfl rfl
      obtain ⟨a4, ha4⟩ : ∃ a, a = some (⟨wc.heap.size, 0, none⟩ : Addr) := ⟨_, rfl⟩
      rw [← hwn, ← ha4]
      rw [← ha4] at hL
      clear hxa hwn ha4
      obtain ⟨wc, rfl⟩ : ∃ wc', wc' = wn := ⟨_, rfl⟩
      refine hK.out _ _ trivial (fun hHeld => ?_)
      clear hK K
      try simp only [pq]
      refine wpAnyH_ready (rs := [8]) (by kernel_rfl) (by simp) ?_
      refine AllReadyH.cons rfl (fun K hK => ?_) AllReadyH.nil
      simp only [gq]
      simp only [Region.wanted, if_true]
      refine wp_app (.tmp 26) (.tmp 32) rfl ei_dot rfl hov (B := 0) (Nat.zero_le _) hx.size (ys := [(rdot s).1]) (c := 1) rfl hL RPair.oneC RPair.mono (by have := HLen.out; simp [maxLen]; omega) (by have := HLen.out; simp; omega) ?_
      intro v5 wn hov5 hch hbl _
      replace hbr := hbr.chg hch (by decide)
      replace hbk := hbk.chg hch (by decide)
      replace hx := hx.below hbl
      replace hb2 := hb2.chg hch (by decide)
      replace hv1 := hv1.chg RInt.mono (by decide) hch
      clear hch hbl hov hL
      obtain ⟨wc, rfl⟩ : ∃ wc', wc' = wn := ⟨_, rfl⟩
      refine hK.out _ _ trivial (fun hHeld => ?_)
      clear hK K
      try simp only [pq]
      refine tk 9 ?_ rfl (by kernel_rfl) (fun _ _ _ h => h) (by rfl) ?_ (by assumption) ?_
      rotate_left
      ·intro w' hSw; (try dsimp only at hSw); go_simp <;> with_reducible rfl
      simp only [gq]; try simp only [pq]
      refine wpAnyH_ready (rs := [10]) (by kernel_rfl) (by simp) ?_
      refine AllReadyH.cons rfl (fun K hK => ?_) AllReadyH.nil
      simp only [gq]
      obtain ⟨A5, c5, hv5, _, _⟩ := hov5.len
      obtain ⟨n5, hn5⟩ : ∃ n, n = (l ++ [(rdot s).1]).length := ⟨_, rfl⟩
      rw [← hn5] at hv5
      subst hv5
      clear hn5
      obtain ⟨v5, hv5⟩ : ∃ v, v = Value.slice A5 n5 c5 := ⟨_, rfl⟩
      rw [← hv5] at hov5
      have y0 := hbk.cell (i := 1) (u := v) rfl
      have z0 := hbk.frozen 1
      go_simp
      rw [← hv5]
      clear hv5
      have hch := (Chg.refl (B := 0) (ts := [101]) wc).setCell (p := ⟨kb, 1, none⟩) hbk.ty (by simp) v5 (Nat.zero_le _)
      have hbl : Below w.heap.size wc (wc.setCell ⟨kb, 1, none⟩ v5) := (Below.refl _ _).setCell (p := ⟨kb, 1, none⟩) hkb v5
      replace hbr := hbr.chg hch (by decide)
      replace hov5 := hov5.chgT (B := 0) RPair.mono (by decide) hch
      replace hx := hx.below hbl
      replace hb2 := hb2.far (p := ⟨kb, 1, none⟩) hkf v5
      replace hv1 := hv1.chg RInt.mono (by decide) hch
      replace hbk := hbk.set 1 v5
      clear y0 z0 hch hbl
      obtain ⟨wn, hwn⟩ : ∃ wn, wn = wc.setCell ⟨kb, 1, none⟩ v5 := ⟨_, rfl⟩
      rw [← hwn] at hbr hov5 hbk hx hb2 hv1 ⊢
      clear hwn
      obtain ⟨wc, rfl⟩ : ∃ wc', wc' = wn := ⟨_, rfl⟩
      refine hK.out _ _ trivial (fun hHeld => ?_)
      clear hK K
      try simp only [pq]
      refine wpAnyH_done (by kernel_rfl) ?_ _
      go_wp2_with fail
      go_roundw
      case rel => exact ⟨j + 1, q, v5, by omega, by first | rfl | go_num, by rw [HS.out]; exact hbr, hbk, by rw [HS.out]; exact hov5, hx, hb2, hv1⟩
      case measure => simp [intOf]
     refine AllReadyH.cons rfl (fun K hK => ?_) AllReadyH.nil
     simp only [gq]
     go_simp
     have hxa := (Ext.refl wc).alloc (.cells #[.int .i64 (rnum 5 s).1, .int .i64 (rnum 1000 (rnum 5 s).2).1] 35)
     obtain ⟨wn, hwn⟩ : ∃ wn, wn = wc.alloc (.cells #[.int .i64 (rnum 5 s).1, .int .i64 (rnum 1000 (rnum 5 s).2).1] 35) := ⟨_, rfl⟩
     rw [← hwn] at hxa
     replace hbk := hbk.ext hxa
     replace hov := hov.ext (B := 0) RPair.mono hxa
     replace hx := hx.trans (Chg.of_ext hxa)
     replace hb2 := hb2.ext hxa
     replace hv1 := hv1.ext RInt.mono hxa
     replace hbr := hbr.ext hxa
     have hL : Sl 0 35 RDot 2 wn (some ⟨wc.heap.size, 0, none⟩) [(rdot s).1] := Sl.one (cs := [.int .i64 (rnum 5 s).1, .int .i64 (rnum 1000 (rnum 5 s).2).1]) hwn rfl rfl
     obtain ⟨a4, ha4⟩ : ∃ a, a = some (⟨wc.heap.size, 0, none⟩ : Addr) := ⟨_, rfl⟩
     rw [← hwn, ← ha4]
     rw [← ha4] at hL
     clear hxa hwn ha4
     obtain ⟨wc, rfl⟩ : ∃ wc', wc' = wn := ⟨_, rfl⟩
     refine hK.out _ _ trivial (fun hHeld => ?_)
     clear hK K
     try simp only [pq]
     refine wpAnyH_ready (rs := [1]) (by kernel_rfl) (by simp) ?_
     refine AllReadyH.cons rfl (fun K hK => ?_) AllReadyH.nil
     simp only [gq]
     have y0 := hbk.cell (i := 1) (u := v) rfl
     go_simp
     clear y0
     refine hK.out _ _ trivial (fun hHeld => ?_)
     clear hK K
     try simp only [pq]
     refine wpAnyH_ready (rs := [8]) (by kernel_rfl) (by simp) ?_
     refine AllReadyH.cons rfl (fun K hK => ?_) AllReadyH.nil
     simp only [gq]
     simp only [Region.wanted, if_true]
     refine wp_app (.tmp 26) (.tmp 32) rfl ei_dot rfl hov (B := 0) (Nat.zero_le _) hx.size (ys := [(rdot s).1]) (c := 1) rfl hL RPair.oneC RPair.mono (by have := HLen.out; simp [maxLen]; omega) (by have := HLen.out; simp; omega) ?_
     intro v5 wn hov5 hch hbl _
     replace hbr := hbr.chg hch (by decide)
     replace hbk := hbk.chg hch (by decide)
     replace hx := hx.below hbl
     replace hb2 := hb2.chg hch (by decide)
     replace hv1 := hv1.chg RInt.mono (by decide) hch
     clear hch hbl hov hL
     obtain ⟨wc, rfl⟩ : ∃ wc', wc' = wn := ⟨_, rfl⟩
     refine hK.out _ _ trivial (fun hHeld => ?_)
     clear hK K
     try simp only [pq]
     refine tk 9 ?_ rfl (by kernel_rfl) (fun _ _ _ h => h) (by rfl) ?_ (by assumption) ?_
     rotate_left
     ·intro w' hSw; (try dsimp only at hSw); go_simp <;> with_reducible rfl
     simp only [gq]; try simp only [pq]
     refine wpAnyH_ready (rs := [10]) (by kernel_rfl) (by simp) ?_
     refine AllReadyH.cons rfl (fun K hK => ?_) AllReadyH.nil
     simp only [gq]
     obtain ⟨A5, c5, hv5, _, _⟩ := hov5.len
     obtain ⟨n5, hn5⟩ : ∃ n, n = (l ++ [(rdot s).1]).length := ⟨_, rfl⟩
     rw [← hn5] at hv5
     subst hv5
     clear hn5
     obtain ⟨v5, hv5⟩ : ∃ v, v = Value.slice A5 n5 c5 := ⟨_, rfl⟩
     rw [← hv5] at hov5
     have y0 := hbk.cell (i := 1) (u := v) rfl
     have z0 := hbk.frozen 1
     go_simp
     rw [← hv5]
     clear hv5
     have hch := (Chg.refl (B := 0) (ts := [101]) wc).setCell (p := ⟨kb, 1, none⟩) hbk.ty (by simp) v5 (Nat.zero_le _)
     have hbl : Below w.heap.size wc (wc.setCell ⟨kb, 1, none⟩ v5) := (Below.refl _ _).setCell (p := ⟨kb, 1, none⟩) hkb v5
     replace hbr := hbr.chg hch (by decide)
     replace hov5 := hov5.chgT (B := 0) RPair.mono (by decide) hch
     replace hx := hx.below hbl
     replace hb2 := hb2.far (p := ⟨kb, 1, none⟩) hkf v5
     replace hv1 := hv1.chg RInt.mono (by decide) hch
     replace hbk := hbk.set 1 v5
     clear y0 z0 hch hbl
     obtain ⟨wn, hwn⟩ : ∃ wn, wn = wc.setCell ⟨kb, 1, none⟩ v5 := ⟨_, rfl⟩
     rw [← hwn] at hbr hov5 hbk hx hb2 hv1 ⊢
     clear hwn
     obtain ⟨wc, rfl⟩ : ∃ wc', wc' = wn := ⟨_, rfl⟩
     refine hK.out _ _ trivial (fun hHeld => ?_)
     clear hK K
     try simp only [pq]
     refine wpAnyH_done (by kernel_rfl) ?_ _
     go_wp2_with fail
     go_roundw
     case rel => exact ⟨j + 1, q, v5, by omega, by first | rfl | go_num, by rw [HS.out]; exact hbr, hbk, by rw [HS.out]; exact hov5, hx, hb2, hv1⟩
     case measure => simp [intOf]
  ·obtain ⟨q, rfl⟩ : ∃ q, r = q + 1 := ⟨r - 1, by omega⟩
   have hd : decide ((0 : Int) < ((q + 1 : Nat) : Int)) = true := decide_eq_true (by omega)
   have hqs : (q : Int) ≤ 1000 := by have := HN1.out; omega
   have HS := hid (rmany_succ (rnum 1000) j s1)
   have HLen := hid (show (rmany (rnum 1000) j s1).1.length + 1 ≤ 1000 by rw [rmany_len]; have := HN1.out; omega)
   obtain ⟨l, hl⟩ : ∃ l, l = (rmany (rnum 1000) j s1).1 := ⟨_, rfl⟩
   obtain ⟨s, hs⟩ : ∃ s, s = (rmany (rnum 1000) j s1).2 := ⟨_, rfl⟩
   rw [← hl] at hov HLen HS
   rw [← hs] at hbr HS
   clear hl hs hr0
   go_wp2_with fail
   clear hd
   have hxa := (Ext.refl wr).drew
   replace hbk := hbk.ext hxa
   replace hov := hov.ext (B := 0) RInt.mono hxa
   replace hx := hx.trans (Chg.of_ext hxa)
   replace hb2 := hb2.ext hxa
   replace hbr := hbr.ext hxa
   refine wp_region_held_drew (S := fun _ => True) (by kernel_rfl) trivial (fun hHeld => ?_)
   obtain ⟨wc, hwc⟩ : ∃ wc, wc = wr.drew := ⟨_, rfl⟩
   rw [← hwc] at hbk hov hx hb2 hbr ⊢
   clear hwc hxa
   refine tk 0 ?_ rfl (by kernel_rfl) (fun _ _ _ h => h) (by rfl) ?_ (by assumption) ?_
   rotate_left
   ·intro w' hSw; (try dsimp only at hSw); go_simp <;> with_reducible rfl
   simp only [gq]; try simp only [pq]
   refine tk 2 ?_ rfl (by kernel_rfl) (fun _ _ _ h => h) (by rfl) ?_ (by assumption) ?_
   rotate_left
   ·intro w' hSw; (try dsimp only at hSw); go_simp <;> with_reducible rfl
   simp only [gq]; try simp only [pq]
   refine wpAnyH_ready (rs := [1, 3]) (by kernel_rfl) (by simp) ?_
   refine AllReadyH.cons rfl (fun K hK => ?_) ?_
   ·simp only [gq]
    have y0 := hbk.cell (i := 0) (u := v) rfl
    go_simp
    clear y0
    refine hK.out _ _ trivial (fun hHeld => ?_)
    clear hK K
    try simp only [pq]
    refine wpAnyH_ready (rs := [3]) (by kernel_rfl) (by simp) ?_
    refine AllReadyH.cons rfl (fun K hK => ?_) AllReadyH.nil
    simp only [gq]
    go_simp
    refine (rd_num base p 1000 (s) wc hp hbr).mono ?_
    rintro e wn ⟨rfl, hbn, hc⟩
    dsimp only
    clear hbr
    have hbr := hbn
    clear hbn
    replace hbk := hbk.chg hc (by decide)
    replace hov := hov.chgT (B := base) RInt.mono (by decide) hc
    replace hx := hx.trans hc
    replace hb2 := hb2.chg hc (by decide)
    clear hc
    obtain ⟨wc, rfl⟩ : ∃ wc', wc' = wn := ⟨_, rfl⟩
    refine hK.out _ _ trivial (fun hHeld => ?_)
    clear hK K
    try simp only [pq]
    refine wpAnyH_ready (rs := [4]) (by kernel_rfl) (by simp) ?_
    refine AllReadyH.cons rfl (fun K hK => ?_) AllReadyH.nil
    simp only [gq]
    go_simp
    have hxa := (Ext.refl wc).alloc (.cells #[.int .i64 (rnum 1000 s).1] 3)
    obtain ⟨wn, hwn⟩ : ∃ wn, wn = wc.alloc (.cells #[.int .i64 (rnum 1000 s).1] 3) := ⟨_, rfl⟩
    rw [← hwn] at hxa
    replace hbk := hbk.ext hxa
    replace hov := hov.ext (B := 0) RInt.mono hxa
    replace hx := hx.trans (Chg.of_ext hxa)
    replace hb2 := hb2.ext hxa
    replace hbr := hbr.ext hxa
    have hL : Sl 0 3 RInt 1 wn (some ⟨wc.heap.size, 0, none⟩) [(rnum 1000 s).1] := Sl.one (cs := [.int .i64 (rnum 1000 s).1]) hwn rfl rfl
    obtain ⟨a4, ha4⟩ : ∃ a, a = some (⟨wc.heap.size, 0, none⟩ : Addr) := ⟨_, rfl⟩
    rw [← hwn, ← ha4]
    rw [← ha4] at hL
    clear hxa hwn ha4
    obtain ⟨wc, rfl⟩ : ∃ wc', wc' = wn := ⟨_, rfl⟩
    refine hK.out _ _ trivial (fun hHeld => ?_)
    clear hK K
    try simp only [pq]
    refine wpAnyH_ready (rs := [5]) (by kernel_rfl) (by simp) ?_
    refine AllReadyH.cons rfl (fun K hK => ?_) AllReadyH.nil
    simp only [gq]
    simp only [Region.wanted, if_true]
    refine wp_app (.tmp 13) (.tmp 16) rfl ei_int rfl hov (B := 0) (Nat.zero_le _) hx.size (ys := [(rnum 1000 s).1]) (c := 1) rfl hL RInt.oneC RInt.mono (by have := HLen.out; simp [maxLen]; omega) (by have := HLen.out; simp; omega) ?_
    intro v5 wn hov5 hch hbl _
    replace hbr := hbr.chg hch (by decide)
    replace hbk := hbk.chg hch (by decide)
    replace hx := hx.below hbl
    replace hb2 := hb2.chg hch (by decide)
    clear hch hbl hov hL
    obtain ⟨wc, rfl⟩ : ∃ wc', wc' = wn := ⟨_, rfl⟩
    refine hK.out _ _ trivial (fun hHeld => ?_)
    clear hK K
    try simp only [pq]
    refine tk 6 ?_ rfl (by kernel_rfl) (fun _ _ _ h => h) (by rfl) ?_ (by assumption) ?_
    rotate_left
    ·intro w' hSw; (try dsimp only at hSw); go_simp <;> with_reducible rfl
    simp only [gq]; try simp only [pq]
    refine wpAnyH_ready (rs := [7]) (by kernel_rfl) (by simp) ?_
    refine AllReadyH.cons rfl (fun K hK => ?_) AllReadyH.nil
    simp only [gq]
    obtain ⟨A5, c5, hv5, _, _⟩ := hov5.len
    obtain ⟨n5, hn5⟩ : ∃ n, n = (l ++ [(rnum 1000 s).1]).length := ⟨_, rfl⟩
    rw [← hn5] at hv5
    subst hv5
    clear hn5
    obtain ⟨v5, hv5⟩ : ∃ v, v = Value.slice A5 n5 c5 := ⟨_, rfl⟩
    rw [← hv5] at hov5
    have y0 := hbk.cell (i := 0) (u := v) rfl
    have z0 := hbk.frozen 0
    go_simp
    rw [← hv5]
    clear hv5
    have hch := (Chg.refl (B := 0) (ts := [101]) wc).setCell (p := ⟨kb, 0, none⟩) hbk.ty (by simp) v5 (Nat.zero_le _)
    have hbl : Below w.heap.size wc (wc.setCell ⟨kb, 0, none⟩ v5) := (Below.refl _ _).setCell (p := ⟨kb, 0, none⟩) hkb v5
    replace hbr := hbr.chg hch (by decide)
    replace hov5 := hov5.chgT (B := 0) RInt.mono (by decide) hch
    replace hx := hx.below hbl
    replace hb2 := hb2.far (p := ⟨kb, 0, none⟩) hkf v5
    replace hbk := hbk.set 0 v5
    clear y0 z0 hch hbl
    obtain ⟨wn, hwn⟩ : ∃ wn, wn = wc.setCell ⟨kb, 0, none⟩ v5 := ⟨_, rfl⟩
    rw [← hwn] at hbr hov5 hbk hx hb2 ⊢
    clear hwn
    obtain ⟨wc, rfl⟩ : ∃ wc', wc' = wn := ⟨_, rfl⟩
    refine hK.out _ _ trivial (fun hHeld => ?_)
    clear hK K
    try simp only [pq]
    refine wpAnyH_done (by kernel_rfl) ?_ _
    go_wp2_with fail
    go_roundw
    case rel => exact ⟨j + 1, q, v5, by omega, by first | rfl | go_num, by rw [HS.out]; exact hbr, hbk, by rw [HS.out]; exact hov5, hx, hb2⟩
    case measure => simp [intOf]
   refine AllReadyH.cons rfl (fun K hK => ?_) AllReadyH.nil
   simp only [gq]
   go_simp
   refine (rd_num base p 1000 (s) wc hp hbr).mono ?_
   rintro e wn ⟨rfl, hbn, hc⟩
   dsimp only
   clear hbr
   have hbr := hbn
   clear hbn
   replace hbk := hbk.chg hc (by decide)
   replace hov := hov.chgT (B := base) RInt.mono (by decide) hc
   replace hx := hx.trans hc
   replace hb2 := hb2.chg hc (by decide)
   clear hc
   obtain ⟨wc, rfl⟩ : ∃ wc', wc' = wn := ⟨_, rfl⟩
   refine hK.out _ _ trivial (fun hHeld => ?_)
   clear hK K
   try simp only [pq]
   refine wpAnyH_ready (rs := [1, 4]) (by kernel_rfl) (by simp) ?_
   refine AllReadyH.cons rfl (fun K hK => ?_) ?_
   ·simp only [gq]
    have y0 := hbk.cell (i := 0) (u := v) rfl
    go_simp
    clear y0
    refine hK.out _ _ trivial (fun hHeld => ?_)
    clear hK K
    try simp only [pq]
    refine wpAnyH_ready (rs := [4]) (by kernel_rfl) (by simp) ?_
    refine AllReadyH.cons rfl (fun K hK => ?_) AllReadyH.nil
    simp only [gq]
    go_simp
    have hxa := (Ext.refl wc).alloc (.cells #[.int .i64 (rnum 1000 s).1] 3)
    obtain ⟨wn, hwn⟩ : ∃ wn, wn = wc.alloc (.cells #[.int .i64 (rnum 1000 s).1] 3) := ⟨_, rfl⟩
    rw [← hwn] at hxa
    replace hbk := hbk.ext hxa
    replace hov := hov.ext (B := 0) RInt.mono hxa
    replace hx := hx.trans (Chg.of_ext hxa)
    replace hb2 := hb2.ext hxa
    replace hbr := hbr.ext hxa
    have hL : Sl 0 3 RInt 1 wn (some ⟨wc.heap.size, 0, none⟩) [(rnum 1000 s).1] := Sl.one (cs := [.int .i64 (rnum 1000 s).1]) hwn rfl rfl
    obtain ⟨a4, ha4⟩ : ∃ a, a = some (⟨wc.heap.size, 0, none⟩ : Addr) := ⟨_, rfl⟩
    rw [← hwn, ← ha4]
    rw [← ha4] at hL
    clear hxa hwn ha4
    obtain ⟨wc, rfl⟩ : ∃ wc', wc' = wn := ⟨_, rfl⟩
    refine hK.out _ _ trivial (fun hHeld => ?_)
    clear hK K
    try simp only [pq]
    refine wpAnyH_ready (rs := [5]) (by kernel_rfl) (by simp) ?_
    refine AllReadyH.cons rfl (fun K hK => ?_) AllReadyH.nil
    simp only [gq]
    simp only [Region.wanted, if_true]
    refine wp_app (.tmp 13) (.tmp 16) rfl ei_int rfl hov (B := 0) (Nat.zero_le _) hx.size (ys := [(rnum 1000 s).1]) (c := 1) rfl hL RInt.oneC RInt.mono (by have := HLen.out; simp [maxLen]; omega) (by have := HLen.out; simp; omega) ?_
    intro v5 wn hov5 hch hbl _
    replace hbr := hbr.chg hch (by decide)
    replace hbk := hbk.chg hch (by decide)
    replace hx := hx.below hbl
    replace hb2 := hb2.chg hch (by decide)
    clear hch hbl hov hL
    obtain ⟨wc, rfl⟩ : ∃ wc', wc' = wn := ⟨_, rfl⟩
    refine hK.out _ _ trivial (fun hHeld => ?_)
    clear hK K
    try simp only [pq]
    refine tk 6 ?_ rfl (by kernel_rfl) (fun _ _ _ h => h) (by rfl) ?_ (by assumption) ?_
    rotate_left
    ·intro w' hSw; (try dsimp only at hSw); go_simp <;> with_reducible rfl
    simp only [gq]; try simp only [pq]
    refine wpAnyH_ready (rs := [7]) (by kernel_rfl) (by simp) ?_
    refine AllReadyH.cons rfl (fun K hK => ?_) AllReadyH.nil
    simp only [gq]
    obtain ⟨A5, c5, hv5, _, _⟩ := hov5.len
    obtain ⟨n5, hn5⟩ : ∃ n, n = (l ++ [(rnum 1000 s).1]).length := ⟨_, rfl⟩
    rw [← hn5] at hv5
    subst hv5
    clear hn5
    obtain ⟨v5, hv5⟩ : ∃ v, v = Value.slice A5 n5 c5 := ⟨_, rfl⟩
    rw [← hv5] at hov5
    have y0 := hbk.cell (i := 0) (u := v) rfl
    have z0 := hbk.frozen 0
    go_simp
    rw [← hv5]
    clear hv5
    have hch := (Chg.refl (B := 0) (ts := [101]) wc).setCell (p := ⟨kb, 0, none⟩) hbk.ty (by simp) v5 (Nat.zero_le _)
    have hbl : Below w.heap.size wc (wc.setCell ⟨kb, 0, none⟩ v5) := (Below.refl _ _).setCell (p := ⟨kb, 0, none⟩) hkb v5
    replace hbr := hbr.chg hch (by decide)
    replace hov5 := hov5.chgT (B := 0) RInt.mono (by decide) hch
    replace hx := hx.below hbl
    replace hb2 := hb2.far (p := ⟨kb, 0, none⟩) hkf v5
    replace hbk := hbk.set 0 v5
    clear y0 z0 hch hbl
    obtain ⟨wn, hwn⟩ : ∃ wn, wn = wc.setCell ⟨kb, 0, none⟩ v5 := ⟨_, rfl⟩
    rw [← hwn] at hbr hov5 hbk hx hb2 ⊢
    clear hwn
    obtain ⟨wc, rfl⟩ : ∃ wc', wc' = wn := ⟨_, rfl⟩
    refine hK.out _ _ trivial (fun hHeld => ?_)
    clear hK K
    try simp only [pq]
    refine wpAnyH_done (by kernel_rfl) ?_ _
    go_wp2_with fail
    go_roundw
    case rel => exact ⟨j + 1, q, v5, by omega, by first | rfl | go_num, by rw [HS.out]; exact hbr, hbk, by rw [HS.out]; exact hov5, hx, hb2⟩
    case measure => simp [intOf]
   refine AllReadyH.cons rfl (fun K hK => ?_) AllReadyH.nil
   simp only [gq]
   go_simp
   have hxa := (Ext.refl wc).alloc (.cells #[.int .i64 (rnum 1000 s).1] 3)
   obtain ⟨wn, hwn⟩ : ∃ wn, wn = wc.alloc (.cells #[.int .i64 (rnum 1000 s).1] 3) := ⟨_, rfl⟩
   rw [← hwn] at hxa
   replace hbk := hbk.ext hxa
   replace hov := hov.ext (B := 0) RInt.mono hxa
   replace hx := hx.trans (Chg.of_ext hxa)
   replace hb2 := hb2.ext hxa
   replace hbr := hbr.ext hxa
   have hL : Sl 0 3 RInt 1 wn (some ⟨wc.heap.size, 0, none⟩) [(rnum 1000 s).1] := Sl.one (cs := [.int .i64 (rnum 1000 s).1]) hwn rfl rfl
   obtain ⟨a4, ha4⟩ : ∃ a, a = some (⟨wc.heap.size, 0, none⟩ : Addr) := ⟨_, rfl⟩
   rw [← hwn, ← ha4]
   rw [← ha4] at hL
   clear hxa hwn ha4
   obtain ⟨wc, rfl⟩ : ∃ wc', wc' = wn := ⟨_, rfl⟩
   refine hK.out _ _ trivial (fun hHeld => ?_)
   clear hK K
   try simp only [pq]
   refine wpAnyH_ready (rs := [1]) (by kernel_rfl) (by simp) ?_
   refine AllReadyH.cons rfl (fun K hK => ?_) AllReadyH.nil
   simp only [gq]
   have y0 := hbk.cell (i := 0) (u := v) rfl
   go_simp
   clear y0
   refine hK.out _ _ trivial (fun hHeld => ?_)
   clear hK K
   try simp only [pq]
   refine wpAnyH_ready (rs := [5]) (by kernel_rfl) (by simp) ?_
   refine AllReadyH.cons rfl (fun K hK => ?_) AllReadyH.nil
   simp only [gq]
   simp only [Region.wanted, if_true]
   refine wp_app (.tmp 13) (.tmp 16) rfl ei_int rfl hov (B := 0) (Nat.zero_le _) hx.size (ys := [(rnum 1000 s).1]) (c := 1) rfl hL RInt.oneC RInt.mono (by have := HLen.out; simp [maxLen]; omega) (by have := HLen.out; simp; omega) ?_
   intro v5 wn hov5 hch hbl _
   replace hbr := hbr.chg hch (by decide)
   replace hbk := hbk.chg hch (by decide)
   replace hx := hx.below hbl
   replace hb2 := hb2.chg hch (by decide)
   clear hch hbl hov hL
   obtain ⟨wc, rfl⟩ : ∃ wc', wc' = wn := ⟨_, rfl⟩
   refine hK.out _ _ trivial (fun hHeld => ?_)
   clear hK K
   try simp only [pq]
   refine tk 6 ?_ rfl (by kernel_rfl) (fun _ _ _ h => h) (by rfl) ?_ (by assumption) ?_
   rotate_left
   ·intro w' hSw; (try dsimp only at hSw); go_simp <;> with_reducible rfl
   simp only [gq]; try simp only [pq]
   refine wpAnyH_ready (rs := [7]) (by kernel_rfl) (by simp) ?_
   refine AllReadyH.cons rfl (fun K hK => ?_) AllReadyH.nil
   simp only [gq]
   obtain ⟨A5, c5, hv5, _, _⟩ := hov5.len
   obtain ⟨n5, hn5⟩ : ∃ n, n = (l ++ [(rnum 1000 s).1]).length := ⟨_, rfl⟩
   rw [← hn5] at hv5
   subst hv5
   clear hn5
   obtain ⟨v5, hv5⟩ : ∃ v, v = Value.slice A5 n5 c5 := ⟨_, rfl⟩
   rw [← hv5] at hov5
   have y0 := hbk.cell (i := 0) (u := v) rfl
   have z0 := hbk.frozen 0
   go_simp
   rw [← hv5]
   clear hv5
   have hch := (Chg.refl (B := 0) (ts := [101]) wc).setCell (p := ⟨kb, 0, none⟩) hbk.ty (by simp) v5 (Nat.zero_le _)
   have hbl : Below w.heap.size wc (wc.setCell ⟨kb, 0, none⟩ v5) := (Below.refl _ _).setCell (p := ⟨kb, 0, none⟩) hkb v5
   replace hbr := hbr.chg hch (by decide)
   replace hov5 := hov5.chgT (B := 0) RInt.mono (by decide) hch
   replace hx := hx.below hbl
   replace hb2 := hb2.far (p := ⟨kb, 0, none⟩) hkf v5
   replace hbk := hbk.set 0 v5
   clear y0 z0 hch hbl
   obtain ⟨wn, hwn⟩ : ∃ wn, wn = wc.setCell ⟨kb, 0, none⟩ v5 := ⟨_, rfl⟩
   rw [← hwn] at hbr hov5 hbk hx hb2 ⊢
   clear hwn
   obtain ⟨wc, rfl⟩ : ∃ wc', wc' = wn := ⟨_, rfl⟩
   refine hK.out _ _ trivial (fun hHeld => ?_)
   clear hK K
   try simp only [pq]
   refine wpAnyH_done (by kernel_rfl) ?_ _
   go_wp2_with fail
   go_roundw
   case rel => exact ⟨j + 1, q, v5, by omega, by first | rfl | go_num, by rw [HS.out]; exact hbr, hbk, by rw [HS.out]; exact hov5, hx, hb2⟩
   case measure => simp [intOf]
end Go.Proofs.YtngbfdogiciahaaGreat
