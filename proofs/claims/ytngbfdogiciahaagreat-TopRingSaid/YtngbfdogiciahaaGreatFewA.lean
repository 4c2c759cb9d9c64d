/- The walks of filter.Plain, know.Copied, part.Copied, none, under, and of Few's closures. -/
import Derived.Test.YtngbfdogiciahaaGreatShort
import Derived.Test.YtngbfdogiciahaaGreatJoinKnT
import Derived.Test.YtngbfdogiciahaaGreatJoinKnV
import Derived.Test.YtngbfdogiciahaaGreatJoinCopW
import Derived.Test.YtngbfdogiciahaaGreatJoinKnG
import Derived.Test.YtngbfdogiciahaaGreatJoinFilC
namespace Go.Proofs.YtngbfdogiciahaaGreat
open Go Go.RowKit
def plainF (f : List Box) : List Box := mkBoxes (tab f)
theorem filter_Plain (B : Nat) (A : Option Addr) (c : Nat) (f : List Box) (w : World) (hB : B ≤ w.heap.size) (hl : f.length ≤ maxLen) (hok : ∀ b ∈ f, BoxOk b) (h : SlBoxes B w A f) :
  Calls Tryz.prog 81 #[.slice A f.length c] w fun e w' => ∃ v, e = .returned v ∧ IsBoxes B w' v (plainF f) ∧ Ext w w' := by
 have HT := hid (fun i => tab_lt hok i)
 go_enter Tryz.func81, Tryz.ntmps81
 go_wp2_with fail
 refine (filter_tabled B A c f _ hl hok h).mono ?_
 rintro e w1 ⟨rfl, hx1⟩
 go_wp2_with fail
 refine (filter_boxes B (tab f) HT.out _ (Nat.le_trans hB hx1.size)).mono ?_
 rintro e w2 ⟨v, rfl, hv, hx2⟩
 go_wp2_with fail
 go_ret
 exact ⟨_, rfl, hv, hx1.trans hx2⟩
set_option maxRecDepth 100000 in
set_option maxHeartbeats 2000000 in
theorem part_Copied (B : Nat) (A : Option Addr) (c : Nat) (l : List Part) (w : World) (hB : B ≤ w.heap.size) (hl : l.length ≤ 10000) (hok : ∀ x ∈ l, PartOk x) (h : SlParts B w A l) :
  Calls Tryz.prog 139 #[.slice A l.length c] w fun e w' => ∃ v, e = .returned v ∧ Own (RPart B) 3 181 w' w.heap.size v l ∧ Ext w w' := by
 have HOK := hid hok
 clear hok
 go_enter Tryz.func139, Tryz.ntmps139
 go_wp2_with fail
 go_loopw [8, 3] (fun i v wr => ∃ k : Nat, k ≤ l.length ∧ i = .int .i64 k ∧ Own (RPart B) 3 181 wr w.heap.size v (l.take k) ∧ Ext w wr) (fun i _ _ => l.length - (intOf i).toNat)
 case atStart => exact ⟨0, Nat.zero_le _, rfl, Own.nil, Ext.refl _⟩
 case round =>
  obtain ⟨k, hk, rfl, hov, hx⟩ := hrel
  by_cases hlt : k < l.length
  ·obtain ⟨b, off, Af, cf, Av, cv, Am, cm, rfl, hb, g0, g1, g2, hp⟩ := (h.ext RPart.monoE hx).part hlt
   have HO := hid (HOK.out _ (List.getElem_mem hlt))
   have HFO := hid (filterCheck_ok HO.out.f)
   have HP := hid hp
   have HLen := hid (show (l.take k).length + 1 ≤ 10000 by rw [List.length_take]; omega)
   have HSucc := hid (show l.take (k + 1) = l.take k ++ [l[k]] from List.take_succ_eq_append_getElem hlt)
   have HVR := hid (fun g hg => (hov.lt (g := g) hg).2)
   clear hp
   go_wp2_with fail
   have q0 : (wr.alloc (.cells #[.slice Af l[k].filter.length cf, .slice Av l[k].know.vec.length cv, .slice Am l[k].know.more.length cm] 181)).cell? ⟨wr.heap.size, 0, none⟩ = some (.slice Af l[k].filter.length cf) := by go_simp
   have q1 : (wr.alloc (.cells #[.slice Af l[k].filter.length cf, .slice Av l[k].know.vec.length cv, .slice Am l[k].know.more.length cm] 181)).cell? ⟨wr.heap.size, 1, none⟩ = some (.slice Av l[k].know.vec.length cv) := by go_simp
   have q2 : (wr.alloc (.cells #[.slice Af l[k].filter.length cf, .slice Av l[k].know.vec.length cv, .slice Am l[k].know.more.length cm] 181)).cell? ⟨wr.heap.size, 2, none⟩ = some (.slice Am l[k].know.more.length cm) := by go_simp
   have hxl := (Ext.refl wr).alloc (.cells #[.slice Af l[k].filter.length cf, .slice Av l[k].know.vec.length cv, .slice Am l[k].know.more.length cm] 181)
   obtain ⟨wa, hwa⟩ : ∃ wa, wa = wr.alloc (.cells #[.slice Af l[k].filter.length cf, .slice Av l[k].know.vec.length cv, .slice Am l[k].know.more.length cm] 181) := ⟨_, rfl⟩
   obtain ⟨r, hr⟩ : ∃ r, r = wr.heap.size := ⟨_, rfl⟩
   rw [← hwa] at q0 q1 q2 hxl ⊢
   rw [← hr] at q0 q1 q2 HVR ⊢
   clear hwa hr g0 g1 g2
   have HPn := hid (fun w' (x : Ext wa w') => HP.out.ext (hxl.trans x))
   have HWS := hid (show w.heap.size ≤ wa.heap.size from (hx.trans hxl).size)
   have HBS := hid (Nat.le_trans hB HWS.out)
   have HXW := hid (hx.trans hxl)
   replace hov := hov.ext RPart.monoE hxl
   have HAll := hid (fun w' (x : Ext wa w') => show w'.cell? ⟨r, 0, none⟩ = some (.slice Af l[k].filter.length cf) ∧ w'.cell? ⟨r, 1, none⟩ = some (.slice Av l[k].know.vec.length cv) ∧ w'.cell? ⟨r, 2, none⟩ = some (.slice Am l[k].know.more.length cm) from ⟨x.cell q0, x.cell q1, x.cell q2⟩)
   clear q0 q1 q2 hxl hx
   have hyn := (Ext.refl wa).drew
   replace hov := hov.ext RPart.monoE hyn
   refine wp_region_held_drew (S := fun w' => w'.cell? ⟨r, 0, none⟩ = some (.slice Af l[k].filter.length cf) ∧ w'.cell? ⟨r, 1, none⟩ = some (.slice Av l[k].know.vec.length cv) ∧ w'.cell? ⟨r, 2, none⟩ = some (.slice Am l[k].know.more.length cm)) (by kernel_rfl) (HAll.out _ hyn) (fun hHeld => ?_)
   obtain ⟨wc, hwc⟩ : ∃ wc, wc = wa.drew := ⟨_, rfl⟩
   rw [← hwc] at hHeld hyn hov ⊢
   clear hwc
   refine tk 0 ?_ rfl (by kernel_rfl) (fun _ _ _ h => h) (by rfl) ?_ (by assumption) ?_
   rotate_left
   ·intro w' hSw; (try dsimp only at hSw); go_simp <;> with_reducible rfl
   simp only [gq]; try simp only [pq]
   refine tk 1 ?_ rfl (by kernel_rfl) (fun _ _ _ h => h) (by rfl) ?_ (by assumption) ?_
   rotate_left
   ·intro w' hSw; (try dsimp only at hSw); go_simp <;> with_reducible rfl
   simp only [gq]; try simp only [pq]
   refine tk 2 ?_ rfl (by kernel_rfl) (fun _ _ _ h => h) (by rfl) ?_ (by assumption) ?_
   rotate_left
   ·intro w' hSw; (try dsimp only at hSw); go_simp <;> with_reducible rfl
   simp only [gq]; try simp only [pq]
   refine tk 4 ?_ rfl (by kernel_rfl) (fun _ _ _ h => h) (by rfl) ?_ (by assumption) ?_
   rotate_left
   ·intro w' hSw; (try dsimp only at hSw); go_simp <;> with_reducible rfl
   simp only [gq]; try simp only [pq]
   refine tk 5 ?_ rfl (by kernel_rfl) (fun _ _ _ h => h) (by rfl) ?_ (by assumption) ?_
   rotate_left
   ·intro w' hSw; (try dsimp only at hSw); go_simp <;> with_reducible rfl
   simp only [gq]; try simp only [pq]
   refine wpAnyH_ready (rs := [3]) (by kernel_rfl) (by simp) ?_
   refine AllReadyH.cons rfl (fun K hK => ?_) AllReadyH.nil
   simp only [gq]
   go_simp
   refine (filter_Copied B Af cf l[k].filter wc (Nat.le_trans HBS.out hyn.size) (by have := HFO.out.1; omega) (fun b hb => by have := (spanCheck_ok (HFO.out.2 b hb).2).2; omega) (HPn.out wc hyn).sf).mono ?_
   rintro e wn ⟨v3, rfl, hv3, hxa⟩
   dsimp only
   obtain ⟨A3, c3, rfl, b1, b2, hv3⟩ := hv3
   replace hov := hov.ext RPart.monoE hxa
   replace hyn := hyn.trans hxa
   clear hxa
   obtain ⟨wc, rfl⟩ : ∃ wc', wc' = wn := ⟨_, rfl⟩
   refine hK.out _ _ (HAll.out _ hyn) (fun hHeld => ?_)
   clear hK K
   try simp only [pq]
   refine wpAnyH_ready (rs := [6]) (by kernel_rfl) (by simp) ?_
   refine AllReadyH.cons rfl (fun K hK => ?_) AllReadyH.nil
   simp only [gq]
   go_simp
   refine (know_Copied B l[k].know Av cv Am cm wc (Nat.le_trans HBS.out hyn.size) (by have := HO.out.k.vlen; have := HO.out.k.mlen; omega) (HPn.out wc hyn).k).mono ?_
   rintro e wn ⟨v6, rfl, hv6, hxa⟩
   dsimp only
   obtain ⟨A6, c6, A7, c7, rfl, b3, b4, b5, b6, hv6⟩ := hv6
   replace hov := hov.ext RPart.monoE hxa
   replace hv3 := hv3.ext RBox.monoE hxa
   replace hyn := hyn.trans hxa
   clear hxa
   obtain ⟨wc, rfl⟩ : ∃ wc', wc' = wn := ⟨_, rfl⟩
   refine hK.out _ _ (HAll.out _ hyn) (fun hHeld => ?_)
   clear hK K
   try simp only [pq]
   refine tk 7 ?_ rfl (by kernel_rfl) (fun _ _ _ h => h) (by rfl) ?_ (by assumption) ?_
   rotate_left
   ·intro w' hSw; (try dsimp only at hSw); go_simp <;> with_reducible rfl
   simp only [gq]; try simp only [pq]
   refine wpAnyH_ready (rs := [8]) (by kernel_rfl) (by simp) ?_
   refine AllReadyH.cons rfl (fun K hK => ?_) AllReadyH.nil
   simp only [gq]
   go_simp
   have hxa := (Ext.refl wc).alloc (.cells #[.slice A3 l[k].filter.length c3, .slice A6 l[k].know.vec.length c6, .slice A7 l[k].know.more.length c7] 181)
   obtain ⟨wn, hwn⟩ : ∃ wn, wn = wc.alloc (.cells #[.slice A3 l[k].filter.length c3, .slice A6 l[k].know.vec.length c6, .slice A7 l[k].know.more.length c7] 181) := ⟨_, rfl⟩
   rw [← hwn] at hxa
   have hi8 : InP B wn A3 c3 A6 c6 A7 c7 l[k] := ⟨by omega, ⟨b1, b2⟩, hv3.ext RBox.monoE hxa, ⟨b3, b4⟩, ⟨b5, b6⟩, hv6.ext hxa⟩
   have hL8 : SlParts B wn (some ⟨wc.heap.size, 0, none⟩) [l[k]] := Sl.one (cs := [.slice A3 l[k].filter.length c3, .slice A6 l[k].know.vec.length c6, .slice A7 l[k].know.more.length c7]) hwn rfl hi8.rpart
   obtain ⟨a8, ha8⟩ : ∃ a, a = some (⟨wc.heap.size, 0, none⟩ : Addr) := ⟨_, rfl⟩
   rw [← hwn, ← ha8]
   rw [← ha8] at hL8
   replace hov := hov.ext RPart.monoE hxa
   replace hyn := hyn.trans hxa
   clear hxa hwn ha8 hi8 hv3 hv6
   obtain ⟨wc, rfl⟩ : ∃ wc', wc' = wn := ⟨_, rfl⟩
   refine hK.out _ _ (HAll.out _ hyn) (fun hHeld => ?_)
   clear hK K
   try simp only [pq]
   refine wpAnyH_ready (rs := [9]) (by kernel_rfl) (by simp) ?_
   refine AllReadyH.cons rfl (fun K hK => ?_) AllReadyH.nil
   simp only [gq]
   simp only [Region.wanted, if_true]
   refine wp_app (.tmp 12) (.tmp 20) rfl ei_prt rfl hov (B := B) hB (Nat.le_trans HWS.out hyn.size) (ys := [l[k]]) (c := 1) rfl hL8 RPart.oneC (RPart.mono (by decide) (by decide) (by decide) (by decide)) (by have := HLen.out; simp [maxLen]; omega) (by have := HLen.out; simp; omega) ?_
   intro v9 wn hL9 hch hbl hgr
   have hne : some r ≠ u3.ownBlock := fun e => by have := HVR.out r e.symm; omega
   have hq := HAll.out wc hyn
   have hxw := (HXW.out.trans hyn).below hbl (Nat.le_refl _)
   refine hK.out _ _ ⟨grown_cell hgr hq.1 hne, grown_cell hgr hq.2.1 hne, grown_cell hgr hq.2.2 hne⟩ (fun hHeld => ?_)
   clear hch hbl hgr hne hq hov hL8 hyn
   clear hK K
   try simp only [pq]
   refine tk 10 ?_ rfl (by kernel_rfl) (fun _ _ _ h => h) (by rfl) ?_ (by assumption) ?_
   rotate_left
   ·intro w' hSw; (try dsimp only at hSw); go_simp <;> with_reducible rfl
   simp only [gq]; try simp only [pq]
   refine wpAnyH_done (by kernel_rfl) ?_ _
   go_wp2_with fail
   go_roundw
   case rel =>
    refine ⟨k + 1, hlt, by go_num, ?_, hxw⟩
    rw [HSucc.out]
    exact hL9
   case measure => simp [intOf]; omega
  ·obtain rfl : k = l.length := by omega
   rw [List.take_length] at hov
   go_wp2_with fail
   go_ret
   exact ⟨_, rfl, hov, hx⟩
def noneP (p : Part) : Bool := (filterCount p.filter == 0) || (countK p.know == 0)
def underP (a b : Part) : Bool := filterNone less32 a.filter b.filter && withinIs a.know b.know
theorem part_none (B : Nat) (p : Part) (Af : Option Addr) (cf : Nat) (Av : Option Addr) (cv : Nat) (Am : Option Addr) (cm : Nat) (w : World) (h : InP B w Af cf Av cv Am cm p) :
  Calls Tryz.prog 182 #[.agg #[.slice Af p.filter.length cf, .slice Av p.know.vec.length cv, .slice Am p.know.more.length cm]] w fun e w' => e = .returned (.bool (noneP p)) ∧ Ext w w' := by
 have HI := hid h
 have HN := hid (show noneP p = ((filterCount p.filter == 0) || (countK p.know == 0)) from rfl)
 have hxa := (Ext.refl w).alloc (.cells #[.slice Af p.filter.length cf, .slice Av p.know.vec.length cv, .slice Am p.know.more.length cm] 181)
 clear h
 go_enter Tryz.func182, Tryz.ntmps182
 go_wp2_with fail
 refine (filter_Count B Af cf p.filter _ HI.out.lf (HI.out.sf.ext RBox.monoE hxa)).mono ?_
 rintro e w1 ⟨rfl, hx1⟩
 have q1 : w1.cell? ⟨w.heap.size, 1, none⟩ = some (.slice Av p.know.vec.length cv) := hx1.cell (by go_simp)
 have q2 : w1.cell? ⟨w.heap.size, 2, none⟩ = some (.slice Am p.know.more.length cm) := hx1.cell (by go_simp)
 replace hxa := hxa.trans hx1
 clear hx1
 go_wp2_with fail
 refine (know_Count B p.know Av cv Am cm _ (HI.out.k.ext hxa)).mono ?_
 rintro e w2 ⟨rfl, hx2⟩
 cases h0 : (filterCount p.filter == 0)
 ·rw [h0] at HN
  go_wp2_with fail
  go_ret
  exact ⟨ret_bool (by rw [HN.out]; rfl), hxa.trans hx2⟩
 ·rw [h0] at HN
  go_wp2_with fail
  go_ret
  exact ⟨ret_bool (by rw [HN.out]; rfl), hxa.trans hx2⟩
set_option maxHeartbeats 1000000 in
theorem part_under (B : Nat) (a b : Part) (Af : Option Addr) (cf : Nat) (Av : Option Addr) (cv : Nat) (Am : Option Addr) (cm : Nat) (Bf : Option Addr) (df : Nat) (Bv : Option Addr) (dv : Nat) (Bm : Option Addr) (dm : Nat) (w : World) (hB : B ≤ w.heap.size) (h : InP B w Af cf Av cv Am cm a) (g : InP B w Bf df Bv dv Bm dm b) :
  Calls Tryz.prog 184 #[.agg #[.slice Af a.filter.length cf, .slice Av a.know.vec.length cv, .slice Am a.know.more.length cm], .agg #[.slice Bf b.filter.length df, .slice Bv b.know.vec.length dv, .slice Bm b.know.more.length dm]] w fun e w' => e = .returned (.bool (underP a b)) ∧ Ext w w' := by
 have HI := hid h
 have HJ := hid g
 have HN := hid (show underP a b = (filterNone less32 a.filter b.filter && withinIs a.know b.know) from rfl)
 have hxa := ((Ext.refl w).alloc (.cells #[.slice Af a.filter.length cf, .slice Av a.know.vec.length cv, .slice Am a.know.more.length cm] 181)).alloc (.cells #[.slice Bf b.filter.length df, .slice Bv b.know.vec.length dv, .slice Bm b.know.more.length dm] 181)
 clear h g
 go_enter Tryz.func184, Tryz.ntmps184
 go_wp2_with fail
 refine (filter_Within B Af Bf cf df a.filter b.filter _ (Nat.le_trans hB hxa.size) HI.out.lf HJ.out.lf (HI.out.sf.ext RBox.monoE hxa) (HJ.out.sf.ext RBox.monoE hxa)).mono ?_
 rintro e w1 ⟨rfl, hx1⟩
 have q1 : w1.cell? ⟨w.heap.size, 1, none⟩ = some (.slice Av a.know.vec.length cv) := hx1.cell (by go_simp)
 have q2 : w1.cell? ⟨w.heap.size, 2, none⟩ = some (.slice Am a.know.more.length cm) := hx1.cell (by go_simp)
 have d1 : w1.cell? ⟨w.heap.size + 1, 1, none⟩ = some (.slice Bv b.know.vec.length dv) := hx1.cell (by go_simp)
 have d2 : w1.cell? ⟨w.heap.size + 1, 2, none⟩ = some (.slice Bm b.know.more.length dm) := hx1.cell (by go_simp)
 replace hxa := hxa.trans hx1
 clear hx1
 go_wp2_with fail
 refine (know_Within B _ _ a.know b.know _ (HI.out.ext hxa).isK (HJ.out.ext hxa).isK).mono ?_
 rintro e w2 ⟨rfl, hx2⟩
 cases h0 : filterNone less32 a.filter b.filter
 ·rw [h0] at HN
  go_wp2_with fail
  go_ret
  exact ⟨ret_bool (by rw [HN.out]; rfl), hxa.trans hx2⟩
 ·rw [h0] at HN
  go_wp2_with fail
  go_ret
  exact ⟨ret_bool (by rw [HN.out]; rfl), hxa.trans hx2⟩
theorem few1 (B r : Nat) (p q : Part) (Af : Option Addr) (cf : Nat) (Av : Option Addr) (cv : Nat) (Am : Option Addr) (cm : Nat) (Bf : Option Addr) (df : Nat) (Bv : Option Addr) (dv : Nat) (Bm : Option Addr) (dm : Nat) (w : World) (hB : B ≤ w.heap.size) (h : InP B w Af cf Av cv Am cm p) (g : InP B w Bf df Bv dv Bm dm q)
  (q0 : w.cell? ⟨r, 0, none⟩ = some (.slice Af p.filter.length cf)) (q1 : w.cell? ⟨r, 1, none⟩ = some (.slice Av p.know.vec.length cv)) (q2 : w.cell? ⟨r, 2, none⟩ = some (.slice Am p.know.more.length cm)) :
  Calls Tryz.prog 183 #[.agg #[.slice Bf q.filter.length df, .slice Bv q.know.vec.length dv, .slice Bm q.know.more.length dm], .pointer (some ⟨r, 0, none⟩)] w fun e w' => e = .returned (.bool (underP p q)) ∧ Ext w w' := by
 have HI := hid h
 have HJ := hid g
 have hz : r < w.heap.size := World.block_lt_of_cell? _ _ q0
 have hxa := (Ext.refl w).alloc (.cells #[.slice Bf q.filter.length df, .slice Bv q.know.vec.length dv, .slice Bm q.know.more.length dm] 181)
 clear h g
 go_enter Tryz.func183, Tryz.ntmps183
 go_wp2_with fail
 refine (part_under B p q Af cf Av cv Am cm Bf df Bv dv Bm dm _ (Nat.le_trans hB hxa.size) (HI.out.ext hxa) (HJ.out.ext hxa)).mono ?_
 rintro e w1 ⟨rfl, hx1⟩
 go_wp2_with fail
 go_ret
 exact ⟨rfl, hxa.trans hx1⟩
theorem few2 (B r : Nat) (p q : Part) (Af : Option Addr) (cf : Nat) (Av : Option Addr) (cv : Nat) (Am : Option Addr) (cm : Nat) (Bf : Option Addr) (df : Nat) (Bv : Option Addr) (dv : Nat) (Bm : Option Addr) (dm : Nat) (w : World) (hB : B ≤ w.heap.size) (h : InP B w Af cf Av cv Am cm p) (g : InP B w Bf df Bv dv Bm dm q)
  (q0 : w.cell? ⟨r, 0, none⟩ = some (.slice Af p.filter.length cf)) (q1 : w.cell? ⟨r, 1, none⟩ = some (.slice Av p.know.vec.length cv)) (q2 : w.cell? ⟨r, 2, none⟩ = some (.slice Am p.know.more.length cm)) :
  Calls Tryz.prog 186 #[.agg #[.slice Bf q.filter.length df, .slice Bv q.know.vec.length dv, .slice Bm q.know.more.length dm], .pointer (some ⟨r, 0, none⟩)] w fun e w' => e = .returned (.bool (underP q p)) ∧ Ext w w' := by
 have HI := hid h
 have HJ := hid g
 have hz : r < w.heap.size := World.block_lt_of_cell? _ _ q0
 have hxa := (Ext.refl w).alloc (.cells #[.slice Bf q.filter.length df, .slice Bv q.know.vec.length dv, .slice Bm q.know.more.length dm] 181)
 clear h g
 go_enter Tryz.func186, Tryz.ntmps186
 go_wp2_with fail
 refine (part_under B q p Bf df Bv dv Bm dm Af cf Av cv Am cm _ (Nat.le_trans hB hxa.size) (HJ.out.ext hxa) (HI.out.ext hxa)).mono ?_
 rintro e w1 ⟨rfl, hx1⟩
 go_wp2_with fail
 go_ret
 exact ⟨rfl, hxa.trans hx1⟩
end Go.Proofs.YtngbfdogiciahaaGreat
