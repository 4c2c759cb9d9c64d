/- The walk of a Site's Want. -/
import Derived.Test.YtngbfdogiciahaaGreatShort
import Derived.Test.YtngbfdogiciahaaGreatSiteW
namespace Go.Proofs.YtngbfdogiciahaaGreat
open Go Go.RowKit
set_option maxHeartbeats 2000000 in
theorem want_1 (B : Nat) (u : Version) (Au : Option Addr) (cu : Nat) (Mu : Option Addr) (du : Nat) (bp bf r : Nat) (me : Int) (A : Option Addr) (c : Nat) (f : List Box) (w : World) (hu : VerOk u) (hl : f.length ≤ maxLen) (hok : ∀ b ∈ f, BoxOk b) (h : SlBoxes B w A f)
  (cp : w.cell? ⟨bp, 0, none⟩ = some (.pointer (some ⟨r, 0, none⟩))) (cf : w.cell? ⟨bf, 0, none⟩ = some (.slice A f.length c)) (cr : w.cell? ⟨r, 0, none⟩ = some (.int .i64 me)) :
  Calls Tryz.prog 86 #[.agg #[.string u.id, .int .i64 u.dot.site, .int .i64 u.dot.count, .int .i64 u.pt.tags, .int .i64 u.pt.num, .int .i64 u.body, .slice Au u.past.vec.length cu, .slice Mu u.past.more.length du], .pointer (some ⟨bp, 0, none⟩), .pointer (some ⟨bf, 0, none⟩)] w fun e w' => e = .returned (.bool (!wantKeep me f u)) ∧ Ext w w' := by
 have hxa := (Ext.refl w).alloc (.cells #[.string u.id, .int .i64 u.dot.site, .int .i64 u.dot.count, .int .i64 u.pt.tags, .int .i64 u.pt.num, .int .i64 u.body, .slice Au u.past.vec.length cu, .slice Mu u.past.more.length du] 151)
 have hbu := Blk.new w 151 #[.string u.id, .int .i64 u.dot.site, .int .i64 u.dot.count, .int .i64 u.pt.tags, .int .i64 u.pt.num, .int .i64 u.body, .slice Au u.past.vec.length cu, .slice Mu u.past.more.length du]
 obtain ⟨wa, hwa⟩ : ∃ wa, wa = w.alloc (.cells #[.string u.id, .int .i64 u.dot.site, .int .i64 u.dot.count, .int .i64 u.pt.tags, .int .i64 u.pt.num, .int .i64 u.body, .slice Au u.past.vec.length cu, .slice Mu u.past.more.length du] 151) := ⟨_, rfl⟩
 have HK := hid (show wantKeep me f u = (decide (u.dot.site = me) || filterIn f u.pt) from rfl)
 have HW := hid hwa
 by_cases hm : u.dot.site = me
 ·have hm' : (u.dot.site != me) = false := by rw [hm]; simp
  have HR := hid (show (!wantKeep me f u) = false by rw [HK.out, decide_eq_true hm]; rfl)
  clear hm
  go_enter Tryz.func86, Tryz.ntmps86
  go_wp2_with fail
  rw [← HW.out] at hxa hbu ⊢
  clear hwa
  have HAll := hid (fun w' (x : Ext wa w') => show w'.cell? ⟨w.heap.size, 1, none⟩ = some (.int .i64 u.dot.site) ∧ w'.cell? ⟨w.heap.size, 3, none⟩ = some (.int .i64 u.pt.tags) ∧ w'.cell? ⟨w.heap.size, 4, none⟩ = some (.int .i64 u.pt.num) ∧ w'.cell? ⟨bp, 0, none⟩ = some (.pointer (some ⟨r, 0, none⟩)) ∧ w'.cell? ⟨bf, 0, none⟩ = some (.slice A f.length c) ∧ w'.cell? ⟨r, 0, none⟩ = some (.int .i64 me) from
   ⟨(hbu.ext x).cell rfl, (hbu.ext x).cell rfl, (hbu.ext x).cell rfl, (hxa.trans x).cell cp, (hxa.trans x).cell cf, (hxa.trans x).cell cr⟩)
  clear hbu
  refine wq_region (fun w' => Ext wa w') (by kernel_rfl) (by kernel_rfl) (Ext.refl _).drew ?_
  refine wq_get (v := ?_) (fun w' hw' => ?_) ?_
  rotate_left
  ·have hA := HAll.out w' hw'; go_split_ands; go_simp <;> with_reducible rfl
  try simp only [pq]
  refine wq_get (v := ?_) (fun w' hw' => ?_) ?_
  rotate_left
  ·have hA := HAll.out w' hw'; go_split_ands; go_simp <;> with_reducible rfl
  try simp only [pq]
  refine wq_get (v := ?_) (fun w' hw' => ?_) ?_
  rotate_left
  ·have hA := HAll.out w' hw'; go_split_ands; go_simp <;> with_reducible rfl
  try simp only [pq]
  refine wq_get (v := ?_) (fun w' hw' => ?_) ?_
  rotate_left
  ·have hA := HAll.out w' hw'; go_split_ands; go_simp <;> with_reducible rfl
  try simp only [pq]
  refine wq_get (v := ?_) (fun w' hw' => ?_) ?_
  rotate_left
  ·have hA := HAll.out w' hw'; go_split_ands; go_simp <;> with_reducible rfl
  try simp only [pq]
  refine wq_get (v := ?_) (fun w' hw' => ?_) ?_
  rotate_left
  ·have hA := HAll.out w' hw'; go_split_ands; go_simp <;> with_reducible rfl
  try simp only [pq]
  refine wq_get (v := ?_) (fun w' hw' => ?_) ?_
  rotate_left
  ·have hA := HAll.out w' hw'; go_split_ands; go_simp <;> with_reducible rfl
  try simp only [pq]
  refine wq_get (v := ?_) (fun w' hw' => ?_) ?_
  rotate_left
  ·have hA := HAll.out w' hw'; go_split_ands; go_simp <;> with_reducible rfl
  try simp only [pq]
  try simp only [hm']
  refine wq_get (v := ?_) (fun w' hw' => ?_) ?_
  rotate_left
  ·have hA := HAll.out w' hw'; go_split_ands; go_simp <;> with_reducible rfl
  try simp only [pq]
  refine wq_skip (yields_at rfl rfl rfl) ?_
  try simp only [pq]
  refine wq_skip (yields_at rfl rfl rfl) ?_
  try simp only [pq]
  refine wq_skip (yields_at rfl rfl rfl) ?_
  try simp only [pq]
  refine wq_skip (yields_at rfl rfl rfl) ?_
  try simp only [pq]
  refine wq_skip (yields_at rfl rfl rfl) ?_
  try simp only [pq]
  refine wq_get (v := ?_) (fun w' hw' => ?_) ?_
  rotate_left
  ·have hA := HAll.out w' hw'; go_split_ands; go_simp <;> with_reducible rfl
  try simp only [pq]
  refine wq_get (v := ?_) (fun w' hw' => ?_) ?_
  rotate_left
  ·have hA := HAll.out w' hw'; go_split_ands; go_simp <;> with_reducible rfl
  try simp only [pq]
  refine wq_nil ?_
  intro w25 hyn
  go_wp2_with fail
  go_ret
  exact ⟨by rw [HR.out]; rfl, hxa.trans hyn⟩
 ·have hm' : (u.dot.site != me) = true := by simpa using hm
  have HR := hid (show (!wantKeep me f u) = !filterIn f u.pt by rw [HK.out, decide_eq_false hm]; rfl)
  clear hm
  go_enter Tryz.func86, Tryz.ntmps86
  go_wp2_with fail
  rw [← HW.out] at hxa hbu ⊢
  clear hwa
  have HC := hid (fun w' (x : Ext wa w') => filter_In B A c f u.pt w' hl hok hu.pt (h.ext RBox.monoE (hxa.trans x)))
  have HAll := hid (fun w' (x : Ext wa w') => show w'.cell? ⟨w.heap.size, 1, none⟩ = some (.int .i64 u.dot.site) ∧ w'.cell? ⟨w.heap.size, 3, none⟩ = some (.int .i64 u.pt.tags) ∧ w'.cell? ⟨w.heap.size, 4, none⟩ = some (.int .i64 u.pt.num) ∧ w'.cell? ⟨bp, 0, none⟩ = some (.pointer (some ⟨r, 0, none⟩)) ∧ w'.cell? ⟨bf, 0, none⟩ = some (.slice A f.length c) ∧ w'.cell? ⟨r, 0, none⟩ = some (.int .i64 me) from
   ⟨(hbu.ext x).cell rfl, (hbu.ext x).cell rfl, (hbu.ext x).cell rfl, (hxa.trans x).cell cp, (hxa.trans x).cell cf, (hxa.trans x).cell cr⟩)
  clear hbu
  refine wq_region (fun w' => Ext wa w') (by kernel_rfl) (by kernel_rfl) (Ext.refl _).drew ?_
  refine wq_get (v := ?_) (fun w' hw' => ?_) ?_
  rotate_left
  ·have hA := HAll.out w' hw'; go_split_ands; go_simp <;> with_reducible rfl
  try simp only [pq]
  refine wq_get (v := ?_) (fun w' hw' => ?_) ?_
  rotate_left
  ·have hA := HAll.out w' hw'; go_split_ands; go_simp <;> with_reducible rfl
  try simp only [pq]
  refine wq_get (v := ?_) (fun w' hw' => ?_) ?_
  rotate_left
  ·have hA := HAll.out w' hw'; go_split_ands; go_simp <;> with_reducible rfl
  try simp only [pq]
  refine wq_get (v := ?_) (fun w' hw' => ?_) ?_
  rotate_left
  ·have hA := HAll.out w' hw'; go_split_ands; go_simp <;> with_reducible rfl
  try simp only [pq]
  refine wq_get (v := ?_) (fun w' hw' => ?_) ?_
  rotate_left
  ·have hA := HAll.out w' hw'; go_split_ands; go_simp <;> with_reducible rfl
  try simp only [pq]
  refine wq_get (v := ?_) (fun w' hw' => ?_) ?_
  rotate_left
  ·have hA := HAll.out w' hw'; go_split_ands; go_simp <;> with_reducible rfl
  try simp only [pq]
  refine wq_get (v := ?_) (fun w' hw' => ?_) ?_
  rotate_left
  ·have hA := HAll.out w' hw'; go_split_ands; go_simp <;> with_reducible rfl
  try simp only [pq]
  refine wq_get (v := ?_) (fun w' hw' => ?_) ?_
  rotate_left
  ·have hA := HAll.out w' hw'; go_split_ands; go_simp <;> with_reducible rfl
  try simp only [pq]
  try simp only [hm']
  refine wq_get (v := ?_) (fun w' hw' => ?_) ?_
  rotate_left
  ·have hA := HAll.out w' hw'; go_split_ands; go_simp <;> with_reducible rfl
  try simp only [pq]
  refine wq_getOn (v := ?_) (yields_at rfl rfl rfl) (fun w' hw' => ?_) ?_
  rotate_left
  ·have hA := HAll.out w' hw'; go_split_ands; go_simp <;> with_reducible rfl
  try simp only [pq]
  refine wq_getOn (v := ?_) (yields_at rfl rfl rfl) (fun w' hw' => ?_) ?_
  rotate_left
  ·have hA := HAll.out w' hw'; go_split_ands; go_simp <;> with_reducible rfl
  try simp only [pq]
  refine wq_getOn (v := ?_) (yields_at rfl rfl rfl) (fun w' hw' => ?_) ?_
  rotate_left
  ·have hA := HAll.out w' hw'; go_split_ands; go_simp <;> with_reducible rfl
  try simp only [pq]
  refine wq_callOn Tryz.call87 (yields_at rfl rfl rfl) (by rfl) (fun w' x => (HC.out w' x).mono fun _ _ h => ⟨h.1, x.trans h.2⟩) ?_
  try simp only [pq]
  refine wq_getOn (v := ?_) (yields_at rfl rfl rfl) (fun w' hw' => ?_) ?_
  rotate_left
  ·have hA := HAll.out w' hw'; go_split_ands; go_simp <;> with_reducible rfl
  try simp only [pq]
  refine wq_get (v := ?_) (fun w' hw' => ?_) ?_
  rotate_left
  ·have hA := HAll.out w' hw'; go_split_ands; go_simp <;> with_reducible rfl
  try simp only [pq]
  refine wq_get (v := ?_) (fun w' hw' => ?_) ?_
  rotate_left
  ·have hA := HAll.out w' hw'; go_split_ands; go_simp <;> with_reducible rfl
  try simp only [pq]
  refine wq_nil ?_
  intro w25 hyn
  go_wp2_with fail
  go_ret
  exact ⟨by rw [HR.out]; rfl, hxa.trans hyn⟩
theorem want_filter (me : Int) (f : List Box) (l : List Version) : (l.filter fun v => !(!wantKeep me f v)) = l.filter (wantKeep me f) := by simp
theorem want_eq {s : SiteS} {f : List Box} (h : filterCheck f = 0) : wantS s f = { s with filter := plainF f, stamp := s.stamp + 1, shelf := s.shelf.filter (wantKeep s.me f), parts := narrowO s.parts f } := by unfold wantS; rw [if_pos h]
set_option maxRecDepth 100000 in
set_option maxHeartbeats 8000000 in
theorem site_Want (B : Nat) (r : Nat) (s : SiteS) (A : Option Addr) (c : Nat) (f : List Box) (w : World) (hB : B ≤ w.heap.size) (hBr : B ≤ r) (hok : SiteOk s) (hst : s.stamp < 1000000000) (hl : f.length ≤ maxLen) (h : IsSite B w r s) (hf : SlBoxes B w A f) :
  Calls Tryz.prog 30 #[.pointer (some ⟨r, 0, none⟩), .slice A f.length c] w fun e w' => e = .returned (.int .i64 (filterCheck f)) ∧ IsSite B w' r (wantS s f) ∧ Fr r w w' := by
 have hty0 := h.ty
 have hrl0 := h.lt
 obtain ⟨Af, cf, Ax, cx, Ap, cp, hsite⟩ := h
 have hst0 := hok.stamp0
 have HB := hid hB
 have HBR := hid hBr
 have HOK := hid hok
 have HLF := hid hl
 have hsw : IntKind.i64.wrap (s.stamp + 1) = s.stamp + 1 := by rw [IntKind.wrap_i64]; omega
 have hx := ((Ext.refl w).alloc (.cells #[.pointer (some ⟨r, 0, none⟩)] 59)).alloc (.cells #[.slice A f.length c] 30)
 have hb2 := (Blk.new w 59 #[.pointer (some ⟨r, 0, none⟩)]).alloc (.cells #[.slice A f.length c] 30)
 have hb3 := Blk.new (w.alloc (.cells #[.pointer (some ⟨r, 0, none⟩)] 59)) 30 #[.slice A f.length c]
 rw [show (w.alloc (.cells #[.pointer (some ⟨r, 0, none⟩)] 59)).heap.size = w.heap.size + 1 by simp] at hb3
 clear hB hBr hok hl
 go_enter Tryz.func30, Tryz.ntmps30
 go_wp2_with fail
 refine (filter_Check B A c f _ HLF.out (hf.ext RBox.monoE hx)).mono ?_
 rintro e w4 ⟨rfl, hx4⟩
 replace hb2 := hb2.ext hx4
 replace hb3 := hb3.ext hx4
 replace hx := hx.trans hx4
 clear hx4
 by_cases hc : filterCheck f = 0
 ·rw [hc]
  have HC0 := hid hc
  have HFOK := hid (filterCheck_ok hc)
  clear hc
  obtain ⟨b2, hb2d⟩ : ∃ b, b = w.heap.size := ⟨_, rfl⟩
  obtain ⟨b3, hb3d⟩ : ∃ b, b = w.heap.size + 1 := ⟨_, rfl⟩
  have HN2 := hid (show b2 ≠ r by omega)
  have HN3 := hid (show b3 ≠ r by omega)
  rw [← hb3d, ← hb2d]
  rw [← hb2d] at hb2
  rw [← hb3d] at hb3
  have HB0 := hid HB.out
  clear hb2d hb3d
  replace hsite := hsite.ext hx
  replace hf := hf.ext RBox.monoE hx
  have HTY := hid hsite.blk.ty
  have hfr : Fr r w w4 := Fr.of_ext hx
  have HB := hid (Nat.le_trans HB.out hx.size)
  clear hx hty0 hrl0
  go_wp2_with fail
  have HSite := hid (fun w' (x : Ext w4 w') => hsite.ext x)
  have HB2 := hid hb2
  have HB3 := hid hb3
  have HAll := hid (fun w' (x : Fr r w4 w') => show w'.cell? ⟨b2, 0, none⟩ = some (.pointer (some ⟨r, 0, none⟩)) ∧ w'.cell? ⟨b3, 0, none⟩ = some (.slice A f.length c) from ⟨(x.blkO HB2.out HN2.out).cell rfl, (x.blkO HB3.out HN3.out).cell rfl⟩)
  have HF := hid hf
  have HX := hid hfr
  clear hsite hb2 hb3 hf hfr
  have hyn := (Ext.refl w4).drew
  refine wp_region_held_drew (S := fun w' => w'.cell? ⟨b2, 0, none⟩ = some (.pointer (some ⟨r, 0, none⟩)) ∧ w'.cell? ⟨b3, 0, none⟩ = some (.slice A f.length c)) (by kernel_rfl) (HAll.out _ (Fr.of_ext hyn)) (fun hHeld => ?_)
  obtain ⟨wc, hwc⟩ : ∃ wc, wc = w4.drew := ⟨_, rfl⟩
  rw [← hwc] at hHeld hyn ⊢
  clear hwc
  refine tk 0 ?_ rfl (by kernel_rfl) (fun _ _ _ h => h) (by rfl) ?_ (by assumption) ?_
  rotate_left
  ·intro w' hSw; (try dsimp only at hSw); go_simp <;> with_reducible rfl
  simp only [gq]; try simp only [pq]
  refine tk 1 ?_ rfl (by kernel_rfl) (fun _ _ _ h => h) (by rfl) ?_ (by assumption) ?_
  rotate_left
  ·intro w' hSw; (try dsimp only at hSw); go_simp <;> with_reducible rfl
  simp only [gq]; try simp only [pq]
  refine tk 2 ?_ rfl (by kernel_rfl) (fun _ _ _ h => h) (by rfl) ?_ (by assumption) ?_
  rotate_left
  ·intro w' hSw; (try dsimp only at hSw); go_simp <;> with_reducible rfl
  simp only [gq]; try simp only [pq]
  refine tk 3 ?_ rfl (by kernel_rfl) (fun _ _ _ h => h) (by rfl) ?_ (by assumption) ?_
  rotate_left
  ·intro w' hSw; (try dsimp only at hSw); go_simp <;> with_reducible rfl
  simp only [gq]; try simp only [pq]
  refine tk 5 ?_ rfl (by kernel_rfl) (fun _ _ _ h => h) (by rfl) ?_ (by assumption) ?_
  rotate_left
  ·intro w' hSw; (try dsimp only at hSw); go_simp <;> with_reducible rfl
  simp only [gq]; try simp only [pq]
  refine wpAnyH_ready (rs := [4]) (by kernel_rfl) (by simp) ?_
  refine AllReadyH.cons rfl (fun K hK => ?_) AllReadyH.nil
  simp only [gq]
  have q := (HSite.out wc hyn).blk.cell (i := 5) (u := .slice Ap s.parts.length cp) rfl
  go_simp
  clear q
  refine hK.out _ _ (HAll.out _ (Fr.of_ext hyn)) (fun hHeld => ?_)
  clear hK K
  try simp only [pq]
  refine wpAnyH_ready (rs := [6]) (by kernel_rfl) (by simp) ?_
  refine AllReadyH.cons rfl (fun K hK => ?_) AllReadyH.nil
  simp only [gq]
  go_simp
  refine (part_Narrow B Ap A cp c s.parts f wc (Nat.le_trans HB.out hyn.size) (by have := HOK.out.lp; unfold maxLen; omega) HLF.out ((HSite.out wc hyn).sp) (HF.out.ext RBox.monoE hyn)).mono ?_
  rintro e wn ⟨v6, rfl, hv6, hxa⟩
  dsimp only
  obtain ⟨A6, c6, rfl, _, _, hv6⟩ := hv6
  replace hyn := hyn.trans hxa
  clear hxa
  obtain ⟨wc, rfl⟩ : ∃ wc', wc' = wn := ⟨_, rfl⟩
  refine hK.out _ _ (HAll.out _ (Fr.of_ext hyn)) (fun hHeld => ?_)
  clear hK K
  try simp only [pq]
  refine tk 7 ?_ rfl (by kernel_rfl) (fun _ _ _ h => h) (by rfl) ?_ (by assumption) ?_
  rotate_left
  ·intro w' hSw; (try dsimp only at hSw); go_simp <;> with_reducible rfl
  simp only [gq]; try simp only [pq]
  refine tk 8 ?_ rfl (by kernel_rfl) (fun _ _ _ h => h) (by rfl) ?_ (by assumption) ?_
  rotate_left
  ·intro w' hSw; (try dsimp only at hSw); go_simp <;> with_reducible rfl
  simp only [gq]; try simp only [pq]
  refine tk 9 ?_ rfl (by kernel_rfl) (fun _ _ _ h => h) (by rfl) ?_ (by assumption) ?_
  rotate_left
  ·intro w' hSw; (try dsimp only at hSw); go_simp <;> with_reducible rfl
  simp only [gq]; try simp only [pq]
  refine tk 10 ?_ rfl (by kernel_rfl) (fun _ _ _ h => h) (by rfl) ?_ (by assumption) ?_
  rotate_left
  ·intro w' hSw; (try dsimp only at hSw); go_simp <;> with_reducible rfl
  simp only [gq]; try simp only [pq]
  refine tk 11 ?_ rfl (by kernel_rfl) (fun _ _ _ h => h) (by rfl) ?_ (by assumption) ?_
  rotate_left
  ·intro w' hSw; (try dsimp only at hSw); go_simp <;> with_reducible rfl
  simp only [gq]; try simp only [pq]
  refine wpAnyH_ready (rs := [12]) (by kernel_rfl) (by simp) ?_
  refine AllReadyH.cons rfl (fun K hK => ?_) AllReadyH.nil
  simp only [gq]
  have q := (HSite.out wc hyn).blk.cell (i := 5) rfl
  have z := (HSite.out wc hyn).blk.frozen 5
  have hs9 := (HSite.out wc hyn).setParts HBR.out (c := c6) hv6
  have hf9 := (Fr.of_ext hyn).setR (r := r) 5 (.slice A6 (narrowO s.parts f).length c6)
  go_simp
  clear q z
  obtain ⟨wn, hwn⟩ : ∃ wn, wn = wc.setCell ⟨r, 5, none⟩ (.slice A6 (narrowO s.parts f).length c6) := ⟨_, rfl⟩
  rw [← hwn] at hs9 hf9 ⊢
  clear hwn
  refine hK.out _ _ (HAll.out _ hf9) (fun hHeld => ?_)
  clear hK K
  try simp only [pq]
  refine wpAnyH_done (by kernel_rfl) ?_ _
  clear hHeld
  have hfr := HX.out.trans hf9
  have hf := (HF.out.chg (RBox.mono (by decide)) (by decide) (hf9.chg HTY.out HBR.out))
  have hb2 := hf9.blkO HB2.out HN2.out
  have hb3 := hf9.blkO HB3.out HN3.out
  have hsite := hs9
  have hty := hsite.blk.ty
  clear HSite HB2 HB3 HAll HF HX HTY hyn hf9 hs9 hv6
  obtain ⟨P6, hP6⟩ : ∃ P, P = narrowO s.parts f := ⟨_, rfl⟩
  rw [← hP6] at hsite
  have HP6 := hid hP6
  clear hP6
  have HTY := hid hty
  have HB5 := hid (Nat.le_trans HB0.out hfr.size)
  have HRL5 := hid hsite.blk.lt
  obtain ⟨w5, hw5⟩ : ∃ w, w = wn := ⟨_, rfl⟩
  rw [← hw5] at hsite hb2 hb3 hf hfr HTY HB5 HRL5 ⊢
  clear hw5
  have HSite := hid (fun w' (x : Ext w5 w') => hsite.ext x)
  have HB2 := hid hb2
  have HB3 := hid hb3
  have HAll := hid (fun w' (x : Fr r w5 w') => show w'.cell? ⟨b2, 0, none⟩ = some (.pointer (some ⟨r, 0, none⟩)) ∧ w'.cell? ⟨b3, 0, none⟩ = some (.slice A f.length c) from ⟨(x.blkO HB2.out HN2.out).cell rfl, (x.blkO HB3.out HN3.out).cell rfl⟩)
  have HF := hid hf
  have HX := hid hfr
  clear hsite hb2 hb3 hf hfr
  go_wp2_with fail
  have hyn := (Ext.refl w5).drew
  refine wp_region_held_drew (S := fun w' => w'.cell? ⟨b2, 0, none⟩ = some (.pointer (some ⟨r, 0, none⟩)) ∧ w'.cell? ⟨b3, 0, none⟩ = some (.slice A f.length c)) (by kernel_rfl) (HAll.out _ (Fr.of_ext hyn)) (fun hHeld => ?_)
  obtain ⟨wc, hwc⟩ : ∃ wc, wc = w5.drew := ⟨_, rfl⟩
  rw [← hwc] at hHeld hyn ⊢
  clear hwc
  refine tk 0 ?_ rfl (by kernel_rfl) (fun _ _ _ h => h) (by rfl) ?_ (by assumption) ?_
  rotate_left
  ·intro w' hSw; (try dsimp only at hSw); go_simp <;> with_reducible rfl
  simp only [gq]; try simp only [pq]
  refine tk 1 ?_ rfl (by kernel_rfl) (fun _ _ _ h => h) (by rfl) ?_ (by assumption) ?_
  rotate_left
  ·intro w' hSw; (try dsimp only at hSw); go_simp <;> with_reducible rfl
  simp only [gq]; try simp only [pq]
  refine tk 2 ?_ rfl (by kernel_rfl) (fun _ _ _ h => h) (by rfl) ?_ (by assumption) ?_
  rotate_left
  ·intro w' hSw; (try dsimp only at hSw); go_simp <;> with_reducible rfl
  simp only [gq]; try simp only [pq]
  refine tk 3 ?_ rfl (by kernel_rfl) (fun _ _ _ h => h) (by rfl) ?_ (by assumption) ?_
  rotate_left
  ·intro w' hSw; (try dsimp only at hSw); go_simp <;> with_reducible rfl
  simp only [gq]; try simp only [pq]
  refine tk 6 ?_ rfl (by kernel_rfl) (fun _ _ _ h => h) (by rfl) ?_ (by assumption) ?_
  rotate_left
  ·intro w' hSw; (try dsimp only at hSw); go_simp <;> with_reducible rfl
  simp only [gq]; try simp only [pq]
  refine wpAnyH_ready (rs := [4]) (by kernel_rfl) (by simp) ?_
  refine AllReadyH.cons rfl (fun K hK => ?_) AllReadyH.nil
  simp only [gq]
  have q := (HSite.out wc hyn).blk.cell (i := 4) (u := .slice Ax s.shelf.length cx) rfl
  go_simp
  clear q
  refine hK.out _ _ (HAll.out _ (Fr.of_ext hyn)) (fun hHeld => ?_)
  clear hK K
  try simp only [pq]
  refine wpAnyH_ready (rs := [5]) (by kernel_rfl) (by simp) ?_
  refine AllReadyH.cons rfl (fun K hK => ?_) AllReadyH.nil
  simp only [gq]
  go_simp
  refine (shelf_Copied B Ax cx s.shelf wc (Nat.le_trans HB5.out hyn.size) (by have := HOK.out.shelf.len; omega) HOK.out.shelf.all ((HSite.out wc hyn).sx)).mono ?_
  rintro e wn ⟨v6, rfl, ho6, hxa⟩
  dsimp only
  have hws := hyn.size
  have hbs := hxa.size
  replace hyn := hyn.trans hxa
  obtain ⟨bs, hbsd⟩ : ∃ bs, bs = wc.heap.size := ⟨_, rfl⟩
  rw [← hbsd] at ho6 hws hbs
  clear hxa hbsd
  obtain ⟨wc, rfl⟩ : ∃ wc', wc' = wn := ⟨_, rfl⟩
  refine hK.out _ _ (HAll.out _ (Fr.of_ext hyn)) (fun hHeld => ?_)
  clear hK K
  try simp only [pq]
  refine wpAnyH_ready (rs := [7]) (by kernel_rfl) (by simp) ?_
  refine AllReadyH.cons rfl (fun K hK => ?_) AllReadyH.nil
  simp only [gq]
  go_simp
  have hI2 := (Fr.of_ext (r := r) hyn).blkO HB2.out HN2.out
  have hI3 := (Fr.of_ext (r := r) hyn).blkO HB3.out HN3.out
  have hIr := (HSite.out wc hyn).blk
  have hIf := HF.out.ext RBox.monoE hyn
  have hBb : B ≤ bs := Nat.le_trans HB5.out hws
  obtain ⟨A6, c6, rfl, _, _⟩ := ho6.len
  have hne : ∀ g, (Value.slice A6 s.shelf.length c6).ownBlock = some g → g ≠ b2 ∧ g ≠ b3 ∧ g ≠ r := fun g hg => by
   have h1 := (ho6.lt hg).1
   have h2 := HB2.out.lt
   have h3 := HB3.out.lt
   have h4 := HRL5.out
   omega
  refine (delete_ver B bs 86 #[.pointer (some ⟨b2, 0, none⟩), .pointer (some ⟨b3, 0, none⟩)] (.slice A6 s.shelf.length c6) s.shelf (fun v => !wantKeep s.me f v) wc hBb (by have := HOK.out.shelf.len; omega) ho6 Tryz.call86 (fun q hq cs wn hg hcl hR => by
   obtain ⟨Bv, dv, Bm, dm, rfl, hi⟩ := hR.inV
   have hch := ho6.chg_of hBb hg
   exact want_1 B _ Bv dv Bm dm b2 b3 r s.me A c f wn (HOK.out.shelf.all _ (List.getElem_mem hq)) HLF.out HFOK.out.2 (hIf.chg (RBox.mono (by decide)) (by decide) hch) (grown_cell hg (hI2.cell rfl) (fun e => (hne _ e.symm).1 rfl)) (grown_cell hg (hI3.cell rfl) (fun e => (hne _ e.symm).2.1 rfl)) (grown_cell hg (hIr.cell rfl) (fun e => (hne _ e.symm).2.2 rfl)))).mono ?_
  rintro e wn ⟨v7, rfl, ho7, hg7, hob⟩
  dsimp only
  replace hyn := hyn.below (ho6.below_of hg7 hbs) hws
  rw [want_filter] at ho7
  have hv7 := ho7.isSl B
  obtain ⟨A7, c7, rfl, _, _, hv7⟩ := hv7
  clear hI2 hI3 hIr hIf hBb hne ho6 ho7 hg7 hob hbs hws
  obtain ⟨wc, rfl⟩ : ∃ wc', wc' = wn := ⟨_, rfl⟩
  refine hK.out _ _ (HAll.out _ (Fr.of_ext hyn)) (fun hHeld => ?_)
  clear hK K
  try simp only [pq]
  refine tk 8 ?_ rfl (by kernel_rfl) (fun _ _ _ h => h) (by rfl) ?_ (by assumption) ?_
  rotate_left
  ·intro w' hSw; (try dsimp only at hSw); go_simp <;> with_reducible rfl
  simp only [gq]; try simp only [pq]
  refine tk 9 ?_ rfl (by kernel_rfl) (fun _ _ _ h => h) (by rfl) ?_ (by assumption) ?_
  rotate_left
  ·intro w' hSw; (try dsimp only at hSw); go_simp <;> with_reducible rfl
  simp only [gq]; try simp only [pq]
  refine wpAnyH_ready (rs := [10]) (by kernel_rfl) (by simp) ?_
  refine AllReadyH.cons rfl (fun K hK => ?_) AllReadyH.nil
  simp only [gq]
  have q := (HSite.out wc hyn).blk.cell (i := 4) rfl
  have z := (HSite.out wc hyn).blk.frozen 4
  have hs9 := (HSite.out wc hyn).setShelf HBR.out (c := c7) hv7
  have hf9 := (Fr.of_ext hyn).setR (r := r) 4 (.slice A7 (s.shelf.filter (wantKeep s.me f)).length c7)
  go_simp
  clear q z
  obtain ⟨wn, hwn⟩ : ∃ wn, wn = wc.setCell ⟨r, 4, none⟩ (.slice A7 (s.shelf.filter (wantKeep s.me f)).length c7) := ⟨_, rfl⟩
  rw [← hwn] at hs9 hf9 ⊢
  clear hwn
  refine hK.out _ _ (HAll.out _ hf9) (fun hHeld => ?_)
  clear hK K
  try simp only [pq]
  refine wpAnyH_done (by kernel_rfl) ?_ _
  clear hHeld
  have hfr := HX.out.trans hf9
  have hf := (HF.out.chg (RBox.mono (by decide)) (by decide) (hf9.chg HTY.out HBR.out))
  have hb2 := hf9.blkO HB2.out HN2.out
  have hb3 := hf9.blkO HB3.out HN3.out
  have hsite := hs9
  have hty := hsite.blk.ty
  clear HSite HB2 HB3 HAll HF HX HTY HB5 HRL5 hyn hf9 hs9 hv7
  obtain ⟨X7, hX7⟩ : ∃ P, P = s.shelf.filter (wantKeep s.me f) := ⟨_, rfl⟩
  rw [← hX7] at hsite
  have HX7 := hid hX7
  clear hX7
  have HTY := hid hty
  have HB6 := hid (Nat.le_trans HB0.out hfr.size)
  obtain ⟨w6, hw6⟩ : ∃ w, w = wn := ⟨_, rfl⟩
  rw [← hw6] at hsite hb2 hb3 hf hfr HTY HB6 ⊢
  clear hw6
  have HSite := hid (fun w' (x : Ext w6 w') => hsite.ext x)
  have HB2 := hid hb2
  have HB3 := hid hb3
  have HAll := hid (fun w' (x : Fr r w6 w') => show w'.cell? ⟨b2, 0, none⟩ = some (.pointer (some ⟨r, 0, none⟩)) ∧ w'.cell? ⟨b3, 0, none⟩ = some (.slice A f.length c) from ⟨(x.blkO HB2.out HN2.out).cell rfl, (x.blkO HB3.out HN3.out).cell rfl⟩)
  have HF := hid hf
  have HX := hid hfr
  clear hsite hb2 hb3 hf hfr
  go_wp2_with fail
  have hyn := (Ext.refl w6).drew
  refine wp_region_held_drew (S := fun w' => w'.cell? ⟨b2, 0, none⟩ = some (.pointer (some ⟨r, 0, none⟩)) ∧ w'.cell? ⟨b3, 0, none⟩ = some (.slice A f.length c)) (by kernel_rfl) (HAll.out _ (Fr.of_ext hyn)) (fun hHeld => ?_)
  obtain ⟨wc, hwc⟩ : ∃ wc, wc = w6.drew := ⟨_, rfl⟩
  rw [← hwc] at hHeld hyn ⊢
  clear hwc
  refine tk 0 ?_ rfl (by kernel_rfl) (fun _ _ _ h => h) (by rfl) ?_ (by assumption) ?_
  rotate_left
  ·intro w' hSw; (try dsimp only at hSw); go_simp <;> with_reducible rfl
  simp only [gq]; try simp only [pq]
  refine tk 1 ?_ rfl (by kernel_rfl) (fun _ _ _ h => h) (by rfl) ?_ (by assumption) ?_
  rotate_left
  ·intro w' hSw; (try dsimp only at hSw); go_simp <;> with_reducible rfl
  simp only [gq]; try simp only [pq]
  refine tk 2 ?_ rfl (by kernel_rfl) (fun _ _ _ h => h) (by rfl) ?_ (by assumption) ?_
  rotate_left
  ·intro w' hSw; (try dsimp only at hSw); go_simp <;> with_reducible rfl
  simp only [gq]; try simp only [pq]
  refine tk 4 ?_ rfl (by kernel_rfl) (fun _ _ _ h => h) (by rfl) ?_ (by assumption) ?_
  rotate_left
  ·intro w' hSw; (try dsimp only at hSw); go_simp <;> with_reducible rfl
  simp only [gq]; try simp only [pq]
  refine tk 5 ?_ rfl (by kernel_rfl) (fun _ _ _ h => h) (by rfl) ?_ (by assumption) ?_
  rotate_left
  ·intro w' hSw; (try dsimp only at hSw); go_simp <;> with_reducible rfl
  simp only [gq]; try simp only [pq]
  refine tk 6 ?_ rfl (by kernel_rfl) (fun _ _ _ h => h) (by rfl) ?_ (by assumption) ?_
  rotate_left
  ·intro w' hSw; (try dsimp only at hSw); go_simp <;> with_reducible rfl
  simp only [gq]; try simp only [pq]
  refine wpAnyH_ready (rs := [3, 7]) (by kernel_rfl) (by simp) ?_
  refine AllReadyH.cons rfl (fun K hK => ?_) ?_
  ·simp only [gq]
   go_simp
   refine (filter_Plain B A c f wc (Nat.le_trans HB6.out hyn.size) HLF.out HFOK.out.2 (HF.out.ext RBox.monoE hyn)).mono ?_
   rintro e wn ⟨v3, rfl, hv3, hxa⟩
   dsimp only
   obtain ⟨A3, c3, rfl, _, _, hv3⟩ := hv3
   replace hyn := hyn.trans hxa
   clear hxa
   obtain ⟨wc, rfl⟩ : ∃ wc', wc' = wn := ⟨_, rfl⟩
   refine hK.out _ _ (HAll.out _ (Fr.of_ext hyn)) (fun hHeld => ?_)
   clear hK K
   try simp only [pq]
   refine wpAnyH_ready (rs := [7]) (by kernel_rfl) (by simp) ?_
   refine AllReadyH.cons rfl (fun K hK => ?_) AllReadyH.nil
   simp only [gq]
   have q := (HSite.out wc hyn).blk.cell (i := 2) (u := .int .i64 s.stamp) rfl
   go_simp
   clear q
   refine hK.out _ _ (HAll.out _ (Fr.of_ext hyn)) (fun hHeld => ?_)
   clear hK K
   try simp only [pq]
   refine tk 8 ?_ rfl (by kernel_rfl) (fun _ _ _ h => h) (by rfl) ?_ (by assumption) ?_
   rotate_left
   ·intro w' hSw; (try dsimp only at hSw); go_simp <;> with_reducible rfl
   simp only [gq]; try simp only [pq]
   refine tk 9 ?_ rfl (by kernel_rfl) (fun _ _ _ h => h) (by rfl) ?_ (by assumption) ?_
   rotate_left
   ·intro w' hSw; (try dsimp only at hSw); go_simp <;> with_reducible rfl
   simp only [gq]; try simp only [pq]
   refine tk 10 ?_ rfl (by kernel_rfl) (fun _ _ _ h => h) (by rfl) ?_ (by assumption) ?_
   rotate_left
   ·intro w' hSw; (try dsimp only at hSw); go_simp <;> with_reducible rfl
   simp only [gq]; try simp only [pq]
   refine wpAnyH_ready (rs := [11]) (by kernel_rfl) (by simp) ?_
   refine AllReadyH.cons rfl (fun K hK => ?_) AllReadyH.nil
   simp only [gq]
   have q := (HSite.out wc hyn).blk.cell (i := 3) rfl
   have z := (HSite.out wc hyn).blk.frozen 3
   have hs8 := (HSite.out wc hyn).setFilter HBR.out (c := c3) hv3
   have hf8 := (Fr.of_ext hyn).setR (r := r) 3 (.slice A3 (plainF f).length c3)
   go_simp
   clear q z
   obtain ⟨wn, hwn⟩ : ∃ wn, wn = wc.setCell ⟨r, 3, none⟩ (.slice A3 (plainF f).length c3) := ⟨_, rfl⟩
   rw [← hwn] at hs8 hf8 ⊢
   clear hwn hyn
   refine hK.out _ _ (HAll.out _ hf8) (fun hHeld => ?_)
   obtain ⟨wc, rfl⟩ : ∃ wc', wc' = wn := ⟨_, rfl⟩
   clear hK K
   try simp only [pq]
   refine tk 12 ?_ rfl (by kernel_rfl) (fun _ _ _ h => h) (by rfl) ?_ (by assumption) ?_
   rotate_left
   ·intro w' hSw; (try dsimp only at hSw); go_simp <;> with_reducible rfl
   simp only [gq]; try simp only [pq]
   refine tk 13 ?_ rfl (by kernel_rfl) (fun _ _ _ h => h) (by rfl) ?_ (by assumption) ?_
   rotate_left
   ·intro w' hSw; (try dsimp only at hSw); go_simp <;> with_reducible rfl
   simp only [gq]; try simp only [pq]
   refine wpAnyH_ready (rs := [14]) (by kernel_rfl) (by simp) ?_
   refine AllReadyH.cons rfl (fun K hK => ?_) AllReadyH.nil
   simp only [gq]
   have q := hs8.blk.cell (i := 2) rfl
   have z := hs8.blk.frozen 2
   have hs9 := hs8.setStamp HBR.out (s.stamp + 1)
   have hf9 := hf8.setR (r := r) 2 (.int .i64 (s.stamp + 1))
   go_simp
   clear q z
   obtain ⟨wn, hwn⟩ : ∃ wn, wn = wc.setCell ⟨r, 2, none⟩ (.int .i64 (s.stamp + 1)) := ⟨_, rfl⟩
   rw [← hwn] at hs9 hf9 ⊢
   clear hwn
   refine hK.out _ _ (HAll.out _ hf9) (fun hHeld => ?_)
   clear hK K
   try simp only [pq]
   refine wpAnyH_done (by kernel_rfl) ?_ _
   clear hHeld
   have hff := HX.out.trans hf9
   clear HSite HB2 HB3 HAll HF hf8 hs8
   go_wp2_with fail
   go_ret
   refine ⟨by first | rfl | (rw [HC0.out]; rfl), ?_, hff⟩
   have := hs9.is
   rw [HP6.out, HX7.out] at this
   rw [want_eq HC0.out]
   exact this
  refine AllReadyH.cons rfl (fun K hK => ?_) AllReadyH.nil
  simp only [gq]
  have q := (HSite.out wc hyn).blk.cell (i := 2) (u := .int .i64 s.stamp) rfl
  go_simp
  clear q
  refine hK.out _ _ (HAll.out _ (Fr.of_ext hyn)) (fun hHeld => ?_)
  clear hK K
  try simp only [pq]
  refine tk 8 ?_ rfl (by kernel_rfl) (fun _ _ _ h => h) (by rfl) ?_ (by assumption) ?_
  rotate_left
  ·intro w' hSw; (try dsimp only at hSw); go_simp <;> with_reducible rfl
  simp only [gq]; try simp only [pq]
  refine wpAnyH_ready (rs := [3]) (by kernel_rfl) (by simp) ?_
  refine AllReadyH.cons rfl (fun K hK => ?_) AllReadyH.nil
  simp only [gq]
  go_simp
  refine (filter_Plain B A c f wc (Nat.le_trans HB6.out hyn.size) HLF.out HFOK.out.2 (HF.out.ext RBox.monoE hyn)).mono ?_
  rintro e wn ⟨v3, rfl, hv3, hxa⟩
  dsimp only
  obtain ⟨A3, c3, rfl, _, _, hv3⟩ := hv3
  replace hyn := hyn.trans hxa
  clear hxa
  obtain ⟨wc, rfl⟩ : ∃ wc', wc' = wn := ⟨_, rfl⟩
  refine hK.out _ _ (HAll.out _ (Fr.of_ext hyn)) (fun hHeld => ?_)
  clear hK K
  try simp only [pq]
  refine tk 9 ?_ rfl (by kernel_rfl) (fun _ _ _ h => h) (by rfl) ?_ (by assumption) ?_
  rotate_left
  ·intro w' hSw; (try dsimp only at hSw); go_simp <;> with_reducible rfl
  simp only [gq]; try simp only [pq]
  refine tk 10 ?_ rfl (by kernel_rfl) (fun _ _ _ h => h) (by rfl) ?_ (by assumption) ?_
  rotate_left
  ·intro w' hSw; (try dsimp only at hSw); go_simp <;> with_reducible rfl
  simp only [gq]; try simp only [pq]
  refine wpAnyH_ready (rs := [11]) (by kernel_rfl) (by simp) ?_
  refine AllReadyH.cons rfl (fun K hK => ?_) AllReadyH.nil
  simp only [gq]
  have q := (HSite.out wc hyn).blk.cell (i := 3) rfl
  have z := (HSite.out wc hyn).blk.frozen 3
  have hs8 := (HSite.out wc hyn).setFilter HBR.out (c := c3) hv3
  have hf8 := (Fr.of_ext hyn).setR (r := r) 3 (.slice A3 (plainF f).length c3)
  go_simp
  clear q z
  obtain ⟨wn, hwn⟩ : ∃ wn, wn = wc.setCell ⟨r, 3, none⟩ (.slice A3 (plainF f).length c3) := ⟨_, rfl⟩
  rw [← hwn] at hs8 hf8 ⊢
  clear hwn hyn
  refine hK.out _ _ (HAll.out _ hf8) (fun hHeld => ?_)
  obtain ⟨wc, rfl⟩ : ∃ wc', wc' = wn := ⟨_, rfl⟩
  clear hK K
  try simp only [pq]
  refine tk 12 ?_ rfl (by kernel_rfl) (fun _ _ _ h => h) (by rfl) ?_ (by assumption) ?_
  rotate_left
  ·intro w' hSw; (try dsimp only at hSw); go_simp <;> with_reducible rfl
  simp only [gq]; try simp only [pq]
  refine tk 13 ?_ rfl (by kernel_rfl) (fun _ _ _ h => h) (by rfl) ?_ (by assumption) ?_
  rotate_left
  ·intro w' hSw; (try dsimp only at hSw); go_simp <;> with_reducible rfl
  simp only [gq]; try simp only [pq]
  refine wpAnyH_ready (rs := [14]) (by kernel_rfl) (by simp) ?_
  refine AllReadyH.cons rfl (fun K hK => ?_) AllReadyH.nil
  simp only [gq]
  have q := hs8.blk.cell (i := 2) rfl
  have z := hs8.blk.frozen 2
  have hs9 := hs8.setStamp HBR.out (s.stamp + 1)
  have hf9 := hf8.setR (r := r) 2 (.int .i64 (s.stamp + 1))
  go_simp
  clear q z
  obtain ⟨wn, hwn⟩ : ∃ wn, wn = wc.setCell ⟨r, 2, none⟩ (.int .i64 (s.stamp + 1)) := ⟨_, rfl⟩
  rw [← hwn] at hs9 hf9 ⊢
  clear hwn
  refine hK.out _ _ (HAll.out _ hf9) (fun hHeld => ?_)
  clear hK K
  try simp only [pq]
  refine wpAnyH_done (by kernel_rfl) ?_ _
  clear hHeld
  have hff := HX.out.trans hf9
  clear HSite HB2 HB3 HAll HF hf8 hs8
  go_wp2_with fail
  go_ret
  refine ⟨by first | rfl | (rw [HC0.out]; rfl), ?_, hff⟩
  have := hs9.is
  rw [HP6.out, HX7.out] at this
  rw [want_eq HC0.out]
  exact this
 ·have hne : (filterCheck f != 0) = true := by simpa using hc
  have HE := hid (show wantS s f = s by unfold wantS; rw [if_neg hc])
  clear hc
  go_wp2_with fail
  go_ret
  exact ⟨rfl, by rw [HE.out]; exact (hsite.ext hx).is, Fr.of_ext hx⟩
end Go.Proofs.YtngbfdogiciahaaGreat
