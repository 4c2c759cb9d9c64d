/- Several texts in one: data, readings, plain laws, walks. No condition. -/
import Derived.Test.YtngbfdogiciahaaGreatShort
import Derived.Test.YtngbfdogiciahaaGreatSiteX
import Derived.Test.YtngbfdogiciahaaGreatJoinShelfF
import Derived.Test.YtngbfdogiciahaaGreatBase
namespace Go.Proofs.YtngbfdogiciahaaGreat
open Go Go.RowKit
theorem ri_ask : RowInfo Tryz.prog 68 4 := ⟨⟨_, Tryz.underlying68, rfl⟩, by kernel_rfl⟩
theorem spans_bd {f : List Box} (h : filterCheck f = 0) : ∀ b ∈ f, b.spans.length ≤ 1000000 := fun b hb => Nat.le_trans (spanCheck_ok ((filterCheck_ok h).2 b hb).2).2 (by decide)
set_option maxRecDepth 100000 in
set_option maxHeartbeats 2000000 in
theorem site_Ask (B : Nat) (r : Nat) (s : SiteS) (w : World) (hB : B ≤ w.heap.size) (hok : SiteOk s) (h : IsSite B w r s) :
  Calls Tryz.prog 29 #[.pointer (some ⟨r, 0, none⟩)] w fun e w' => ∃ A1 c1 A2 c2, e = .returned (.agg #[.int .i64 s.me, .int .i64 s.stamp, .slice A1 s.filter.length c1, .slice A2 (knownP s).length c2]) ∧ InA B w' A1 c1 A2 c2 (askS s) ∧ Ext w w' := by
 obtain ⟨Af, cf, Ax, cx, Ap, cp, h⟩ := h
 have HB := hid hB
 have HOK := hid hok
 have HS := hid h
 have HFL := hid (filterCheck_ok hok.filter).1
 have HSP := hid (spans_bd hok.filter)
 have hx := (Ext.refl w).alloc (.cells #[.int .i64 0, .int .i64 0, .slice none 0 0, .slice none 0 0] 68)
 have hbr := Blk.new w 68 #[.int .i64 0, .int .i64 0, .slice none 0 0, .slice none 0 0]
 obtain ⟨wa, hwa⟩ : ∃ wa, wa = w.alloc (.cells #[.int .i64 0, .int .i64 0, .slice none 0 0, .slice none 0 0] 68) := ⟨_, rfl⟩
 have HWA := hid hwa
 have q0 := h.blk.cell (i := 0) (u := .int .i64 s.me) rfl
 have q2 := h.blk.cell (i := 2) (u := .int .i64 s.stamp) rfl
 have q3 := h.blk.cell (i := 3) (u := .slice Af s.filter.length cf) rfl
 have HAllw := hid (fun w' (x : Ext w w') => show w'.cell? ⟨r, 0, none⟩ = some (.int .i64 s.me) ∧ w'.cell? ⟨r, 2, none⟩ = some (.int .i64 s.stamp) ∧ w'.cell? ⟨r, 3, none⟩ = some (.slice Af s.filter.length cf) from ⟨x.cell q0, x.cell q2, x.cell q3⟩)
 rw [← hwa] at hx hbr
 have HX0 := hid hx
 have HAll := hid (fun w' (x : Ext wa w') => HAllw.out w' (HX0.out.trans x))
 have HBr := hid (fun w' (x : Ext wa w') => hbr.ext x)
 clear hwa hx hbr q0 q2 q3 hok hB h
 go_enter Tryz.func29, Tryz.ntmps29
 go_wp2_with fail
 rw [← HWA.out]
 have hyn := (Ext.refl wa).drew
 refine wp_region_held_drew (S := fun w' => w'.cell? ⟨r, 0, none⟩ = some (.int .i64 s.me) ∧ w'.cell? ⟨r, 2, none⟩ = some (.int .i64 s.stamp) ∧ w'.cell? ⟨r, 3, none⟩ = some (.slice Af s.filter.length cf)) (by kernel_rfl) (HAll.out _ hyn) (fun hHeld => ?_)
 obtain ⟨wc, hwc⟩ : ∃ wc, wc = wa.drew := ⟨_, rfl⟩
 rw [← hwc] at hHeld hyn ⊢
 clear hwc
 refine tk 0 ?_ rfl (by kernel_rfl) (fun _ _ _ h => h) (by rfl) ?_ (by assumption) ?_
 rotate_left
 ·intro w' hSw; (try dsimp only at hSw); go_simp <;> with_reducible rfl
 simp only [gq]; try simp only [pq]
 refine tk 1 ?_ rfl (by kernel_rfl) (fun _ _ _ h => h) (by rfl) ?_ (by assumption) ?_
 rotate_left
 ·intro w' hSw; (try dsimp only at hSw); go_simp <;> with_reducible rfl
 simp only [gq]; try simp only [pq]
 refine tk 2 ?_ rfl (by kernel_rfl) (fun _ _ _ h => h) (by rfl) ?_ (by assumption) ?_
 rotate_left
 ·intro w' hSw; (try dsimp only at hSw); go_simp <;> with_reducible rfl
 simp only [gq]; try simp only [pq]
 refine tk 3 ?_ rfl (by kernel_rfl) (fun _ _ _ h => h) (by rfl) ?_ (by assumption) ?_
 rotate_left
 ·intro w' hSw; (try dsimp only at hSw); go_simp <;> with_reducible rfl
 simp only [gq]; try simp only [pq]
 refine tk 4 ?_ rfl (by kernel_rfl) (fun _ _ _ h => h) (by rfl) ?_ (by assumption) ?_
 rotate_left
 ·intro w' hSw; (try dsimp only at hSw); go_simp <;> with_reducible rfl
 simp only [gq]; try simp only [pq]
 refine tk 5 ?_ rfl (by kernel_rfl) (fun _ _ _ h => h) (by rfl) ?_ (by assumption) ?_
 rotate_left
 ·intro w' hSw; (try dsimp only at hSw); go_simp <;> with_reducible rfl
 simp only [gq]; try simp only [pq]
 refine tk 6 ?_ rfl (by kernel_rfl) (fun _ _ _ h => h) (by rfl) ?_ (by assumption) ?_
 rotate_left
 ·intro w' hSw; (try dsimp only at hSw); go_simp <;> with_reducible rfl
 simp only [gq]; try simp only [pq]
 refine tk 7 ?_ rfl (by kernel_rfl) (fun _ _ _ h => h) (by rfl) ?_ (by assumption) ?_
 rotate_left
 ·intro w' hSw; (try dsimp only at hSw); go_simp <;> with_reducible rfl
 simp only [gq]; try simp only [pq]
 refine tk 8 ?_ rfl (by kernel_rfl) (fun _ _ _ h => h) (by rfl) ?_ (by assumption) ?_
 rotate_left
 ·intro w' hSw; (try dsimp only at hSw); go_simp <;> with_reducible rfl
 simp only [gq]; try simp only [pq]
 refine tk 9 ?_ rfl (by kernel_rfl) (fun _ _ _ h => h) (by rfl) ?_ (by assumption) ?_
 rotate_left
 ·intro w' hSw; (try dsimp only at hSw); go_simp <;> with_reducible rfl
 simp only [gq]; try simp only [pq]
 refine tk 10 ?_ rfl (by kernel_rfl) (fun _ _ _ h => h) (by rfl) ?_ (by assumption) ?_
 rotate_left
 ·intro w' hSw; (try dsimp only at hSw); go_simp <;> with_reducible rfl
 simp only [gq]; try simp only [pq]
 refine tk 11 ?_ rfl (by kernel_rfl) (fun _ _ _ h => h) (by rfl) ?_ (by assumption) ?_
 rotate_left
 ·intro w' hSw; (try dsimp only at hSw); go_simp <;> with_reducible rfl
 simp only [gq]; try simp only [pq]
 refine tk 13 ?_ rfl (by kernel_rfl) (fun _ _ _ h => h) (by rfl) ?_ (by assumption) ?_
 rotate_left
 ·intro w' hSw; (try dsimp only at hSw); go_simp <;> with_reducible rfl
 simp only [gq]; try simp only [pq]
 refine wpAnyH_ready (rs := [12]) (by kernel_rfl) (by simp) ?_
 refine AllReadyH.cons rfl (fun K hK => ?_) AllReadyH.nil
 simp only [gq]
 go_simp
 refine (filter_Copied B Af cf s.filter wc (Nat.le_trans HB.out (Nat.le_trans HX0.out.size hyn.size)) (by have := HFL.out; omega) HSP.out ((HS.out.ext (HX0.out.trans hyn)).sf)).mono ?_
 rintro e wn ⟨v12, rfl, hv12, hxa⟩
 dsimp only
 obtain ⟨A12, c12, rfl, f1, f2, hv12⟩ := hv12
 replace hyn := hyn.trans hxa
 clear hxa
 obtain ⟨wc, rfl⟩ : ∃ wc', wc' = wn := ⟨_, rfl⟩
 refine hK.out _ _ (HAll.out _ hyn) (fun hHeld => ?_)
 clear hK K
 try simp only [pq]
 refine wpAnyH_ready (rs := [14]) (by kernel_rfl) (by simp) ?_
 refine AllReadyH.cons rfl (fun K hK => ?_) AllReadyH.nil
 simp only [gq]
 go_simp
 refine (site_known B r Af cf Ax cx Ap cp s wc (Nat.le_trans HB.out (Nat.le_trans HX0.out.size hyn.size)) HOK.out (HS.out.ext (HX0.out.trans hyn))).mono ?_
 rintro e wn ⟨v14, rfl, hv14, hxa⟩
 dsimp only
 obtain ⟨A14, c14, rfl, p1, p2, hv14⟩ := hv14
 replace hyn := hyn.trans hxa
 replace hv12 := hv12.ext RBox.monoE hxa
 clear hxa
 obtain ⟨wc, rfl⟩ : ∃ wc', wc' = wn := ⟨_, rfl⟩
 refine hK.out _ _ (HAll.out _ hyn) (fun hHeld => ?_)
 clear hK K
 try simp only [pq]
 refine tk 15 ?_ rfl (by kernel_rfl) (fun _ _ _ h => h) (by rfl) ?_ (by assumption) ?_
 rotate_left
 ·intro w' hSw; (try dsimp only at hSw); go_simp <;> with_reducible rfl
 simp only [gq]; try simp only [pq]
 refine wpAnyH_ready (rs := [16]) (by kernel_rfl) (by simp) ?_
 refine AllReadyH.cons rfl (fun K hK => ?_) AllReadyH.nil
 simp only [gq]
 simp only [Region.wanted, if_true]
 have hbr := HBr.out wc hyn
 with_reducible refine wp_storeRow (b := w.heap.size) (cs := #[.int .i64 s.me, .int .i64 s.stamp, .slice A12 s.filter.length c12, .slice A14 (knownP s).length c14]) (old := #[.int .i64 0, .int .i64 0, .slice none 0 0, .slice none 0 0]) (n := 4) (t := 68) ri_ask (.tmp 2) (.tmp 18) rfl ?_ ?_ hbr rfl rfl (by simp [Value.oneCell']) ?_
 ·rfl
 ·rfl
 intro wn hbl hbn _ hot
 have hxw := (HX0.out.trans hyn).below hbl (Nat.le_refl _)
 have hch : Chg B [68] wc wn := chg_row hbr hbl hot HB.out
 replace hv12 := hv12.chg (RBox.mono (by decide)) (by decide) hch
 replace hv14 := hv14.chg (RPart.mono (by decide) (by decide) (by decide) (by decide)) (by decide) hch
 refine hK.out _ _ (HAllw.out wn hxw) (fun hHeld => ?_)
 clear hHeld hot hbl hbr hch
 clear hK K
 try simp only [Act.put]
 refine wpAnyH_done (by kernel_rfl) ?_ _
 go_wp2_with fail
 refine ret_row rfl ri_ask rfl hbn rfl rfl ⟨A12, c12, A14, c14, rfl, ⟨by show s.filter.length ≤ maxLen; omega, by show (knownP s).length ≤ maxLen; omega, hv12, hv14⟩, hxw⟩
theorem site_Shelf (B : Nat) (r : Nat) (s : SiteS) (w : World) (hB : B ≤ w.heap.size) (hok : SiteOk s) (h : IsSite B w r s) :
  Calls Tryz.prog 27 #[.pointer (some ⟨r, 0, none⟩)] w fun e w' => ∃ v, e = .returned v ∧ IsVers B w' v s.shelf ∧ Ext w w' := by
 obtain ⟨Af, cf, Ax, cx, Ap, cp, h⟩ := h
 have hrl := h.blk.lt
 have q := h.blk.cell (i := 4) (u := .slice Ax s.shelf.length cx) rfl
 go_enter Tryz.func27, Tryz.ntmps27
 go_wp2_with fail
 refine (shelf_Copied B Ax cx s.shelf _ hB (by have := hok.shelf.len; omega) hok.shelf.all h.sx).mono ?_
 rintro e w1 ⟨v1, rfl, ho1, hx1⟩
 go_wp2_with fail
 go_ret
 exact ⟨v1, rfl, ho1.isSl B, hx1⟩
end Go.Proofs.YtngbfdogiciahaaGreat
namespace Go.Proofs.YtngbfdogiciahaaGreat
open Go Go.RowKit
section
variable {P : Program} {ops : Array Oper} {C : World → Prop} {Q : Act → Prop} {rest : List Oper} {a : Act} {dst : Option Tmp} {ty : TypeId} {pos : String} {after : Array Edge}
theorem wq_loadRowOn {t : TypeId} {n : Nat} (ri : RowInfo P t n) {x : Operand} {b o : Nat} {cs : Array Value} {j : Nat} {g : Bool} (hg : yielded ops a.tmps j = some g) (hx : a.eval x = .pointer (some ⟨b, o, none⟩)) (hC : ∀ w, C w → w.rangeAt b o cs.toList) (hn : cs.size = n)
  (h : WQ P ops C Q rest (a.put dst (.agg cs))) : WQ P ops C Q (⟨dst, .load t x, ty, pos, after, some (j, g)⟩ :: rest) a := by
 obtain ⟨⟨d, hu, hd⟩, hi⟩ := ri
 exact ⟨wpQuiet_loadRow (cs := cs.toList) hu hd (by rw [hi, Array.length_toList, hn]) (by simp [Region.wanted, hg]) hx hC (by rw [Array.toArray_toList]; exact h.out)⟩
theorem wq_loadRow {t : TypeId} {n : Nat} (ri : RowInfo P t n) {x : Operand} {b o : Nat} {cs : Array Value} (hx : a.eval x = .pointer (some ⟨b, o, none⟩)) (hC : ∀ w, C w → w.rangeAt b o cs.toList) (hn : cs.size = n)
  (h : WQ P ops C Q rest (a.put dst (.agg cs))) : WQ P ops C Q (⟨dst, .load t x, ty, pos, after, none⟩ :: rest) a := by
 obtain ⟨⟨d, hu, hd⟩, hi⟩ := ri
 exact ⟨wpQuiet_loadRow (cs := cs.toList) hu hd (by rw [hi, Array.length_toList, hn]) rfl hx hC (by rw [Array.toArray_toList]; exact h.out)⟩
end
end Go.Proofs.YtngbfdogiciahaaGreat
