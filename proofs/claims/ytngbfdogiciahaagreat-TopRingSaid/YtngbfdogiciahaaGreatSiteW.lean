/- The walks of a Site's own, known, New, Ask, Read, Shelf, Parts, Filter, Made. -/
import Derived.Test.YtngbfdogiciahaaGreatShort
import Derived.Test.YtngbfdogiciahaaGreatJoinSiteP
import Derived.Test.YtngbfdogiciahaaGreatFewC
import Derived.Test.YtngbfdogiciahaaGreatJoinCopW
import Derived.Test.YtngbfdogiciahaaGreatJoinFilC
import Derived.Test.YtngbfdogiciahaaGreatBase
import Derived.Test.YtngbfdogiciahaaGreatJoinShelfF
import Derived.Test.YtngbfdogiciahaaGreatRowV
import Derived.Test.YtngbfdogiciahaaGreatJoinKnT
import Derived.Test.YtngbfdogiciahaaGreatKnM
namespace Go.Proofs.YtngbfdogiciahaaGreat
open Go Go.RowKit
section
variable {P : Program} {w : World} {a : Act} {t : TypeId} {n : Nat}
theorem ret_row {fn : Func} {R : Ending → World → Prop} {q : Tmp} (hr : fn.results = #[.cell q t]) (ri : RowInfo P t n) {b : Nat} (hq : a.tmps.getD q undef = .pointer (some ⟨b, 0, none⟩)) {e : TypeId} {cs : Array Value} (hb : Blk w b e cs) (hn : cs.size = n)
  (hd : a.defers = []) (h : R (.returned (.agg cs)) w) : bodyPost P fn R .ret a w := by
 obtain ⟨⟨d, hu, hd'⟩, hi⟩ := ri
 cases d <;> first | (cases hd'; done) | exact bodyPost_ret (results_cell_row hr _ _ b e cs (0, 0) _ hq hb hu rfl (by rw [hn]; exact hi)) hd h
end
theorem own_vec {m : Nat} {made stamp : Int} {f0 : List Box} {x0 : List Version} {p0 : List Part} (h : made ≠ 0) : (ownP ⟨(m : Int), made, stamp, f0, x0, p0⟩).know.vec = List.replicate m 0 ++ [made] := by
 simp [ownP, ownV, h]
theorem sl_own (B : Nat) {w : World} {g m : Nat} {made : Int} (hb : Blk w g 3 ((rowF (m + 1) fun _ => (.int .i64 0 : Value)).setIfInBounds m (.int .i64 made))) : SlInts B w (some ⟨g, 0, none⟩) (List.replicate m 0 ++ [made]) := by
 intro i y hi
 have hil := (List.getElem?_eq_some_iff.1 hi).1
 simp at hil
 refine ⟨g, 0, [.int .i64 y], rfl, hb.lt, .inr hb.ty, rfl, ?_, rfl⟩
 intro j u hj
 have hj0 : j = 0 := by have := (List.getElem?_eq_some_iff.1 hj).1; simp at this; exact this
 subst hj0
 simp at hj
 subst hj
 rw [Nat.mul_one, Nat.zero_add, Nat.add_zero]
 refine hb.cell ?_
 by_cases hm : i = m
 ·subst hm
  rw [List.getElem?_append_right (by simp)] at hi
  simp at hi
  subst hi
  rw [Array.getElem?_setIfInBounds_self_of_lt (by simp [rowF])]
 ·rw [List.getElem?_append_left (by simp; omega), List.getElem?_replicate, if_pos (by omega)] at hi
  injection hi with hi
  subst hi
  rw [Array.getElem?_setIfInBounds_ne (by omega)]
  exact rowF_get (fun _ => (.int .i64 0 : Value)) (by omega)
set_option maxHeartbeats 1000000 in
theorem site_New (B : Nat) (me : Int) (A : Option Addr) (c : Nat) (f : List Box) (w : World) (hB : B ≤ w.heap.size) (hl : f.length ≤ maxLen) (h : SlBoxes B w A f) :
  Calls Tryz.prog 28 #[.int .i64 me, .slice A f.length c] w fun e w' => ((siteErr me f ≠ 0 ∧ e = .returned (.tuple #[.pointer none, .int .i64 (siteErr me f)])) ∨ (siteErr me f = 0 ∧ ∃ r, w.heap.size ≤ r ∧ e = .returned (.tuple #[.pointer (some ⟨r, 0, none⟩), .int .i64 0]) ∧ IsSite B w' r (siteNew me f))) ∧ Ext w w' := by
 have HE := hid (show siteErr me f = if 0 ≤ me ∧ me ≤ 4 then filterCheck f else 1 from rfl)
 by_cases h0 : me < 0
 ·have hd : decide (me < 0) = true := decide_eq_true h0
  have HE1 := hid (show siteErr me f = 1 by rw [HE.out, if_neg (by omega)])
  clear h0
  go_enter Tryz.func28, Tryz.ntmps28
  go_wp2_with fail
  go_ret2
  exact ⟨.inl ⟨by rw [HE1.out]; decide, by rw [HE1.out]; rfl⟩, Ext.refl _⟩
 ·have hd : decide (me < 0) = false := decide_eq_false h0
  by_cases h5 : 5 ≤ me
  ·have hd5 : decide (5 ≤ me) = true := decide_eq_true h5
   have HE1 := hid (show siteErr me f = 1 by rw [HE.out, if_neg (by omega)])
   clear h0 h5
   go_enter Tryz.func28, Tryz.ntmps28
   go_wp2_with fail
   go_ret2
   exact ⟨.inl ⟨by rw [HE1.out]; decide, by rw [HE1.out]; rfl⟩, Ext.refl _⟩
  ·have hd5 : decide (5 ≤ me) = false := decide_eq_false h5
   have HE1 := hid (show siteErr me f = filterCheck f by rw [HE.out, if_pos (by omega)])
   clear h0 h5
   go_enter Tryz.func28, Tryz.ntmps28
   go_wp2_with fail
   refine (filter_Check B A c f _ hl h).mono ?_
   rintro e w1 ⟨rfl, hx1⟩
   by_cases hc : filterCheck f = 0
   ·rw [hc]
    have HC := hid hc
    clear hc
    go_wp2_with fail
    refine (filter_Plain B A c f _ (Nat.le_trans hB hx1.size) hl (filterCheck_ok HC.out).2 (h.ext RBox.monoE hx1)).mono ?_
    rintro e w2 ⟨v2, rfl, hv2, hx2⟩
    obtain ⟨A2, c2, rfl, _, _, hv2⟩ := hv2
    go_wp2_with fail
    have hxa := (Ext.refl w2).alloc (.cells #[.int .i64 me, .int .i64 0, .int .i64 0, .slice A2 (plainF f).length c2, .slice none 0 0, .slice none 0 0] 159)
    go_ret2
    refine ⟨.inr ⟨by rw [HE1.out, HC.out], w2.heap.size, (hx1.trans hx2).size, rfl, A2, c2, none, 0, none, 0, Blk.new w2 _ _, hv2.ext RBox.monoE hxa, Sl.nil, Sl.nil⟩, (hx1.trans hx2).trans hxa⟩
   ·have hne : (filterCheck f != 0) = true := by simpa using hc
    have HC := hid hc
    clear hc
    go_wp2_with fail
    go_ret2
    exact ⟨.inl ⟨by rw [HE1.out]; exact HC.out, by rw [HE1.out]; rfl⟩, hx1⟩
set_option maxRecDepth 100000 in
set_option maxHeartbeats 1000000 in
theorem site_own (B : Nat) (r : Nat) (Af : Option Addr) (cf : Nat) (Ax : Option Addr) (cx : Nat) (Ap : Option Addr) (cp : Nat) (s : SiteS) (w : World) (hB : B ≤ w.heap.size) (hm0 : 0 ≤ s.me) (hm4 : s.me ≤ 4) (h : SiteAt B w r Af cf Ax cx Ap cp s) :
  Calls Tryz.prog 138 #[.pointer (some ⟨r, 0, none⟩)] w fun e w' => ∃ cs, e = .returned (.agg cs.toArray) ∧ RPart B w' cs (ownP s) ∧ Ext w w' := by
 have hrl := h.blk.lt
 have hb := h.blk
 obtain ⟨me, made, stamp, f0, x0, p0⟩ := s
 simp only at hm0 hm4 hb
 obtain ⟨m, rfl⟩ := Int.eq_ofNat_of_zero_le hm0
 have q0 := hb.cell (i := 0) (u := .int .i64 (m : Int)) rfl
 have q1 := hb.cell (i := 1) (u := .int .i64 made) rfl
 have hm5 : (m : Int) < (m : Int) + 1 := by omega
 have hx0 := (Ext.refl w).alloc (.cells #[.slice none 0 0, .slice none 0 0, .slice none 0 0] 181)
 have hbp := Blk.new w 181 #[.slice none 0 0, .slice none 0 0, .slice none 0 0]
 have HAll := hid (fun w' (x : Ext w w') => show w'.cell? ⟨r, 0, none⟩ = some (.int .i64 (m : Int)) ∧ w'.cell? ⟨r, 1, none⟩ = some (.int .i64 made) from ⟨x.cell q0, x.cell q1⟩)
 clear h hb
 go_enter Tryz.func138, Tryz.ntmps138
 go_wp2_with ((with_reducible refine at_op (some 9) (.makeSlice _ _ _) ?_); refine wpList_makeArr ei_int z_int rfl _ _ rfl rfl (m + 1) (by rw [Int.natCast_add]; rfl) (by rw [Int.natCast_add]; rfl) (by omega) (by unfold maxLen; omega) ?_; intro g w3 hbi hx3 hb3 hs3)
 have HX3 := hid (Ext.refl w3)
 have HG := hid (show w.heap.size ≤ g by rw [← hbi]; simp)
 have hbp3 := hbp.ext hx3
 have HBP := hid (fun w' (x : Ext w3 w') => hbp3.ext x)
 have HGP := hid (show w.heap.size ≠ g by rw [← hbi]; simp)
 have hx := hx0.trans hx3
 clear hx0 hx3 hbp hbp3 q0 q1 hbi hs3
 have hyn := hx.drew
 refine wp_region_held_drew (S := fun w' => w'.cell? ⟨r, 0, none⟩ = some (.int .i64 (m : Int)) ∧ w'.cell? ⟨r, 1, none⟩ = some (.int .i64 made)) (by kernel_rfl) (HAll.out _ hyn) (fun hHeld => ?_)
 have hyn2 := hyn
 replace hyn := (Ext.refl w3).drew
 obtain ⟨wc, hwc⟩ : ∃ wc, wc = w3.drew := ⟨_, rfl⟩
 rw [← hwc] at hHeld hyn hyn2 ⊢
 clear hwc hx
 refine tk 0 ?_ rfl (by kernel_rfl) (fun _ _ _ h => h) (by rfl) ?_ (by assumption) ?_
 rotate_left
 ·intro w' hSw; (try dsimp only at hSw); go_simp <;> with_reducible rfl
 simp only [gq]; try simp only [pq]
 refine tk 1 ?_ rfl (by kernel_rfl) (fun _ _ _ h => h) (by rfl) ?_ (by assumption) ?_
 rotate_left
 ·intro w' hSw; (try dsimp only at hSw); go_simp <;> with_reducible rfl
 simp only [gq]; try simp only [pq]
 refine tk 2 ?_ rfl (by kernel_rfl) (fun _ _ _ h => h) (by rfl) ?_ (by assumption) ?_
 rotate_left
 ·intro w' hSw; (try dsimp only at hSw); go_simp <;> with_reducible rfl
 simp only [gq]; try simp only [pq]
 refine tk 3 ?_ rfl (by kernel_rfl) (fun _ _ _ h => h) (by rfl) ?_ (by assumption) ?_
 rotate_left
 ·intro w' hSw; (try dsimp only at hSw); go_simp <;> with_reducible rfl
 simp only [gq]; try simp only [pq]
 refine tk 4 ?_ rfl (by kernel_rfl) (fun _ _ _ h => h) (by rfl) ?_ (by assumption) ?_
 rotate_left
 ·intro w' hSw; (try dsimp only at hSw); go_simp <;> with_reducible rfl
 simp only [gq]; try simp only [pq]
 refine tk 5 ?_ rfl (by kernel_rfl) (fun _ _ _ h => h) (by rfl) ?_ (by assumption) ?_
 rotate_left
 ·intro w' hSw; (try dsimp only at hSw); go_simp <;> with_reducible rfl
 simp only [gq]; try simp only [pq]
 refine tk 6 ?_ rfl (by kernel_rfl) (fun _ _ _ h => h) (by rfl) ?_ (by assumption) ?_
 rotate_left
 ·intro w' hSw; (try dsimp only at hSw); go_simp <;> with_reducible rfl
 simp only [gq]; try simp only [pq]
 refine tk 7 ?_ rfl (by kernel_rfl) (fun _ _ _ h => h) (by rfl) ?_ (by assumption) ?_
 rotate_left
 ·intro w' hSw; (try dsimp only at hSw); go_simp <;> with_reducible rfl
 simp only [gq]; try simp only [pq]
 refine tk 8 ?_ rfl (by kernel_rfl) (fun _ _ _ h => h) (by rfl) ?_ (by assumption) ?_
 rotate_left
 ·intro w' hSw; (try dsimp only at hSw); go_simp <;> with_reducible rfl
 simp only [gq]; try simp only [pq]
 refine tk 9 ?_ rfl (by kernel_rfl) (fun _ _ _ h => h) (by rfl) ?_ (by assumption) ?_
 rotate_left
 ·intro w' hSw; (try dsimp only at hSw); go_simp <;> with_reducible rfl
 simp only [gq]; try simp only [pq]
 refine wpAnyH_ready (rs := [10]) (by kernel_rfl) (by simp) ?_
 refine AllReadyH.cons rfl (fun K hK => ?_) AllReadyH.nil
 simp only [gq]
 have hbg := hb3.ext hyn
 have y0 := hbg.cell (i := m) (u := .int .i64 0) (rowF_get _ (Nat.lt_succ_self m))
 have z0 := hbg.frozen m
 go_simp
 have hbs := hbg.set m (.int .i64 made)
 have hyz := hyn2.setCell (p := ⟨g, m, none⟩) HG.out (.int .i64 made)
 obtain ⟨wn, hwn⟩ : ∃ wn, wn = wc.setCell ⟨g, m, none⟩ (.int .i64 made) := ⟨_, rfl⟩
 rw [← hwn] at hbs hyz ⊢
 have hbp5 := (HBP.out wc hyn).far (p := ⟨g, m, none⟩) HGP.out (.int .i64 made)
 rw [← hwn] at hbp5
 clear hwn y0 z0 hbg hyn hyn2
 refine hK.out _ _ (HAll.out _ hyz) (fun hHeld => ?_)
 clear hHeld
 clear hK K
 try simp only [pq]
 refine wpAnyH_done (by kernel_rfl) ?_ _
 obtain ⟨p0, p1⟩ := HAll.out _ hyz
 by_cases hz : made = 0
 ·have hz0 : (made == 0) = true := by rw [hz]; rfl
  have HZ := hid hz
  clear hz
  go_wp2_with fail
  refine (filter_Every B _ (Nat.le_trans hB hyz.size)).mono ?_
  rintro e w5 ⟨v5, rfl, hv5, hx5⟩
  obtain ⟨A5, c5, rfl, e1, e2, hv5⟩ := hv5
  have hbp6 := hbp5.ext hx5
  have hbs6 := hbs.ext hx5
  have hxf := hyz.trans hx5
  clear hbp5 hbs hyz hx5
  obtain ⟨E, hE⟩ : ∃ E, E = everyF := ⟨_, rfl⟩
  rw [← hE] at hv5 e1 ⊢
  have HE := hid hE
  clear hE
  have hsz : (#[.slice A5 E.length c5, .slice none 0 0, .slice none 0 0] : Array Value).size = 3 := rfl
  have hall : (#[.slice A5 E.length c5, .slice none 0 0, .slice none 0 0] : Array Value).all (·.oneCell') = true := by simp [Value.oneCell']
  go_wp2_with ((with_reducible refine wpList_storeRow (o := ⟨none, _, _, _, _, _⟩) ri_part _ _ rfl rfl rfl rfl hbp6 hsz rfl hall ?_); intro w6 hx6 hb6 hs6 ho6)
  have hbs7 := hbs6.other ho6 HGP.out.symm
  have hch : Chg B [181] w5 w6 := chg_row hbp6 hx6 ho6 hB
  have hxw : Ext w w6 := hxf.below hx6 (Nat.le_refl _)
  refine ret_row rfl ri_part rfl hb6 rfl rfl ⟨[.slice A5 E.length c5, .slice none 0 0, .slice none 0 0], rfl, ?_, hxw⟩
  refine ⟨_, _, _, rfl, ⟨A5, c5, by rw [HE.out]; rfl, by rw [HE.out] at e1; exact e1, e2, ?_⟩, ⟨none, 0, by rw [HZ.out]; rfl, by rw [HZ.out]; exact Nat.le_refl 0, Nat.zero_le _, by rw [HZ.out]; exact Sl.nil⟩, ⟨none, 0, rfl, Nat.le_refl _, Nat.zero_le _, Sl.nil⟩⟩
  have := hv5.chg (RBox.mono (by decide)) (by decide) hch
  rw [HE.out] at this
  exact this
 ·have hz0 : (made == 0) = false := by rw [beq_eq_false_iff_ne]; exact hz
  have HZ := hid hz
  clear hz
  go_wp2_with fail
  refine (filter_Every B _ (Nat.le_trans hB hyz.size)).mono ?_
  rintro e w5 ⟨v5, rfl, hv5, hx5⟩
  obtain ⟨A5, c5, rfl, e1, e2, hv5⟩ := hv5
  have hbp6 := hbp5.ext hx5
  have hbs6 := hbs.ext hx5
  have hxf := hyz.trans hx5
  clear hbp5 hbs hyz hx5
  obtain ⟨E, hE⟩ : ∃ E, E = everyF := ⟨_, rfl⟩
  rw [← hE] at hv5 e1 ⊢
  have HE := hid hE
  clear hE
  have hsz : (#[.slice A5 E.length c5, .slice (some ⟨g, 0, none⟩) (m + 1) (m + 1), .slice none 0 0] : Array Value).size = 3 := rfl
  have hall : (#[.slice A5 E.length c5, .slice (some ⟨g, 0, none⟩) (m + 1) (m + 1), .slice none 0 0] : Array Value).all (·.oneCell') = true := by simp [Value.oneCell']
  go_wp2_with ((with_reducible refine wpList_storeRow (o := ⟨none, _, _, _, _, _⟩) ri_part _ _ rfl rfl rfl rfl hbp6 hsz rfl hall ?_); intro w6 hx6 hb6 hs6 ho6)
  have hbs7 := hbs6.other ho6 HGP.out.symm
  have hch : Chg B [181] w5 w6 := chg_row hbp6 hx6 ho6 hB
  have hxw : Ext w w6 := hxf.below hx6 (Nat.le_refl _)
  refine ret_row rfl ri_part rfl hb6 rfl rfl ⟨[.slice A5 E.length c5, .slice (some ⟨g, 0, none⟩) (m + 1) (m + 1), .slice none 0 0], rfl, ?_, hxw⟩
  refine ⟨_, _, _, rfl, ⟨A5, c5, by rw [HE.out]; rfl, by rw [HE.out] at e1; exact e1, e2, ?_⟩, ⟨some ⟨g, 0, none⟩, m + 1, by rw [own_vec HZ.out]; simp, by rw [own_vec HZ.out]; simp, by unfold maxLen; omega, by rw [own_vec HZ.out]; exact sl_own B hbs7⟩, ⟨none, 0, rfl, Nat.le_refl _, Nat.zero_le _, Sl.nil⟩⟩
  have := hv5.chg (RBox.mono (by decide)) (by decide) hch
  rw [HE.out] at this
  exact this
set_option maxRecDepth 100000 in
set_option maxHeartbeats 2000000 in
theorem site_known (B : Nat) (r : Nat) (Af : Option Addr) (cf : Nat) (Ax : Option Addr) (cx : Nat) (Ap : Option Addr) (cp : Nat) (s : SiteS) (w : World) (hB : B ≤ w.heap.size) (hok : SiteOk s) (h : SiteAt B w r Af cf Ax cx Ap cp s) :
  Calls Tryz.prog 83 #[.pointer (some ⟨r, 0, none⟩)] w fun e w' => ∃ v, e = .returned v ∧ IsParts B w' v (knownP s) ∧ Ext w w' := by
 have HB := hid hB
 have HM0 := hid hok.me0
 have HM4 := hid hok.me4
 have HS := hid h
 have HLP := hid hok.lp
 have HOKP := hid (show ∀ x ∈ [ownP s] ++ s.parts, PartOk x from fun x hx => (List.mem_cons.1 hx).elim (fun e => by rw [e]; exact ownP_ok hok) (hok.parts x))
 have q5 := h.blk.cell (i := 5) (u := .slice Ap s.parts.length cp) rfl
 have HAll := hid (fun w' (x : Ext w w') => show w'.cell? ⟨r, 5, none⟩ = some (.slice Ap s.parts.length cp) from x.cell q5)
 clear h hok hB q5
 go_enter Tryz.func83, Tryz.ntmps83
 go_wp2_with fail
 have hyn := (Ext.refl w).drew
 refine wp_region_held_drew (S := fun w' => w'.cell? ⟨r, 5, none⟩ = some (.slice Ap s.parts.length cp)) (by kernel_rfl) (HAll.out _ hyn) (fun hHeld => ?_)
 obtain ⟨wc, hwc⟩ : ∃ wc, wc = w.drew := ⟨_, rfl⟩
 rw [← hwc] at hHeld hyn ⊢
 clear hwc
 refine tk 0 ?_ rfl (by kernel_rfl) (fun _ _ _ h => h) (by rfl) ?_ (by assumption) ?_
 rotate_left
 ·intro w' hSw; (try dsimp only at hSw); go_simp <;> with_reducible rfl
 simp only [gq]; try simp only [pq]
 refine tk 3 ?_ rfl (by kernel_rfl) (fun _ _ _ h => h) (by rfl) ?_ (by assumption) ?_
 rotate_left
 ·intro w' hSw; (try dsimp only at hSw); go_simp <;> with_reducible rfl
 simp only [gq]; try simp only [pq]
 refine tk 4 ?_ rfl (by kernel_rfl) (fun _ _ _ h => h) (by rfl) ?_ (by assumption) ?_
 rotate_left
 ·intro w' hSw; (try dsimp only at hSw); go_simp <;> with_reducible rfl
 simp only [gq]; try simp only [pq]
 refine tk 5 ?_ rfl (by kernel_rfl) (fun _ _ _ h => h) (by rfl) ?_ (by assumption) ?_
 rotate_left
 ·intro w' hSw; (try dsimp only at hSw); go_simp <;> with_reducible rfl
 simp only [gq]; try simp only [pq]
 refine tk 6 ?_ rfl (by kernel_rfl) (fun _ _ _ h => h) (by rfl) ?_ (by assumption) ?_
 rotate_left
 ·intro w' hSw; (try dsimp only at hSw); go_simp <;> with_reducible rfl
 simp only [gq]; try simp only [pq]
 refine wpAnyH_ready (rs := [1]) (by kernel_rfl) (by simp) ?_
 refine AllReadyH.cons rfl (fun K hK => ?_) AllReadyH.nil
 simp only [gq]
 go_simp
 refine (site_own B r Af cf Ax cx Ap cp s wc (Nat.le_trans HB.out hyn.size) HM0.out HM4.out (HS.out.ext hyn)).mono ?_
 rintro e wn ⟨cs, rfl, hcs, hxa⟩
 dsimp only
 obtain ⟨Bf, df, Bv, dv, Bm, dm, rfl, hI⟩ := hcs.inP
 replace hyn := hyn.trans hxa
 clear hxa hcs
 obtain ⟨wc, rfl⟩ : ∃ wc', wc' = wn := ⟨_, rfl⟩
 refine hK.out _ _ (HAll.out _ hyn) (fun hHeld => ?_)
 clear hK K
 try simp only [pq]
 refine wpAnyH_ready (rs := [2]) (by kernel_rfl) (by simp) ?_
 refine AllReadyH.cons rfl (fun K hK => ?_) AllReadyH.nil
 simp only [gq]
 go_simp
 have hxa := (Ext.refl wc).alloc (.cells #[.slice Bf (ownP s).filter.length df, .slice Bv (ownP s).know.vec.length dv, .slice Bm (ownP s).know.more.length dm] 181)
 have ho2 : Own (RPart B) 3 181 (wc.alloc (.cells #[.slice Bf (ownP s).filter.length df, .slice Bv (ownP s).know.vec.length dv, .slice Bm (ownP s).know.more.length dm] 181)) wc.heap.size (.slice (some ⟨wc.heap.size, 0, none⟩) 1 1) [ownP s] := Own.lit (cs := [.slice Bf (ownP s).filter.length df, .slice Bv (ownP s).know.vec.length dv, .slice Bm (ownP s).know.more.length dm]) (Nat.le_refl _) rfl (hI.ext hxa).rpart
 have hws := hyn.size
 have hbs := hxa.size
 replace hyn := hyn.trans hxa
 obtain ⟨wn, hwn⟩ : ∃ wn, wn = wc.alloc (.cells #[.slice Bf (ownP s).filter.length df, .slice Bv (ownP s).know.vec.length dv, .slice Bm (ownP s).know.more.length dm] 181) := ⟨_, rfl⟩
 obtain ⟨bs, hbsd⟩ : ∃ a, a = wc.heap.size := ⟨_, rfl⟩
 rw [← hwn] at hyn ho2 hbs
 rw [← hwn, ← hbsd]
 rw [← hbsd] at ho2 hws hbs
 clear hxa hwn hbsd hI
 obtain ⟨wc, rfl⟩ : ∃ wc', wc' = wn := ⟨_, rfl⟩
 refine hK.out _ _ (HAll.out _ hyn) (fun hHeld => ?_)
 clear hK K
 try simp only [pq]
 refine wpAnyH_ready (rs := [7]) (by kernel_rfl) (by simp) ?_
 refine AllReadyH.cons rfl (fun K hK => ?_) AllReadyH.nil
 simp only [gq]
 simp only [Region.wanted, if_true]
 refine wp_app (.tmp 5) (.tmp 9) rfl ei_prt rfl ho2 (B := B) (Nat.le_trans HB.out hws) hbs (ys := s.parts) (c := cp) rfl ((HS.out.ext hyn).sp) RPart.oneC (RPart.mono (by decide) (by decide) (by decide) (by decide)) (by have := HLP.out; simp [maxLen]; omega) (by have := HLP.out; simp; omega) ?_
 intro v7 wn ho7 hch hbl _
 replace hyn := hyn.below hbl hws
 clear hch hbl ho2 hbs hws
 obtain ⟨wc, rfl⟩ : ∃ wc', wc' = wn := ⟨_, rfl⟩
 refine hK.out _ _ (HAll.out _ hyn) (fun hHeld => ?_)
 clear hK K
 try simp only [pq]
 refine wpAnyH_ready (rs := [8]) (by kernel_rfl) (by simp) ?_
 refine AllReadyH.cons rfl (fun K hK => ?_) AllReadyH.nil
 simp only [gq]
 go_simp
 obtain ⟨A7, c7, rfl, _, _⟩ := ho7.len
 refine (part_Few B A7 c7 ([ownP s] ++ s.parts) wc (Nat.le_trans HB.out hyn.size) (by have := HLP.out; simp; omega) HOKP.out (ho7.sl B)).mono ?_
 rintro e wn ⟨v8, rfl, ho8, hxa⟩
 dsimp only
 replace hyn := hyn.trans hxa
 have hv8 := ho8.isSl B
 clear hxa ho7 ho8
 obtain ⟨wc, rfl⟩ : ∃ wc', wc' = wn := ⟨_, rfl⟩
 refine hK.out _ _ (HAll.out _ hyn) (fun hHeld => ?_)
 clear hK K
 try simp only [pq]
 refine tk 9 ?_ rfl (by kernel_rfl) (fun _ _ _ h => h) (by rfl) ?_ (by assumption) ?_
 rotate_left
 ·intro w' hSw; (try dsimp only at hSw); go_simp <;> with_reducible rfl
 simp only [gq]; try simp only [pq]
 refine wpAnyH_done (by kernel_rfl) ?_ _
 go_wp2_with fail
 go_ret
 exact ⟨v8, rfl, hv8, hyn⟩
end Go.Proofs.YtngbfdogiciahaaGreat
