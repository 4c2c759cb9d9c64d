/- THE LAW ShelfSays: whatever store, version and name are handed in, Id, One, Check, Get and Past answer what the document says. The conditions are the statement's own. -/
import Derived.Test.YtmedmfjhpabfdaaRows
import Derived.Test.YtmedmfjhpabfdaaShelfI
import Derived.Test.YtmedmfjhpabfdaaKnEq
import Derived.Test.YtmedmfjhpabfdaaVerO
namespace Go.Proofs.Ytmedmfjhpabfdaa
open Go Go.RowKit

section
variable {P : Program} {ops : Array Oper} {C : World → Prop} {Q : Act → Prop} {rest : List Oper} {a : Act} {dst : Option Tmp} {ty : TypeId} {pos : String} {after : Array Edge}
theorem wq_loadRowOn {t : TypeId} {n : Nat} (ri : RowInfo P t n) {x : Operand} {b o : Nat} {cs : Array Value} {j : Nat} {g : Bool} (hg : yielded ops a.tmps j = some g) (hx : a.eval x = .pointer (some ⟨b, o, none⟩)) (hC : ∀ w, C w → w.rangeAt b o cs.toList) (hn : cs.size = n)
    (h : WQ P ops C Q rest (a.put dst (.agg cs))) : WQ P ops C Q (⟨dst, .load t x, ty, pos, after, some (j, g)⟩ :: rest) a := by
  obtain ⟨⟨d, hu, hd⟩, hi⟩ := ri
  exact ⟨wpQuiet_loadRow (cs := cs.toList) hu hd (by rw [hi, Array.length_toList, hn]) (by simp [Region.wanted, hg]) hx hC (by rw [Array.toArray_toList]; exact h.out)⟩
end

set_option maxRecDepth 100000 in
set_option maxHeartbeats 4000000 in
theorem law_ShelfSays (B : Nat) (A : Option Addr) (c : Nat) (l : List Version) (v : Version) (Av : Option Addr) (cv : Nat) (Am : Option Addr) (cm : Nat) (s : ByteArray) (w : World) (hB : B ≤ w.heap.size) (hl : l.length ≤ maxLen) (h : SlVers B w A l) (hi : InV B w Av cv Am cm v) (hs : s.size ≤ maxLen) :
    Calls Try.prog 5 #[.slice A l.length c, .agg #[.string v.id, .int .i64 v.dot.site, .int .i64 v.dot.count, .int .i64 v.pt.tags, .int .i64 v.pt.num, .int .i64 v.body, .slice Av v.past.vec.length cv, .slice Am v.past.more.length cm], .string s] w fun e w' => e = .returned (.bool true) ∧ Ext w w' := by
  have HCO := hid (shelfCheck_ok (l := l))
  have hx := (Ext.refl w).alloc (.cells #[.string v.id, .int .i64 v.dot.site, .int .i64 v.dot.count, .int .i64 v.pt.tags, .int .i64 v.pt.num, .int .i64 v.body, .slice Av v.past.vec.length cv, .slice Am v.past.more.length cm] 46)
  have hbv := Blk.new w 46 #[.string v.id, .int .i64 v.dot.site, .int .i64 v.dot.count, .int .i64 v.pt.tags, .int .i64 v.pt.num, .int .i64 v.body, .slice Av v.past.vec.length cv, .slice Am v.past.more.length cm]
  go_enter Try.func5, Try.ntmps5
  go_wp2_with fail
  refine (shelf_Get B A c l s _ (Nat.le_trans hB hx.size) hl (h.ext RVer.monoE hx)).mono ?_
  rintro e w1 ⟨v1, rfl, hv1, hx1⟩
  obtain ⟨X, hX⟩ : ∃ X, X = getOut l s := ⟨_, rfl⟩
  obtain ⟨E1, hE1⟩ : ∃ X, X = getErr l s := ⟨_, rfl⟩
  rw [← hX] at hv1
  rw [← hE1]
  have HX := hid hX
  have HE1 := hid hE1
  clear hX hE1
  obtain ⟨Ax, cx, rfl, _, _, hv1⟩ := hv1
  replace hbv := hbv.ext hx1
  replace hx := hx.trans hx1
  clear hx1
  go_wp2_with fail
  refine (shelf_Past B A c l s _ (Nat.le_trans hB hx.size) hl (h.ext RVer.monoE hx)).mono ?_
  rintro e w2 ⟨v2, rfl, hk2, hx2⟩
  obtain ⟨K2, hK2⟩ : ∃ X, X = pastKn l s := ⟨_, rfl⟩
  obtain ⟨E2, hE2⟩ : ∃ X, X = pastErr l s := ⟨_, rfl⟩
  rw [← hK2] at hk2
  rw [← hE2]
  have HK2 := hid hK2
  have HE2 := hid hE2
  clear hK2 hE2
  obtain ⟨A2, c2, A3, c3, rfl, _, _, _, _, hk2⟩ := hk2
  replace hbv := hbv.ext hx2
  replace hv1 := hv1.ext RVer.monoE hx2
  replace hx := hx.trans hx2
  clear hx2
  go_wp2_with fail
  have hxa := (Ext.refl w2).alloc (.cells #[.slice A2 K2.vec.length c2, .slice A3 K2.more.length c3] 44)
  have hb9 := Blk.new w2 44 #[.slice A2 K2.vec.length c2, .slice A3 K2.more.length c3]
  obtain ⟨b9, hbn⟩ : ∃ b, b = w2.heap.size := ⟨_, rfl⟩
  obtain ⟨w3, hwn⟩ : ∃ w', w' = w2.alloc (.cells #[.slice A2 K2.vec.length c2, .slice A3 K2.more.length c3] 44) := ⟨_, rfl⟩
  rw [← hwn] at hxa
  rw [← hwn, ← hbn] at hb9
  rw [← hwn, ← hbn]
  clear hwn hbn
  replace hbv := hbv.ext hxa
  replace hv1 := hv1.ext RVer.monoE hxa
  replace hk2 := hk2.ext hxa
  replace hx := hx.trans hxa
  clear hxa
  refine (ref_Shelf B A c l w3 hl (h.ext RVer.monoE hx)).mono ?_
  rintro e w4 ⟨rfl, hx4⟩
  replace hbv := hbv.ext hx4
  replace hb9 := hb9.ext hx4
  replace hv1 := hv1.ext RVer.monoE hx4
  replace hk2 := hk2.ext hx4
  replace hx := hx.trans hx4
  clear hx4
  obtain ⟨I, hI⟩ : ∃ X, X = idOk s := ⟨_, rfl⟩
  obtain ⟨V, hV⟩ : ∃ X, X = verErr v := ⟨_, rfl⟩
  obtain ⟨C, hC⟩ : ∃ X, X = shelfCheck l := ⟨_, rfl⟩
  have HH := hid h
  have HI := hid hi
  have HSI := hid (fun w' (_ : Ext w4 w') => shelf_Id s w')
  have HRI := hid (fun w' (_ : Ext w4 w') => ref_Id s hs w')
  have HSO := hid (fun w' (x : Ext w4 w') => shelf_One B v Av cv Am cm w' (HI.out.ext (hx.trans x)))
  have HRO := hid (fun w' (x : Ext w4 w') => ref_One B v Av cv Am cm w' (HI.out.ext (hx.trans x)))
  have HSC := hid (fun w' (x : Ext w4 w') => shelf_Check B A c l w' hl (HH.out.ext RVer.monoE (hx.trans x)))
  have HSA := hid (fun w' (_ : Ext w4 w') => shelf_Id ⟨#[97]⟩ w')
  rw [show idOk ⟨#[97]⟩ = true from by decide +kernel] at HSA
  rw [← hI] at HSI HRI
  rw [← hV] at HSO HRO
  rw [← hC] at HSC
  rw [← hC]
  have HC := hid hC
  have HAll := hid (fun w' (x : Ext w4 w') => show w'.cell? ⟨w.heap.size, 0, none⟩ = some (.string v.id) ∧ w'.cell? ⟨w.heap.size, 1, none⟩ = some (.int .i64 v.dot.site) ∧ w'.cell? ⟨w.heap.size, 2, none⟩ = some (.int .i64 v.dot.count) ∧ w'.cell? ⟨w.heap.size, 3, none⟩ = some (.int .i64 v.pt.tags) ∧ w'.cell? ⟨w.heap.size, 4, none⟩ = some (.int .i64 v.pt.num) ∧ w'.cell? ⟨w.heap.size, 5, none⟩ = some (.int .i64 v.body) ∧ w'.cell? ⟨w.heap.size, 6, none⟩ = some (.slice Av v.past.vec.length cv) ∧ w'.cell? ⟨w.heap.size, 7, none⟩ = some (.slice Am v.past.more.length cm) from by
    have hb' := hbv.ext x
    exact ⟨hb'.cell rfl, hb'.cell rfl, hb'.cell rfl, hb'.cell rfl, hb'.cell rfl, hb'.cell rfl, hb'.cell rfl, hb'.cell rfl⟩)
  have HW := hid (fun w' (x : Ext w4 w') => show w'.rangeAt w.heap.size 0 (#[.string v.id, .int .i64 v.dot.site, .int .i64 v.dot.count, .int .i64 v.pt.tags, .int .i64 v.pt.num, .int .i64 v.body, .slice Av v.past.vec.length cv, .slice Am v.past.more.length cm] : Array Value).toList from (hbv.ext x).whole)
  clear hI hV hC hi hbv
  go_wp2_with fail
  refine wq_region (fun w' => Ext w4 w') (by kernel_rfl) (by kernel_rfl) (Ext.refl _).drew ?_
  refine wq_get (v := ?_) (fun w' hw' => ?_) ?_
  rotate_left
  · have hA := HAll.out w' hw'
    go_split_ands
    first
      | (go_simp; done)
      | (go_simp; with_reducible rfl)
  try simp only [Act.put, List.setIfInBounds_toArray, List.set_cons_zero, List.set_cons_succ]
  refine wq_call Try.call25 (by rfl) (fun w' x => (HSI.out w' x).mono fun _ _ h => ⟨h.1, x.trans h.2⟩) ?_
  try simp only [Act.put, List.setIfInBounds_toArray, List.set_cons_zero, List.set_cons_succ]
  refine wq_get (v := ?_) (fun w' hw' => ?_) ?_
  rotate_left
  · have hA := HAll.out w' hw'
    go_split_ands
    first
      | (go_simp; done)
      | (go_simp; with_reducible rfl)
  try simp only [Act.put, List.setIfInBounds_toArray, List.set_cons_zero, List.set_cons_succ]
  refine wq_call Try.call26 (by rfl) (fun w' x => (HRI.out w' x).mono fun _ _ h => ⟨h.1, x.trans h.2⟩) ?_
  try simp only [Act.put, List.setIfInBounds_toArray, List.set_cons_zero, List.set_cons_succ]
  refine wq_get (v := ?_) (fun w' hw' => ?_) ?_
  rotate_left
  · have hA := HAll.out w' hw'
    go_split_ands
    first
      | (go_simp; done)
      | (go_simp; with_reducible rfl)
  try simp only [Act.put, List.setIfInBounds_toArray, List.set_cons_zero, List.set_cons_succ]
  refine wq_get (v := ?_) (fun w' hw' => ?_) ?_
  rotate_left
  · have hA := HAll.out w' hw'
    go_split_ands
    first
      | (go_simp; done)
      | (go_simp; with_reducible rfl)
  try simp only [Act.put, List.setIfInBounds_toArray, List.set_cons_zero, List.set_cons_succ]
  refine wq_loadRowOn ri_ver (yields_at rfl rfl rfl) (by rfl) HW.out rfl ?_
  try simp only [Act.put, List.setIfInBounds_toArray, List.set_cons_zero, List.set_cons_succ]
  refine wq_callOn Try.call27 (yields_at rfl rfl rfl) (by rfl) (fun w' x => (HSO.out w' x).mono fun _ _ h => ⟨h.1, x.trans h.2⟩) ?_
  try simp only [Act.put, List.setIfInBounds_toArray, List.set_cons_zero, List.set_cons_succ]
  refine wq_loadRowOn ri_ver (yields_at rfl rfl rfl) (by rfl) HW.out rfl ?_
  try simp only [Act.put, List.setIfInBounds_toArray, List.set_cons_zero, List.set_cons_succ]
  refine wq_callOn Try.call28 (yields_at rfl rfl rfl) (by rfl) (fun w' x => (HRO.out w' x).mono fun _ _ h => ⟨h.1, x.trans h.2⟩) ?_
  try simp only [Act.put, List.setIfInBounds_toArray, List.set_cons_zero, List.set_cons_succ]
  refine wq_getOn (v := ?_) (yields_at rfl rfl rfl) (fun w' hw' => ?_) ?_
  rotate_left
  · have hA := HAll.out w' hw'
    go_split_ands
    first
      | (go_simp; done)
      | (go_simp; with_reducible rfl)
  try simp only [Act.put, List.setIfInBounds_toArray, List.set_cons_zero, List.set_cons_succ]
  refine wq_get (v := ?_) (fun w' hw' => ?_) ?_
  rotate_left
  · have hA := HAll.out w' hw'
    go_split_ands
    first
      | (go_simp; done)
      | (go_simp; with_reducible rfl)
  try simp only [Act.put, List.setIfInBounds_toArray, List.set_cons_zero, List.set_cons_succ]
  refine wq_get (v := ?_) (fun w' hw' => ?_) ?_
  rotate_left
  · have hA := HAll.out w' hw'
    go_split_ands
    first
      | (go_simp; done)
      | (go_simp; with_reducible rfl)
  try simp only [Act.put, List.setIfInBounds_toArray, List.set_cons_zero, List.set_cons_succ]
  refine wq_getOn (v := ?_) (yields_at rfl rfl rfl) (fun w' hw' => ?_) ?_
  rotate_left
  · have hA := HAll.out w' hw'
    go_split_ands
    first
      | (go_simp; done)
      | (go_simp; with_reducible rfl)
  try simp only [Act.put, List.setIfInBounds_toArray, List.set_cons_zero, List.set_cons_succ]
  refine wq_callOn Try.call29 (yields_at rfl rfl rfl) (by rfl) (fun w' x => (HSC.out w' x).mono fun _ _ h => ⟨h.1, x.trans h.2⟩) ?_
  try simp only [Act.put, List.setIfInBounds_toArray, List.set_cons_zero, List.set_cons_succ]
  refine wq_getOn (v := ?_) (yields_at rfl rfl rfl) (fun w' hw' => ?_) ?_
  rotate_left
  · have hA := HAll.out w' hw'
    go_split_ands
    first
      | (go_simp; done)
      | (go_simp; with_reducible rfl)
  try simp only [Act.put, List.setIfInBounds_toArray, List.set_cons_zero, List.set_cons_succ]
  refine wq_getOn (v := ?_) (yields_at rfl rfl rfl) (fun w' hw' => ?_) ?_
  rotate_left
  · have hA := HAll.out w' hw'
    go_split_ands
    first
      | (go_simp; done)
      | (go_simp; with_reducible rfl)
  try simp only [Act.put, List.setIfInBounds_toArray, List.set_cons_zero, List.set_cons_succ]
  refine wq_get (v := ?_) (fun w' hw' => ?_) ?_
  rotate_left
  · have hA := HAll.out w' hw'
    go_split_ands
    first
      | (go_simp; done)
      | (go_simp; with_reducible rfl)
  try simp only [Act.put, List.setIfInBounds_toArray, List.set_cons_zero, List.set_cons_succ]
  refine wq_get (v := ?_) (fun w' hw' => ?_) ?_
  rotate_left
  · have hA := HAll.out w' hw'
    go_split_ands
    first
      | (go_simp; done)
      | (go_simp; with_reducible rfl)
  try simp only [Act.put, List.setIfInBounds_toArray, List.set_cons_zero, List.set_cons_succ]
  refine wq_callOn Try.call25 (yields_at rfl rfl rfl) (by rfl) (fun w' x => (HSA.out w' x).mono fun _ _ h => ⟨h.1, x.trans h.2⟩) ?_
  try simp only [Act.put, List.setIfInBounds_toArray, List.set_cons_zero, List.set_cons_succ]
  refine wq_getOn (v := ?_) (yields_at rfl rfl rfl) (fun w' hw' => ?_) ?_
  rotate_left
  · have hA := HAll.out w' hw'
    go_split_ands
    first
      | (go_simp; done)
      | (go_simp; with_reducible rfl)
  try simp only [Act.put, List.setIfInBounds_toArray, List.set_cons_zero, List.set_cons_succ]
  refine wq_get (v := ?_) (fun w' hw' => ?_) ?_
  rotate_left
  · have hA := HAll.out w' hw'
    go_split_ands
    first
      | (go_simp; done)
      | (go_simp; with_reducible rfl)
  try simp only [Act.put, List.setIfInBounds_toArray, List.set_cons_zero, List.set_cons_succ]
  refine wq_nil ?_
  intro w5 hyn
  clear HSI HRI HSO HRO HSC HSA HAll HW HI
  replace hb9 := hb9.ext hyn
  replace hv1 := hv1.ext RVer.monoE hyn
  replace hk2 := hk2.ext hyn
  replace hx := hx.trans hyn
  clear hyn
  by_cases h0 : C = 0
  · have HC0 := hid (HC.out.symm.trans h0)
    have HK := hid (HCO.out HC0.out)
    have HOK := hid HK.out.all
    have HL60 := hid HK.out.len
    have HG := hid (show ∀ v ∈ getL l s, VerOk v from fun v hv => HOK.out v (List.mem_filter.1 hv).1)
    have HXG := hid (show X = getL l s by rw [HX.out, getOut, if_pos HC0.out])
    have HEG := hid (show E1 = if X.length = 0 then 4 else 0 by rw [HE1.out, getErr, if_pos HC0.out, HXG.out])
    have HE2G := hid (show toldErr (formOf (refPast (getL l s))) = E2 by rw [HE2.out, pastErr, if_pos HC0.out, past_form HG.out])
    have HK2G := hid (show toldKn (formOf (refPast (getL l s))) = K2 by rw [HK2.out, pastKn, if_pos HC0.out, past_form HG.out])
    subst h0
    go_wp2_with fail
    refine (ref_Past B A c l s _ (Nat.le_trans hB hx.size) HL60.out HOK.out (HH.out.ext RVer.monoE hx)).mono ?_
    rintro e w6 ⟨x6, rfl, hk6, hx6⟩
    rw [HE2G.out]
    rw [HK2G.out] at hk6
    obtain ⟨A6, c6, A7, c7, rfl, _, _, _, _, hk6⟩ := hk6
    replace hb9 := hb9.ext hx6
    replace hv1 := hv1.ext RVer.monoE hx6
    replace hk2 := hk2.ext hx6
    replace hx := hx.trans hx6
    clear hx6
    have hlt9 := hb9.lt
    have hee : (E2 != E2) = false := by simp
    have p0 := hb9.cell (i := 0) (u := .slice A2 K2.vec.length c2) rfl
    have p1 := hb9.cell (i := 1) (u := .slice A3 K2.more.length c3) rfl
    have hxa := (Ext.refl w6).alloc (.cells #[.slice A6 K2.vec.length c6, .slice A7 K2.more.length c7] 44)
    go_wp2_with fail
    refine (ref_SameKnow 0 0 K2 K2 A2 c2 A3 c3 A6 c6 A7 c7 _ (hk2.ext hxa) (hk6.ext hxa)).mono ?_
    rintro e w8 ⟨rfl, hx8⟩
    replace hx8 := hxa.trans hx8
    rw [show decide (K2 = K2) = true by simp]
    clear p0 p1 hb9 hk2 hk6 hlt9 hxa
    replace hv1 := hv1.ext RVer.monoE hx8
    replace hx := hx.trans hx8
    clear hx8
    go_wp2_with fail
    refine (ref_Get B A c l s _ (Nat.le_trans hB hx.size) (Nat.le_trans HL60.out (by decide)) (HH.out.ext RVer.monoE hx)).mono ?_
    rintro e w9 ⟨x9, rfl, hv9, hx9⟩
    rw [← HXG.out] at hv9
    have HXL := hid (show X.length ≤ 60 by
      rw [HXG.out]
      exact Nat.le_trans (List.length_filter_le _ _) HL60.out)
    obtain ⟨A9, c9, rfl, _, _⟩ := hv9.len
    replace hv1 := hv1.ext RVer.monoE hx9
    replace hx := hx.trans hx9
    clear hx9
    by_cases hz : X.length = 0
    · have e1 : E1 = 4 := by rw [HEG.out, if_pos hz]
      obtain rfl : X = [] := List.eq_nil_of_length_eq_zero hz
      subst e1
      clear hz
      go_wp2_with fail
      go_ret
      exact ⟨rfl, hx⟩
    · have e1 : E1 = 0 := by rw [HEG.out, if_neg hz]
      have hz' : ((X.length : Int) == 0) = false := by simpa using hz
      subst e1
      clear hz
      go_wp2_with fail
      refine (ref_SameShelf B B Ax cx A9 c9 X _ (by have := HXL.out; unfold maxLen; omega) hv1 (hv9.sl B)).mono ?_
      rintro e w10 ⟨rfl, hx10⟩
      replace hx := hx.trans hx10
      clear hx10 hz'
      go_wp2_with fail
      go_ret
      exact ⟨rfl, hx⟩
  · have HC0 := hid (show shelfCheck l ≠ 0 from fun e => h0 (HC.out.trans e))
    have hne : (C != 0) = true := by simpa using h0
    have hcc : (C == C) = true := by simp
    obtain rfl : X = [] := by rw [HX.out, getOut, if_neg HC0.out]
    obtain rfl : E1 = C := by rw [HE1.out, getErr, if_neg HC0.out, HC.out]
    obtain rfl : E2 = E1 := by rw [HE2.out, pastErr, if_neg HC0.out, HC.out]
    obtain rfl : K2 = ⟨[], []⟩ := by rw [HK2.out, pastKn, if_neg HC0.out]
    have p0 := hb9.cell (i := 0) rfl
    have p1 := hb9.cell (i := 1) rfl
    clear h0 HC0
    go_wp2_with fail
    refine (ref_SameKnow 0 0 ⟨[], []⟩ ⟨[], []⟩ A2 c2 A3 c3 none 0 none 0 _ hk2 ⟨Nat.zero_le _, Nat.zero_le _, Sl.nil, Sl.nil⟩).mono ?_
    rintro e w8 ⟨rfl, hx8⟩
    rw [show decide ((⟨[], []⟩ : Know) = ⟨[], []⟩) = true by simp]
    go_wp2_with fail
    go_ret
    exact ⟨rfl, hx.trans hx8⟩

namespace ShelfSaysProof
open Go.ChangeShapes Go.WideShapes Go.ChangeAt Go.Joins

set_option maxRecDepth 100000 in
theorem lifted (os : Os) (started : os.Started) (H : Type) (enc : TypeId × Value → H) :
    ReturnsInHanded {} Try.checked os 5 .any (Rows.shelfSaysSpec.pre6 enc Try.prog Try.f5 Rows.shelfSaysRow.domain false) (Rows.shelfSaysSpec.post enc Try.prog Try.f5 false true false false) := by
  refine returnsInHanded_of_change (C := Try.checked) own started (by kernel_rfl) Try.func5
    (ChangeSpec.witness6 (enc := enc) (C := Try.checked) false ⟨#[], #[.slice none 0 0, .agg #[.string ⟨#[]⟩, .int .i64 0, .int .i64 0, .int .i64 0, .int .i64 0, .int .i64 0, .slice none 0 0, .slice none 0 0], .string ⟨#[]⟩], []⟩ 8 (by kernel_rfl) (by kernel_rfl) (by kernel_rfl) (by kernel_rfl)) ?_
  intro W base args ds gs before hval0 hW hcnd _
  have hval : ∀ (j : Nat) t v, Try.f5.params[j]? = some t → args[j]? = some v → Value.okWide Try.prog W .any base t v := hval0
  have hW' := hW
  obtain ⟨p, q, hA0, hV, rfl, hfz, hnd⟩ := hW
  have hA : DataW.TrodAll enc Try.prog W 0 (fun _ => true) true Try.f5.params.toList args.toList ds p := hA0
  rw [Try.params5] at hA hval
  obtain ⟨v0, vs0, d0, ds0, p0, q0, hargs, rfl, rfl, h0, r0⟩ := trodAll_cons hA
  obtain ⟨v1, vs1, d1, ds1, p1, q1, rfl, rfl, rfl, h1, r1⟩ := trodAll_cons r0
  obtain ⟨v2, vs2, d2, ds2, p2, q2, rfl, rfl, rfl, h2, r2⟩ := trodAll_cons r1
  obtain ⟨rfl, rfl, rfl⟩ := trodAll_nil r2
  obtain rfl : args = #[v0, v1, v2] := by cases args; simp_all
  obtain ⟨rfl, rfl⟩ := trodVars_none hV
  obtain ⟨a0, n0, c0, rfl⟩ := okWide_slice Try.underlying22 (hval 0 22 v0 rfl rfl)
  have k0 := h0
  have lt0 : ∀ x ∈ p0, x.block < W.heap.size := by obtain ⟨m, hm⟩ := k0; exact DataW.trod_lt m _ _ _ hm
  obtain ⟨l0, rfl, hl0, s0, g0⟩ := open_vers h0
  have k1 := h1
  have lt1 : ∀ x ∈ p1, x.block < W.heap.size := by obtain ⟨m, hm⟩ := k1; exact DataW.trod_lt m _ _ _ hm
  obtain ⟨l1, e1, f1, a1, b1, rfl, s1⟩ := open_ver (hval 1 46 v1 rfl rfl) h1
  obtain ⟨s2, rfl, rfl, rfl, g2⟩ := Go.ChangeMaps.open_string Try.underlying9 (hval 2 9 v2 rfl rfl) h2
  clear hA0 hval0
  refine (law_ShelfSays W.heap.size a0 c0 l0 l1 e1 f1 a1 b1 s2 W (Nat.le_refl _) hl0 s0 s1 g2).mono fun e W' ⟨he, bel⟩ => ?_
  subst he
  exact ⟨_, rfl, _, _, _, [], _, [], hW', trodAll_mk1 (shut_bool Try.underlying4 _), (trodAll_cons_mk (Below.trod laidOut (by kernel_rfl) (of_decide_eq_true (by kernel_rfl)) k0 bel lt0) (trodAll_cons_mk (Below.trod laidOut (by kernel_rfl) (of_decide_eq_true (by kernel_rfl)) k1 bel lt1) (trodAll_cons_mk (Go.ChangeMaps.shut_string Try.underlying9 g2) trodAll_mk0))), rfl, Below.frame bel _, fun h => by cases h⟩

theorem over : Rows.shelfSaysRow.holds Try.pinned (OpenSpec.ofChange Rows.shelfSaysSpec) :=
  OpenClaim.holds_of_wide 5 Try.f5 rfl rfl rfl rfl rfl rfl rfl ⟨rfl, rfl, rfl, rfl, rfl⟩ rfl rfl rfl rfl rfl (by kernel_rfl) Try.func5 (by kernel_rfl)
    (of_decide_eq_true (by kernel_rfl)) (by unfold Func.isWrapper; first | (rw [if_pos (by decide +kernel)]; kernel_rfl) | (rw [if_neg (by decide +kernel)]; exact ⟨rfl, rfl⟩))
    (fun os started H enc _ => lifted os started H enc)
end ShelfSaysProof

theorem shelfSays_holds : Rows.ShelfSaysSaid := ShelfSaysProof.over
#print axioms shelfSays_holds

end Go.Proofs.Ytmedmfjhpabfdaa
