/- THE LAW ShelfPuts: whatever store, version and thing gone are handed in, Put and Drop answer what the document says. The conditions are the statement's own. -/
import Derived.Test.YtmedmfjhpabfdaaRows
import Derived.Test.YtmedmfjhpabfdaaPutW
import Derived.Test.YtmedmfjhpabfdaaPutQ
import Derived.Test.YtmedmfjhpabfdaaVerO
namespace Go.Proofs.Ytmedmfjhpabfdaa
open Go Go.RowKit

section
open Go.ChangeShapes Go.WideShapes Go.Deep Go.Joins
variable {H : Type} {enc : TypeId × Value → H} {w : World} {spare : Nat → Bool} {held : Bool}
set_option maxRecDepth 100000 in
theorem open_gone {base : Nat} {v : Value} {d : DataW H} {p : List MemPlace} (hv : Value.okWide Try.prog w .any base 48 v) (h : DataW.Trod enc Try.prog w 0 spare held 48 v d p) :
    ∃ z Av cv Am cm, v = .agg #[.string z.id, .slice Av z.past.vec.length cv, .slice Am z.past.more.length cm] ∧ InG w.heap.size w Av cv Am cm z := by
  obtain ⟨z, cs, rfl, h1, _⟩ := open_cells Try.underlying48 cells_gone gone_elem hv h
  obtain ⟨Av, cv, Am, cm, h2, h3⟩ := h1.inG
  refine ⟨z, Av, cv, Am, cm, ?_, h3⟩
  rw [← h2, Array.toArray_toList]
end

/-- one version. -/
def vOne : Version := ⟨⟨#[97]⟩, ⟨0, 1⟩, ⟨0, 0⟩, 0, ⟨[], []⟩⟩
theorem vOne_put : putErr [] vOne = 0 ∧ (putOut [] vOne).length = 1 := by decide +kernel

set_option maxRecDepth 100000 in
set_option maxHeartbeats 4000000 in
theorem law_ShelfPuts (B : Nat) (A : Option Addr) (c : Nat) (l : List Version) (v : Version) (Av : Option Addr) (cv : Nat) (Am : Option Addr) (cm : Nat) (g : Gone) (Ag : Option Addr) (cg : Nat) (Mg : Option Addr) (dg : Nat) (w : World) (hB : B ≤ w.heap.size) (hl : l.length ≤ maxLen) (h : SlVers B w A l) (hi : InV B w Av cv Am cm v) (hg : InG B w Ag cg Mg dg g) :
    Calls Try.prog 4 #[.slice A l.length c, .agg #[.string v.id, .int .i64 v.dot.site, .int .i64 v.dot.count, .int .i64 v.pt.tags, .int .i64 v.pt.num, .int .i64 v.body, .slice Av v.past.vec.length cv, .slice Am v.past.more.length cm], .agg #[.string g.id, .slice Ag g.past.vec.length cg, .slice Mg g.past.more.length dg]] w fun e w' => e = .returned (.bool true) ∧ Ext w w' := by
  have hx := ((Ext.refl w).alloc (.cells #[.string v.id, .int .i64 v.dot.site, .int .i64 v.dot.count, .int .i64 v.pt.tags, .int .i64 v.pt.num, .int .i64 v.body, .slice Av v.past.vec.length cv, .slice Am v.past.more.length cm] 46)).alloc (.cells #[.string g.id, .slice Ag g.past.vec.length cg, .slice Mg g.past.more.length dg] 48)
  have hbv := (Blk.new w 46 #[.string v.id, .int .i64 v.dot.site, .int .i64 v.dot.count, .int .i64 v.pt.tags, .int .i64 v.pt.num, .int .i64 v.body, .slice Av v.past.vec.length cv, .slice Am v.past.more.length cm]).alloc (.cells #[.string g.id, .slice Ag g.past.vec.length cg, .slice Mg g.past.more.length dg] 48)
  have hbg := Blk.new (w.alloc (.cells #[.string v.id, .int .i64 v.dot.site, .int .i64 v.dot.count, .int .i64 v.pt.tags, .int .i64 v.pt.num, .int .i64 v.body, .slice Av v.past.vec.length cv, .slice Am v.past.more.length cm] 46)) 48 #[.string g.id, .slice Ag g.past.vec.length cg, .slice Mg g.past.more.length dg]
  rw [show (w.alloc (.cells #[.string v.id, .int .i64 v.dot.site, .int .i64 v.dot.count, .int .i64 v.pt.tags, .int .i64 v.pt.num, .int .i64 v.body, .slice Av v.past.vec.length cv, .slice Am v.past.more.length cm] 46)).heap.size = w.heap.size + 1 by simp] at hbg
  have HI := hid hi
  have HG := hid hg
  clear hi hg
  have hv8 : (#[.string v.id, .int .i64 v.dot.site, .int .i64 v.dot.count, .int .i64 v.pt.tags, .int .i64 v.pt.num, .int .i64 v.body, .slice Av v.past.vec.length cv, .slice Am v.past.more.length cm] : Array Value).size = 8 := rfl
  go_enter Try.func4, Try.ntmps4
  go_wp2_with (with_reducible refine wpList_loadMid (o := ⟨some 20, _, _, _, _, _⟩) ri_ver _ rfl rfl rfl (hbv.whole) hv8 ?_)
  refine (shelf_Put B A c l v Av cv Am cm _ (Nat.le_trans hB hx.size) hl (h.ext RVer.monoE hx) (HI.out.ext hx)).mono ?_
  rintro e w1 ⟨v1, rfl, hv1, hx1⟩
  obtain ⟨X, hX⟩ : ∃ X, X = putOut l v := ⟨_, rfl⟩
  obtain ⟨E1, hE1⟩ : ∃ X, X = putErr l v := ⟨_, rfl⟩
  rw [← hX] at hv1
  rw [← hE1]
  have HX := hid hX
  have HE1 := hid hE1
  clear hX hE1
  obtain ⟨Ax, cx, rfl, hlx, hcx, hv1⟩ := hv1
  have HLX := hid (Nat.le_trans hlx hcx)
  clear hlx hcx
  replace hbv := hbv.ext hx1
  replace hbg := hbg.ext hx1
  replace hx := hx.trans hx1
  clear hx1
  have q0 := hbg.cell (i := 0) (u := .string g.id) rfl
  have q1 := hbg.cell (i := 1) (u := .slice Ag g.past.vec.length cg) rfl
  have q2 := hbg.cell (i := 2) (u := .slice Mg g.past.more.length dg) rfl
  go_wp2_with fail
  refine (shelf_Drop B A c l g Ag cg Mg dg _ (Nat.le_trans hB hx.size) hl (h.ext RVer.monoE hx) (HG.out.ext hx)).mono ?_
  rintro e w2 ⟨v2, rfl, hv2, hx2⟩
  obtain ⟨Y, hY⟩ : ∃ X, X = dropOut l g := ⟨_, rfl⟩
  obtain ⟨E2, hE2⟩ : ∃ X, X = dropErr l g := ⟨_, rfl⟩
  rw [← hY] at hv2
  rw [← hE2]
  have HY := hid hY
  have HE2 := hid hE2
  clear hY hE2
  obtain ⟨Ay, cy, rfl, hly, hcy, hv2⟩ := hv2
  have HLY := hid (Nat.le_trans hly hcy)
  clear hly hcy q0 q1 q2
  replace hbv := hbv.ext hx2
  replace hbg := hbg.ext hx2
  replace hv1 := hv1.ext RVer.monoE hx2
  replace hx := hx.trans hx2
  clear hx2
  go_wp2_with fail
  refine (shelf_Put B none 0 [] vOne none 0 none 0 _ (Nat.le_trans hB hx.size) (Nat.zero_le _) Sl.nil ⟨⟨Nat.zero_le _, Nat.zero_le _⟩, ⟨Nat.zero_le _, Nat.zero_le _⟩, by decide, ⟨Nat.zero_le _, Nat.zero_le _, Sl.nil, Sl.nil⟩⟩).mono ?_
  rintro e w3 ⟨v3, rfl, hv3, hx3⟩
  rw [vOne_put.1]
  obtain ⟨A3, c3, rfl, _, _, _⟩ := hv3
  rw [vOne_put.2]
  replace hbv := hbv.ext hx3
  replace hbg := hbg.ext hx3
  replace hv1 := hv1.ext RVer.monoE hx3
  replace hv2 := hv2.ext RVer.monoE hx3
  replace hx := hx.trans hx3
  clear hx3
  go_wp2_with fail
  refine (ref_Shelf B A c l _ hl (h.ext RVer.monoE hx)).mono ?_
  rintro e w4 ⟨rfl, hx4⟩
  replace hbv := hbv.ext hx4
  replace hbg := hbg.ext hx4
  replace hv1 := hv1.ext RVer.monoE hx4
  replace hv2 := hv2.ext RVer.monoE hx4
  replace hx := hx.trans hx4
  clear hx4
  obtain ⟨C, hC⟩ : ∃ X, X = shelfCheck l := ⟨_, rfl⟩
  rw [← hC]
  by_cases h0 : C = 0
  · have HC0 := hid (hC.symm.trans h0)
    subst h0
    clear hC
    go_wp2_with (with_reducible refine wpList_loadMid (o := ⟨some 67, _, _, _, _, _⟩) ri_ver _ rfl rfl rfl (hbv.whole) hv8 ?_)
    refine (ref_Put B A c l v Av cv Am cm _ (Nat.le_trans hB hx.size) HC0.out (h.ext RVer.monoE hx) (HI.out.ext hx)).mono ?_
    rintro e w5 ⟨A5, c5, rfl, hv5, hx5⟩
    rw [← HE1.out]
    rw [← HX.out] at hv5 ⊢
    replace hbg := hbg.ext hx5
    replace hv1 := hv1.ext RVer.monoE hx5
    replace hv2 := hv2.ext RVer.monoE hx5
    replace hx := hx.trans hx5
    clear hx5
    have q0 := hbg.cell (i := 0) (u := .string g.id) rfl
    have q1 := hbg.cell (i := 1) (u := .slice Ag g.past.vec.length cg) rfl
    have q2 := hbg.cell (i := 2) (u := .slice Mg g.past.more.length dg) rfl
    go_wp2_with fail
    refine (ref_Drop B A c l g Ag cg Mg dg _ (Nat.le_trans hB hx.size) HC0.out (h.ext RVer.monoE hx) (HG.out.ext hx)).mono ?_
    rintro e w6 ⟨v6, rfl, hv6, hx6⟩
    rw [← HE2.out]
    rw [← HY.out] at hv6
    obtain ⟨A6, c6, rfl, _, _, hv6⟩ := hv6
    replace hv1 := hv1.ext RVer.monoE hx6
    replace hv2 := hv2.ext RVer.monoE hx6
    replace hv5 := hv5.ext RVer.monoE hx6
    replace hx := hx.trans hx6
    clear hx6 q0 q1 q2 hbg hbv
    have e1 : (E1 == E1) = true := by simp
    have e2 : (E2 == E2) = true := by simp
    go_wp2_with fail
    refine (ref_SameShelf B B Ax cx A5 c5 X _ HLX.out hv1 hv5).mono ?_
    rintro e w7 ⟨rfl, hx7⟩
    replace hv2 := hv2.ext RVer.monoE hx7
    replace hv6 := hv6.ext RVer.monoE hx7
    replace hx := hx.trans hx7
    clear hx7
    go_wp2_with fail
    refine (ref_SameShelf B B Ay cy A6 c6 Y _ HLY.out hv2 hv6).mono ?_
    rintro e w8 ⟨rfl, hx8⟩
    go_wp2_with fail
    go_ret
    exact ⟨rfl, hx.trans hx8⟩
  · have HC0 := hid (show shelfCheck l ≠ 0 from fun e => h0 (hC.trans e))
    have hne : (C != 0) = true := by simpa using h0
    have hcc : (C == C) = true := by simp
    obtain rfl : X = [] := by rw [HX.out, putOut, if_neg HC0.out]
    obtain rfl : Y = [] := by rw [HY.out, dropOut, if_neg HC0.out]
    obtain rfl : E1 = C := by rw [HE1.out, putErr, if_neg HC0.out, hC]
    obtain rfl : E2 = E1 := by rw [HE2.out, dropErr, if_neg HC0.out, hC]
    clear h0 hC
    go_wp2_with fail
    go_ret
    exact ⟨rfl, hx⟩

namespace ShelfPutsProof
open Go.ChangeShapes Go.WideShapes Go.ChangeAt Go.Joins

set_option maxRecDepth 100000 in
theorem lifted (os : Os) (started : os.Started) (H : Type) (enc : TypeId × Value → H) :
    ReturnsInHanded {} Try.checked os 4 .any (Rows.shelfPutsSpec.pre6 enc Try.prog Try.f4 Rows.shelfPutsRow.domain false) (Rows.shelfPutsSpec.post enc Try.prog Try.f4 false true false false) := by
  refine returnsInHanded_of_change (C := Try.checked) own started (by kernel_rfl) Try.func4
    (ChangeSpec.witness6 (enc := enc) (C := Try.checked) false ⟨#[], #[.slice none 0 0, .agg #[.string ⟨#[]⟩, .int .i64 0, .int .i64 0, .int .i64 0, .int .i64 0, .int .i64 0, .slice none 0 0, .slice none 0 0], .agg #[.string ⟨#[]⟩, .slice none 0 0, .slice none 0 0]], []⟩ 8 (by kernel_rfl) (by kernel_rfl) (by kernel_rfl) (by kernel_rfl)) ?_
  intro W base args ds gs before hval0 hW hcnd _
  have hval : ∀ (j : Nat) t v, Try.f4.params[j]? = some t → args[j]? = some v → Value.okWide Try.prog W .any base t v := hval0
  have hW' := hW
  obtain ⟨p, q, hA0, hV, rfl, hfz, hnd⟩ := hW
  have hA : DataW.TrodAll enc Try.prog W 0 (fun _ => true) true Try.f4.params.toList args.toList ds p := hA0
  rw [Try.params4] at hA hval
  obtain ⟨v0, vs0, d0, ds0, p0, q0, hargs, rfl, rfl, h0, r0⟩ := trodAll_cons hA
  obtain ⟨v1, vs1, d1, ds1, p1, q1, rfl, rfl, rfl, h1, r1⟩ := trodAll_cons r0
  obtain ⟨v2, vs2, d2, ds2, p2, q2, rfl, rfl, rfl, h2, r2⟩ := trodAll_cons r1
  obtain ⟨rfl, rfl, rfl⟩ := trodAll_nil r2
  obtain rfl : args = #[v0, v1, v2] := by cases args; simp_all
  obtain ⟨rfl, rfl⟩ := trodVars_none hV
  obtain ⟨a0, n0, c0, rfl⟩ := okWide_slice Try.underlying22 (hval 0 22 v0 rfl rfl)
  have k0 := h0
  have lt0 : ∀ x ∈ p0, x.block < W.heap.size := by obtain ⟨m, hm⟩ := k0; exact DataW.trod_lt m _ _ _ hm
  obtain ⟨l0, rfl, hl0, s0, g0⟩ := open_vers h0
  have k1 := h1
  have lt1 : ∀ x ∈ p1, x.block < W.heap.size := by obtain ⟨m, hm⟩ := k1; exact DataW.trod_lt m _ _ _ hm
  obtain ⟨l1, e1, f1, a1, b1, rfl, s1⟩ := open_ver (hval 1 46 v1 rfl rfl) h1
  have k2 := h2
  have lt2 : ∀ x ∈ p2, x.block < W.heap.size := by obtain ⟨m, hm⟩ := k2; exact DataW.trod_lt m _ _ _ hm
  obtain ⟨l2, e2, f2, a2, b2, rfl, s2⟩ := open_gone (hval 2 48 v2 rfl rfl) h2
  clear hA0 hval0
  refine (law_ShelfPuts W.heap.size a0 c0 l0 l1 e1 f1 a1 b1 l2 e2 f2 a2 b2 W (Nat.le_refl _) hl0 s0 s1 s2).mono fun e W' ⟨he, bel⟩ => ?_
  subst he
  exact ⟨_, rfl, _, _, _, [], _, [], hW', trodAll_mk1 (shut_bool Try.underlying4 _), (trodAll_cons_mk (Below.trod laidOut (by kernel_rfl) (of_decide_eq_true (by kernel_rfl)) k0 bel lt0) (trodAll_cons_mk (Below.trod laidOut (by kernel_rfl) (of_decide_eq_true (by kernel_rfl)) k1 bel lt1) (trodAll_cons_mk (Below.trod laidOut (by kernel_rfl) (of_decide_eq_true (by kernel_rfl)) k2 bel lt2) trodAll_mk0))), rfl, Below.frame bel _, fun h => by cases h⟩

theorem over : Rows.shelfPutsRow.holds Try.pinned (OpenSpec.ofChange Rows.shelfPutsSpec) :=
  OpenClaim.holds_of_wide 4 Try.f4 rfl rfl rfl rfl rfl rfl rfl ⟨rfl, rfl, rfl, rfl, rfl⟩ rfl rfl rfl rfl rfl (by kernel_rfl) Try.func4 (by kernel_rfl)
    (of_decide_eq_true (by kernel_rfl)) (by unfold Func.isWrapper; first | (rw [if_pos (by decide +kernel)]; kernel_rfl) | (rw [if_neg (by decide +kernel)]; exact ⟨rfl, rfl⟩))
    (fun os started H enc _ => lifted os started H enc)
end ShelfPutsProof

theorem shelfPuts_holds : Rows.ShelfPutsSaid := ShelfPutsProof.over
#print axioms shelfPuts_holds

end Go.Proofs.Ytmedmfjhpabfdaa
