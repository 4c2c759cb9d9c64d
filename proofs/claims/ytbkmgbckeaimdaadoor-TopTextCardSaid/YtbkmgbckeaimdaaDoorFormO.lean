/- The walk of formula.Of's closure: a node more. -/
import Derived.Test.YtbkmgbckeaimdaaDoorFormP
import Derived.Test.YtbkmgbckeaimdaaDoorBase
namespace Go.Proofs.YtbkmgbckeaimdaaDoor
open Go Go.RowKit

theorem ei_node : ElemInfo Tryd.prog 26 39 3 24 := ElemInfo.mk_ (z := .agg #[.int .i64 0, .int .i64 0, .int .i64 0]) Tryd.underlying26 (by kernel_rfl) rfl (by decide)

theorem tyAt_setCell {w : World} {b i : Nat} {u : Value} {t : TypeId} (h : tyAt w b = some t) : tyAt (w.setCell ⟨b, i, none⟩ u) b = some t := by
  unfold tyAt at h ⊢
  cases hb : w.heap[b]? with
  | none => rw [hb] at h; cases h
  | some o =>
    rw [hb] at h
    cases o <;> simp at h
    simp [World.setCell, Array.getElem?_modify, hb, h]

/-- the variable that holds the nodes: its cell, its row. -/
structure Nodes (base bL : Nat) (w : World) (L : List Node) : Prop where
  own : ∃ v, w.cell? ⟨bL, 0, none⟩ = some v ∧ Own RNode 3 39 w base v L
  ty : tyAt w bL = some 26
  fz : w.frozen? ⟨bL, 0, none⟩ = false
  lo : base ≤ bL

set_option maxHeartbeats 1000000 in
theorem formula_Of1 (base bL : Nat) (L : List Node) (n : Node) (w : World) (hlen : L.length ≤ 100000) (h : Nodes base bL w L) :
    Calls Tryd.prog 21 #[.agg #[.int .i64 n.kind, .int .i64 n.a, .int .i64 n.b], .pointer (some ⟨bL, 0, none⟩)] w fun e w' => e = .returned (.int .i64 L.length) ∧ Nodes base bL w' (L ++ [n]) ∧ Chg base [39, 26] w w' := by
  obtain ⟨⟨v, hc, ho⟩, hty, hfz, hlo⟩ := h
  have hz : bL < w.heap.size := World.block_lt_of_cell? _ _ hc
  obtain ⟨W, hW⟩ : ∃ W, W = (w.alloc (.cells #[.int .i64 n.kind, .int .i64 n.a, .int .i64 n.b] 39)).alloc (.cells #[.int .i64 n.kind, .int .i64 n.a, .int .i64 n.b] 39) := ⟨_, rfl⟩
  have hxW : Ext w W := by rw [hW]; exact ((Ext.refl w).alloc _).alloc _
  have hone : Sl base 39 RNode 3 W (some ⟨w.heap.size + 1, 0, none⟩) [n] := by
    have h1 := Sl.one (R := RNode) (B := base) (e := 39) (sz := 3) (w := w.alloc (.cells #[.int .i64 n.kind, .int .i64 n.a, .int .i64 n.b] 39)) (cs := [.int .i64 n.kind, .int .i64 n.a, .int .i64 n.b]) (y := n) rfl rfl rfl
    rw [hW]
    rwa [show (w.alloc (.cells #[.int .i64 n.kind, .int .i64 n.a, .int .i64 n.b] 39)).heap.size = w.heap.size + 1 by simp] at h1
  have hoW := ho.ext (B := base) RTrip.mono hxW
  have hsz : base ≤ W.heap.size := by have := hxW.size; omega
  have hcW := hxW.cell hc
  have hfW : W.frozen? ⟨bL, 0, none⟩ = false := (hxW.frozenAt hz).trans hfz
  have htW : tyAt W bL = some 26 := (tyAt_of (hxW.blockAt hz)).trans hty
  rw [hW] at hoW hone hsz
  go_enter Tryd.func21, Tryd.ntmps21
  go_wp2_with (at_builtin; refine wpList_app (B := base) (A := some ⟨w.heap.size + 1, 0, none⟩) (c := 1) (ys := [n]) (l := L) rfl _ _ rfl ei_node rfl hoW (Nat.le_refl _) hsz rfl hone RTrip.oneC RTrip.mono ?_ ?_ ?_)
  · show L.length + 1 ≤ maxLen
    unfold maxLen
    omega
  · show (L.length + 1) * 24 ≤ _
    omega
  · intro v2 w3 ho2 hc2 hb2 hg2
    rw [← hW] at hc2 hb2 hg2
    have hzW : bL < W.heap.size := Nat.lt_of_lt_of_le hz hxW.size
    have hne : ∀ t ∈ [39], tyAt W bL ≠ some t := by
      intro t ht
      rw [htW]
      simp at ht
      subst ht
      decide
    have hb3 : w3.heap[bL]? = W.heap[bL]? := hc2.block bL hzW (.inr hne)
    have hc3 : w3.cell? ⟨bL, 0, none⟩ = some v := hc2.cell (.inr hne) hcW
    have hf3 : w3.frozen? ⟨bL, 0, none⟩ = false := by
      have : w3.frozen? ⟨bL, 0, none⟩ = W.frozen? ⟨bL, 0, none⟩ := by simp only [World.frozen?, hb3]
      rw [this, hfW]
    have ht3 : tyAt w3 bL = some 26 := (tyAt_of hb3).trans htW
    have hz3 : bL < w3.heap.size := Nat.lt_of_lt_of_le hzW hc2.size
    obtain ⟨A2, c2, rfl, _, _⟩ := ho2.len
    have hln : (L ++ [n]).length = L.length + 1 := by simp
    have HLN := hid hln
    have ex : (((L ++ [n]).length : Int) - 1) = (L.length : Int) := by rw [hln]; omega
    clear hln
    generalize hM : L ++ [n] = M at *
    have hx4 : Chg base [26] w3 (w3.setCell ⟨bL, 0, none⟩ (.slice A2 M.length c2)) := Chg.setCell (Chg.refl _) ht3 (by simp) _ hlo
    have ho4 := ho2.chg (B := base) RTrip.mono hx4 (fun g hg => Below.heap_setCell _ _ _ _ (by
      intro e
      rcases ho2.at_ with ⟨h1, h2⟩ | ⟨g2, c3, h1, _, _, h4, _⟩
      · rw [h1] at hg
        cases hg
      · rw [h1] at hg
        injection hg with hg
        rw [show g2 = bL from (show g2 = g from hg).trans e, ht3] at h4
        exact absurd h4 (by decide)))
    have hcc : (w3.setCell ⟨bL, 0, none⟩ (.slice A2 M.length c2)).cell? ⟨bL, 0, none⟩ = some (.slice A2 M.length c2) := by go_simp
    have hM0 : 0 < M.length := by rw [HLN.out]; omega
    have hM1 : M.length ≤ 100001 := by rw [HLN.out]; omega
    go_wp2_with fail
    go_ret
    refine ⟨ret_int (by first | exact ex | rfl | omega), ⟨⟨_, hcc, by rw [hM]; exact ho4⟩, tyAt_setCell ht3, ?_, hlo⟩, ((Chg.of_ext hxW).trans (hc2.more (by simp))).trans (hx4.more (by simp))⟩
    · go_simp

end Go.Proofs.YtbkmgbckeaimdaaDoor
