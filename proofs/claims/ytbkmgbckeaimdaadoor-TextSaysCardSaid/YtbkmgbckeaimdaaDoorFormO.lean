/- The walk of formula.Of's closure: a node more. -/
import Derived.Test.YtbkmgbckeaimdaaDoorFormP
import Derived.Test.YtbkmgbckeaimdaaDoorBase
namespace Go.Proofs.YtbkmgbckeaimdaaDoor
open Go Go.RowKit

theorem ei_node : ElemInfo Tryd.prog 26 39 3 24 := ElemInfo.mk_ (z := .agg #[.int .i64 0, .int .i64 0, .int .i64 0]) Tryd.underlying26 (by kernel_rfl) rfl (by decide)

theorem tyAt_setCell {w : World} {b i : Nat} {u : Value} {t : TypeId} (h : tyAt w b = some t) : tyAt (w.setCell ⟨b, i, none⟩ u) b = some t := by
  unfold tyAt at h ⊢
  cases hb : w.heap[b]? with
  | none => rw [hb] at h; cases h
  | some o =>
    rw [hb] at h
    cases o <;> simp at h
    simp [World.setCell, Array.getElem?_modify, hb, h]

/-- the variable that holds the nodes: its cell, its row. -/
structure Nodes (base bL : Nat) (w : World) (L : List Node) : Prop where
  own : ∃ v, w.cell? ⟨bL, 0, none⟩ = some v ∧ Own RNode 3 39 w base v L
  ty : tyAt w bL = some 26
  fz : w.frozen? ⟨bL, 0, none⟩ = false
  lo : base ≤ bL

end Go.Proofs.YtbkmgbckeaimdaaDoor
