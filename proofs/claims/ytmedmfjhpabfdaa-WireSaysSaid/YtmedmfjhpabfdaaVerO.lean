/- Versions, sets and strings as a law's arguments, opened. -/
import Derived.Test.YtmedmfjhpabfdaaShelfD
import Derived.Test.YtmedmfjhpabfdaaWalks
import Derived.ChangeMaps5
namespace Go.Proofs.Ytmedmfjhpabfdaa
open Go Go.RowKit Go.ChangeShapes Go.WideShapes Go.Deep Go.Joins

section
variable {H : Type} {enc : TypeId × Value → H} {w : World} {spare : Nat → Bool} {held : Bool}
/-- a struct by value: its cells. -/
theorem open_cells {α : Type} {P : Program} {R : World → List Value → α → Prop} {Q : α → Prop} {t : TypeId} {sz : Nat} {fs : Array Field} (ht : P.underlying t = some (.struct fs)) (hC : P.cellsOf t = sz)
    (helem : ∀ (n : Nat) (cs : List Value) (y : DataW H × List MemPlace), cs.length = sz → DataW.trod enc P w 0 spare held n t cs = some y → ∃ z : α, R w cs z ∧ Q z)
    {base : Nat} {v : Value} {d : DataW H} {p : List MemPlace} (hv : Value.okWide P w .any base t v) (h : DataW.Trod enc P w 0 spare held t v d p) : ∃ (z : α) (cs : Array Value), v = .agg cs ∧ R w cs.toList z ∧ Q z := by
  simp only [Value.okWide, ht] at hv
  obtain ⟨cs, rfl, hs, _⟩ := hv
  obtain ⟨fuel, hf⟩ := h
  obtain ⟨z, h1, h2⟩ := helem fuel cs.toList _ (by rw [Array.length_toList, hs, hC]) hf
  exact ⟨z, cs, rfl, h1, h2⟩
end
end Go.Proofs.Ytmedmfjhpabfdaa
