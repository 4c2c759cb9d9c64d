/- Versions, sets and strings as a law's arguments, opened. -/
import Derived.Test.YtmedmfjhpabfdaaShelfD
import Derived.Test.YtmedmfjhpabfdaaWalks
import Derived.ChangeMaps5
namespace Go.Proofs.Ytmedmfjhpabfdaa
open Go Go.RowKit Go.ChangeShapes Go.WideShapes Go.Deep Go.Joins

section
variable {H : Type} {enc : TypeId × Value → H} {w : World} {spare : Nat → Bool} {held : Bool}
/-- a struct by value: its cells. -/
theorem open_cells {α : Type} {P : Program} {R : World → List Value → α → Prop} {Q : α → Prop} {t : TypeId} {sz : Nat} {fs : Array Field} (ht : P.underlying t = some (.struct fs)) (hC : P.cellsOf t = sz)
    (helem : ∀ (n : Nat) (cs : List Value) (y : DataW H × List MemPlace), cs.length = sz → DataW.trod enc P w 0 spare held n t cs = some y → ∃ z : α, R w cs z ∧ Q z)
    {base : Nat} {v : Value} {d : DataW H} {p : List MemPlace} (hv : Value.okWide P w .any base t v) (h : DataW.Trod enc P w 0 spare held t v d p) : ∃ (z : α) (cs : Array Value), v = .agg cs ∧ R w cs.toList z ∧ Q z := by
  simp only [Value.okWide, ht] at hv
  obtain ⟨cs, rfl, hs, _⟩ := hv
  obtain ⟨fuel, hf⟩ := h
  obtain ⟨z, h1, h2⟩ := helem fuel cs.toList _ (by rw [Array.length_toList, hs, hC]) hf
  exact ⟨z, cs, rfl, h1, h2⟩
set_option maxRecDepth 100000 in
theorem open_ver {base : Nat} {v : Value} {d : DataW H} {p : List MemPlace} (hv : Value.okWide Try.prog w .any base 46 v) (h : DataW.Trod enc Try.prog w 0 spare held 46 v d p) :
    ∃ z Av cv Am cm, v = .agg #[.string z.id, .int .i64 z.dot.site, .int .i64 z.dot.count, .int .i64 z.pt.tags, .int .i64 z.pt.num, .int .i64 z.body, .slice Av z.past.vec.length cv, .slice Am z.past.more.length cm] ∧ InV w.heap.size w Av cv Am cm z := by
  obtain ⟨z, cs, rfl, h1, _⟩ := open_cells Try.underlying46 cells_ver ver_elem hv h
  obtain ⟨Av, cv, Am, cm, h2, h3⟩ := h1.inV
  refine ⟨z, Av, cv, Am, cm, ?_, h3⟩
  rw [← h2, Array.toArray_toList]
end
end Go.Proofs.Ytmedmfjhpabfdaa
