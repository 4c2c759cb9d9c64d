/- A set of dots that came in as an argument. -/
import Derived.Test.YtiigbcnnapnceaaFilD
import Derived.Test.YtiigbcnnapnceaaKnD
import Derived.Lib.SmallJoins
namespace Go.Proofs.Ytiigbcnnapnceaa
open Go Go.RowKit Go.ChangeShapes Go.WideShapes Go.Deep Go.Joins

section
variable {H : Type} {enc : TypeId × Value → H} {w : World} {spare : Nat → Bool} {held : Bool}
theorem cells_know : Try.prog.cellsOf 72 = 2 := by kernel_rfl
theorem dot_elem (n : Nat) (cs : List Value) (y : DataW H × List MemPlace) (hl : cs.length = 2) (h : DataW.trod enc Try.prog w 0 spare held n 74 cs = some y) : ∃ z : Dot, RDot w cs z ∧ True := by
  obtain ⟨a, b, h1, _, _⟩ := pair_elem (P := Try.prog) Try.underlying74 Try.underlying3 (And.intro rfl rfl) (And.intro rfl rfl) cells_int hl h
  exact ⟨⟨a, b⟩, h1, trivial⟩
/-- a set of dots by value, for any caller. -/
def KArg (w : World) (v : Value) (k : Know) : Prop := ∃ Av cv Am cm, v = .agg #[.slice Av k.vec.length cv, .slice Am k.more.length cm] ∧ k.vec.length ≤ cv ∧ cv ≤ maxLen ∧ k.more.length ≤ cm ∧ cm ≤ maxLen ∧ InK w.heap.size w Av Am k
set_option maxRecDepth 100000 in
theorem open_know {base : Nat} {v : Value} {d : DataW H} {p : List MemPlace} (hv : Value.okWide Try.prog w .any base 72 v) (h : DataW.Trod enc Try.prog w 0 spare held 72 v d p) : ∃ k, KArg w v k := by
  obtain ⟨v0, v1, y0, y1, n, rfl, _, _, g0, g1⟩ := open_agg2 Try.underlying72 (by kernel_rfl) cells_know hv h
  obtain ⟨a, l, h1, ⟨Av, cv, rfl, b1, b2, b3⟩, _⟩ := isSl_of_trod (R := RInt) (Q := fun _ => True) Try.underlying69 cells_int Nat.one_pos (fun _ _ _ _ h => by obtain ⟨z, hz, _⟩ := int_cell Try.underlying3 h; exact ⟨z, hz, trivial⟩) g0
  obtain ⟨a2, m, h2, ⟨Am, cm, rfl, c1, c2, c3⟩, _⟩ := isSl_of_trod (R := RDot) (Q := fun _ => True) Try.underlying70 cells_dot Nat.two_pos dot_elem g1
  injection h1 with h1 _
  injection h2 with h2 _
  subst h1 h2
  exact ⟨⟨l, m⟩, Av, cv, Am, cm, rfl, b1, b2, c1, c2, ⟨by show l.length ≤ _; omega, by show m.length ≤ _; omega, b3, c3⟩⟩
end
end Go.Proofs.Ytiigbcnnapnceaa
