/- The arguments of the laws, opened over this program's types. -/
import Derived.Test.YtiigbcnnapnceaaProg
import Derived.Test.YtiigbcnnapnceaaChecked
import Derived.Test.YtiigbcnnapnceaaOpen
namespace Go.Proofs.Ytiigbcnnapnceaa
open Go Go.RowKit Go.ChangeShapes Go.WideShapes Go.Deep

theorem own : ownKnob Try.prog.godebug = none := by kernel_rfl
theorem laidOut : laidOutB Try.prog = true := by kernel_rfl
theorem cells_int : Try.prog.cellsOf 3 = 1 := by kernel_rfl

section
variable {H : Type} {enc : TypeId × Value → H} {w : World} {spare : Nat → Bool} {held : Bool}

theorem cells_span : Try.prog.cellsOf 101 = 2 := by kernel_rfl

theorem span_elem (n : Nat) (cs : List Value) (y : DataW H × List MemPlace) (hl : cs.length = 2) (h : DataW.trod enc Try.prog w 0 spare held n 101 cs = some y) : ∃ z : Span, RSpan w cs z ∧ (InI64 z.fr ∧ InI64 z.to) := by
  obtain ⟨a, b, h1, h2, h3⟩ := pair_elem (P := Try.prog) Try.underlying101 Try.underlying3 (And.intro rfl rfl) (And.intro rfl rfl) cells_int hl h
  exact ⟨Span.mk a b, h1, h2, h3⟩

theorem open_spans {A : Option Addr} {len cap : Nat} {d : DataW H} {p : List MemPlace} (h : DataW.Trod enc Try.prog w 0 spare held 97 (.slice A len cap) d p) :
    ∃ l : List Span, l.length = len ∧ len ≤ maxLen ∧ SlSpans w.heap.size w A l ∧ ∀ z ∈ l, InI64 z.fr ∧ InI64 z.to :=
  slice_arg Try.underlying97 cells_span Nat.two_pos span_elem h

theorem open_ints {A : Option Addr} {len cap : Nat} {d : DataW H} {p : List MemPlace} (h : DataW.Trod enc Try.prog w 0 spare held 69 (.slice A len cap) d p) :
    ∃ l : List Int, l.length = len ∧ len ≤ maxLen ∧ Sl w.heap.size 3 RInt 1 w A l ∧ ∀ z ∈ l, InI64 z :=
  slice_arg Try.underlying69 cells_int Nat.one_pos (fun _ _ _ _ h => int_cell Try.underlying3 h) h
end
end Go.Proofs.Ytiigbcnnapnceaa
