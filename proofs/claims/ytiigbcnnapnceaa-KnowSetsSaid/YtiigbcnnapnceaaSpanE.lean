/- The walks of slices.Equal over spans, span.Count and span.Of. -/
import Derived.Test.YtiigbcnnapnceaaSpanR
namespace Go.Proofs.Ytiigbcnnapnceaa
open Go Go.RowKit

theorem eq_of_take {α : Type} {a b : List α} (hl : a.length = b.length) (h : a.take a.length = b.take a.length) : a = b := by
  rw [List.take_length, hl, List.take_length] at h; exact h
theorem take_eq_succ {α : Type} {a b : List α} {k : Nat} (ha : k < a.length) (hb : k < b.length) (h : a.take k = b.take k) (e : a[k] = b[k]) : a.take (k + 1) = b.take (k + 1) := by
  rw [List.take_succ_eq_append_getElem ha, List.take_succ_eq_append_getElem hb, h, e]
theorem ne_of_get {α : Type} {a b : List α} {k : Nat} (ha : k < a.length) (hb : k < b.length) (e : a[k] ≠ b[k]) : a ≠ b := by
  rintro rfl; exact e rfl

theorem run_ne_span (s t : Span) (b : Bool) (h : decide (s = t) = !b) (w : World) : (binOp .neq 101 (.agg #[.int .i64 s.fr, .int .i64 s.to]) (.agg #[.int .i64 t.fr, .int .i64 t.to])).run Try.prog w = .ok (.bool b) w := by
  obtain ⟨x1, y1⟩ := s
  obtain ⟨x2, y2⟩ := t
  go_simp
  simp only [Span.mk.injEq] at h
  by_cases h1 : x1 = x2 <;> by_cases h2 : y1 = y2 <;> simp [h1, h2] at h ⊢ <;> simp [h]

theorem zi_32b : ZeroInfo Try.prog 107 (rowB 32 fun _ => false) := fun w => by kernel_rfl

end Go.Proofs.Ytiigbcnnapnceaa
