/- The walks of slices.Clone at dots and at ints, of know.Made. -/
import Derived.Test.YtmedmfjhpabfdaaWalks
import Derived.Shelf.SlLaysF0
import Derived.Test.YtmedmfjhpabfdaaProg
import Derived.Shelf.SlSortCmp.NoneTotal
import Derived.Test.YtmedmfjhpabfdaaBase
namespace Go.Proofs.Ytmedmfjhpabfdaa
open Go Go.RowKit

theorem ei_dot : ElemInfo Try.prog 42 38 2 16 := ElemInfo.mk_ (z := .agg #[.int .i64 0, .int .i64 0]) Try.underlying42 (by kernel_rfl) rfl (by decide)
theorem ei_int : ElemInfo Try.prog 41 3 1 8 := ElemInfo.mk_ (z := .int .i64 0) Try.underlying41 (by kernel_rfl) rfl (by decide)
/-- a vector in a cell. -/
def RVec (B : Nat) (w : World) (cs : List Value) (l : List Int) : Prop := ∃ v, cs = [v] ∧ IsInts B w v l
theorem RVec.monoE {B : Nat} : Mono B [] (RVec B) := by
  rintro w w' cs l x ⟨v, rfl, h⟩
  exact ⟨v, rfl, h.chg RInt.mono (by simp) x⟩
abbrev SlVecs (B : Nat) := Sl B 41 (RVec B) 1
theorem Sl.vec {B : Nat} {w : World} {A : Option Addr} {l : List (List Int)} (h : SlVecs B w A l) {i : Nat} (hi : i < l.length) :
    ∃ b off A' c, A = some ⟨b, off, none⟩ ∧ b < w.heap.size ∧ w.cell? ⟨b, off + i, none⟩ = some (.slice A' l[i].length c) ∧ SlInts B w A' l[i] := by
  obtain ⟨b, off, cs, hA, hb, _, hc, v, rfl, A', c, rfl, _, _, hs⟩ := h.at_ hi
  have := hc 0 _ rfl
  simp only [Nat.mul_one, Nat.add_zero] at this
  exact ⟨b, off, A', c, hA, hb, this, hs⟩

theorem set_rowI {w : World} {g : Nat} {u : List Int} (h : Blk w g 3 (rowI u)) (i : Nat) (x : Int) : Blk (w.setCell ⟨g, i, none⟩ (.int .i64 x)) g 3 (rowI (u.set i x)) := by
  rw [← rowI_set]; exact h.set i _
end Go.Proofs.Ytmedmfjhpabfdaa
