/- The walks of slices.Grow from nowhere and of slices.Concat, at dots. -/
import Derived.Test.YtmedmfjhpabfdaaKnM
import Derived.Lib.AppendZeros
namespace Go.Proofs.Ytmedmfjhpabfdaa
open Go Go.RowKit

/-- a list of dots in a cell. -/
def RDots (B : Nat) (w : World) (cs : List Value) (l : List Dot) : Prop := ∃ v, cs = [v] ∧ IsDots B w v l
theorem RDots.monoE {B : Nat} : Mono B [] (RDots B) := by
  rintro w w' cs l x ⟨v, rfl, h⟩
  exact ⟨v, rfl, h.chg RPair.mono (by simp) x⟩
abbrev SlDotss (B : Nat) := Sl B 42 (RDots B) 1
theorem Sl.dots {B : Nat} {w : World} {A : Option Addr} {l : List (List Dot)} (h : SlDotss B w A l) {i : Nat} (hi : i < l.length) :
    ∃ b off A' c, A = some ⟨b, off, none⟩ ∧ b < w.heap.size ∧ w.cell? ⟨b, off + i, none⟩ = some (.slice A' l[i].length c) ∧ SlDots B w A' l[i] := by
  obtain ⟨b, off, cs, hA, hb, _, hc, v, rfl, A', c, rfl, _, _, hs⟩ := h.at_ hi
  have := hc 0 _ rfl
  simp only [Nat.mul_one, Nat.add_zero] at this
  exact ⟨b, off, A', c, hA, hb, this, hs⟩
theorem Own.room {α : Type} {R : World → List Value → α → Prop} {sz : Nat} {e : TypeId} {w : World} {cs : Array Value} {base cap : Nat} (hb : base ≤ w.heap.size) (hm : cap ≤ maxLen) (hs : cs.size = cap * sz) :
    Own R sz e (w.alloc (.cells cs e)) base (.slice (some ⟨w.heap.size, 0, none⟩) 0 cap) ([] : List α) := by
  refine ⟨[], rfl, by intro i cs x h; simp at h, by simp, .inr ⟨w.heap.size, cap, cs, rfl, hb, heap_alloc_new w _, Nat.zero_le _, hm, hs, by simp⟩⟩

end Go.Proofs.Ytmedmfjhpabfdaa
