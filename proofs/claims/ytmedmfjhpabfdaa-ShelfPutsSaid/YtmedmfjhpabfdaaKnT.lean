/- The walks of know.told, Add. -/
import Derived.Test.YtmedmfjhpabfdaaKnM
import Derived.Test.YtmedmfjhpabfdaaKnI
import Derived.Deep.RegionHeld3
namespace Go.Proofs.Ytmedmfjhpabfdaa
open Go Go.RowKit

theorem tyAt_put {w : World} {b i : Nat} {u : Value} {t : TypeId} (h : tyAt w b = some t) : tyAt (w.setCell ⟨b, i, none⟩ u) b = some t := by
  unfold tyAt at h ⊢
  cases hb : w.heap[b]? with
  | none => rw [hb] at h; cases h
  | some o =>
    rw [hb] at h
    cases o <;> simp at h
    simp [World.setCell, Array.getElem?_modify, hb, h]
theorem Own.sl {α : Type} {R : World → List Value → α → Prop} {sz : Nat} {e : TypeId} {w : World} {base n c : Nat} {A : Option Addr} {l : List α} (B : Nat) (h : Own R sz e w base (.slice A n c) l) : Sl B e R sz w A l := by
  obtain ⟨A', c', hv, _, _, hs⟩ := h.isSl B
  injection hv with h1 _ _
  rw [h1]
  exact hs
end Go.Proofs.Ytmedmfjhpabfdaa
