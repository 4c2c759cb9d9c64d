/- The walk of know.Join. -/
import Derived.Test.YtmedmfjhpabfdaaKnC
import Derived.Test.YtmedmfjhpabfdaaKnT
namespace Go.Proofs.Ytmedmfjhpabfdaa
open Go Go.RowKit

theorem Sl.two {α : Type} {R : World → List Value → α → Prop} {B : Nat} {e : TypeId} {o w : World} {u v : Value} {x y : α} (ho : o = w.alloc (.cells #[u, v] e)) (h1 : R o [u] x) (h2 : R o [v] y) : Sl B e R 1 o (some ⟨w.heap.size, 0, none⟩) [x, y] := by
  have hb := Blk.new w e #[u, v]
  rw [← ho] at hb
  intro i z hz
  match i, hz with
  | 0, hz =>
    simp at hz
    subst hz
    refine ⟨w.heap.size, 0, [u], rfl, hb.lt, .inr hb.ty, rfl, ?_, h1⟩
    intro j a ha
    match j, ha with
    | 0, ha => simp at ha; subst ha; exact hb.cell rfl
  | 1, hz =>
    simp at hz
    subst hz
    refine ⟨w.heap.size, 0, [v], rfl, hb.lt, .inr hb.ty, rfl, ?_, h2⟩
    intro j a ha
    match j, ha with
    | 0, ha => simp at ha; subst ha; exact hb.cell rfl

end Go.Proofs.Ytmedmfjhpabfdaa
