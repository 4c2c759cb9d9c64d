/- The walks of know.told, Add. -/
import Derived.Test.YtmedmfjhpabfdaaKnM
import Derived.Test.YtmedmfjhpabfdaaKnI
import Derived.Deep.RegionHeld3
namespace Go.Proofs.Ytmedmfjhpabfdaa
open Go Go.RowKit

theorem wp_app {P : Program} {α : Type} {R : World → List Value → α → Prop} {t e : TypeId} {sz bytes base B B' : Nat} {w : World} {v : Value} {l ys : List α} {A : Option Addr} {c : Nat} {o : Oper} {a : Act} {K : Act → World → Prop} {Q : Exit → Act → World → Prop} (s x : Operand)
    (ho : o.op = .call { callee := .builtin .append, args := #[s, x], argTypes := #[t, t] }) (ei : ElemInfo P t e sz bytes)
    (hs : a.eval s = v) (hown : Own R sz e w base v l) (hB : B ≤ base) (hb : base ≤ w.heap.size) {e' : TypeId} (hx : a.eval x = .slice A ys.length c) (hsl : Sl B' e' R sz w A ys) (h1 : OneC R) (m : Mono B [e] R)
    (h63 : l.length + ys.length ≤ maxLen) (hby : (l.length + ys.length) * bytes ≤ 140737488355328)
    (h : ∀ v' w', Own R sz e w' base v' (l ++ ys) → Chg B [e] w w' → Below base w w' → w.grownBy w' v.ownBlock → K (a.put o.dst v') w') : o.wp P a w K Q := by
  obtain ⟨v', w', hr, h2, h3, h4, h5⟩ := run_app (P := P) (t := t) (ty := o.type) (c := c) ei hown hB hb hsl h1 m h63 hby
  unfold Oper.wp execOp
  simp only [ho, resolve, invoke, builtin, Sem.run_bind, Sem.run_pure, Result.andThen_ok, List.map_toArray, List.map_cons, List.map_nil, hs, hx, hr]
  exact h _ _ h2 h4 h5 h3
theorem tyAt_put {w : World} {b i : Nat} {u : Value} {t : TypeId} (h : tyAt w b = some t) : tyAt (w.setCell ⟨b, i, none⟩ u) b = some t := by
  unfold tyAt at h ⊢
  cases hb : w.heap[b]? with
  | none => rw [hb] at h; cases h
  | some o =>
    rw [hb] at h
    cases o <;> simp at h
    simp [World.setCell, Array.getElem?_modify, hb, h]
theorem Own.sl {α : Type} {R : World → List Value → α → Prop} {sz : Nat} {e : TypeId} {w : World} {base n c : Nat} {A : Option Addr} {l : List α} (B : Nat) (h : Own R sz e w base (.slice A n c) l) : Sl B e R sz w A l := by
  obtain ⟨A', c', hv, _, _, hs⟩ := h.isSl B
  injection hv with h1 _ _
  rw [h1]
  exact hs
end Go.Proofs.Ytmedmfjhpabfdaa
