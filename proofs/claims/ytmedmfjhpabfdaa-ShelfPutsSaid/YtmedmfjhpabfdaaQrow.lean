/- A region that draws its order: loads of rows of many cells. No program in sight. -/
import Derived.Test.YtmedmfjhpabfdaaBase
namespace Go.Proofs.Ytmedmfjhpabfdaa
open Go Go.RowKit

section
variable {P : Program} {ops : Array Oper} {C : World → Prop} {Q : Act → Prop} {rest : List Oper} {a : Act} {dst : Option Tmp} {ty : TypeId} {pos : String} {after : Array Edge}
theorem wq_loadRowOn {t : TypeId} {n : Nat} (ri : RowInfo P t n) {x : Operand} {b o : Nat} {cs : Array Value} {j : Nat} {g : Bool} (hg : yielded ops a.tmps j = some g) (hx : a.eval x = .pointer (some ⟨b, o, none⟩)) (hC : ∀ w, C w → w.rangeAt b o cs.toList) (hn : cs.size = n)
    (h : WQ P ops C Q rest (a.put dst (.agg cs))) : WQ P ops C Q (⟨dst, .load t x, ty, pos, after, some (j, g)⟩ :: rest) a := by
  obtain ⟨⟨d, hu, hd⟩, hi⟩ := ri
  exact ⟨wpQuiet_loadRow (cs := cs.toList) hu hd (by rw [hi, Array.length_toList, hn]) (by simp [Region.wanted, hg]) hx hC (by rw [Array.toArray_toList]; exact h.out)⟩
theorem wq_loadRow {t : TypeId} {n : Nat} (ri : RowInfo P t n) {x : Operand} {b o : Nat} {cs : Array Value} (hx : a.eval x = .pointer (some ⟨b, o, none⟩)) (hC : ∀ w, C w → w.rangeAt b o cs.toList) (hn : cs.size = n)
    (h : WQ P ops C Q rest (a.put dst (.agg cs))) : WQ P ops C Q (⟨dst, .load t x, ty, pos, after, none⟩ :: rest) a := by
  obtain ⟨⟨d, hu, hd⟩, hi⟩ := ri
  exact ⟨wpQuiet_loadRow (cs := cs.toList) hu hd (by rw [hi, Array.length_toList, hn]) rfl hx hC (by rw [Array.toArray_toList]; exact h.out)⟩
end
end Go.Proofs.Ytmedmfjhpabfdaa
