/- A region that draws its order, whose operations read and whose calls only make memory: ONE walk in the order of the text. No program in sight. -/
import Derived.Test.YtiigbcnnapnceaaArr
import Derived.Deep.QuietTactic
import Derived.Deep.MidRow
namespace Go.Proofs.Ytiigbcnnapnceaa
open Go Go.RowKit

section
variable {P : Program} {ops : Array Oper} {C : World → Prop} {Q : Act → Prop} {rest : List Oper} {a : Act} {dst : Option Tmp} {ty : TypeId} {pos : String} {after : Array Edge} {g : Option (Nat × Bool)}
theorem wp_region_class (C : World → Prop) {id : Nat} {Q : Exit → Act → World → Prop} {a : Act} {w : World} {l : List Oper} (hm : P.follows .mixedOrders = true) (hB : Region.lexB .any l.toArray = true) (hC : C w.drew)
    (h : wpQuiet P l.toArray C (fun a' => ∀ w', C w' → Q .normal a' w') l a) : (Code.region id l.toArray true).wp P Q a w :=
  wp_region_quiet (C := C) hm hB hC (by simpa using h)
theorem wpQuiet_pure {o : Oper} {v : Value} (hw : Region.wanted o (yielded ops a.tmps) = true) (hy : ∀ w, (execOp a.eval o).run P w = .ok (.value v) w) (h : wpQuiet P ops C Q rest (a.put o.dst v)) : wpQuiet P ops C Q (o :: rest) a := by
  unfold wpQuiet
  rw [if_pos hw]
  refine ⟨v, fun w _ => ?_, h⟩
  unfold Oper.quietAt
  rw [hy w]
  exact ⟨rfl, rfl⟩
theorem wpQuiet_off {o : Oper} (hw : Region.wanted o (yielded ops a.tmps) = false) (h : wpQuiet P ops C Q rest (a.put o.dst undef)) : wpQuiet P ops C Q (o :: rest) a := by
  unfold wpQuiet
  rw [if_neg (by rw [hw]; simp)]
  exact h
theorem wpQuiet_loadRow {t : TypeId} {x : Operand} {b o : Nat} {cs : List Value} {d : TypeDesc} (hu : P.underlying t = some d) (hd : d.isRow = true) (hi : (P.info? t).map (·.size) = some cs.length)
    (hw : Region.wanted (⟨dst, .load t x, ty, pos, after, g⟩ : Oper) (yielded ops a.tmps) = true) (hx : a.eval x = .pointer (some ⟨b, o, none⟩)) (hC : ∀ w, C w → w.rangeAt b o cs)
    (h : wpQuiet P ops C Q rest (a.put dst (.agg cs.toArray))) : wpQuiet P ops C Q (⟨dst, .load t x, ty, pos, after, g⟩ :: rest) a := by
  rcases yieldsIf_load_mid (P := P) (ops := ops) (S := C) (op := ⟨dst, .load t x, ty, pos, after, g⟩) (a := a) hw t x rfl b o hx cs d hC hu hd hi with ⟨_, h1⟩ | ⟨h1, _⟩
  · unfold wpQuiet
    rw [if_pos hw]
    refine ⟨_, fun w hw' => ?_, h⟩
    unfold Oper.quietAt
    rw [h1 w hw']
    exact ⟨rfl, rfl⟩
  · rw [hw] at h1
    cases h1
theorem wpQuiet_loadArr {t : TypeId} {n : Nat} (ai : ArrInfo P t n) {x : Operand} {b : Nat} {e : TypeId} {cs : Array Value}
    (hw : Region.wanted (⟨dst, .load t x, ty, pos, after, g⟩ : Oper) (yielded ops a.tmps) = true) (hx : a.eval x = .pointer (some ⟨b, 0, none⟩)) (hC : ∀ w, C w → Blk w b e cs) (hn : cs.size = n)
    (h : wpQuiet P ops C Q rest (a.put dst (.agg cs))) : wpQuiet P ops C Q (⟨dst, .load t x, ty, pos, after, g⟩ :: rest) a := by
  obtain ⟨⟨m, e', hu⟩, hi⟩ := ai
  refine wpQuiet_loadRow (cs := cs.toList) (o := 0) hu rfl (by rw [hi, Array.length_toList, hn]) hw hx (fun w hw' j v hv => ?_) (by rw [Array.toArray_toList]; exact h)
  rw [Nat.zero_add]
  exact (hC w hw').cell (by rwa [Array.getElem?_toList] at hv)
theorem wpQuiet_call {f : FuncId} {xs : Array Operand} {ts : Array TypeId} {args : Array Value} {v : Value} (hcall : ∀ (as : Array Value) (w : World), (callFunc f as).run P w = .ok (.enter f as) w)
    (hw : Region.wanted (⟨dst, .call { callee := .value (.func f), args := xs, argTypes := ts }, ty, pos, after, g⟩ : Oper) (yielded ops a.tmps) = true) (ha : (xs.toList.map a.eval).toArray = args)
    (hc : ∀ w, C w → Calls P f args w fun e w' => e = .returned v ∧ C w')
    (h : wpQuiet P ops C Q rest (a.put dst v)) : wpQuiet P ops C Q (⟨dst, .call { callee := .value (.func f), args := xs, argTypes := ts }, ty, pos, after, g⟩ :: rest) a := by
  unfold wpQuiet
  rw [if_pos hw]
  refine ⟨v, fun w hw' => ?_, h⟩
  have hr : (execOp a.eval (⟨dst, .call { callee := .value (.func f), args := xs, argTypes := ts }, ty, pos, after, g⟩ : Oper)).run P w = .ok (.enter f args) w := by
    subst ha
    unfold execOp
    simp [resolve, invoke, Act.eval, hcall, go_sem]
    rw [← Array.toList_map]
  unfold Oper.quietAt
  rw [hr]
  exact ⟨rfl, hc w hw'⟩
end
end Go.Proofs.Ytiigbcnnapnceaa
