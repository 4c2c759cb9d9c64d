/- A region that draws its order: a call of a function value that stands in a temporary. No program in sight. -/
import Derived.Test.YtiigbcnnapnceaaQext
namespace Go.Proofs.Ytiigbcnnapnceaa
open Go Go.RowKit

section
variable {P : Program} {ops : Array Oper} {C : World → Prop} {Q : Act → Prop} {rest : List Oper} {a : Act} {dst : Option Tmp} {ty : TypeId} {pos : String} {after : Array Edge}
theorem wq_callAt {x : Operand} {f : FuncId} {xs : Array Operand} {ts : Array TypeId} {args : Array Value} {v : Value} {g : Option (Nat × Bool)} (hx : a.eval x = .func (.func f) #[] #[]) (hcall : ∀ (as : Array Value) (w : World), (callFunc f as).run P w = .ok (.enter f as) w)
    (hw : Region.wanted (⟨dst, .call { callee := .value x, args := xs, argTypes := ts }, ty, pos, after, g⟩ : Oper) (yielded ops a.tmps) = true) (ha : (xs.toList.map a.eval).toArray = args)
    (hc : ∀ w, C w → Calls P f args w fun e w' => e = .returned v ∧ C w')
    (h : WQ P ops C Q rest (a.put dst v)) : WQ P ops C Q (⟨dst, .call { callee := .value x, args := xs, argTypes := ts }, ty, pos, after, g⟩ :: rest) a := by
  refine ⟨?_⟩
  unfold wpQuiet
  rw [if_pos hw]
  refine ⟨v, fun w hw' => ?_, h.out⟩
  have hr : (execOp a.eval (⟨dst, .call { callee := .value x, args := xs, argTypes := ts }, ty, pos, after, g⟩ : Oper)).run P w = .ok (.enter f args) w := by
    subst ha
    unfold execOp
    simp only [resolve, hx]
    simp [invoke, hcall, go_sem]
    rw [← Array.toList_map]
  unfold Oper.quietAt
  rw [hr]
  exact ⟨rfl, hc w hw'⟩
theorem wq_callV {x : Operand} {f : FuncId} {xs : Array Operand} {ts : Array TypeId} {args : Array Value} {v : Value} (hx : a.eval x = .func (.func f) #[] #[]) (hcall : ∀ (as : Array Value) (w : World), (callFunc f as).run P w = .ok (.enter f as) w)
    (ha : (xs.toList.map a.eval).toArray = args) (hc : ∀ w, C w → Calls P f args w fun e w' => e = .returned v ∧ C w')
    (h : WQ P ops C Q rest (a.put dst v)) : WQ P ops C Q (⟨dst, .call { callee := .value x, args := xs, argTypes := ts }, ty, pos, after, none⟩ :: rest) a := wq_callAt hx hcall rfl ha hc h
theorem wq_callVOn {x : Operand} {f : FuncId} {xs : Array Operand} {ts : Array TypeId} {args : Array Value} {v : Value} {j : Nat} {b : Bool} (hx : a.eval x = .func (.func f) #[] #[]) (hcall : ∀ (as : Array Value) (w : World), (callFunc f as).run P w = .ok (.enter f as) w)
    (hg : yielded ops a.tmps j = some b) (ha : (xs.toList.map a.eval).toArray = args) (hc : ∀ w, C w → Calls P f args w fun e w' => e = .returned v ∧ C w')
    (h : WQ P ops C Q rest (a.put dst v)) : WQ P ops C Q (⟨dst, .call { callee := .value x, args := xs, argTypes := ts }, ty, pos, after, some (j, b)⟩ :: rest) a := wq_callAt hx hcall (by simp [Region.wanted, hg]) ha hc h
end
end Go.Proofs.Ytiigbcnnapnceaa
