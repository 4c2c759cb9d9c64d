/- A region that draws its order, whose operations read and whose calls only make memory: ONE walk in the order of the text. No program in sight. -/
import Derived.Test.YtiigbcnnapnceaaArr
import Derived.Deep.QuietTactic
import Derived.Deep.MidRow
namespace Go.Proofs.Ytiigbcnnapnceaa
open Go Go.RowKit

section
variable {P : Program} {ops : Array Oper} {C : World → Prop} {Q : Act → Prop} {rest : List Oper} {a : Act} {dst : Option Tmp} {ty : TypeId} {pos : String} {after : Array Edge} {g : Option (Nat × Bool)}
theorem wp_region_class (C : World → Prop) {id : Nat} {Q : Exit → Act → World → Prop} {a : Act} {w : World} {l : List Oper} (hm : P.follows .mixedOrders = true) (hB : Region.lexB .any l.toArray = true) (hC : C w.drew)
    (h : wpQuiet P l.toArray C (fun a' => ∀ w', C w' → Q .normal a' w') l a) : (Code.region id l.toArray true).wp P Q a w :=
  wp_region_quiet (C := C) hm hB hC (by simpa using h)
theorem wpQuiet_pure {o : Oper} {v : Value} (hw : Region.wanted o (yielded ops a.tmps) = true) (hy : ∀ w, (execOp a.eval o).run P w = .ok (.value v) w) (h : wpQuiet P ops C Q rest (a.put o.dst v)) : wpQuiet P ops C Q (o :: rest) a := by
  unfold wpQuiet
  rw [if_pos hw]
  refine ⟨v, fun w _ => ?_, h⟩
  unfold Oper.quietAt
  rw [hy w]
  exact ⟨rfl, rfl⟩
theorem wpQuiet_read {o : Oper} {v : Value} (hw : Region.wanted o (yielded ops a.tmps) = true) (hy : ∀ w, C w → (execOp a.eval o).run P w = .ok (.value v) w) (h : wpQuiet P ops C Q rest (a.put o.dst v)) : wpQuiet P ops C Q (o :: rest) a := by
  unfold wpQuiet
  rw [if_pos hw]
  refine ⟨v, fun w hw' => ?_, h⟩
  unfold Oper.quietAt
  rw [hy w hw']
  exact ⟨rfl, rfl⟩
theorem wpQuiet_off {o : Oper} (hw : Region.wanted o (yielded ops a.tmps) = false) (h : wpQuiet P ops C Q rest (a.put o.dst undef)) : wpQuiet P ops C Q (o :: rest) a := by
  unfold wpQuiet
  rw [if_neg (by rw [hw]; simp)]
  exact h
theorem wpQuiet_loadRow {t : TypeId} {x : Operand} {b o : Nat} {cs : List Value} {d : TypeDesc} (hu : P.underlying t = some d) (hd : d.isRow = true) (hi : (P.info? t).map (·.size) = some cs.length)
    (hw : Region.wanted (⟨dst, .load t x, ty, pos, after, g⟩ : Oper) (yielded ops a.tmps) = true) (hx : a.eval x = .pointer (some ⟨b, o, none⟩)) (hC : ∀ w, C w → w.rangeAt b o cs)
    (h : wpQuiet P ops C Q rest (a.put dst (.agg cs.toArray))) : wpQuiet P ops C Q (⟨dst, .load t x, ty, pos, after, g⟩ :: rest) a := by
  rcases yieldsIf_load_mid (P := P) (ops := ops) (S := C) (op := ⟨dst, .load t x, ty, pos, after, g⟩) (a := a) hw t x rfl b o hx cs d hC hu hd hi with ⟨_, h1⟩ | ⟨h1, _⟩
  · unfold wpQuiet
    rw [if_pos hw]
    refine ⟨_, fun w hw' => ?_, h⟩
    unfold Oper.quietAt
    rw [h1 w hw']
    exact ⟨rfl, rfl⟩
  · rw [hw] at h1
    cases h1
theorem wpQuiet_loadArr {t : TypeId} {n : Nat} (ai : ArrInfo P t n) {x : Operand} {b : Nat} {e : TypeId} {cs : Array Value}
    (hw : Region.wanted (⟨dst, .load t x, ty, pos, after, g⟩ : Oper) (yielded ops a.tmps) = true) (hx : a.eval x = .pointer (some ⟨b, 0, none⟩)) (hC : ∀ w, C w → Blk w b e cs) (hn : cs.size = n)
    (h : wpQuiet P ops C Q rest (a.put dst (.agg cs))) : wpQuiet P ops C Q (⟨dst, .load t x, ty, pos, after, g⟩ :: rest) a := by
  obtain ⟨⟨m, e', hu⟩, hi⟩ := ai
  refine wpQuiet_loadRow (cs := cs.toList) (o := 0) hu rfl (by rw [hi, Array.length_toList, hn]) hw hx (fun w hw' j v hv => ?_) (by rw [Array.toArray_toList]; exact h)
  rw [Nat.zero_add]
  exact (hC w hw').cell (by rwa [Array.getElem?_toList] at hv)
theorem wpQuiet_call {f : FuncId} {xs : Array Operand} {ts : Array TypeId} {args : Array Value} {v : Value} (hcall : ∀ (as : Array Value) (w : World), (callFunc f as).run P w = .ok (.enter f as) w)
    (hw : Region.wanted (⟨dst, .call { callee := .value (.func f), args := xs, argTypes := ts }, ty, pos, after, g⟩ : Oper) (yielded ops a.tmps) = true) (ha : (xs.toList.map a.eval).toArray = args)
    (hc : ∀ w, C w → Calls P f args w fun e w' => e = .returned v ∧ C w')
    (h : wpQuiet P ops C Q rest (a.put dst v)) : wpQuiet P ops C Q (⟨dst, .call { callee := .value (.func f), args := xs, argTypes := ts }, ty, pos, after, g⟩ :: rest) a := by
  unfold wpQuiet
  rw [if_pos hw]
  refine ⟨v, fun w hw' => ?_, h⟩
  have hr : (execOp a.eval (⟨dst, .call { callee := .value (.func f), args := xs, argTypes := ts }, ty, pos, after, g⟩ : Oper)).run P w = .ok (.enter f args) w := by
    subst ha
    unfold execOp
    simp [resolve, invoke, Act.eval, hcall, go_sem]
    rw [← Array.toList_map]
  unfold Oper.quietAt
  rw [hr]
  exact ⟨rfl, hc w hw'⟩
theorem yields_at {l : List Oper} {ts : List Value} {j d : Nat} {o : Oper} {b : Bool} (h1 : l[j]? = some o) (h2 : o.dst = some d) (h3 : ts[d]? = some (.bool b)) : yielded l.toArray ts.toArray j = some b := by
  unfold yielded
  simp [h1, h2, h3]
theorem yields_no {l : List Oper} {ts : List Value} {j d : Nat} {o : Oper} (h1 : l[j]? = some o) (h2 : o.dst = some d) (h3 : ts[d]? = some undef) : yielded l.toArray ts.toArray j = none := by
  unfold yielded
  simp [h1, h2, h3, undef]
/-- the same, shut: so that nobody unfolds it. -/
structure WQ (P : Program) (ops : Array Oper) (C : World → Prop) (Q : Act → Prop) (l : List Oper) (a : Act) : Prop where
  out : wpQuiet P ops C Q l a
theorem wq_region (C : World → Prop) {id : Nat} {Q : Exit → Act → World → Prop} {a : Act} {w : World} {l : List Oper} (hm : P.follows .mixedOrders = true) (hB : Region.lexB .any l.toArray = true) (hC : C w.drew)
    (h : WQ P l.toArray C (fun a' => ∀ w', C w' → Q .normal a' w') l a) : (Code.region id l.toArray true).wp P Q a w :=
  wp_region_class C hm hB hC h.out
theorem wq_nil (h : Q a) : WQ P ops C Q [] a := ⟨wpQuiet_nil h⟩
theorem wq_get {op : Op} {v : Value} (hy : ∀ w, C w → (execOp a.eval ⟨dst, op, ty, pos, after, none⟩).run P w = .ok (.value v) w) (h : WQ P ops C Q rest (a.put dst v)) : WQ P ops C Q (⟨dst, op, ty, pos, after, none⟩ :: rest) a :=
  ⟨wpQuiet_read rfl hy h.out⟩
theorem wq_getOn {op : Op} {v : Value} {j : Nat} {b : Bool} (hg : yielded ops a.tmps j = some b) (hy : ∀ w, C w → (execOp a.eval ⟨dst, op, ty, pos, after, some (j, b)⟩).run P w = .ok (.value v) w) (h : WQ P ops C Q rest (a.put dst v)) : WQ P ops C Q (⟨dst, op, ty, pos, after, some (j, b)⟩ :: rest) a :=
  ⟨wpQuiet_read (by simp [Region.wanted, hg]) hy h.out⟩
theorem wq_skip {op : Op} {j : Nat} {b : Bool} (hg : yielded ops a.tmps j = some (!b)) (h : WQ P ops C Q rest (a.put dst undef)) : WQ P ops C Q (⟨dst, op, ty, pos, after, some (j, b)⟩ :: rest) a :=
  ⟨wpQuiet_off (by cases b <;> simp [Region.wanted, hg]) h.out⟩
theorem wq_skipOff {op : Op} {j : Nat} {b : Bool} (hg : yielded ops a.tmps j = none) (h : WQ P ops C Q rest (a.put dst undef)) : WQ P ops C Q (⟨dst, op, ty, pos, after, some (j, b)⟩ :: rest) a :=
  ⟨wpQuiet_off (by simp [Region.wanted, hg]) h.out⟩
theorem wq_call {f : FuncId} {xs : Array Operand} {ts : Array TypeId} {args : Array Value} {v : Value} (hcall : ∀ (as : Array Value) (w : World), (callFunc f as).run P w = .ok (.enter f as) w)
    (ha : (xs.toList.map a.eval).toArray = args) (hc : ∀ w, C w → Calls P f args w fun e w' => e = .returned v ∧ C w')
    (h : WQ P ops C Q rest (a.put dst v)) : WQ P ops C Q (⟨dst, .call { callee := .value (.func f), args := xs, argTypes := ts }, ty, pos, after, none⟩ :: rest) a :=
  ⟨wpQuiet_call hcall rfl ha hc h.out⟩
theorem wq_callOn {f : FuncId} {xs : Array Operand} {ts : Array TypeId} {args : Array Value} {v : Value} {j : Nat} {b : Bool} (hcall : ∀ (as : Array Value) (w : World), (callFunc f as).run P w = .ok (.enter f as) w)
    (hg : yielded ops a.tmps j = some b) (ha : (xs.toList.map a.eval).toArray = args) (hc : ∀ w, C w → Calls P f args w fun e w' => e = .returned v ∧ C w')
    (h : WQ P ops C Q rest (a.put dst v)) : WQ P ops C Q (⟨dst, .call { callee := .value (.func f), args := xs, argTypes := ts }, ty, pos, after, some (j, b)⟩ :: rest) a :=
  ⟨wpQuiet_call hcall (by simp [Region.wanted, hg]) ha hc h.out⟩
end
end Go.Proofs.Ytiigbcnnapnceaa
