/- Arrays by value, and blocks that are known whole. No program in sight. -/
import Derived.Test.YtiigbcnnapnceaaRep
import Derived.Deep.WholeRow
import Derived.Laws.Tables
namespace Go.Proofs.Ytiigbcnnapnceaa
open Go Go.RowKit

/-- the cells f 0, .., f (n - 1). -/
def rowF (n : Nat) (f : Nat → Value) : Array Value := Array.ofFn (fun i : Fin n => f i)
theorem rowF_size (n : Nat) (f : Nat → Value) : (rowF n f).size = n := by simp [rowF]
theorem rowF_get {n : Nat} (f : Nat → Value) {i : Nat} (h : i < n) : (rowF n f)[i]? = some (f i) := by simp [rowF, h]
theorem rowF_set (n : Nat) (f : Nat → Value) (i : Nat) (u : Value) : (rowF n f).setIfInBounds i u = rowF n (fun j => if j = i then u else f j) := by
  apply Array.ext
  · simp [rowF]
  · intro j h1 h2
    simp only [rowF, Array.size_setIfInBounds, Array.size_ofFn] at h1
    by_cases hij : i = j
    · subst hij; simp [rowF]
    · rw [Array.getElem_setIfInBounds_ne (by simpa [rowF] using h1) hij]
      simp [rowF, show ¬ j = i from fun e => hij e.symm]
theorem rowF_congr {n : Nat} {f g : Nat → Value} (h : ∀ i, i < n → f i = g i) : rowF n f = rowF n g := by
  unfold rowF
  congr 1
  funext i
  exact h i i.isLt
theorem rowF_all {n : Nat} {f : Nat → Value} (h : ∀ i, (f i).oneCell' = true) : (rowF n f).all (·.oneCell') = true := by
  rw [Array.all_eq_true]
  intro i hi
  simp [rowF, h]

/-- an array of bools, by value. -/
def rowB (n : Nat) (p : Nat → Bool) : Array Value := rowF n fun i => .bool (p i)
theorem rowB_size (n : Nat) (p : Nat → Bool) : (rowB n p).size = n := rowF_size _ _
theorem rowB_get {n : Nat} (p : Nat → Bool) {i : Nat} (h : i < n) : (rowB n p)[i]? = some (.bool (p i)) := rowF_get _ h
theorem rowB_set (n : Nat) (p : Nat → Bool) (i : Nat) (b : Bool) : (rowB n p).setIfInBounds i (.bool b) = rowB n (fun j => if j = i then b else p j) := by
  unfold rowB
  rw [rowF_set]
  congr 1
  funext j
  by_cases h : j = i <;> simp [h]
theorem rowB_congr {n : Nat} {p q : Nat → Bool} (h : ∀ i, i < n → p i = q i) : rowB n p = rowB n q := rowF_congr fun i hi => by rw [h i hi]
theorem rowB_all (n : Nat) (p : Nat → Bool) : (rowB n p).all (·.oneCell') = true := rowF_all fun _ => rfl

/-- block b is just these cells of type e, none frozen. -/
def Blk (w : World) (b : Nat) (e : TypeId) (cs : Array Value) : Prop := w.heap[b]? = some (.cells cs e (0, 0))

section
variable {w w' : World} {b : Nat} {e : TypeId} {cs : Array Value}
theorem Blk.lt (h : Blk w b e cs) : b < w.heap.size := (Array.getElem?_eq_some_iff.1 h).1
theorem Blk.ty (h : Blk w b e cs) : tyAt w b = some e := by unfold tyAt; rw [h]
theorem Blk.cell (h : Blk w b e cs) {i : Nat} {u : Value} (hu : cs[i]? = some u) : w.cell? ⟨b, i, none⟩ = some u := (cell_of_row w b i cs e (0, 0) h).trans hu
theorem Blk.frozen (h : Blk w b e cs) (i : Nat) : w.frozen? ⟨b, i, none⟩ = false := by
  unfold Blk at h
  simp [World.frozen?, h]
theorem Blk.new (w : World) (e : TypeId) (cs : Array Value) : Blk (w.alloc (.cells cs e)) w.heap.size e cs := heap_alloc_new w _
theorem Blk.ext (h : Blk w b e cs) (x : Ext w w') : Blk w' b e cs := (x.blockAt h.lt).trans h
theorem Blk.below {k : Nat} (h : Blk w b e cs) (x : Below k w w') (hb : b < k) : Blk w' b e cs := (x.block b hb).trans h
theorem Blk.chg {B : Nat} {ts : List TypeId} (h : Blk w b e cs) (x : Chg B ts w w') (he : e ∉ ts) : Blk w' b e cs := by
  refine (x.block b h.lt (.inr fun t ht h2 => ?_)).trans h
  rw [h.ty] at h2
  injection h2 with h2
  exact he (h2 ▸ ht)
theorem Blk.set (h : Blk w b e cs) (i : Nat) (u : Value) : Blk (w.setCell ⟨b, i, none⟩ u) b e (cs.setIfInBounds i u) := by
  unfold Blk at h ⊢
  simp [World.setCell, Array.getElem?_modify, h]
theorem Blk.far (h : Blk w b e cs) {p : Addr} (hp : b ≠ p.block) (u : Value) : Blk (w.setCell p u) b e cs := (Below.heap_setCell w p u b hp).trans h
theorem Blk.alloc (h : Blk w b e cs) (o : Obj) : Blk (w.alloc o) b e cs := h.ext ((Ext.refl w).alloc o)
theorem Blk.other (h : Blk w b e cs) {k : Nat} (ho : ∀ j, j ≠ k → w'.heap[j]? = w.heap[j]?) (hb : b ≠ k) : Blk w' b e cs := (ho b hb).trans h
theorem Blk.setB {n : Nat} {p : Nat → Bool} (h : Blk w b e (rowB n p)) (i : Nat) (v : Bool) : Blk (w.setCell ⟨b, i, none⟩ (.bool v)) b e (rowB n fun j => if j = i then v else p j) := by
  rw [← rowB_set]; exact h.set i _
end

/-- the row of the type table of an array's type. -/
def ArrInfo (P : Program) (t : TypeId) (n : Nat) : Prop := (∃ m e, P.underlying t = some (.array m e)) ∧ (P.info? t).map (·.size) = some n
/-- its zero value. -/
def ZeroInfo (P : Program) (t : TypeId) (cs : Array Value) : Prop := ∀ w, (zeroValue t).run P w = .ok (.agg cs) w

section
variable {P : Program} {ops : Array Oper} {rest : List Oper} {o : Oper} {a : Act} {w : World} {Q : Exit → Act → World → Prop} {K : Act → World → Prop} {t : TypeId} {n : Nat}

/-- which operation stands next: the guard of an arm. -/
theorem at_op {ty : TypeId} {pos : String} {after : Array Edge} {g : Option (Nat × Bool)} (dst : Option Tmp) (op : Op) (h : wpList P ops Q (⟨dst, op, ty, pos, after, g⟩ :: rest) a w) : wpList P ops Q (⟨dst, op, ty, pos, after, g⟩ :: rest) a w := h

theorem wp_loadArr (ai : ArrInfo P t n) (x : Operand) (ho : o.op = .load t x) {b : Nat} (hx : a.eval x = .pointer (some ⟨b, 0, none⟩)) {e : TypeId} {cs : Array Value} (hb : Blk w b e cs) (hn : cs.size = n)
    (h : K (a.put o.dst (.agg cs)) w) : o.wp P a w K Q := by
  obtain ⟨⟨m, e', hu⟩, hi⟩ := ai
  exact wp_load_row t x ho b hx e cs (0, 0) _ hb hu rfl (by rw [hn]; exact hi) h

theorem wpList_loadArr (ai : ArrInfo P t n) (x : Operand) (ho : o.op = .load t x) (hg : Region.wanted o (yielded ops a.tmps) = true) {b : Nat} (hx : a.eval x = .pointer (some ⟨b, 0, none⟩)) {e : TypeId} {cs : Array Value} (hb : Blk w b e cs) (hn : cs.size = n)
    (h : wpList P ops Q rest (a.put o.dst (.agg cs)) w) : wpList P ops Q (o :: rest) a w :=
  wpList_step fun K hK => by rw [if_pos hg]; exact wp_loadArr ai x ho hx hb hn (hK _ _ h)

theorem wpList_boxArr (x : Operand) (ho : o.op = .box t x) (hg : o.guard = none) {cs : Array Value} (hx : a.eval x = .agg cs)
    (h : ∀ w', Ext w w' → Blk w' w.heap.size t cs → w'.heap.size = w.heap.size + 1 → wpList P ops Q rest (a.put o.dst (.pointer (some ⟨w.heap.size, 0, none⟩))) w') : wpList P ops Q (o :: rest) a w := by
  refine wpList_plain hg fun K hK => ?_
  unfold Oper.wp execOp
  simp only [ho, Sem.run_bind, Instr.box, newVar, newRow, run_newObj_alloc, Sem.run_pure, Result.andThen_ok, hx, Value.cells]
  exact hK _ _ (h _ ((Ext.refl w).alloc _) (Blk.new w t cs) (by simp))

theorem wpList_allocArr {cs : Array Value} (zi : ZeroInfo P t cs) (ho : o.op = .alloc t) (hg : o.guard = none)
    (h : ∀ w', Ext w w' → Blk w' w.heap.size t cs → w'.heap.size = w.heap.size + 1 → wpList P ops Q rest (a.put o.dst (.pointer (some ⟨w.heap.size, 0, none⟩))) w') : wpList P ops Q (o :: rest) a w := by
  refine wpList_plain hg fun K hK => ?_
  unfold Oper.wp execOp
  simp only [ho, Sem.run_bind, Instr.alloc, newVar, newRow, run_newObj_alloc, Sem.run_pure, Result.andThen_ok, zi w, Value.cells]
  exact hK _ _ (h _ ((Ext.refl w).alloc _) (Blk.new w t cs) (by simp))

theorem wpList_storeArr (ai : ArrInfo P t n) (x y : Operand) (ho : o.op = .store t x y) (hg : o.guard = none) {b : Nat} (hx : a.eval x = .pointer (some ⟨b, 0, none⟩)) {cs old : Array Value} (hy : a.eval y = .agg cs)
    (hb : Blk w b t old) (hn : cs.size = n) (hold : old.size = n) (h1 : cs.all (·.oneCell') = true)
    (h : ∀ w', Below b w w' → Blk w' b t cs → w'.heap.size = w.heap.size → (∀ k, k ≠ b → w'.heap[k]? = w.heap[k]?) → wpList P ops Q rest (a.put o.dst undef) w') : wpList P ops Q (o :: rest) a w := by
  obtain ⟨_, hi⟩ := ai
  have hother : ∀ k, k ≠ b → (w.setRow b cs).heap[k]? = w.heap[k]? := fun k hk => setRow_other w b k cs (by omega)
  exact wpList_store_row hg t x y ho b cs hx hy t old hb (by rw [hn]; exact hi) (by omega) h1
    (h _ ⟨rfl, rfl, rfl, by simp, fun k hk => hother k (by omega)⟩ (setRow_heap w b old _ t _ hb) (by simp) hother)

/-- an element of an array by value. -/
theorem run_index_row {t e : TypeId} {n : Nat} {f : Nat → Value} (hu : P.underlying t = some (.array n e)) (hag : ∀ w, (isAgg e).run P w = .ok false w) (hs : ∀ w, (sizeOf e).run P w = .ok 1 w) {k : Nat} (hk : k < n) (w : World) :
    (Instr.index t (.agg (rowF n f)) (.int .i64 k)).run P w = .ok (f k) w := by
  have h2 := rowF_get f hk
  simp [Instr.index, asIntOf, run_underlying hu, hk, hs, part, hag, h2]

/-- what a function hands back whose result is an array. -/
theorem ret_arr {fn : Func} {R : Ending → World → Prop} {q : Tmp} (hr : fn.results = #[.cell q t]) (ai : ArrInfo P t n) {b : Nat} (hq : a.tmps.getD q undef = .pointer (some ⟨b, 0, none⟩)) {e : TypeId} {cs : Array Value} (hb : Blk w b e cs) (hn : cs.size = n)
    (hd : a.defers = []) (h : R (.returned (.agg cs)) w) : bodyPost P fn R .ret a w := by
  obtain ⟨⟨m, e', hu⟩, hi⟩ := ai
  exact bodyPost_ret (results_cell_row hr _ _ b e cs (0, 0) _ hq hb hu rfl (by rw [hn]; exact hi)) hd h
end

end Go.Proofs.Ytiigbcnnapnceaa
