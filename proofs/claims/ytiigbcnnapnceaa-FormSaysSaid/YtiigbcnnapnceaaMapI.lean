/- A map with int keys, by what is told of its entries. No program in sight. -/
import Derived.Test.YtiigbcnnapnceaaArr
import Derived.MapKept
namespace Go.Proofs.Ytiigbcnnapnceaa
open Go Go.RowKit Go.MapKept

/-- w' is w with new blocks; of the elder ones block r alone has turned. -/
structure Fr (r : Nat) (w w' : World) : Prop where
  os : w'.os = w.os
  tape : w'.tape = w.tape
  output : w'.output = w.output
  size : w.heap.size ≤ w'.heap.size
  block : ∀ k, k < w.heap.size → k ≠ r → w'.heap[k]? = w.heap[k]?
/-- the map object r: of each entry this is told. -/
def MapR (w : World) (r : Nat) (R : Nat → Value → Prop) : Prop := ∃ arr clock, w.heap[r]? = some (.map arr clock) ∧ ∀ e ∈ arr.toList, ∃ k : Nat, e.key = .int .i64 k ∧ R k e.val

section
variable {r : Nat} {a b c w w' : World} {R S : Nat → Value → Prop}
theorem Fr.of_ext (h : Ext a b) : Fr r a b := ⟨Below.os h, Below.tape h, Below.output h, h.size, fun _ hk _ => h.blockAt hk⟩
theorem Fr.refl (w : World) : Fr r w w := .of_ext (Ext.refl w)
theorem Fr.trans (h : Fr r a b) (k : Fr r b c) : Fr r a c :=
  ⟨k.os.trans h.os, k.tape.trans h.tape, k.output.trans h.output, Nat.le_trans h.size k.size, fun i hi hr => (k.block i (Nat.lt_of_lt_of_le hi h.size) hr).trans (h.block i hi hr)⟩
theorem Fr.drew (h : Fr r a w) : Fr r a w.drew := h.trans (.of_ext (Ext.refl w).drew)
/-- what was made after a is still free to turn. -/
theorem Fr.setCell (h : Fr r a w) {p : Addr} (hp : a.heap.size ≤ p.block) (u : Value) : Fr r a (w.setCell p u) :=
  ⟨h.os, h.tape, h.output, by simpa [World.setCell] using h.size, fun k hk hr => (Below.heap_setCell w p u k (by omega)).trans (h.block k hk hr)⟩
theorem Fr.below {B : Nat} (h : Fr r a w) (k : Below B w b) (hB : a.heap.size ≤ B) : Fr r a b :=
  ⟨k.os.trans h.os, k.tape.trans h.tape, k.output.trans h.output, Nat.le_trans h.size k.size, fun i hi hr => (k.block i (by omega)).trans (h.block i hi hr)⟩
/-- from within: a map that was made after a. -/
theorem Fr.ext (h : Fr r a b) (hr : a.heap.size ≤ r) : Ext a b := ⟨h.os, h.tape, h.output, h.size, fun k hk => h.block k hk (by omega)⟩
theorem MapR.lt (h : MapR w r R) : r < w.heap.size := by
  obtain ⟨_, _, h1, _⟩ := h
  exact (Array.getElem?_eq_some_iff.1 h1).1
theorem MapR.imp (h : MapR w r R) (f : ∀ k v, R k v → S k v) : MapR w r S := by
  obtain ⟨arr, cl, h1, h2⟩ := h
  exact ⟨arr, cl, h1, fun e he => by obtain ⟨k, h3, h4⟩ := h2 e he; exact ⟨k, h3, f _ _ h4⟩⟩
theorem MapR.at_ (h : MapR w r R) (e : w'.heap[r]? = w.heap[r]?) : MapR w' r R := by
  obtain ⟨arr, cl, h1, h2⟩ := h
  exact ⟨arr, cl, e.trans h1, h2⟩
theorem MapR.ext (h : MapR w r R) (x : Ext w w') : MapR w' r R := h.at_ (x.blockAt h.lt)
theorem Fr.ne (hm : MapR w r R) {k o : Nat} {u : Value} (hc : w.cell? ⟨k, o, none⟩ = some u) : k ≠ r := by
  rintro rfl
  obtain ⟨arr, cl, h1, _⟩ := hm
  simp [World.cell?, h1] at hc
theorem Fr.cell (h : Fr r w w') (hm : MapR w r R) {k o : Nat} {u : Value} (hc : w.cell? ⟨k, o, none⟩ = some u) : w'.cell? ⟨k, o, none⟩ = some u :=
  (World.cell?_of_block (w := w) (h.block k (World.block_lt_of_cell? _ _ hc) (Fr.ne hm hc))).trans hc
theorem Fr.blk (h : Fr r w w') (hm : MapR w r R) {k : Nat} {e : TypeId} {cs : Array Value} (hb : Blk w k e cs) : Blk w' k e cs := by
  refine (h.block k hb.lt ?_).trans hb
  rintro rfl
  obtain ⟨arr, cl, h1, _⟩ := hm
  unfold Blk at hb
  rw [h1] at hb
  cases hb
theorem Sl.fr {α : Type} {B : Nat} {e : TypeId} {Q : World → List Value → α → Prop} {sz : Nat} {A : Option Addr} {l : List α} (hsz : 0 < sz) (h : Sl B e Q sz w A l) (x : Fr r w w') (hm : MapR w r R) (hq : ∀ cs y, Q w cs y → Q w' cs y) : Sl B e Q sz w' A l := by
  intro i y hi
  obtain ⟨b, off, cs, hA, hb, ho, hl, hc, hy⟩ := h i y hi
  have h0 := hc 0 cs[0] (by simp)
  have hne := Fr.ne hm h0
  refine ⟨b, off, cs, hA, Nat.lt_of_lt_of_le hb x.size, ?_, hl, fun j u hu => x.cell hm (hc j u hu), hq _ _ hy⟩
  rcases ho with ho | ho
  · exact .inl ho
  · exact .inr (by rw [tyAt_of (x.block b hb hne)]; exact ho)

theorem find_int {kd : IntKind} (i : Nat) : ∀ (es : List MapEntry) (j : Nat), (∀ e ∈ es, ∃ k : Nat, e.key = .int .i64 k ∧ R k e.val) →
    (∃ j' v, Instr.findNow (.int kd) (.int .i64 i) es j = some (some (j', v)) ∧ R i v) ∨ (Instr.findNow (.int kd) (.int .i64 i) es j = some none ∧ ∀ e ∈ es, e.key ≠ .int .i64 i)
  | [], _, _ => .inr ⟨rfl, by simp⟩
  | e :: es, j, h => by
    obtain ⟨k, hk, hR⟩ := h e (by simp)
    by_cases hik : i = k
    · subst hik
      exact .inl ⟨j, e.val, by simp [Instr.findNow, hk, Instr.sameNow], hR⟩
    · have hne : ((i : Int) == (k : Int)) = false := beq_eq_false_iff_ne.2 (by omega)
      rcases find_int (kd := kd) i es (j + 1) (fun x hx => h x (by simp [hx])) with ⟨j', v, h1, h2⟩ | ⟨h1, h2⟩
      · exact .inl ⟨j', v, by simp [Instr.findNow, hk, Instr.sameNow, hne, h1], h2⟩
      · refine .inr ⟨by simp [Instr.findNow, hk, Instr.sameNow, hne, h1], fun x hx => ?_⟩
        rcases List.mem_cons.1 hx with rfl | hx
        · rw [hk]
          intro e
          injection e with _ e
          exact hik (by omega)
        · exact h2 x hx
end

section
variable {P : Program} {t kt et : TypeId} {w : World} {r i : Nat} {R : Nat → Value → Prop}
theorem run_lookupI (hm : P.underlying t = some (.map kt et)) (hk : P.underlying kt = some (.int .i64)) (h : MapR w r R) (i : Nat) {z : Value} (hz : (zeroValue et).run P w = .ok z w) :
    (∃ v, R i v ∧ (Instr.lookup t (.map (some r)) (.int .i64 i) true).run P w = .ok (.tuple #[v, .bool true]) w) ∨
    (MapR w r (fun k v => R k v ∧ k ≠ i) ∧ (Instr.lookup t (.map (some r)) (.int .i64 i) true).run P w = .ok (.tuple #[z, .bool false]) w) := by
  obtain ⟨arr, cl, h1, h2⟩ := h
  have hck := fun em => run_checkKey (w := w) (k := .int .i64 i) hk rfl em 9999
  rcases find_int (kd := .i64) i arr.toList 0 h2 with ⟨j, v, f1, f2⟩ | ⟨f1, f2⟩
  · refine .inl ⟨v, f2, ?_⟩
    simp [Instr.lookup, run_underlying hm, MapKept.run_getObj_map h1, hck, run_findKey hk f1, Result.andThen]
  · refine .inr ⟨⟨arr, cl, h1, fun e he => ?_⟩, ?_⟩
    · obtain ⟨k, h3, h4⟩ := h2 e he
      exact ⟨k, h3, h4, fun hki => f2 e he (by rw [h3, hki])⟩
    · simp [Instr.lookup, run_underlying hm, MapKept.run_getObj_map h1, hck, run_findKey hk f1, hz, Result.andThen]
theorem run_updateI (hm : P.underlying t = some (.map kt et)) (hk : P.underlying kt = some (.int .i64)) (h : MapR w r (fun k v => R k v ∧ k ≠ i)) (v : Value) :
    ∃ w', (Instr.mapUpdate t (.map (some r)) (.int .i64 i) v).run P w = .ok () w' ∧ MapR w' r (fun k u => R k u ∨ (k = i ∧ u = v)) ∧ Fr r w w' ∧ w'.heap.size = w.heap.size := by
  have hlt := h.lt
  obtain ⟨arr, cl, h1, h2⟩ := h
  have hck := fun em => run_checkKey (w := w) (k := .int .i64 i) hk rfl em 9999
  rcases find_int (R := fun k v => R k v ∧ k ≠ i) (kd := .i64) i arr.toList 0 h2 with ⟨j, u, f1, f2⟩ | ⟨f1, f2⟩
  · exact absurd rfl f2.2
  · refine ⟨{ w with heap := w.heap.setIfInBounds r (.map (arr.push { key := .int .i64 i, val := v, born := cl }) (cl + 1)) }, ?_, ⟨arr.push { key := .int .i64 i, val := v, born := cl }, cl + 1, by simp [hlt], fun e he => ?_⟩, ⟨rfl, rfl, rfl, by simp, fun k _ hr => by rw [Array.getElem?_setIfInBounds_ne (Ne.symm hr)]⟩, by simp⟩
    · simp [Instr.mapUpdate, run_underlying hm, MapKept.run_getObj_map h1, hck, run_findKey hk f1, MapKept.run_setObj_map _ h1, Result.andThen]
    · simp only [Array.toList_push, List.mem_append, List.mem_singleton] at he
      rcases he with he | rfl
      · obtain ⟨k, h3, h4⟩ := h2 e he
        exact ⟨k, h3, .inl h4.1⟩
      · exact ⟨i, rfl, .inr ⟨rfl, rfl⟩⟩
variable {ops : Array Oper} {rest : List Oper} {o : Oper} {a : Act} {Q : Exit → Act → World → Prop}
theorem wpList_makeMapI (hg : o.guard = none) (t : TypeId) (hop : o.op = .makeMap t none)
    (h : ∀ w', Ext w w' → MapR w' w.heap.size (fun _ _ => False) → w'.heap.size = w.heap.size + 1 → wpList P ops Q rest (a.put o.dst (.map (some w.heap.size))) w') : wpList P ops Q (o :: rest) a w := by
  refine wpList_plain hg fun K' hK' => ?_
  unfold Oper.wp execOp
  simp only [hop, Option.map_none, Sem.run_bind, Instr.makeMap, run_newObj_alloc, Sem.run_pure, Result.andThen_ok]
  exact hK' _ _ (h _ ((Ext.refl w).alloc _) ⟨#[], 0, heap_alloc_new w _, by simp⟩ (by simp))
theorem wpList_lookupI (hg : o.guard = none) (m x : Operand) (t : TypeId) (hop : o.op = .lookup t m x true) (hmv : a.eval m = .map (some r)) (hxv : a.eval x = .int .i64 i) {v : Value}
    (hr : (Instr.lookup t (.map (some r)) (.int .i64 i) true).run P w = .ok v w) (h : wpList P ops Q rest (a.put o.dst v) w) : wpList P ops Q (o :: rest) a w := by
  refine wpList_plain hg fun K' hK' => ?_
  unfold Oper.wp
  simp [execOp, hop, hmv, hxv, hr, Result.andThen]
  exact hK' _ _ h
theorem wpList_updateI (hg : o.guard = none) (m x y : Operand) (t : TypeId) (hop : o.op = .mapUpdate t m x y) (hmv : a.eval m = .map (some r)) (hxv : a.eval x = .int .i64 i) {v : Value} (hyv : a.eval y = v) {w' : World}
    (hr : (Instr.mapUpdate t (.map (some r)) (.int .i64 i) v).run P w = .ok () w') (h : wpList P ops Q rest (a.put o.dst undef) w') : wpList P ops Q (o :: rest) a w := by
  refine wpList_plain hg fun K' hK' => ?_
  unfold Oper.wp
  simp [execOp, hop, hmv, hxv, hyv, hr, Result.andThen]
  exact hK' _ _ h
end
end Go.Proofs.Ytiigbcnnapnceaa
