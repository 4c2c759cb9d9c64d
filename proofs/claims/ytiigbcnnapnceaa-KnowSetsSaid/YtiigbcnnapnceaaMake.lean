/- make of a row of one-cell elements, known whole; append to a slice of no length and no room. No program in sight. -/
import Derived.Test.YtiigbcnnapnceaaArr
import Derived.Laws.MakeOwn
namespace Go.Proofs.Ytiigbcnnapnceaa
open Go Go.RowKit

section
variable {P : Program} {ops : Array Oper} {rest : List Oper} {o : Oper} {a : Act} {w : World} {Q : Exit → Act → World → Prop} {t e : TypeId}

theorem madeCells_one (z : Value) (n : Nat) : madeCells #[z] n = rowF n fun _ => z := by
  apply Array.ext
  · simp [madeCells, rowF]
  · intro i h1 h2
    have hm : i % 1 = 0 := Nat.mod_one i
    simp only [madeCells, rowF, Array.getElem_map, Array.getElem_ofFn]
    simp [hm]

/-- 'make([]T, n)', T of one cell: a row known whole, whose number has a name. -/
theorem wpList_makeArr {z : Value} {bytes : Nat} (ei : ElemInfo P t e 1 bytes) (hz0 : (P.info? e).bind (·.zero) = some z) (hzc : z.cells = #[z]) (x y : Operand) (ho : o.op = .makeSlice t x y) (hg : o.guard = none) (n : Nat) (hx : a.eval x = .int .i64 (n : Int)) (hy : a.eval y = .int .i64 (n : Int)) (hn : n * bytes ≤ 281474976710656) (h63 : n ≤ maxLen)
    (h : ∀ b w', w.heap.size = b → Ext w w' → Blk w' b e (rowF n fun _ => z) → w'.heap.size = b + 1 → wpList P ops Q rest (a.put o.dst (.slice (some ⟨b, 0, none⟩) n n)) w') : wpList P ops Q (o :: rest) a w := by
  obtain ⟨i, z', ht, hi, hz, hs, hb, hzs, h0⟩ := ei
  obtain rfl : z' = z := by rw [hi] at hz0; simp [hz] at hz0; exact hz0
  refine wpList_plain hg fun K hK => ?_
  have hr := run_make (P := P) w t e i z' ht hi hz .i64 .i64 n n (by omega) (by omega) (by rw [hb, Int.mul_comm]; omega) (by unfold maxLen at h63; omega)
  rw [Int.toNat_natCast, hs, Nat.mul_one, hzc, madeCells_one] at hr
  unfold Oper.wp execOp
  simp only [ho, hx, hy, Sem.run_bind, hr, Sem.run_pure, Result.andThen_ok]
  exact hK _ _ (h _ _ rfl ((Ext.refl w).alloc _) (Blk.new w e _) (by simp))
end

section
variable {α : Type} {P : Program} {R : World → List Value → α → Prop} {sz bytes : Nat} {t ty e : TypeId} {w : World} {B B' : Nat} {ys : List α} {A A0 : Option Addr} {c : Nat}

/-- a slice of no length and no room takes an append as nil does. -/
theorem run_append_zero (ei : ElemInfo P t e sz bytes) (A0 : Option Addr) (hy : ys ≠ []) (hby : ys.length * bytes ≤ 140737488355328) : (Builtin.append_ #[t, t] ty #[.slice A0 0 0, .slice A ys.length c]).run P w = (Builtin.append_ #[t, t] ty #[.slice none 0 0, .slice A ys.length c]).run P w := by
  obtain ⟨i, z, ht, hi, hz, hs, hb, hzs, h0⟩ := ei
  have hl : ¬ ys.length ≤ 0 := by have := List.length_pos_iff.2 hy; omega
  cases A0 with
  | none => rfl
  | some a =>
    have hn : Builtin.nextslicecap ys.length 0 = ys.length := by unfold Builtin.nextslicecap; rw [if_pos (by omega)]
    have h2 : ¬ 281474976710656 < ys.length * i.bytes := by rw [hb]; omega
    simp [Builtin.append_, run_underlying ht, sizeOf, typeInfo, hi, Builtin.lenOf, Builtin.firstCells, loadCells, loadCellsFrom, hn, h2, hy]

/-- what 'append(s[:0:0], s...)' leaves: the list in a row of its own, or nothing. -/
def OwnZ {α : Type} (R : World → List Value → α → Prop) (sz : Nat) (e : TypeId) (w : World) (base : Nat) (v : Value) (l : List α) : Prop :=
  Own R sz e w base v l ∨ (l = [] ∧ ∃ A, v = .slice A 0 0)

theorem OwnZ.isSl (B : Nat) {base : Nat} {v : Value} {l : List α} (h : OwnZ R sz e w base v l) : IsSl B e R sz w v l := by
  rcases h with h | ⟨rfl, A, rfl⟩
  · exact h.isSl B
  · exact ⟨A, 0, rfl, Nat.le_refl _, Nat.zero_le _, Sl.nil⟩

theorem OwnZ.ext {base : Nat} {v : Value} {l : List α} {w' : World} (m : Mono B [] R) (h : OwnZ R sz e w base v l) (x : Ext w w') : OwnZ R sz e w' base v l := h.imp (fun h => h.ext m x) id

theorem wpList_clone {ops : Array Oper} {rest : List Oper} {o : Oper} {a : Act} {Q : Exit → Act → World → Prop} (hgd : o.guard = none) (s x : Operand)
    (ho : o.op = .call { callee := .builtin .append, args := #[s, x], argTypes := #[t, t] }) (ei : ElemInfo P t e sz bytes) (A0 : Option Addr)
    (hs : a.eval s = .slice A0 0 0) {e' : TypeId} (hx : a.eval x = .slice A ys.length c) (hsl : Sl B' e' R sz w A ys) (h1 : OneC R) (m : Mono w.heap.size [e] R)
    (h63 : ys.length ≤ maxLen) (hby : ys.length * bytes ≤ 140737488355328)
    (h : ∀ v' w', OwnZ R sz e w' w.heap.size v' ys → Ext w w' → wpList P ops Q rest (a.put o.dst v') w') : wpList P ops Q (o :: rest) a w := by
  refine wpList_plain hgd fun K hK => ?_
  unfold Oper.wp execOp
  by_cases hy : ys = []
  · subst hy
    have hr : (Builtin.append_ #[t, t] o.type #[.slice A0 0 0, .slice A 0 c]).run P w = .ok (.slice A0 0 0) w := by
      obtain ⟨i, z, ht, hi, hz, hs, hb, hzs, h0⟩ := ei
      cases A <;> cases A0 <;> simp [Builtin.append_, run_underlying ht, sizeOf, typeInfo, hi, Builtin.lenOf, Builtin.firstCells, loadCells, loadCellsFrom, storeCells]
    simp only [List.length_nil] at hx
    simp only [ho, resolve, invoke, builtin, Sem.run_bind, Sem.run_pure, Result.andThen_ok, List.map_toArray, List.map_cons, List.map_nil, hs, hx, hr]
    exact hK _ _ (h _ _ (.inr ⟨rfl, A0, rfl⟩) (Ext.refl w))
  · obtain ⟨v', w', hr, h2, h3, h4, h5⟩ := run_app (P := P) (t := t) (ty := o.type) (w := w) (base := w.heap.size) (v := .slice none 0 0) (l := ([] : List α)) (c := c) ei Own.nil (Nat.le_refl _) (Nat.le_refl _) hsl h1 m (by simpa using h63) (by simpa using hby)
    rw [← run_append_zero ei A0 hy hby] at hr
    simp only [ho, resolve, invoke, builtin, Sem.run_bind, Sem.run_pure, Result.andThen_ok, List.map_toArray, List.map_cons, List.map_nil, hs, hx, hr]
    exact hK _ _ (h v' w' (.inl (by simpa using h2)) h5)
end
end Go.Proofs.Ytiigbcnnapnceaa
