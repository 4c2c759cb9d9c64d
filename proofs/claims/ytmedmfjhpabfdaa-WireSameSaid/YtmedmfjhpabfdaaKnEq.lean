/- Arrays of words compared; operations on arrays in a region that draws its order. -/
import Derived.Test.YtmedmfjhpabfdaaBase
import Derived.Test.YtmedmfjhpabfdaaKnU
import Derived.Test.YtmedmfjhpabfdaaJoinKnPl
namespace Go.Proofs.Ytmedmfjhpabfdaa
open Go Go.RowKit

theorem info_u64 : (Try.prog.info? 80).isSome = true := by kernel_rfl
theorem info_row : (Try.prog.info? 81).isSome = true := by kernel_rfl
theorem rowD_row (S : DSet) {i : Nat} : (rowF 16 fun k => (Value.int .u64 ((wordOf S ((i * 16 + k) / 16) ((i * 16 + k) % 16) : Nat) : Int))) = rowF 16 fun k => .int .u64 ((wordOf S i k : Nat) : Int) :=
  rowF_congr fun k hk => by rw [show (i * 16 + k) / 16 = i by omega, show (i * 16 + k) % 16 = k by omega]
theorem eq_dotsets (S T : DSet) (w : World) : (Op.equalIn 10000 83 (.agg (rowD S)) (.agg (rowD T))).run Try.prog w = .ok (eqD S T) w := by
  obtain ⟨i, hi⟩ := Option.isSome_iff_exists.1 info_u64
  obtain ⟨r, hr⟩ := Option.isSome_iff_exists.1 info_row
  refine run_equalIn_mat (m := 5) (s := 16) Try.underlying83 hr (by kernel_rfl) (fun _ => by kernel_rfl) (fun _ => by kernel_rfl) 9999 (fun j hj w => ?_) w
  rw [rowD_row S, rowD_row T]
  exact run_equalIn_row Try.underlying81 hi (by kernel_rfl) (fun _ => by kernel_rfl) 9998 (fun k _ w => run_equalIn_int w 9997 80 .u64 .u64 _ _ Try.underlying80) w

section
variable {P : Program} {ops : Array Oper} {C : World → Prop} {Q : Act → Prop} {rest : List Oper} {a : Act} {dst : Option Tmp} {ty : TypeId} {pos : String} {after : Array Edge}
theorem wq_loadMid {t : TypeId} {n : Nat} (ri : RowInfo P t n) {x : Operand} {b i : Nat} {cs : Array Value} (hx : a.eval x = .pointer (some ⟨b, i, none⟩)) (hC : ∀ w, C w → w.rangeAt b i cs.toList) (hn : cs.size = n)
    (h : WQ P ops C Q rest (a.put dst (.agg cs))) : WQ P ops C Q (⟨dst, .load t x, ty, pos, after, none⟩ :: rest) a := by
  obtain ⟨⟨d, hu, hd⟩, hi⟩ := ri
  exact ⟨wpQuiet_loadRow (cs := cs.toList) hu hd (by rw [hi, Array.length_toList, hn]) rfl hx hC (by rw [Array.toArray_toList]; exact h.out)⟩
theorem wq_loadMidOn {t : TypeId} {n : Nat} (ri : RowInfo P t n) {x : Operand} {b i : Nat} {cs : Array Value} {j : Nat} {g : Bool} (hg : yielded ops a.tmps j = some g) (hx : a.eval x = .pointer (some ⟨b, i, none⟩)) (hC : ∀ w, C w → w.rangeAt b i cs.toList) (hn : cs.size = n)
    (h : WQ P ops C Q rest (a.put dst (.agg cs))) : WQ P ops C Q (⟨dst, .load t x, ty, pos, after, some (j, g)⟩ :: rest) a := by
  obtain ⟨⟨d, hu, hd⟩, hi⟩ := ri
  exact ⟨wpQuiet_loadRow (cs := cs.toList) hu hd (by rw [hi, Array.length_toList, hn]) (by simp [Region.wanted, hg]) hx hC (by rw [Array.toArray_toList]; exact h.out)⟩
theorem wq_loadArr {t : TypeId} {n : Nat} (ai : ArrInfo P t n) {x : Operand} {b : Nat} {e : TypeId} {cs : Array Value} (hx : a.eval x = .pointer (some ⟨b, 0, none⟩)) (hC : ∀ w, C w → Blk w b e cs) (hn : cs.size = n)
    (h : WQ P ops C Q rest (a.put dst (.agg cs))) : WQ P ops C Q (⟨dst, .load t x, ty, pos, after, none⟩ :: rest) a :=
  ⟨wpQuiet_loadArr ai rfl hx hC hn h.out⟩
theorem wq_loadArrOn {t : TypeId} {n : Nat} (ai : ArrInfo P t n) {x : Operand} {b : Nat} {e : TypeId} {cs : Array Value} {j : Nat} {g : Bool} (hg : yielded ops a.tmps j = some g) (hx : a.eval x = .pointer (some ⟨b, 0, none⟩)) (hC : ∀ w, C w → Blk w b e cs) (hn : cs.size = n)
    (h : WQ P ops C Q rest (a.put dst (.agg cs))) : WQ P ops C Q (⟨dst, .load t x, ty, pos, after, some (j, g)⟩ :: rest) a :=
  ⟨wpQuiet_loadArr ai (by simp [Region.wanted, hg]) hx hC hn h.out⟩
end
theorem wp_allocArr {P : Program} {o : Oper} {a : Act} {w : World} {Q : Exit → Act → World → Prop} {K : Act → World → Prop} {t : TypeId} {cs : Array Value} (zi : ZeroInfo P t cs) (ho : o.op = .alloc t)
    (h : ∀ w', Ext w w' → Blk w' w.heap.size t cs → w'.heap.size = w.heap.size + 1 → K (a.put o.dst (.pointer (some ⟨w.heap.size, 0, none⟩))) w') : o.wp P a w K Q := by
  unfold Oper.wp execOp
  simp only [ho, Sem.run_bind, Instr.alloc, newVar, newRow, run_newObj_alloc, Sem.run_pure, Result.andThen_ok, zi w, Value.cells]
  exact h _ ((Ext.refl w).alloc _) (Blk.new w t cs) (by simp)
theorem wp_putArr {P : Program} {o : Oper} {a : Act} {w : World} {Q : Exit → Act → World → Prop} {K : Act → World → Prop} {t : TypeId} {n : Nat} (ai : ArrInfo P t n) (x y : Operand) (ho : o.op = .store t x y) {b : Nat} (hx : a.eval x = .pointer (some ⟨b, 0, none⟩)) {cs old : Array Value} (hy : a.eval y = .agg cs)
    (hb : Blk w b t old) (hn : cs.size = n) (hold : old.size = n) (h1 : cs.all (·.oneCell') = true)
    (h : ∀ w', Below b w w' → Blk w' b t cs → w'.heap.size = w.heap.size → (∀ k, k ≠ b → w'.heap[k]? = w.heap[k]?) → K (a.put o.dst undef) w') : o.wp P a w K Q := by
  obtain ⟨_, hi⟩ := ai
  have hother : ∀ k, k ≠ b → (w.setRow b cs).heap[k]? = w.heap[k]? := fun k hk => setRow_other w b k cs (by omega)
  exact wp_store_row t x y ho b cs hx hy t old hb (by rw [hn]; exact hi) (by omega) h1
    (h _ ⟨rfl, rfl, rfl, by simp, fun k hk => hother k (by omega)⟩ (setRow_heap w b old _ t _ hb) (by simp) hother)
/-- the ways of a piece of code meet again in a frame that hangs on two numbers alone. -/
def MeetQ (F : Nat → Nat → Act) (Facts : Nat → Nat → World → Prop) : Exit → Act → World → Prop
  | .normal, a, w => ∃ x y, a = F x y ∧ Facts x y w
  | _, _, _ => False
theorem wp_meet2 {P : Program} {c : Code} {a : Act} {w : World} {Q : Exit → Act → World → Prop} {F : Nat → Nat → Act} (Facts : Nat → Nat → World → Prop) (h2 : c.wp P (MeetQ F Facts) a w)
    (h1 : ∀ x y wz, Facts x y wz → Q .normal (F x y) wz) : c.wp P Q a w := by
  refine Code.wp_mono (fun e a w h => ?_) h2
  cases e with
  | normal =>
    obtain ⟨x, y, rfl, h⟩ := h
    exact h1 x y w h
  | _ => exact (h : False).elim

end Go.Proofs.Ytmedmfjhpabfdaa
