/- Plain law on joins and meets of sets of dots; two sets compared word by word; operations on arrays in a region that draws its order. -/
import Derived.Test.YtiigbcnnapnceaaKnE
import Derived.Test.YtiigbcnnapnceaaKnG
import Derived.Test.YtiigbcnnapnceaaKnY
import Derived.Test.YtiigbcnnapnceaaEqM
namespace Go.Proofs.Ytiigbcnnapnceaa
open Go Go.RowKit

theorem join_form (k l : Know) (hk : KnowOk k) (hl : KnowOk l) : joinS k l = formOf (orD (hasK k) (hasK l)) := by
  apply formOf_congr
  intro s hs c hc1 hc2
  have h1 : maxAt [k.vec, l.vec] s = max (max 0 (vecAt k.vec s)) (vecAt l.vec s) := rfl
  have hka := vecAt_bd hk.vec s
  have hlb := vecAt_bd hl.vec s
  rw [Bool.eq_iff_iff]
  simp only [setOf, orD, hasK, Bool.or_eq_true, Bool.and_eq_true, decide_eq_true_eq, List.contains_iff_mem]
  have hL : (⟨(s : Int), (c : Int)⟩ : Dot) ∈ [k.more, l.more].flatten ↔ (⟨(s : Int), (c : Int)⟩ : Dot) ∈ k.more ∨ (⟨(s : Int), (c : Int)⟩ : Dot) ∈ l.more := by simp
  rw [hL]
  by_cases m1 : (⟨(s : Int), (c : Int)⟩ : Dot) ∈ k.more
  · simp [m1, hc1]
  · by_cases m2 : (⟨(s : Int), (c : Int)⟩ : Dot) ∈ l.more
    · simp [m2, hc1]
    · simp only [m1, m2, or_false]
      omega
theorem clean_has {k : Know} (hk : KnowOk k) : Clean (hasK k) := by
  intro s c h
  simp only [hasK, Bool.or_eq_true, Bool.and_eq_true, decide_eq_true_eq, List.contains_iff_mem] at h
  obtain ⟨h1, h2 | h2⟩ := h
  · have hb := vecAt_bd hk.vec s
    refine ⟨?_, h1, by omega⟩
    apply Nat.lt_of_not_le
    intro hn
    rw [vecAt_out (by have := hk.vlen; omega)] at h2
    omega
  · obtain ⟨o1, o2, o3, o4⟩ := dotOk_iff.1 (hk.more _ h2).1
    simp only at o1 o2 o3 o4
    omega
/-- are the words of two sets the same? -/
def eqD (S T : DSet) : Bool := allTo (fun i => allTo (fun k => ((wordOf S i k : Nat) : Int) == ((wordOf T i k : Nat) : Int)) 16) 5
theorem eqD_iff (S T : DSet) : eqD S T = true ↔ EqWords S T := by
  unfold eqD EqWords
  rw [allTo_iff]
  constructor
  · intro h s hs k hk
    have h1 := (allTo_iff _ _).1 (h s hs) k hk
    rw [beq_iff_eq] at h1
    omega
  · intro h s hs
    refine (allTo_iff _ _).2 fun k hk => ?_
    rw [beq_iff_eq, h s hs k hk]
theorem within_eq {k l : Know} (h : twoErr k l = 0) : withinIs k l = eqD (orD (hasK k) (hasK l)) (hasK l) := by
  obtain ⟨hk, hl⟩ := two_ok h
  have hc : Clean (orD (hasK k) (hasK l)) := by
    intro s c hs
    simp only [orD, Bool.or_eq_true] at hs
    rcases hs with hs | hs
    · exact clean_has hk s c hs
    · exact clean_has hl s c hs
  have hj := join_form k l hk hl
  rw [Bool.eq_iff_iff, eqD_iff, eqWords_same hc (clean_has hl), withinIs, if_pos h]
  constructor
  · intro hw
    split at hw
    · have he := of_decide_eq_true hw
      rw [hj] at he
      exact same_of_form (he.trans (form_has hl).symm)
    · cases hw
  · intro hs
    have he : joinS k l = l := by rw [hj, formOf_congr hs, form_has hl]
    have ht : toldErr (joinS k l) = 0 := by
      rw [he]
      exact if_pos hl.mlen
    rw [if_pos ht, he]
    simp
/-- what Join answers at the law's own two sets. -/
theorem own_two : twoErr ⟨[1], []⟩ ⟨[], [⟨0, 2⟩]⟩ = 0 := by decide
theorem own_join : joinS ⟨[1], []⟩ ⟨[], [⟨0, 2⟩]⟩ = ⟨[2], []⟩ := by
  have hk : KnowOk ⟨[2], []⟩ := knowCheck_iff.1 (by decide)
  rw [← form_has hk]
  apply formOf_congr
  intro s hs c hc1 hc2
  rw [Bool.eq_iff_iff]
  simp only [setOf, hasK, Bool.or_eq_true, Bool.and_eq_true, decide_eq_true_eq, List.contains_iff_mem]
  have h1 : maxAt [[1], []] s = max (max 0 (vecAt [1] s)) (vecAt [] s) := rfl
  have h2 : (⟨(s : Int), (c : Int)⟩ : Dot) ∈ [([] : List Dot), [⟨0, 2⟩]].flatten ↔ s = 0 ∧ c = 2 := by
    simp only [List.flatten_cons, List.flatten_nil, List.append_nil, List.nil_append, List.mem_singleton, Dot.mk.injEq]
    omega
  have h3 : ¬ (⟨(s : Int), (c : Int)⟩ : Dot) ∈ (⟨[2], []⟩ : Know).more := by simp
  have e0 : vecAt [] s = 0 := vecAt_nil s
  rw [h2]
  simp only [h3, or_false]
  by_cases hs0 : s = 0
  · subst hs0
    have e1 : vecAt [1] ((0 : Nat) : Int) = 1 := rfl
    have e2 : vecAt [2] ((0 : Nat) : Int) = 2 := rfl
    omega
  · have e1 : vecAt [1] s = 0 := vecAt_out (by simp; omega)
    have e2 : vecAt [2] s = 0 := vecAt_out (by simp; omega)
    omega
theorem own_err : joinErr ⟨[1], []⟩ ⟨[], [⟨0, 2⟩]⟩ = 0 := by
  rw [joinErr, if_pos own_two, own_join]
  rfl
theorem own_know : joinK ⟨[1], []⟩ ⟨[], [⟨0, 2⟩]⟩ = ⟨[2], []⟩ := by
  rw [joinK, if_pos own_two, own_join]
  rfl

theorem info_u64 : (Try.prog.info? 82).isSome = true := by kernel_rfl
theorem info_row : (Try.prog.info? 83).isSome = true := by kernel_rfl
theorem rowD_row (S : DSet) {i : Nat} : (rowF 16 fun k => (Value.int .u64 ((wordOf S ((i * 16 + k) / 16) ((i * 16 + k) % 16) : Nat) : Int))) = rowF 16 fun k => .int .u64 ((wordOf S i k : Nat) : Int) :=
  rowF_congr fun k hk => by rw [show (i * 16 + k) / 16 = i by omega, show (i * 16 + k) % 16 = k by omega]
theorem eq_dotsets (S T : DSet) (w : World) : (Op.equalIn 10000 85 (.agg (rowD S)) (.agg (rowD T))).run Try.prog w = .ok (eqD S T) w := by
  obtain ⟨i, hi⟩ := Option.isSome_iff_exists.1 info_u64
  obtain ⟨r, hr⟩ := Option.isSome_iff_exists.1 info_row
  refine run_equalIn_mat (m := 5) (s := 16) Try.underlying85 hr (by kernel_rfl) (fun _ => by kernel_rfl) (fun _ => by kernel_rfl) 9999 (fun j hj w => ?_) w
  rw [rowD_row S, rowD_row T]
  exact run_equalIn_row Try.underlying83 hi (by kernel_rfl) (fun _ => by kernel_rfl) 9998 (fun k _ w => run_equalIn_int w 9997 82 .u64 .u64 _ _ Try.underlying82) w

section
variable {P : Program} {ops : Array Oper} {C : World → Prop} {Q : Act → Prop} {rest : List Oper} {a : Act} {dst : Option Tmp} {ty : TypeId} {pos : String} {after : Array Edge}
theorem wq_loadArrOn {t : TypeId} {n : Nat} (ai : ArrInfo P t n) {x : Operand} {b : Nat} {e : TypeId} {cs : Array Value} {j : Nat} {g : Bool} (hg : yielded ops a.tmps j = some g) (hx : a.eval x = .pointer (some ⟨b, 0, none⟩)) (hC : ∀ w, C w → Blk w b e cs) (hn : cs.size = n)
    (h : WQ P ops C Q rest (a.put dst (.agg cs))) : WQ P ops C Q (⟨dst, .load t x, ty, pos, after, some (j, g)⟩ :: rest) a :=
  ⟨wpQuiet_loadArr ai (by simp [Region.wanted, hg]) hx hC hn h.out⟩
end
theorem wp_allocArr {P : Program} {o : Oper} {a : Act} {w : World} {Q : Exit → Act → World → Prop} {K : Act → World → Prop} {t : TypeId} {cs : Array Value} (zi : ZeroInfo P t cs) (ho : o.op = .alloc t)
    (h : ∀ w', Ext w w' → Blk w' w.heap.size t cs → w'.heap.size = w.heap.size + 1 → K (a.put o.dst (.pointer (some ⟨w.heap.size, 0, none⟩))) w') : o.wp P a w K Q := by
  unfold Oper.wp execOp
  simp only [ho, Sem.run_bind, Instr.alloc, newVar, newRow, run_newObj_alloc, Sem.run_pure, Result.andThen_ok, zi w, Value.cells]
  exact h _ ((Ext.refl w).alloc _) (Blk.new w t cs) (by simp)
theorem wp_putArr {P : Program} {o : Oper} {a : Act} {w : World} {Q : Exit → Act → World → Prop} {K : Act → World → Prop} {t : TypeId} {n : Nat} (ai : ArrInfo P t n) (x y : Operand) (ho : o.op = .store t x y) {b : Nat} (hx : a.eval x = .pointer (some ⟨b, 0, none⟩)) {cs old : Array Value} (hy : a.eval y = .agg cs)
    (hb : Blk w b t old) (hn : cs.size = n) (hold : old.size = n) (h1 : cs.all (·.oneCell') = true)
    (h : ∀ w', Below b w w' → Blk w' b t cs → w'.heap.size = w.heap.size → (∀ k, k ≠ b → w'.heap[k]? = w.heap[k]?) → K (a.put o.dst undef) w') : o.wp P a w K Q := by
  obtain ⟨_, hi⟩ := ai
  have hother : ∀ k, k ≠ b → (w.setRow b cs).heap[k]? = w.heap[k]? := fun k hk => setRow_other w b k cs (by omega)
  exact wp_store_row t x y ho b cs hx hy t old hb (by rw [hn]; exact hi) (by omega) h1
    (h _ ⟨rfl, rfl, rfl, by simp, fun k hk => hother k (by omega)⟩ (setRow_heap w b old _ t _ hb) (by simp) hother)
/-- the ways of a piece of code meet again in a frame that hangs on two numbers alone. -/
def MeetQ (F : Nat → Nat → Act) (Facts : Nat → Nat → World → Prop) : Exit → Act → World → Prop
  | .normal, a, w => ∃ x y, a = F x y ∧ Facts x y w
  | _, _, _ => False
theorem wp_meet2 {P : Program} {c : Code} {a : Act} {w : World} {Q : Exit → Act → World → Prop} {F : Nat → Nat → Act} (Facts : Nat → Nat → World → Prop) (h2 : c.wp P (MeetQ F Facts) a w)
    (h1 : ∀ x y wz, Facts x y wz → Q .normal (F x y) wz) : c.wp P Q a w := by
  refine Code.wp_mono (fun e a w h => ?_) h2
  cases e with
  | normal =>
    obtain ⟨x, y, rfl, h⟩ := h
    exact h1 x y w h
  | _ => exact (h : False).elim

end Go.Proofs.Ytiigbcnnapnceaa
