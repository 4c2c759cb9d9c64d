/- The walk of the reference's Show: its closure, which calls itself. -/
import Derived.Test.YtbkmgbckeaimdaaDoorTextD
import Derived.Test.YtbkmgbckeaimdaaDoorTextT
import Derived.Test.YtbkmgbckeaimdaaDoorBase
import Derived.Test.YtbkmgbckeaimdaaDoorFormW
import Derived.Test.YtbkmgbckeaimdaaDoorFormO
import Derived.Laws.EntriesVeiled
namespace Go.Proofs.YtbkmgbckeaimdaaDoor
open Go Go.RowKit

section
variable {P : Program} {ops : Array Oper} {C : World → Prop} {Q : Act → Prop} {rest : List Oper} {a : Act} {dst : Option Tmp} {ty : TypeId} {pos : String} {after : Array Edge}
/-- a function value with what it has captured, called in a region that draws its order. -/
theorem wq_callC {x : Operand} {f : FuncId} {xs : Array Operand} {ts : Array TypeId} {args cap : Array Value} {v : Value} (hx : a.eval x = .func (.func f) #[] cap) (hcall : ∀ (av : Array Value) (w : World), (callFunc f av).run P w = .ok (.enter f av) w)
    (ha : (xs.toList.map a.eval).toArray ++ cap = args) (hc : ∀ w, C w → Calls P f args w fun e w' => e = .returned v ∧ C w')
    (h : WQ P ops C Q rest (a.put dst v)) : WQ P ops C Q (⟨dst, .call { callee := .value x, args := xs, argTypes := ts }, ty, pos, after, none⟩ :: rest) a := by
  refine ⟨?_⟩
  unfold wpQuiet
  rw [if_pos (show Region.wanted _ _ = true from rfl)]
  refine ⟨v, fun w hw' => ?_, h.out⟩
  have hr : (execOp a.eval (⟨dst, .call { callee := .value x, args := xs, argTypes := ts }, ty, pos, after, none⟩ : Oper)).run P w = .ok (.enter f args) w := by
    subst ha
    unfold execOp
    simp only [resolve, hx]
    simp [invoke, hcall, go_sem]
    rw [← Array.toList_map]
  unfold Oper.quietAt
  rw [hr]
  exact ⟨rfl, hc w hw'⟩
end

/-- what the closure finds: the sentence, itself. -/
structure ShEnv (B : Nat) (w : World) (bl bs : Nat) (A : Option Addr) (c : Nat) (l : List Node) : Prop where
  list : w.cell? ⟨bl, 0, none⟩ = some (.slice A l.length c)
  says : w.cell? ⟨bs, 0, none⟩ = some (.func (.func 36) #[] #[.pointer (some ⟨bl, 0, none⟩), .pointer (some ⟨bs, 0, none⟩)])
  nodes : Sl B 39 RNode 3 w A l
theorem ShEnv.ext {B : Nat} {w w' : World} {bl bs : Nat} {A : Option Addr} {c : Nat} {l : List Node} (h : ShEnv B w bl bs A c l) (x : Ext w w') : ShEnv B w' bl bs A c l :=
  ⟨x.cell h.list, x.cell h.says, h.nodes.ext RTrip.mono x⟩

set_option maxRecDepth 100000 in
set_option maxHeartbeats 8000000 in
theorem show_1 (B : Nat) (l : List Node) (hf : FormOk l) : ∀ (i : Nat), i < l.length → (textAt l i).length ≤ 400 → ∀ (w : World) (bl bs : Nat) (A : Option Addr) (c : Nat), ShEnv B w bl bs A c l →
    Calls Tryd.prog 36 #[.int .i64 i, .pointer (some ⟨bl, 0, none⟩), .pointer (some ⟨bs, 0, none⟩)] w fun e w' => e = .returned (.string (tstr (textAt l i))) ∧ Ext w w' := by
  intro i
  induction i using Nat.strongRecOn with
  | ind i ih =>
  intro hi ht w bl bs A c henv
  have HENV := hid henv
  have IH := hid ih
  have HT := hid ht
  have hlen := hf.hi
  have hcs := textAt_cases hi (hf.node i hi)
  clear ih ht
  obtain ⟨e1, e2, e3⟩ := henv
  obtain ⟨b, off, rfl, hbk, g0, g1, g2⟩ := e3.trip hi
  have i0 : (0 : Int) ≤ i := by omega
  have il : (i : Int) < l.length := by omega
  have HI := hid hi
  have hbs := World.block_lt_of_cell? _ _ e2
  clear e3
  rcases hcs with ⟨hq, ht⟩ | ⟨a, hq, ha, ha3, ht⟩ | ⟨a, d, hq, ha, hd, hd1, had, ht⟩ | ⟨a, hq, ha, hai, ht⟩ | ⟨a, d, hq, ha, hd, hai, hdi, ht⟩ | ⟨a, d, hq, ha, hd, hai, hdi, ht⟩
  · rw [hq] at g0
    have HTX := hid ht
    clear hq ht
    go_enter Tryd.func36, Tryd.ntmps36
    go_wp2_with fail
    go_ret
    exact ⟨ret_val (by rw [HTX.out]; rfl), (Ext.refl w).alloc _⟩
  · rw [hq] at g0
    rw [ha] at g1
    have HTX := hid ht
    have HA := hid ha3
    have hs1 : (tstr (Lib.decDigits a)).size ≤ 10 := by rw [tstr_size]; have := decDigits_len a; omega
    have HTS := hid (show (⟨#[35]⟩ : ByteArray) ++ tstr (Lib.decDigits a) = tstr (35 :: Lib.decDigits a) from tstr_append [35] _)
    have HD := hid (fun w => ref_Dec a w (by omega))
    clear hq ht ha ha3
    generalize tstr (Lib.decDigits a) = y at *
    go_enter Tryd.func36, Tryd.ntmps36
    go_wp2_with fail
    refine (HD.out _).mono ?_
    rintro e w1 ⟨rfl, rfl⟩
    go_wp2_with fail
    go_ret
    exact ⟨ret_val (by rw [HTX.out, ← HTS.out]; rfl), (Ext.refl w).alloc _⟩
  · rw [hq] at g0
    rw [ha] at g1
    rw [hd] at g2
    have HTX := hid ht
    have hs1 : (tstr (Lib.decDigits a)).size ≤ 40 := by rw [tstr_size]; have := decDigits_len a; omega
    have hs2 : (tstr (Lib.decDigits d)).size ≤ 40 := by rw [tstr_size]; have := decDigits_len d; omega
    have HTS := hid (cat5 91 44 41 (Lib.decDigits a) (Lib.decDigits d))
    have HDA := hid (fun w => ref_Dec a w (by omega))
    have HDD := hid (fun w => ref_Dec d w (by omega))
    clear hq ht ha hd hd1 had
    generalize tstr (Lib.decDigits a) = y at *
    generalize tstr (Lib.decDigits d) = z at *
    have hc1 : (9223372036854775807 < 1 + y.size) = False := eq_false (by omega)
    have hc2 : (9223372036854775807 < 1 + y.size + 1) = False := eq_false (by omega)
    have hc3 : (9223372036854775807 < 1 + y.size + 1 + z.size) = False := eq_false (by omega)
    have hc4 : (9223372036854775807 < 1 + y.size + 1 + z.size + 1) = False := eq_false (by omega)
    go_enter Tryd.func36, Tryd.ntmps36
    go_wp2_with fail
    have hx1 : Ext w (w.alloc (.cells #[.int .i64 3, .int .i64 a, .int .i64 d] 39)) := (Ext.refl w).alloc _
    have hb1 : Blk (w.alloc (.cells #[.int .i64 3, .int .i64 a, .int .i64 d] 39)) w.heap.size 39 #[.int .i64 3, .int .i64 a, .int .i64 d] := Blk.new w _ _
    generalize (w.alloc (.cells #[.int .i64 3, .int .i64 a, .int .i64 d] 39)) = W at *
    have HX1 := hid hx1
    have HF := hid (show ∀ w', Ext W w' → w'.cell? ⟨w.heap.size, 1, none⟩ = some (.int .i64 a) ∧ w'.cell? ⟨w.heap.size, 2, none⟩ = some (.int .i64 d) from fun w' x => ⟨(hb1.ext x).cell rfl, (hb1.ext x).cell rfl⟩)
    have CA := hid (show ∀ w', Ext W w' → Calls Tryd.prog 35 #[.int .i64 a] w' fun e w2 => e = .returned (.string y) ∧ Ext W w2 from fun w' x => (HDA.out w').mono fun e w2 ⟨h1, h2⟩ => ⟨h1, by rw [h2]; exact x⟩)
    have CD := hid (show ∀ w', Ext W w' → Calls Tryd.prog 35 #[.int .i64 d] w' fun e w2 => e = .returned (.string z) ∧ Ext W w2 from fun w' x => (HDD.out w').mono fun e w2 ⟨h1, h2⟩ => ⟨h1, by rw [h2]; exact x⟩)
    clear hx1 hb1
    refine wq_region (fun w' => Ext W w') (by kernel_rfl) (by kernel_rfl) (Ext.refl _).drew ?_
    refine wq_get (v := ?_) (fun w' hw' => ?_) ?_
    rotate_left
    · have hA := HF.out w' hw'
      go_split_ands
      first
        | (go_simp; done)
        | (go_simp; with_reducible rfl)
    try simp only [Act.put, List.setIfInBounds_toArray, List.set_cons_zero, List.set_cons_succ]
    refine wq_get (v := ?_) (fun w' hw' => ?_) ?_
    rotate_left
    · have hA := HF.out w' hw'
      go_split_ands
      first
        | (go_simp; done)
        | (go_simp; with_reducible rfl)
    try simp only [Act.put, List.setIfInBounds_toArray, List.set_cons_zero, List.set_cons_succ]
    refine wq_call Tryd.call35 (by rfl) CA.out ?_
    try simp only [Act.put, List.setIfInBounds_toArray, List.set_cons_zero, List.set_cons_succ]
    refine wq_get (v := ?_) (fun w' hw' => ?_) ?_
    rotate_left
    · have hA := HF.out w' hw'
      go_split_ands
      first
        | (go_simp; done)
        | (go_simp; with_reducible rfl)
    try simp only [Act.put, List.setIfInBounds_toArray, List.set_cons_zero, List.set_cons_succ]
    refine wq_get (v := ?_) (fun w' hw' => ?_) ?_
    rotate_left
    · have hA := HF.out w' hw'
      go_split_ands
      first
        | (go_simp; done)
        | (go_simp; with_reducible rfl)
    try simp only [Act.put, List.setIfInBounds_toArray, List.set_cons_zero, List.set_cons_succ]
    refine wq_get (v := ?_) (fun w' hw' => ?_) ?_
    rotate_left
    · have hA := HF.out w' hw'
      go_split_ands
      first
        | (go_simp; done)
        | (go_simp; with_reducible rfl)
    try simp only [Act.put, List.setIfInBounds_toArray, List.set_cons_zero, List.set_cons_succ]
    refine wq_get (v := ?_) (fun w' hw' => ?_) ?_
    rotate_left
    · have hA := HF.out w' hw'
      go_split_ands
      first
        | (go_simp; done)
        | (go_simp; with_reducible rfl)
    try simp only [Act.put, List.setIfInBounds_toArray, List.set_cons_zero, List.set_cons_succ]
    refine wq_call Tryd.call35 (by rfl) CD.out ?_
    try simp only [Act.put, List.setIfInBounds_toArray, List.set_cons_zero, List.set_cons_succ]
    refine wq_get (v := ?_) (fun w' hw' => ?_) ?_
    rotate_left
    · have hA := HF.out w' hw'
      go_split_ands
      first
        | (go_simp; done)
        | (go_simp; with_reducible rfl)
    try simp only [Act.put, List.setIfInBounds_toArray, List.set_cons_zero, List.set_cons_succ]
    refine wq_get (v := ?_) (fun w' hw' => ?_) ?_
    rotate_left
    · have hA := HF.out w' hw'
      go_split_ands
      first
        | (go_simp; done)
        | (go_simp; with_reducible rfl)
    try simp only [Act.put, List.setIfInBounds_toArray, List.set_cons_zero, List.set_cons_succ]
    refine wq_get (v := ?_) (fun w' hw' => ?_) ?_
    rotate_left
    · have hA := HF.out w' hw'
      go_split_ands
      first
        | (go_simp; done)
        | (go_simp; with_reducible rfl)
    try simp only [Act.put, List.setIfInBounds_toArray, List.set_cons_zero, List.set_cons_succ]
    refine wq_nil ?_
    intro w25 hyn
    have HY := hid hyn
    clear hyn
    go_wp2_with fail
    go_ret
    exact ⟨ret_val (by rw [HTX.out, ← HTS.out]; rfl), HX1.out.trans HY.out⟩
  · rw [hq] at g0
    rw [ha] at g1
    have hla : (textAt l a).length ≤ 399 := by have := HT.out; rw [ht] at this; simp only [List.length_cons] at this; omega
    have HTX := hid ht
    have hal : a < l.length := Nat.lt_trans hai HI.out
    have HA := hid hai
    have hs1 : (tstr (textAt l a)).size ≤ 399 := by rw [tstr_size]; exact hla
    have HTS := hid (show (⟨#[33]⟩ : ByteArray) ++ tstr (textAt l a) = tstr (33 :: textAt l a) from tstr_append [33] _)
    have HC := hid (IH.out a hai hal (by omega))
    clear hq ht ha hai hla
    generalize tstr (textAt l a) = y at *
    have hc1 : (9223372036854775807 < 1 + y.size) = False := eq_false (by omega)
    go_enter Tryd.func36, Tryd.ntmps36
    go_wp2_with fail
    refine (HC.out _ bl bs _ c (HENV.out.ext ((Ext.refl w).alloc _))).mono ?_
    rintro e w1 ⟨rfl, hx1⟩
    have HX2 := hid (((Ext.refl w).alloc _).trans hx1)
    clear hx1
    go_wp2_with fail
    go_ret
    exact ⟨ret_val (by rw [HTX.out, ← HTS.out]; rfl), HX2.out⟩
  · rw [hq] at g0
    rw [ha] at g1
    rw [hd] at g2
    have hla : (textAt l a).length + (textAt l d).length ≤ 397 := by have := HT.out; rw [ht] at this; simp only [List.length_cons, List.length_append, List.length_nil] at this; omega
    have HTX := hid ht
    have hs1 : (tstr (textAt l a)).size ≤ 400 := by rw [tstr_size]; omega
    have hs2 : (tstr (textAt l d)).size ≤ 400 := by rw [tstr_size]; omega
    have HTS := hid (cat5 40 38 41 (textAt l a) (textAt l d))
    have HCA := hid (IH.out a hai (Nat.lt_trans hai HI.out) (by omega))
    have HCD := hid (IH.out d hdi (Nat.lt_trans hdi HI.out) (by omega))
    clear hq ht ha hd hai hdi hla
    generalize tstr (textAt l a) = y at *
    generalize tstr (textAt l d) = z at *
    have hc1 : (9223372036854775807 < 1 + y.size) = False := eq_false (by omega)
    have hc2 : (9223372036854775807 < 1 + y.size + 1) = False := eq_false (by omega)
    have hc3 : (9223372036854775807 < 1 + y.size + 1 + z.size) = False := eq_false (by omega)
    have hc4 : (9223372036854775807 < 1 + y.size + 1 + z.size + 1) = False := eq_false (by omega)
    go_enter Tryd.func36, Tryd.ntmps36
    go_wp2_with fail
    have hx1 : Ext w (w.alloc (.cells #[.int .i64 5, .int .i64 a, .int .i64 d] 39)) := (Ext.refl w).alloc _
    have hb1 : Blk (w.alloc (.cells #[.int .i64 5, .int .i64 a, .int .i64 d] 39)) w.heap.size 39 #[.int .i64 5, .int .i64 a, .int .i64 d] := Blk.new w _ _
    generalize (w.alloc (.cells #[.int .i64 5, .int .i64 a, .int .i64 d] 39)) = W at *
    have HX1 := hid hx1
    have HE1 := hid (HENV.out.ext hx1)
    have HF := hid (show ∀ w', Ext W w' → w'.cell? ⟨w.heap.size, 1, none⟩ = some (.int .i64 a) ∧ w'.cell? ⟨w.heap.size, 2, none⟩ = some (.int .i64 d) ∧ w'.cell? ⟨bs, 0, none⟩ = some (.func (.func 36) #[] #[.pointer (some ⟨bl, 0, none⟩), .pointer (some ⟨bs, 0, none⟩)]) from fun w' x => ⟨(hb1.ext x).cell rfl, (hb1.ext x).cell rfl, x.cell HE1.out.says⟩)
    have CA := hid (show ∀ w', Ext W w' → Calls Tryd.prog 36 #[.int .i64 a, .pointer (some ⟨bl, 0, none⟩), .pointer (some ⟨bs, 0, none⟩)] w' fun e w2 => e = .returned (.string y) ∧ Ext W w2 from fun w' x => (HCA.out w' bl bs _ c (HE1.out.ext x)).mono fun e w2 ⟨h1, h2⟩ => ⟨h1, x.trans h2⟩)
    have CD := hid (show ∀ w', Ext W w' → Calls Tryd.prog 36 #[.int .i64 d, .pointer (some ⟨bl, 0, none⟩), .pointer (some ⟨bs, 0, none⟩)] w' fun e w2 => e = .returned (.string z) ∧ Ext W w2 from fun w' x => (HCD.out w' bl bs _ c (HE1.out.ext x)).mono fun e w2 ⟨h1, h2⟩ => ⟨h1, x.trans h2⟩)
    clear hx1 hb1 e1 e2
    refine wq_region (fun w' => Ext W w') (by kernel_rfl) (by kernel_rfl) (Ext.refl _).drew ?_
    refine wq_get (v := ?_) (fun w' hw' => ?_) ?_
    rotate_left
    · have hA := HF.out w' hw'
      go_split_ands
      first
        | (go_simp; done)
        | (go_simp; with_reducible rfl)
    try simp only [Act.put, List.setIfInBounds_toArray, List.set_cons_zero, List.set_cons_succ]
    refine wq_get (v := ?_) (fun w' hw' => ?_) ?_
    rotate_left
    · have hA := HF.out w' hw'
      go_split_ands
      first
        | (go_simp; done)
        | (go_simp; with_reducible rfl)
    try simp only [Act.put, List.setIfInBounds_toArray, List.set_cons_zero, List.set_cons_succ]
    refine wq_get (v := ?_) (fun w' hw' => ?_) ?_
    rotate_left
    · have hA := HF.out w' hw'
      go_split_ands
      first
        | (go_simp; done)
        | (go_simp; with_reducible rfl)
    try simp only [Act.put, List.setIfInBounds_toArray, List.set_cons_zero, List.set_cons_succ]
    refine wq_callC (by rfl) Tryd.call36 (by rfl) CA.out ?_
    try simp only [Act.put, List.setIfInBounds_toArray, List.set_cons_zero, List.set_cons_succ]
    refine wq_get (v := ?_) (fun w' hw' => ?_) ?_
    rotate_left
    · have hA := HF.out w' hw'
      go_split_ands
      first
        | (go_simp; done)
        | (go_simp; with_reducible rfl)
    try simp only [Act.put, List.setIfInBounds_toArray, List.set_cons_zero, List.set_cons_succ]
    refine wq_get (v := ?_) (fun w' hw' => ?_) ?_
    rotate_left
    · have hA := HF.out w' hw'
      go_split_ands
      first
        | (go_simp; done)
        | (go_simp; with_reducible rfl)
    try simp only [Act.put, List.setIfInBounds_toArray, List.set_cons_zero, List.set_cons_succ]
    refine wq_get (v := ?_) (fun w' hw' => ?_) ?_
    rotate_left
    · have hA := HF.out w' hw'
      go_split_ands
      first
        | (go_simp; done)
        | (go_simp; with_reducible rfl)
    try simp only [Act.put, List.setIfInBounds_toArray, List.set_cons_zero, List.set_cons_succ]
    refine wq_get (v := ?_) (fun w' hw' => ?_) ?_
    rotate_left
    · have hA := HF.out w' hw'
      go_split_ands
      first
        | (go_simp; done)
        | (go_simp; with_reducible rfl)
    try simp only [Act.put, List.setIfInBounds_toArray, List.set_cons_zero, List.set_cons_succ]
    refine wq_get (v := ?_) (fun w' hw' => ?_) ?_
    rotate_left
    · have hA := HF.out w' hw'
      go_split_ands
      first
        | (go_simp; done)
        | (go_simp; with_reducible rfl)
    try simp only [Act.put, List.setIfInBounds_toArray, List.set_cons_zero, List.set_cons_succ]
    refine wq_callC (by rfl) Tryd.call36 (by rfl) CD.out ?_
    try simp only [Act.put, List.setIfInBounds_toArray, List.set_cons_zero, List.set_cons_succ]
    refine wq_get (v := ?_) (fun w' hw' => ?_) ?_
    rotate_left
    · have hA := HF.out w' hw'
      go_split_ands
      first
        | (go_simp; done)
        | (go_simp; with_reducible rfl)
    try simp only [Act.put, List.setIfInBounds_toArray, List.set_cons_zero, List.set_cons_succ]
    refine wq_get (v := ?_) (fun w' hw' => ?_) ?_
    rotate_left
    · have hA := HF.out w' hw'
      go_split_ands
      first
        | (go_simp; done)
        | (go_simp; with_reducible rfl)
    try simp only [Act.put, List.setIfInBounds_toArray, List.set_cons_zero, List.set_cons_succ]
    refine wq_get (v := ?_) (fun w' hw' => ?_) ?_
    rotate_left
    · have hA := HF.out w' hw'
      go_split_ands
      first
        | (go_simp; done)
        | (go_simp; with_reducible rfl)
    try simp only [Act.put, List.setIfInBounds_toArray, List.set_cons_zero, List.set_cons_succ]
    refine wq_nil ?_
    intro w25 hyn
    have HY := hid hyn
    clear hyn
    go_wp2_with fail
    go_ret
    exact ⟨ret_val (by rw [HTX.out, ← HTS.out]; rfl), HX1.out.trans HY.out⟩
  · rw [hq] at g0
    rw [ha] at g1
    rw [hd] at g2
    have hla : (textAt l a).length + (textAt l d).length ≤ 397 := by have := HT.out; rw [ht] at this; simp only [List.length_cons, List.length_append, List.length_nil] at this; omega
    have HTX := hid ht
    have hs1 : (tstr (textAt l a)).size ≤ 400 := by rw [tstr_size]; omega
    have hs2 : (tstr (textAt l d)).size ≤ 400 := by rw [tstr_size]; omega
    have HTS := hid (cat5 40 124 41 (textAt l a) (textAt l d))
    have HCA := hid (IH.out a hai (Nat.lt_trans hai HI.out) (by omega))
    have HCD := hid (IH.out d hdi (Nat.lt_trans hdi HI.out) (by omega))
    clear hq ht ha hd hai hdi hla
    generalize tstr (textAt l a) = y at *
    generalize tstr (textAt l d) = z at *
    have hc1 : (9223372036854775807 < 1 + y.size) = False := eq_false (by omega)
    have hc2 : (9223372036854775807 < 1 + y.size + 1) = False := eq_false (by omega)
    have hc3 : (9223372036854775807 < 1 + y.size + 1 + z.size) = False := eq_false (by omega)
    have hc4 : (9223372036854775807 < 1 + y.size + 1 + z.size + 1) = False := eq_false (by omega)
    go_enter Tryd.func36, Tryd.ntmps36
    go_wp2_with fail
    have hx1 : Ext w (w.alloc (.cells #[.int .i64 6, .int .i64 a, .int .i64 d] 39)) := (Ext.refl w).alloc _
    have hb1 : Blk (w.alloc (.cells #[.int .i64 6, .int .i64 a, .int .i64 d] 39)) w.heap.size 39 #[.int .i64 6, .int .i64 a, .int .i64 d] := Blk.new w _ _
    generalize (w.alloc (.cells #[.int .i64 6, .int .i64 a, .int .i64 d] 39)) = W at *
    have HX1 := hid hx1
    have HE1 := hid (HENV.out.ext hx1)
    have HF := hid (show ∀ w', Ext W w' → w'.cell? ⟨w.heap.size, 1, none⟩ = some (.int .i64 a) ∧ w'.cell? ⟨w.heap.size, 2, none⟩ = some (.int .i64 d) ∧ w'.cell? ⟨bs, 0, none⟩ = some (.func (.func 36) #[] #[.pointer (some ⟨bl, 0, none⟩), .pointer (some ⟨bs, 0, none⟩)]) from fun w' x => ⟨(hb1.ext x).cell rfl, (hb1.ext x).cell rfl, x.cell HE1.out.says⟩)
    have CA := hid (show ∀ w', Ext W w' → Calls Tryd.prog 36 #[.int .i64 a, .pointer (some ⟨bl, 0, none⟩), .pointer (some ⟨bs, 0, none⟩)] w' fun e w2 => e = .returned (.string y) ∧ Ext W w2 from fun w' x => (HCA.out w' bl bs _ c (HE1.out.ext x)).mono fun e w2 ⟨h1, h2⟩ => ⟨h1, x.trans h2⟩)
    have CD := hid (show ∀ w', Ext W w' → Calls Tryd.prog 36 #[.int .i64 d, .pointer (some ⟨bl, 0, none⟩), .pointer (some ⟨bs, 0, none⟩)] w' fun e w2 => e = .returned (.string z) ∧ Ext W w2 from fun w' x => (HCD.out w' bl bs _ c (HE1.out.ext x)).mono fun e w2 ⟨h1, h2⟩ => ⟨h1, x.trans h2⟩)
    clear hx1 hb1 e1 e2
    refine wq_region (fun w' => Ext W w') (by kernel_rfl) (by kernel_rfl) (Ext.refl _).drew ?_
    refine wq_get (v := ?_) (fun w' hw' => ?_) ?_
    rotate_left
    · have hA := HF.out w' hw'
      go_split_ands
      first
        | (go_simp; done)
        | (go_simp; with_reducible rfl)
    try simp only [Act.put, List.setIfInBounds_toArray, List.set_cons_zero, List.set_cons_succ]
    refine wq_get (v := ?_) (fun w' hw' => ?_) ?_
    rotate_left
    · have hA := HF.out w' hw'
      go_split_ands
      first
        | (go_simp; done)
        | (go_simp; with_reducible rfl)
    try simp only [Act.put, List.setIfInBounds_toArray, List.set_cons_zero, List.set_cons_succ]
    refine wq_get (v := ?_) (fun w' hw' => ?_) ?_
    rotate_left
    · have hA := HF.out w' hw'
      go_split_ands
      first
        | (go_simp; done)
        | (go_simp; with_reducible rfl)
    try simp only [Act.put, List.setIfInBounds_toArray, List.set_cons_zero, List.set_cons_succ]
    refine wq_callC (by rfl) Tryd.call36 (by rfl) CA.out ?_
    try simp only [Act.put, List.setIfInBounds_toArray, List.set_cons_zero, List.set_cons_succ]
    refine wq_get (v := ?_) (fun w' hw' => ?_) ?_
    rotate_left
    · have hA := HF.out w' hw'
      go_split_ands
      first
        | (go_simp; done)
        | (go_simp; with_reducible rfl)
    try simp only [Act.put, List.setIfInBounds_toArray, List.set_cons_zero, List.set_cons_succ]
    refine wq_get (v := ?_) (fun w' hw' => ?_) ?_
    rotate_left
    · have hA := HF.out w' hw'
      go_split_ands
      first
        | (go_simp; done)
        | (go_simp; with_reducible rfl)
    try simp only [Act.put, List.setIfInBounds_toArray, List.set_cons_zero, List.set_cons_succ]
    refine wq_get (v := ?_) (fun w' hw' => ?_) ?_
    rotate_left
    · have hA := HF.out w' hw'
      go_split_ands
      first
        | (go_simp; done)
        | (go_simp; with_reducible rfl)
    try simp only [Act.put, List.setIfInBounds_toArray, List.set_cons_zero, List.set_cons_succ]
    refine wq_get (v := ?_) (fun w' hw' => ?_) ?_
    rotate_left
    · have hA := HF.out w' hw'
      go_split_ands
      first
        | (go_simp; done)
        | (go_simp; with_reducible rfl)
    try simp only [Act.put, List.setIfInBounds_toArray, List.set_cons_zero, List.set_cons_succ]
    refine wq_get (v := ?_) (fun w' hw' => ?_) ?_
    rotate_left
    · have hA := HF.out w' hw'
      go_split_ands
      first
        | (go_simp; done)
        | (go_simp; with_reducible rfl)
    try simp only [Act.put, List.setIfInBounds_toArray, List.set_cons_zero, List.set_cons_succ]
    refine wq_callC (by rfl) Tryd.call36 (by rfl) CD.out ?_
    try simp only [Act.put, List.setIfInBounds_toArray, List.set_cons_zero, List.set_cons_succ]
    refine wq_get (v := ?_) (fun w' hw' => ?_) ?_
    rotate_left
    · have hA := HF.out w' hw'
      go_split_ands
      first
        | (go_simp; done)
        | (go_simp; with_reducible rfl)
    try simp only [Act.put, List.setIfInBounds_toArray, List.set_cons_zero, List.set_cons_succ]
    refine wq_get (v := ?_) (fun w' hw' => ?_) ?_
    rotate_left
    · have hA := HF.out w' hw'
      go_split_ands
      first
        | (go_simp; done)
        | (go_simp; with_reducible rfl)
    try simp only [Act.put, List.setIfInBounds_toArray, List.set_cons_zero, List.set_cons_succ]
    refine wq_get (v := ?_) (fun w' hw' => ?_) ?_
    rotate_left
    · have hA := HF.out w' hw'
      go_split_ands
      first
        | (go_simp; done)
        | (go_simp; with_reducible rfl)
    try simp only [Act.put, List.setIfInBounds_toArray, List.set_cons_zero, List.set_cons_succ]
    refine wq_nil ?_
    intro w25 hyn
    have HY := hid hyn
    clear hyn
    go_wp2_with fail
    go_ret
    exact ⟨ret_val (by rw [HTX.out, ← HTS.out]; rfl), HX1.out.trans HY.out⟩

end Go.Proofs.YtbkmgbckeaimdaaDoor
