/-
  The law SpanSays answers true for all lists of spans, numbers and a number: what span.Check, span.Of, span.Has and span.Count answer is what the reference reckons. No condition.
-/
import Derived.Test.YtgoogncloiicgaaRows
import Derived.Test.YtgoogncloiicgaaSpanS
import Derived.Test.YtgoogncloiicgaaOpenP
namespace Go.Proofs.Ytgoogncloiicgaa
open Go Go.RowKit

theorem law_SpanSays_all (B : Nat) (A A' : Option Addr) (c c' : Nat) (l : List Span) (nums : List Int) (n : Int) (w : World) (hB : B ≤ w.heap.size) (hla : l.length ≤ maxLen) (hlb : nums.length ≤ maxLen) (ha : SlSpans B w A l) (hb : Sl B 3 RInt 1 w A' nums) :
    Calls Try.prog 5 #[.slice A l.length c, .slice A' nums.length c', .int .i64 n] w fun e w' => e = .returned (.bool true) ∧ Ext w w' := by
  refine law_SpanSays B A A' c c' l nums n w hB hla hlb ha hb _ _ _ rfl rfl rfl _ rfl _ rfl (hid ?_) (hid ?_) (hid ?_) (hid ?_)
  · intro h
    rw [ofSpans, if_pos h]
    exact mk_told _ _ fun i _ => by simp
  · intro h
    rw [ofSpans, if_neg h]
    exact ((told_nil _).2 fun _ _ => rfl).symm
  · intro h
    rw [spanCount, if_pos h, decide_eq_true h, Bool.true_and]
    exact ⟨count_says h, has_says h n⟩
  · intro h
    rw [spanCount, if_neg h, decide_eq_false h, Bool.false_and]
    exact ⟨rfl, rfl⟩

namespace SpanSaysProof
open Go.ChangeShapes Go.WideShapes Go.ChangeAt

set_option maxRecDepth 100000 in
theorem lifted (os : Os) (started : os.Started) (H : Type) (enc : TypeId × Value → H) :
    ReturnsInHanded {} Try.checked os 5 .any (Rows.spanSaysSpec.pre6 enc Try.prog Try.f5 Rows.spanSaysRow.domain false) (Rows.spanSaysSpec.post enc Try.prog Try.f5 false true false false) := by
  refine returnsInHanded_of_change (C := Try.checked) own started (by kernel_rfl) Try.func5
    (ChangeSpec.witness6 (enc := enc) (C := Try.checked) false ⟨#[], #[.slice none 0 0, .slice none 0 0, .int .i64 0], []⟩ 8 (by kernel_rfl) (by kernel_rfl) (by kernel_rfl) (by kernel_rfl)) ?_
  intro W base args ds gs before hval0 hW hcnd _
  have hval : ∀ (j : Nat) t v, Try.f5.params[j]? = some t → args[j]? = some v → Value.okWide Try.prog W .any base t v := hval0
  have hW' := hW
  obtain ⟨p, q, hA0, hV, rfl, hfz, hnd⟩ := hW
  have hA : DataW.TrodAll enc Try.prog W 0 (fun _ => true) true Try.f5.params.toList args.toList ds p := hA0
  rw [Try.params5] at hA hval
  obtain ⟨v0, vs0, d0, ds0, p0, q0, hargs, rfl, rfl, h0, r0⟩ := trodAll_cons hA
  obtain ⟨v1, vs1, d1, ds1, p1, q1, rfl, rfl, rfl, h1, r1⟩ := trodAll_cons r0
  obtain ⟨v2, vs2, d2, ds2, p2, q2, rfl, rfl, rfl, h2, r2⟩ := trodAll_cons r1
  obtain ⟨rfl, rfl, rfl⟩ := trodAll_nil r2
  obtain rfl : args = #[v0, v1, v2] := by cases args; simp_all
  obtain ⟨rfl, rfl⟩ := trodVars_none hV
  obtain ⟨a0, n0, c0, rfl⟩ := okWide_slice Try.underlying35 (hval 0 35 v0 rfl rfl)
  have k0 := h0
  have lt0 : ∀ x ∈ p0, x.block < W.heap.size := by obtain ⟨m, hm⟩ := k0; exact DataW.trod_lt m _ _ _ hm
  obtain ⟨l0, rfl, hl0, s0, g0⟩ := open_spans h0
  obtain ⟨a1, n1, c1, rfl⟩ := okWide_slice Try.underlying48 (hval 1 48 v1 rfl rfl)
  have k1 := h1
  have lt1 : ∀ x ∈ p1, x.block < W.heap.size := by obtain ⟨m, hm⟩ := k1; exact DataW.trod_lt m _ _ _ hm
  obtain ⟨l1, rfl, hl1, s1, g1⟩ := open_ints h1
  obtain ⟨x2, rfl, rfl, rfl, g2⟩ := open_int Try.underlying3 (hval 2 3 v2 rfl rfl) h2
  clear hA0 hval0
  refine (law_SpanSays_all W.heap.size a0 a1 c0 c1 l0 l1 x2 W (Nat.le_refl _) hl0 hl1 s0 s1).mono fun e W' ⟨he, bel⟩ => ?_
  subst he
  exact ⟨_, rfl, _, _, _, [], _, [], hW', trodAll_mk1 (shut_bool Try.underlying4 _), (trodAll_cons_mk (Below.trod laidOut (by kernel_rfl) (of_decide_eq_true (by kernel_rfl)) k0 bel lt0) (trodAll_cons_mk (Below.trod laidOut (by kernel_rfl) (of_decide_eq_true (by kernel_rfl)) k1 bel lt1) (trodAll_cons_mk (shut_int Try.underlying3 g2) trodAll_mk0))), rfl, Below.frame bel _, fun h => by cases h⟩

theorem over : Rows.spanSaysRow.holds Try.pinned (OpenSpec.ofChange Rows.spanSaysSpec) :=
  OpenClaim.holds_of_wide 5 Try.f5 rfl rfl rfl rfl rfl rfl rfl ⟨rfl, rfl, rfl, rfl, rfl⟩ rfl rfl rfl rfl rfl (by kernel_rfl) Try.func5 (by kernel_rfl)
    (of_decide_eq_true (by kernel_rfl)) (by unfold Func.isWrapper; first | (rw [if_pos (by decide +kernel)]; kernel_rfl) | (rw [if_neg (by decide +kernel)]; exact ⟨rfl, rfl⟩))
    (fun os started H enc _ => lifted os started H enc)
end SpanSaysProof

theorem spanSays_holds : Rows.SpanSaysSaid := SpanSaysProof.over
#print axioms spanSays_holds
end Go.Proofs.Ytgoogncloiicgaa
