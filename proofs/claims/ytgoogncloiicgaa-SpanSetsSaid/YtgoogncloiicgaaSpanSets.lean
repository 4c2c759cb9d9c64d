/-
  The law SpanSets answers true for all sets that can be handed in: what span.Join, span.Meet, span.Less and span.Within answer is what the reference reckons. No condition.
-/
import Derived.Test.YtgoogncloiicgaaRows
import Derived.Test.YtgoogncloiicgaaSpanL2
import Derived.Test.YtgoogncloiicgaaOpenP
namespace Go.Proofs.Ytgoogncloiicgaa
open Go Go.RowKit

theorem law_SpanSets (B : Nat) (A A' : Option Addr) (c c' : Nat) (a b : List Span) (w : World) (hB : B ≤ w.heap.size) (hla : a.length ≤ maxLen) (hlb : b.length ≤ maxLen) (ha : SlSpans B w A a) (hb : SlSpans B w A' b) :
    Calls Try.prog 4 #[.slice A a.length c, .slice A' b.length c'] w fun e w' => e = .returned (.bool true) ∧ Ext w w' := by
  by_cases h0 : spanCheck a = 0
  · by_cases h1 : spanCheck b = 0
    · have hT : spanTwo a b = 0 := by simp [spanTwo, h0, h1]
      have hJ : spanOp or a b = told (fun i => spanIn a i || spanIn b i) := by rw [spanOp, if_pos hT]; exact mk_told _ _ fun i _ => rfl
      have hM : spanOp and a b = told (fun i => spanIn a i && spanIn b i) := by rw [spanOp, if_pos hT]; exact mk_told _ _ fun i _ => rfl
      have hL : spanOp (fun x y => x && !y) a b = told (fun i => spanIn a i && !spanIn b i) := by rw [spanOp, if_pos hT]; exact mk_told _ _ fun i _ => rfl
      exact law_SpanSets_ok B A A' c c' a b w hB hla hlb ha hb h0 h1 _ _ _ _ rfl rfl rfl rfl (hid hJ) (hid hM) (hid hL) (hid (by rw [hL]; exact within_told _ _))
    · exact law_SpanSets_err2 B A A' c c' a b w hB hla hlb ha hb (by simpa [spanTwo, h0] using h1) h0
  · exact law_SpanSets_err1 B A A' c c' a b w hB hla hlb ha hb (by simp [spanTwo, h0]) h0

namespace SpanSetsProof
open Go.ChangeShapes Go.WideShapes Go.ChangeAt

set_option maxRecDepth 100000 in
theorem lifted (os : Os) (started : os.Started) (H : Type) (enc : TypeId × Value → H) :
    ReturnsInHanded {} Try.checked os 4 .any (Rows.spanSetsSpec.pre6 enc Try.prog Try.f4 Rows.spanSetsRow.domain false) (Rows.spanSetsSpec.post enc Try.prog Try.f4 false true false false) := by
  refine returnsInHanded_of_change (C := Try.checked) own started (by kernel_rfl) Try.func4
    (ChangeSpec.witness6 (enc := enc) (C := Try.checked) false ⟨#[], #[.slice none 0 0, .slice none 0 0], []⟩ 8 (by kernel_rfl) (by kernel_rfl) (by kernel_rfl) (by kernel_rfl)) ?_
  intro W base args ds gs before hval0 hW hcnd _
  have hval : ∀ (j : Nat) t v, Try.f4.params[j]? = some t → args[j]? = some v → Value.okWide Try.prog W .any base t v := hval0
  have hW' := hW
  obtain ⟨p, q, hA0, hV, rfl, hfz, hnd⟩ := hW
  have hA : DataW.TrodAll enc Try.prog W 0 (fun _ => true) true Try.f4.params.toList args.toList ds p := hA0
  rw [Try.params4] at hA hval
  obtain ⟨v0, vs0, d0, ds0, p0, q0, hargs, rfl, rfl, h0, r0⟩ := trodAll_cons hA
  obtain ⟨v1, vs1, d1, ds1, p1, q1, rfl, rfl, rfl, h1, r1⟩ := trodAll_cons r0
  obtain ⟨rfl, rfl, rfl⟩ := trodAll_nil r1
  obtain rfl : args = #[v0, v1] := by cases args; simp_all
  obtain ⟨rfl, rfl⟩ := trodVars_none hV
  obtain ⟨a0, n0, c0, rfl⟩ := okWide_slice Try.underlying35 (hval 0 35 v0 rfl rfl)
  obtain ⟨a1, n1, c1, rfl⟩ := okWide_slice Try.underlying35 (hval 1 35 v1 rfl rfl)
  have k0 := h0
  have lt0 : ∀ x ∈ p0, x.block < W.heap.size := by obtain ⟨m, hm⟩ := k0; exact DataW.trod_lt m _ _ _ hm
  have k1 := h1
  have lt1 : ∀ x ∈ p1, x.block < W.heap.size := by obtain ⟨m, hm⟩ := k1; exact DataW.trod_lt m _ _ _ hm
  obtain ⟨l0, rfl, hl0, s0, _⟩ := open_spans h0
  obtain ⟨l1, rfl, hl1, s1, _⟩ := open_spans h1
  clear hA0 hval0
  refine (law_SpanSets W.heap.size a0 a1 c0 c1 l0 l1 W (Nat.le_refl _) hl0 hl1 s0 s1).mono fun e W' ⟨he, bel⟩ => ?_
  subst he
  exact ⟨_, rfl, _, _, _, [], _, [], hW', trodAll_mk1 (shut_bool Try.underlying4 _), (trodAll_cons_mk (Below.trod laidOut (by kernel_rfl) (of_decide_eq_true (by kernel_rfl)) k0 bel lt0) (trodAll_cons_mk (Below.trod laidOut (by kernel_rfl) (of_decide_eq_true (by kernel_rfl)) k1 bel lt1) trodAll_mk0)), rfl, Below.frame bel _, fun h => by cases h⟩

theorem over : Rows.spanSetsRow.holds Try.pinned (OpenSpec.ofChange Rows.spanSetsSpec) :=
  OpenClaim.holds_of_wide 4 Try.f4 rfl rfl rfl rfl rfl rfl rfl ⟨rfl, rfl, rfl, rfl, rfl⟩ rfl rfl rfl rfl rfl (by kernel_rfl) Try.func4 (by kernel_rfl)
    (of_decide_eq_true (by kernel_rfl)) (by unfold Func.isWrapper; first | (rw [if_pos (by decide +kernel)]; kernel_rfl) | (rw [if_neg (by decide +kernel)]; exact ⟨rfl, rfl⟩))
    (fun os started H enc _ => lifted os started H enc)
end SpanSetsProof

theorem spanSets_holds : Rows.SpanSetsSaid := SpanSetsProof.over
#print axioms spanSets_holds
end Go.Proofs.Ytgoogncloiicgaa
