/-
  The law FilterSays answers true for all filters and points that can be handed in: what filter.Point, Check, Has, Within, Same, Count and Every answer is what the reference reckons. No condition.
-/
import Derived.Test.YtiigbcnnapnceaaRows
import Derived.Test.YtiigbcnnapnceaaFsayA
import Derived.Test.YtiigbcnnapnceaaFsayB
import Derived.Test.YtiigbcnnapnceaaFsayC
namespace Go.Proofs.Ytiigbcnnapnceaa
open Go Go.RowKit

theorem law_FilterSays (B : Nat) (A A' : Option Addr) (c c' : Nat) (f g : List Box) (p : Point) (w : World) (hB : B ≤ w.heap.size) (hlf : f.length ≤ maxLen) (hlg : g.length ≤ maxLen) (hsf : SlBoxes B w A f) (hsg : SlBoxes B w A' g) :
    Calls Try.prog 6 #[.slice A f.length c, .slice A' g.length c', .agg #[.int .i64 p.tags, .int .i64 p.num]] w fun e w' => e = .returned (.bool true) ∧ Ext w w' := by
  by_cases h0 : filterCheck f = 0
  · by_cases h1 : filterCheck g = 0
    · cases hp : pointOk p
      · exact law_FilterSays_ok0 B A A' c c' f g p w hB hlf hlg hsf hsg h0 hp h1
      · exact law_FilterSays_ok1 B A A' c c' f g p w hB hlf hlg hsf hsg h0 hp h1
    · cases hp : pointOk p
      · exact law_FilterSays_two0 B A A' c c' f g p w hB hlf hlg hsf hsg h0 hp h1
      · exact law_FilterSays_two1 B A A' c c' f g p w hB hlf hlg hsf hsg h0 hp h1
  · exact law_FilterSays_one B A A' c c' f g p w hB hlf hlg hsf hsg h0

namespace FilterSaysProof
open Go.ChangeShapes Go.WideShapes Go.ChangeAt Go.Joins

set_option maxRecDepth 100000 in
theorem lifted (os : Os) (started : os.Started) (H : Type) (enc : TypeId × Value → H) :
    ReturnsInHanded {} Try.checked os 6 .any (Rows.filterSaysSpec.pre6 enc Try.prog Try.f6 Rows.filterSaysRow.domain false) (Rows.filterSaysSpec.post enc Try.prog Try.f6 false true false false) := by
  refine returnsInHanded_of_change (C := Try.checked) own started (by kernel_rfl) Try.func6
    (ChangeSpec.witness6 (enc := enc) (C := Try.checked) false ⟨#[], #[.slice none 0 0, .slice none 0 0, .agg #[.int .i64 0, .int .i64 0]], []⟩ 8 (by kernel_rfl) (by kernel_rfl) (by kernel_rfl) (by kernel_rfl)) ?_
  intro W base args ds gs before hval0 hW hcnd _
  have hval : ∀ (j : Nat) t v, Try.f6.params[j]? = some t → args[j]? = some v → Value.okWide Try.prog W .any base t v := hval0
  have hW' := hW
  obtain ⟨p, q, hA0, hV, rfl, hfz, hnd⟩ := hW
  have hA : DataW.TrodAll enc Try.prog W 0 (fun _ => true) true Try.f6.params.toList args.toList ds p := hA0
  rw [Try.params6] at hA hval
  obtain ⟨v0, vs0, d0, ds0, p0, q0, hargs, rfl, rfl, h0, r0⟩ := trodAll_cons hA
  obtain ⟨v1, vs1, d1, ds1, p1, q1, rfl, rfl, rfl, h1, r1⟩ := trodAll_cons r0
  obtain ⟨v2, vs2, d2, ds2, p2, q2, rfl, rfl, rfl, h2, r2⟩ := trodAll_cons r1
  obtain ⟨rfl, rfl, rfl⟩ := trodAll_nil r2
  obtain rfl : args = #[v0, v1, v2] := by cases args; simp_all
  obtain ⟨rfl, rfl⟩ := trodVars_none hV
  obtain ⟨a0, n0, c0, rfl⟩ := okWide_slice Try.underlying22 (hval 0 22 v0 rfl rfl)
  have k0 := h0
  have lt0 : ∀ x ∈ p0, x.block < W.heap.size := by obtain ⟨m, hm⟩ := k0; exact DataW.trod_lt m _ _ _ hm
  obtain ⟨l0, rfl, hl0, s0, g0⟩ := open_boxes h0
  obtain ⟨a1, n1, c1, rfl⟩ := okWide_slice Try.underlying22 (hval 1 22 v1 rfl rfl)
  have k1 := h1
  have lt1 : ∀ x ∈ p1, x.block < W.heap.size := by obtain ⟨m, hm⟩ := k1; exact DataW.trod_lt m _ _ _ hm
  obtain ⟨l1, rfl, hl1, s1, g1⟩ := open_boxes h1
  have k2 := h2
  have lt2 : ∀ x ∈ p2, x.block < W.heap.size := by obtain ⟨m, hm⟩ := k2; exact DataW.trod_lt m _ _ _ hm
  obtain ⟨x2, y2, rfl, g2, _⟩ := open_pair Try.underlying59 (by kernel_rfl) cells_point Try.underlying3 rfl rfl (hval 2 59 v2 rfl rfl) h2
  clear hA0 hval0
  refine (law_FilterSays W.heap.size a0 a1 c0 c1 l0 l1 ⟨x2, y2⟩ W (Nat.le_refl _) hl0 hl1 s0 s1).mono fun e W' ⟨he, bel⟩ => ?_
  subst he
  exact ⟨_, rfl, _, _, _, [], _, [], hW', trodAll_mk1 (shut_bool Try.underlying4 _), (trodAll_cons_mk (Below.trod laidOut (by kernel_rfl) (of_decide_eq_true (by kernel_rfl)) k0 bel lt0) (trodAll_cons_mk (Below.trod laidOut (by kernel_rfl) (of_decide_eq_true (by kernel_rfl)) k1 bel lt1) (trodAll_cons_mk (Below.trod laidOut (by kernel_rfl) (of_decide_eq_true (by kernel_rfl)) k2 bel lt2) trodAll_mk0))), rfl, Below.frame bel _, fun h => by cases h⟩

theorem over : Rows.filterSaysRow.holds Try.pinned (OpenSpec.ofChange Rows.filterSaysSpec) :=
  OpenClaim.holds_of_wide 6 Try.f6 rfl rfl rfl rfl rfl rfl rfl ⟨rfl, rfl, rfl, rfl, rfl⟩ rfl rfl rfl rfl rfl (by kernel_rfl) Try.func6 (by kernel_rfl)
    (of_decide_eq_true (by kernel_rfl)) (by unfold Func.isWrapper; first | (rw [if_pos (by decide +kernel)]; kernel_rfl) | (rw [if_neg (by decide +kernel)]; exact ⟨rfl, rfl⟩))
    (fun os started H enc _ => lifted os started H enc)
end FilterSaysProof

theorem filterSays_holds : Rows.FilterSaysSaid := FilterSaysProof.over
#print axioms filterSays_holds
end Go.Proofs.Ytiigbcnnapnceaa
