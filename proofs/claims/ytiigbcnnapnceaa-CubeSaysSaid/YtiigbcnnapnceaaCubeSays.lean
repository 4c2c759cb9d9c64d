/-
  The law CubeSays answers true for all cubes and tags that can be handed in: what cube.Check, cube.Has, cube.Meet, cube.Within, cube.Less and cube.Count answer is what the reference reckons. No condition.
-/
import Derived.Test.YtiigbcnnapnceaaRows
import Derived.Test.YtiigbcnnapnceaaCubeS5
import Derived.Test.YtiigbcnnapnceaaCubeS4
import Derived.Test.YtiigbcnnapnceaaFilD
namespace Go.Proofs.Ytiigbcnnapnceaa
open Go Go.RowKit

theorem law_CubeSays (B : Nat) (a b : Cube) (t : Int) (w : World) (hB : B ≤ w.heap.size) :
    Calls Try.prog 4 #[.agg #[.int .i64 a.yes, .int .i64 a.no], .agg #[.int .i64 b.yes, .int .i64 b.no], .int .i64 t] w fun e w' => e = .returned (.bool true) ∧ Ext w w' := by
  by_cases h1 : cubeCheck a = 0
  · by_cases h2 : cubeCheck b = 0
    · cases hme : meets a b
      · exact law_CubeSays_none B a b t w hB h1 h2 hme
      · exact law_CubeSays_meet B a b t w hB h1 h2 hme
    · exact law_CubeSays_two B a b t w hB h1 h2
  · exact law_CubeSays_one B a b t w hB h1

namespace CubeSaysProof
open Go.ChangeShapes Go.WideShapes Go.ChangeAt Go.Joins

set_option maxRecDepth 100000 in
theorem lifted (os : Os) (started : os.Started) (H : Type) (enc : TypeId × Value → H) :
    ReturnsInHanded {} Try.checked os 4 .any (Rows.cubeSaysSpec.pre6 enc Try.prog Try.f4 Rows.cubeSaysRow.domain false) (Rows.cubeSaysSpec.post enc Try.prog Try.f4 false true false false) := by
  refine returnsInHanded_of_change (C := Try.checked) own started (by kernel_rfl) Try.func4
    (ChangeSpec.witness6 (enc := enc) (C := Try.checked) false ⟨#[], #[.agg #[.int .i64 0, .int .i64 0], .agg #[.int .i64 0, .int .i64 0], .int .i64 0], []⟩ 8 (by kernel_rfl) (by kernel_rfl) (by kernel_rfl) (by kernel_rfl)) ?_
  intro W base args ds gs before hval0 hW hcnd _
  have hval : ∀ (j : Nat) t v, Try.f4.params[j]? = some t → args[j]? = some v → Value.okWide Try.prog W .any base t v := hval0
  have hW' := hW
  obtain ⟨p, q, hA0, hV, rfl, hfz, hnd⟩ := hW
  have hA : DataW.TrodAll enc Try.prog W 0 (fun _ => true) true Try.f4.params.toList args.toList ds p := hA0
  rw [Try.params4] at hA hval
  obtain ⟨v0, vs0, d0, ds0, p0, q0, hargs, rfl, rfl, h0, r0⟩ := trodAll_cons hA
  obtain ⟨v1, vs1, d1, ds1, p1, q1, rfl, rfl, rfl, h1, r1⟩ := trodAll_cons r0
  obtain ⟨v2, vs2, d2, ds2, p2, q2, rfl, rfl, rfl, h2, r2⟩ := trodAll_cons r1
  obtain ⟨rfl, rfl, rfl⟩ := trodAll_nil r2
  obtain rfl : args = #[v0, v1, v2] := by cases args; simp_all
  obtain ⟨rfl, rfl⟩ := trodVars_none hV
  have k0 := h0
  have lt0 : ∀ x ∈ p0, x.block < W.heap.size := by obtain ⟨m, hm⟩ := k0; exact DataW.trod_lt m _ _ _ hm
  obtain ⟨x0, y0, rfl, g0, _⟩ := open_pair Try.underlying36 (by kernel_rfl) cells_cube Try.underlying3 rfl rfl (hval 0 36 v0 rfl rfl) h0
  have k1 := h1
  have lt1 : ∀ x ∈ p1, x.block < W.heap.size := by obtain ⟨m, hm⟩ := k1; exact DataW.trod_lt m _ _ _ hm
  obtain ⟨x1, y1, rfl, g1, _⟩ := open_pair Try.underlying36 (by kernel_rfl) cells_cube Try.underlying3 rfl rfl (hval 1 36 v1 rfl rfl) h1
  obtain ⟨x2, rfl, rfl, rfl, g2⟩ := open_int Try.underlying3 (hval 2 3 v2 rfl rfl) h2
  clear hA0 hval0
  refine (law_CubeSays W.heap.size ⟨x0, y0⟩ ⟨x1, y1⟩ x2 W (Nat.le_refl _)).mono fun e W' ⟨he, bel⟩ => ?_
  subst he
  exact ⟨_, rfl, _, _, _, [], _, [], hW', trodAll_mk1 (shut_bool Try.underlying4 _), (trodAll_cons_mk (Below.trod laidOut (by kernel_rfl) (of_decide_eq_true (by kernel_rfl)) k0 bel lt0) (trodAll_cons_mk (Below.trod laidOut (by kernel_rfl) (of_decide_eq_true (by kernel_rfl)) k1 bel lt1) (trodAll_cons_mk (shut_int Try.underlying3 g2) trodAll_mk0))), rfl, Below.frame bel _, fun h => by cases h⟩

theorem over : Rows.cubeSaysRow.holds Try.pinned (OpenSpec.ofChange Rows.cubeSaysSpec) :=
  OpenClaim.holds_of_wide 4 Try.f4 rfl rfl rfl rfl rfl rfl rfl ⟨rfl, rfl, rfl, rfl, rfl⟩ rfl rfl rfl rfl rfl (by kernel_rfl) Try.func4 (by kernel_rfl)
    (of_decide_eq_true (by kernel_rfl)) (by unfold Func.isWrapper; first | (rw [if_pos (by decide +kernel)]; kernel_rfl) | (rw [if_neg (by decide +kernel)]; exact ⟨rfl, rfl⟩))
    (fun os started H enc _ => lifted os started H enc)
end CubeSaysProof

theorem cubeSays_holds : Rows.CubeSaysSaid := CubeSaysProof.over
#print axioms cubeSays_holds
end Go.Proofs.Ytiigbcnnapnceaa
