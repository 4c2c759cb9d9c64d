/-
  The law TextSays answers true for all sentences and all texts that can be handed in, and its card is tied: Show and Read answer as the plain document does. Condition: the two errors of the library are what its text lays (the card ties it).
-/
import Derived.Test.YtbkmgbckeaimdaaDoorRows
import Derived.Test.YtbkmgbckeaimdaaDoorTie
import Derived.Test.YtbkmgbckeaimdaaDoorCards
import Derived.Test.YtbkmgbckeaimdaaDoorTlow
import Derived.LaidMore
import Derived.SevenTiedAt
import Derived.Stop.Joined
import Derived.Stop.LaidErr
namespace Go.Proofs.YtbkmgbckeaimdaaDoor
open Go Go.RowKit

theorem t_rg : (Tryd.prog.globals[3]?).map (·.type) = some 93 := by kernel_rfl
theorem t_sx : (Tryd.prog.globals[2]?).map (·.type) = some 93 := by kernel_rfl
/-- what the listed variables give a walk. -/
theorem errV_of {W : World} (h : laidMetH Tryd.prog Rows.textSaysRow.laid W) : ErrV W.heap.size W := by
  rw [MakeChecks.laidMetH_plain _ _ _ (by kernel_rfl)] at h
  have h1 : laidMet Tryd.prog (_ :: _ :: _ :: _ :: _ :: []) W := h
  obtain ⟨_, ⟨g1, t1, cs1, f1, _, _, hg1, ht1, hv1, hd1, _, _⟩, _, _⟩ := laidMet.tail (laidMet.tail (laidMet.tail h1))
  obtain ⟨_, ⟨g2, t2, cs2, f2, _, _, hg2, ht2, hv2, hd2, _, _⟩, _, _⟩ := laidMet.tail (laidMet.tail (laidMet.tail (laidMet.tail h1)))
  obtain rfl := Option.some.inj (g_rg.symm.trans hg1)
  obtain rfl := Option.some.inj (g_sx.symm.trans hg2)
  obtain rfl := Option.some.inj (t_rg.symm.trans ht1)
  obtain rfl := Option.some.inj (t_sx.symm.trans ht2)
  obtain ⟨_, u1, v1, e1, _⟩ := iface_of_trod Tryd.underlying93 hd1
  obtain ⟨_, u2, v2, e2, _⟩ := iface_of_trod Tryd.underlying93 hd2
  obtain ⟨l1⟩ := cs1
  obtain ⟨l2⟩ := cs2
  subst e1 e2
  have hlt : 3 < W.heap.size := World.block_lt_of_cell? _ _ (World.var?_cell g_rg hv1 0)
  exact ⟨⟨_, _, hv2⟩, ⟨_, _, hv1⟩, hlt, hlt⟩

namespace TextSaysProof
open Go.ChangeShapes Go.WideShapes Go.ChangeAt Go.Joins

set_option maxRecDepth 100000 in
theorem door_met (os : Os) (args : Array Value) : laidMetH Tryd.prog Rows.textSaysRow.laid ((World.doorLaid Tryd.prog 62 os).forCall (fun _ _ => 0) ⟨#[], args, []⟩).memory :=
  laidMetH_of_parts3 (fuel := 8) (laidMet_of_run' 8 (by kernel_rfl) (by kernel_rfl)) (by kernel_rfl) (by kernel_rfl)
set_option maxRecDepth 100000 in
theorem lifted (os : Os) (started : os.Started) (H : Type) (enc : TypeId × Value → H) :
    ReturnsInHanded {} Tryd.checked os 4 .any (fun w args => (Rows.textSaysSpec.pre enc Tryd.prog Tryd.f4 [] false w args ∧ laidMetH Tryd.prog Rows.textSaysRow.laid w) ∧ sizedMet enc Tryd.prog Tryd.f4 (OpenSpec.ofChange Rows.textSaysSpec) false w args) (Rows.textSaysSpec.post enc Tryd.prog Tryd.f4 false true false false) := by
  refine returnsInHanded_of_change_and (C := Tryd.checked) (X := fun w _ => laidMetH Tryd.prog Rows.textSaysRow.laid w) (fun _ _ _ hh h => h.of_heap hh) own started (by kernel_rfl) Tryd.func4
    (ChangeSpec.witness_shaped (enc := enc) (C := Tryd.checked) (os := os) (X := fun w _ => laidMetH Tryd.prog Rows.textSaysRow.laid w) false (World.doorLaid Tryd.prog 62 os) #[.slice none 0 0, .string ⟨#[]⟩] 8 rfl (World.shaped_of_RefB (by kernel_rfl) (by kernel_rfl)) (by kernel_rfl) (by kernel_rfl) (by kernel_rfl) (door_met os _)) ?_
  intro W base args ds gs before hval0 hW _ _ hL _
  have hEV := errV_of hL
  have hval : ∀ (j : Nat) t v, Tryd.f4.params[j]? = some t → args[j]? = some v → Value.okWide Tryd.prog W .any base t v := hval0
  have hW' := hW
  obtain ⟨p, q, hA0, hV, rfl, hfz, hnd⟩ := hW
  have hA : DataW.TrodAll enc Tryd.prog W 0 (fun _ => true) true Tryd.f4.params.toList args.toList ds p := hA0
  rw [Tryd.params4] at hA hval
  obtain ⟨v0, vs0, d0, ds0, p0, q0, hargs, rfl, rfl, h0, r0⟩ := trodAll_cons hA
  obtain ⟨v1, vs1, d1, ds1, p1, q1, rfl, rfl, rfl, h1, r1⟩ := trodAll_cons r0
  obtain ⟨rfl, rfl, rfl⟩ := trodAll_nil r1
  obtain rfl : args = #[v0, v1] := by cases args; simp_all
  obtain ⟨rfl, rfl⟩ := trodVars_none hV
  obtain ⟨a0, n0, c0, rfl⟩ := okWide_slice Tryd.underlying26 (hval 0 26 v0 rfl rfl)
  have k0 := h0
  have lt0 : ∀ x ∈ p0, x.block < W.heap.size := by obtain ⟨m, hm⟩ := k0; exact DataW.trod_lt m _ _ _ hm
  obtain ⟨l0, rfl, hl0, s0, g0⟩ := open_nodes h0
  obtain ⟨s1, rfl, rfl, rfl, g1⟩ := Go.ChangeMaps.open_string Tryd.underlying9 (hval 1 9 v1 rfl rfl) h1
  clear hA0 hval0
  refine (law_TextSays a0 c0 l0 s1 W hl0 s0 hEV).mono fun e W' ⟨he, bel⟩ => ?_
  subst he
  exact ⟨_, rfl, _, _, _, [], _, [], hW', trodAll_mk1 (shut_bool Tryd.underlying4 _), (trodAll_cons_mk (Below.trod laidOut (by kernel_rfl) (of_decide_eq_true (by kernel_rfl)) k0 bel lt0) (trodAll_cons_mk (Go.ChangeMaps.shut_string Tryd.underlying9 g1) trodAll_mk0)), rfl, Below.frame bel _, fun h => by cases h⟩

theorem over : Rows.textSaysRow.holds Tryd.pinned (OpenSpec.ofChange Rows.textSaysSpec) :=
  OpenClaim.holds_of_wide 4 Tryd.f4 rfl rfl rfl rfl rfl rfl rfl ⟨rfl, rfl, rfl, rfl, rfl⟩ rfl rfl rfl rfl rfl (by kernel_rfl) Tryd.func4 (by kernel_rfl)
    (of_decide_eq_true (by kernel_rfl)) (by unfold Func.isWrapper; first | (rw [if_pos (by decide +kernel)]; kernel_rfl) | (rw [if_neg (by decide +kernel)]; exact ⟨rfl, rfl⟩))
    (fun os started H enc _ => lifted os started H enc)
end TextSaysProof

theorem textSays_holds : Rows.TextSaysSaid := TextSaysProof.over
#print axioms textSays_holds

theorem textSaysCard_holds : Rows.TextSaysCardSaid :=
  Claim7.holds_tied_plain_at .later [] [.data, .data, .data, .sentinel, .sentinel] true (true, "cb0ebf36b3e692366844ff6fe8fb610567dd5328e43f1c9602438073665f72cd") true
    textSays_holds (fun _ h => by cases h) (by kernel_rfl) (fun _ h => by cases h) textSays_row_tie rfl ⟨rfl, rfl⟩ (by kernel_rfl) rfl
    (fun f fn hf hfn => by
      obtain rfl : f = 4 := (Option.some.inj ((show Tryd.prog.funcNamed Rows.textSaysRow.func = some 4 by kernel_rfl).symm.trans hf)).symm
      obtain rfl : fn = Tryd.f4 := (Option.some.inj (Tryd.func4.symm.trans hfn)).symm
      exact ⟨by kernel_rfl, fun j t ht => by
        rw [Tryd.params4] at ht
        rcases j with _ | _ | j
        · obtain rfl : 26 = t := by simpa using ht
          exact (show Tryd.prog.wantsStandIn 26 = false by kernel_rfl)
        · obtain rfl : 9 = t := by simpa using ht
          exact (show Tryd.prog.wantsStandIn 9 = false by kernel_rfl)
        · simp at ht⟩)
    (by kernel_rfl)
#print axioms textSaysCard_holds
end Go.Proofs.YtbkmgbckeaimdaaDoor
