/- THE LAW WireSays: whatever is handed in, Check, Sum, Pack and Unpack answer what the document says. The conditions are the statement's own. -/
import Derived.Test.YtmedmfjhpabfdaaRows
import Derived.Test.YtmedmfjhpabfdaaWsayB
import Derived.Test.YtmedmfjhpabfdaaWsayC
import Derived.Test.YtmedmfjhpabfdaaWsayD
import Derived.SizedLaws
namespace Go.Proofs.Ytmedmfjhpabfdaa
open Go Go.RowKit

theorem law_WireSays (B : Nat) (b : Batch) (Ax : Option Addr) (cx : Nat) (Ag : Option Addr) (cg : Nat) (Ap : Option Addr) (cp : Nat) (l : List UInt8) (w : World) (hBw : B ≤ w.heap.size) (ha : InB B w Ax cx Ag cg Ap cp b) (hl : l.length ≤ 140737488355328) :
    Calls Try.prog 3 #[.agg #[.int .i64 b.site, .int .i64 b.stamp, .slice Ax b.vers.length cx, .slice Ag b.gone.length cg, .slice Ap b.parts.length cp], .string (bstr l)] w fun e w' => e = .returned (.bool true) ∧ Ext w w' := by
  by_cases h0 : wireErr b = 0
  · exact law_WireSays_ok B b Ax cx Ag cg Ap cp l w hBw ha hl h0
  · by_cases hs : 1000000 < b.stamp ∧ 0 ≤ b.site ∧ b.site < 5
    · exact law_WireSays_b1 B b Ax cx Ag cg Ap cp l w hBw ha hl h0 hs
    · by_cases g1 : 1000000 < b.stamp
      · exact law_WireSays_b2 B b Ax cx Ag cg Ap cp l w hBw ha hl h0 hs g1
      · exact law_WireSays_b3 B b Ax cx Ag cg Ap cp l w hBw ha hl h0 hs g1

namespace WireSaysProof
open Go.ChangeShapes Go.WideShapes Go.ChangeAt Go.Joins

set_option maxRecDepth 100000 in
theorem lifted (os : Os) (started : os.Started) (H : Type) (enc : TypeId × Value → H) :
    ReturnsInHanded {} Try.checked os 3 .any (Rows.wireSaysSpec.pre6 enc Try.prog Try.f3 Rows.wireSaysRow.domain false) (Rows.wireSaysSpec.post enc Try.prog Try.f3 false true false false) := by
  refine returnsInHanded_of_change_sized (C := Try.checked) own started (by kernel_rfl) Try.func3
    (ChangeSpec.witness6 (enc := enc) (C := Try.checked) false ⟨#[], #[.agg #[.int .i64 0, .int .i64 0, .slice none 0 0, .slice none 0 0, .slice none 0 0], .string ⟨#[]⟩], []⟩ 8 (by kernel_rfl) (by kernel_rfl) (by kernel_rfl) (by kernel_rfl)) ?_
  intro W base args ds gs before hval0 hW hcnd hsized0 _
  have hval : ∀ (j : Nat) t v, Try.f3.params[j]? = some t → args[j]? = some v → Value.okWide Try.prog W .any base t v := hval0
  have hW' := hW
  obtain ⟨p, q, hA0, hV, rfl, hfz, hnd⟩ := hW
  have hA : DataW.TrodAll enc Try.prog W 0 (fun _ => true) true Try.f3.params.toList args.toList ds p := hA0
  rw [Try.params3] at hA hval
  obtain ⟨v0, vs0, d0, ds0, p0, q0, hargs, rfl, rfl, h0, r0⟩ := trodAll_cons hA
  obtain ⟨v1, vs1, d1, ds1, p1, q1, rfl, rfl, rfl, h1, r1⟩ := trodAll_cons r0
  obtain ⟨rfl, rfl, rfl⟩ := trodAll_nil r1
  obtain rfl : args = #[v0, v1] := by cases args; simp_all
  obtain ⟨rfl, rfl⟩ := trodVars_none hV
  have k0 := h0
  have lt0 : ∀ x ∈ p0, x.block < W.heap.size := by obtain ⟨m, hm⟩ := k0; exact DataW.trod_lt m _ _ _ hm
  obtain ⟨l0, ax0, cx0, ag0, cg0, ap0, cp0, rfl, s0⟩ := open_batch (hval 0 26 v0 rfl rfl) h0
  obtain ⟨s1, rfl, rfl, rfl, g1⟩ := Go.ChangeMaps.open_string Try.underlying9 (hval 1 9 v1 rfl rfl) h1
  have z1 := sized_string hsized0 (j := 1) rfl rfl
  clear hsized0
  clear hA0 hval0
  have hwk := law_WireSays W.heap.size l0 ax0 cx0 ag0 cg0 ap0 cp0 s1.data.toList W (Nat.le_refl _) s0 (Nat.le_of_lt (Nat.lt_of_le_of_lt z1 reachBytes_lt))
  rw [bstr_list] at hwk
  refine hwk.mono fun e W' ⟨he, bel⟩ => ?_
  subst he
  exact ⟨_, rfl, _, _, _, [], _, [], hW', trodAll_mk1 (shut_bool Try.underlying4 _), (trodAll_cons_mk (Below.trod laidOut (by kernel_rfl) (of_decide_eq_true (by kernel_rfl)) k0 bel lt0) (trodAll_cons_mk (Go.ChangeMaps.shut_string Try.underlying9 g1) trodAll_mk0)), rfl, Below.frame bel _, fun h => by cases h⟩

theorem over : Rows.wireSaysRow.holds Try.pinned (OpenSpec.ofChange Rows.wireSaysSpec) :=
  OpenClaim.holds_of_wide 3 Try.f3 rfl rfl rfl rfl rfl rfl rfl ⟨rfl, rfl, rfl, rfl, rfl⟩ rfl rfl rfl rfl rfl (by kernel_rfl) Try.func3 (by kernel_rfl)
    (of_decide_eq_true (by kernel_rfl)) (by unfold Func.isWrapper; first | (rw [if_pos (by decide +kernel)]; kernel_rfl) | (rw [if_neg (by decide +kernel)]; exact ⟨rfl, rfl⟩))
    (fun os started H enc _ => lifted os started H enc)
end WireSaysProof

theorem wireSays_holds : Rows.WireSaysSaid := WireSaysProof.over
#print axioms wireSays_holds

end Go.Proofs.Ytmedmfjhpabfdaa
