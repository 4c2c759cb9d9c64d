/- Several texts in one: data, readings, plain laws, walks. No condition. -/
import Derived.Test.YtmedmfjhpabfdaaWireP
import Derived.Test.YtmedmfjhpabfdaaPartD
import Derived.Test.YtmedmfjhpabfdaaKnEq
import Derived.Test.YtmedmfjhpabfdaaBase
import Derived.Test.YtmedmfjhpabfdaaPartM
import Derived.Test.YtmedmfjhpabfdaaFewS
namespace Go.Proofs.Ytmedmfjhpabfdaa
open Go Go.RowKit

section
variable {P : Program} {t a b : TypeId} {f0 f1 : Field} {n m : Nat}
theorem run_equalIn_two (ht : P.underlying t = some (.struct #[f0, f1])) (hp : P.stoodInHeld t = false) (n0 : f0.name ≠ "_") (n1 : f1.name ≠ "_") (h0 : f0.type = a ∧ f0.offset = 0) (h1 : f1.type = b ∧ f1.offset = n)
    (ga : ∀ w, (isAgg a).run P w = .ok true w) (gb : ∀ w, (isAgg b).run P w = .ok true w) (sa : ∀ w, (sizeOf a).run P w = .ok n w) (sb : ∀ w, (sizeOf b).run P w = .ok m w) {A A' B B' : Array Value} (hA : A.size = n) (hA' : A'.size = n) (hB : B.size = m) (hB' : B'.size = m)
    {p q : Bool} {d : Nat} (ea : ∀ w, (Op.equalIn d a (.agg A) (.agg A')).run P w = .ok p w) (eb : ∀ w, (Op.equalIn d b (.agg B) (.agg B')).run P w = .ok q w) (w : World) :
    (Op.equalIn (d + 1) t (.agg (A ++ B)) (.agg (A' ++ B'))).run P w = .ok (p && q) w := by
  have hf : P.fieldsOf t = #[f0, f1] := by unfold Program.fieldsOf; rw [ht]
  have e1 : ∀ (X Y : Array Value), X.size = n → (X ++ Y).extract 0 n = X := fun X Y hX => by
    rw [Array.extract_append, hX]
    simp [← hX]
  have e2 : ∀ (X Y : Array Value), X.size = n → Y.size = m → (X ++ Y).extract n (n + m) = Y := fun X Y hX hY => by
    rw [Array.extract_append, hX]
    simp [← hX, ← hY]
  rw [run_equalIn_agg w d t _ _ (by rw [hf]; exact ht) hp, hf]
  have eA : (part a (A ++ B) 0).run P w = .ok (.agg A) w := by simp only [part, Sem.run_bind, ga, Result.andThen_ok, if_true, sa, Sem.run_pure, Nat.zero_add, e1 A B hA]
  have eA' : (part a (A' ++ B') 0).run P w = .ok (.agg A') w := by simp only [part, Sem.run_bind, ga, Result.andThen_ok, if_true, sa, Sem.run_pure, Nat.zero_add, e1 A' B' hA']
  have eB : (part b (A ++ B) n).run P w = .ok (.agg B) w := by simp only [part, Sem.run_bind, gb, Result.andThen_ok, if_true, sb, Sem.run_pure, e2 A B hA hB]
  have eB' : (part b (A' ++ B') n).run P w = .ok (.agg B') w := by simp only [part, Sem.run_bind, gb, Result.andThen_ok, if_true, sb, Sem.run_pure, e2 A' B' hA' hB']
  have hz : (Op.eqFields d (A ++ B) (A' ++ B') [f1]).run P w = .ok q w := by
    simp only [Op.eqFields, n1, ne_eq, not_false_eq_true, if_true, h1.1, h1.2, Sem.run_bind, eB, eB', eb, Result.andThen_ok]
    cases q <;> simp
  rw [show (#[f0, f1] : Array Field).toList = [f0, f1] from rfl, Op.eqFields, if_pos n0]
  simp only [h0.1, h0.2, Sem.run_bind, eA, eA', ea, Result.andThen_ok]
  cases p
  · simp
  · simpa using hz
end
theorem eq_points9 (p q : Nat → Bool) (w : World) : (Op.equalIn 9999 79 (.agg (rowB 512 p)) (.agg (rowB 512 q))).run Try.prog w = .ok (allTo (fun i => p i == q i) 512) w := by
  obtain ⟨i, hi⟩ := Option.isSome_iff_exists.1 (show (Try.prog.info? 4).isSome = true by kernel_rfl)
  exact run_equalIn_row Try.underlying79 hi (by kernel_rfl) (fun _ => by kernel_rfl) 9998 (fun k _ w => run_equalIn_bool' w 9997 4 _ _ Try.underlying4) w
theorem eq_dotsets9 (S T : DSet) (w : World) : (Op.equalIn 9999 83 (.agg (rowD S)) (.agg (rowD T))).run Try.prog w = .ok (eqD S T) w := by
  obtain ⟨i, hi⟩ := Option.isSome_iff_exists.1 info_u64
  obtain ⟨r, hr⟩ := Option.isSome_iff_exists.1 info_row
  refine run_equalIn_mat (m := 5) (s := 16) Try.underlying83 hr (by kernel_rfl) (fun _ => by kernel_rfl) (fun _ => by kernel_rfl) 9998 (fun j hj w => ?_) w
  rw [rowD_row S, rowD_row T]
  exact run_equalIn_row Try.underlying81 hi (by kernel_rfl) (fun _ => by kernel_rfl) 9997 (fun k _ w => run_equalIn_int w 9996 80 .u64 .u64 _ _ Try.underlying80) w
set_option maxRecDepth 100000 in
theorem eq_ref (x y : RP) (w : World) : (Op.equalIn 10000 85 (.agg (rowB 512 x.P ++ rowD x.K)) (.agg (rowB 512 y.P ++ rowD y.K))).run Try.prog w = .ok (eqR x y) w :=
  run_equalIn_two (n := 512) (m := 80) Try.underlying85 (by kernel_rfl) (by decide) (by decide) (And.intro rfl rfl) (And.intro rfl rfl) (fun _ => by kernel_rfl) (fun _ => by kernel_rfl) (fun _ => by kernel_rfl) (fun _ => by kernel_rfl) (rowB_size _ _) (rowB_size _ _) (rowD_size _) (rowD_size _) (d := 9999) (eq_points9 x.P y.P) (eq_dotsets9 x.K y.K) w
end Go.Proofs.Ytmedmfjhpabfdaa

namespace Go.Proofs.Ytmedmfjhpabfdaa
open Go Go.RowKit

set_option maxRecDepth 100000 in
set_option maxHeartbeats 2000000 in
theorem equal_refs (B1 B2 : Nat) (A1 : Option Addr) (c1 : Nat) (A2 : Option Addr) (c2 : Nat) (l m : List RP) (w : World) (hl : l.length ≤ maxLen) (h : SlRefs B1 w A1 l) (g : SlRefs B2 w A2 m) :
    Calls Try.prog 43 #[.slice A1 l.length c1, .slice A2 m.length c2] w fun e w' => e = .returned (.bool (sameL eqR l m)) ∧ Ext w w' := by
  unfold maxLen at hl
  have hll : (l.length : Int) ≤ 9223372036854775807 := by omega
  by_cases hlm : l.length = m.length
  · have HLM := hid hlm
    rw [← hlm]
    clear hlm
    go_enter Try.func43, Try.ntmps43
    go_wp2_with fail
    go_loopw [13] (fun i wr => ∃ k : Nat, k ≤ l.length ∧ i = .int .i64 k ∧ sameL eqR (l.drop k) (m.drop k) = sameL eqR l m ∧ Ext w wr) (fun i _ => l.length - (intOf i).toNat)
    case atStart => exact ⟨0, Nat.zero_le _, rfl, rfl, Ext.refl _⟩
    case round =>
      obtain ⟨k, hk, rfl, hG, hx⟩ := hrel
      have HG := hid hG
      clear hG
      by_cases hlt : k < l.length
      · have hlt2 : k < m.length := by rw [← HLM.out]; exact hlt
        obtain ⟨b, off, hA, hb, hr⟩ := (h.ext RRef.mono hx).ref hlt
        obtain ⟨b', off', hA', hb', hr'⟩ := (g.ext RRef.mono hx).ref hlt2
        subst hA hA'
        obtain ⟨x, hX⟩ : ∃ x, x = l[k] := ⟨_, rfl⟩
        obtain ⟨y, hY⟩ : ∃ y, y = m[k] := ⟨_, rfl⟩
        have HU := hid (show sameL eqR l m = (eqR x y && sameL eqR (l.drop (k + 1)) (m.drop (k + 1))) by rw [← HG.out, sameL_drop _ _ _ _ hlt hlt2, hX, hY])
        rw [← hX] at hr
        rw [← hY] at hr'
        clear hX hY
        have HR1 := hid (fun w' (q : Ext wr w') => rangeAt_ext q hr)
        have HR2 := hid (fun w' (q : Ext wr w') => rangeAt_ext q hr')
        have HCmp := hid (fun w' => show (binOp .neq 85 (.agg (rowB 512 x.P ++ rowD x.K)) (.agg (rowB 512 y.P ++ rowD y.K))).run Try.prog w' = .ok (.bool (!eqR x y)) w' by
          rw [run_neq_struct, eq_ref]
          rfl)
        have HAll := hid (fun w' (_ : Ext wr w') => trivial)
        clear hr hr'
        have hlt3 : k < l.length := hlt
        go_wp2_with fail
        refine wq_region (fun w' => Ext wr w') (by kernel_rfl) (by kernel_rfl) (Ext.refl _).drew ?_
        refine wq_get (v := ?_) (fun w' hw' => ?_) ?_
        rotate_left
        · have hA := HAll.out w' hw'
          go_split_ands
          first
            | (go_simp; done)
            | (go_simp; with_reducible rfl)
        try simp only [Act.put, List.setIfInBounds_toArray, List.set_cons_zero, List.set_cons_succ]
        refine wq_get (v := ?_) (fun w' hw' => ?_) ?_
        rotate_left
        · have hA := HAll.out w' hw'
          go_split_ands
          first
            | (go_simp; done)
            | (go_simp; with_reducible rfl)
        try simp only [Act.put, List.setIfInBounds_toArray, List.set_cons_zero, List.set_cons_succ]
        refine wq_get (v := ?_) (fun w' hw' => ?_) ?_
        rotate_left
        · have hA := HAll.out w' hw'
          go_split_ands
          first
            | (go_simp; done)
            | (go_simp; with_reducible rfl)
        try simp only [Act.put, List.setIfInBounds_toArray, List.set_cons_zero, List.set_cons_succ]
        refine wq_loadMid ri_ref (by rfl) HR1.out (refRow_size _) ?_
        try simp only [Act.put, List.setIfInBounds_toArray, List.set_cons_zero, List.set_cons_succ]
        refine wq_get (v := ?_) (fun w' hw' => ?_) ?_
        rotate_left
        · have hA := HAll.out w' hw'
          go_split_ands
          first
            | (go_simp; done)
            | (go_simp; with_reducible rfl)
        try simp only [Act.put, List.setIfInBounds_toArray, List.set_cons_zero, List.set_cons_succ]
        refine wq_get (v := ?_) (fun w' hw' => ?_) ?_
        rotate_left
        · have hA := HAll.out w' hw'
          go_split_ands
          first
            | (go_simp; done)
            | (go_simp; with_reducible rfl)
        try simp only [Act.put, List.setIfInBounds_toArray, List.set_cons_zero, List.set_cons_succ]
        refine wq_get (v := ?_) (fun w' hw' => ?_) ?_
        rotate_left
        · have hA := HAll.out w' hw'
          go_split_ands
          first
            | (go_simp; done)
            | (go_simp; with_reducible rfl)
        try simp only [Act.put, List.setIfInBounds_toArray, List.set_cons_zero, List.set_cons_succ]
        refine wq_loadMid ri_ref (by rfl) HR2.out (refRow_size _) ?_
        try simp only [Act.put, List.setIfInBounds_toArray, List.set_cons_zero, List.set_cons_succ]
        refine wq_get (v := .bool (!eqR x y)) (fun w' _ => ?_) ?_
        · have hC := HCmp.out w'
          have hG : (eqGuard .neq 85 (.tmp 19) (.tmp 23) (.agg (rowB 512 x.P ++ rowD x.K)) (.agg (rowB 512 y.P ++ rowD y.K))).run Try.prog w' = .ok () w' := run_eqGuard_agg w' .neq _ _ _ _ _ (by kernel_rfl)
          show Sem.run Try.prog (do let v ← (do eqGuard .neq 85 (.tmp 19) (.tmp 23) (.agg (rowB 512 x.P ++ rowD x.K)) (.agg (rowB 512 y.P ++ rowD y.K)); binOp .neq 85 (.agg (rowB 512 x.P ++ rowD x.K)) (.agg (rowB 512 y.P ++ rowD y.K))); pure (Next.value v)) w' = _
          simp only [Sem.run_bind, hG, Result.andThen_ok, hC, Sem.run_pure]
        try simp only [Act.put, List.setIfInBounds_toArray, List.set_cons_zero, List.set_cons_succ]
        refine wq_nil ?_
        intro w1 hyn
        clear HR1 HR2 HCmp HAll
        replace hx := hx.trans hyn
        clear hyn
        cases hs : eqR x y
        · have HF := hid (show sameL eqR l m = false by rw [HU.out, hs]; rfl)
          clear hs
          go_wp2_with fail
          go_ret
          exact ⟨ret_bool HF.out.symm, hx⟩
        · have HF := hid (show sameL eqR (l.drop (k + 1)) (m.drop (k + 1)) = sameL eqR l m by rw [HU.out, hs]; rfl)
          clear hs
          go_wp2_with fail
          go_roundw
          case rel => exact ⟨k + 1, hlt, by go_num, HF.out, hx⟩
          case measure => simp [intOf]; omega
      · obtain rfl : k = l.length := by omega
        have HF := hid (show sameL eqR l m = true by rw [← HG.out]; exact sameL_end _ _ _ HLM.out)
        go_wp2_with fail
        go_ret
        exact ⟨ret_bool HF.out.symm, hx⟩
  · have hne : ((l.length : Int) != (m.length : Int)) = true := by simp; omega
    have HF := hid (sameL_ne eqR l m hlm)
    clear hlm
    go_enter Try.func43, Try.ntmps43
    go_wp2_with fail
    go_ret
    exact ⟨ret_bool HF.out.symm, Ext.refl _⟩
end Go.Proofs.Ytmedmfjhpabfdaa
