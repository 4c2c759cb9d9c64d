/- The walks of strings.HasPrefix, strings.IndexByte at what the reference asks, and of the reference's read. -/
import Derived.Test.YtbkmgbckeaimdaaDoorTextE
import Derived.Test.YtbkmgbckeaimdaaDoorFormO
import Derived.Deep.CutBlock
namespace Go.Proofs.YtbkmgbckeaimdaaDoor
open Go Go.RowKit

theorem rext {x : ByteArray} {l : List UInt8} (h : x.data.toList = l) : x = tstr l := by
  subst h
  apply ByteArray.ext
  simp [tstr]

theorem has_prefix (c : UInt8) (x : ByteArray) (w : World) : Calls Tryd.prog 51 #[.string x, .string ⟨#[c]⟩] w fun e w' => e = .returned (.bool (eat c x.data.toList).isSome) ∧ w' = w := by
  have hinner : Calls Tryd.prog 59 #[.string x, .string ⟨#[c]⟩] w fun e w' => e = .returned (.bool (eat c x.data.toList).isSome) ∧ w' = w := by
    by_cases h : 0 < x.size
    · have h1 : (1 : Int) ≤ x.size := by omega
      have hs1 : 1 ≤ x.size := by omega
      have hcons : x.data.toList = x[0] :: x.data.toList.drop 1 := by
        have := rdrop_cons h
        simpa using this
      have hex : (x.extract 0 1) = tstr [x[0]] := by
        apply rext
        rw [Lib.extract_data]
        simp only [List.drop_zero]
        exact rtake1 h
      by_cases hc : x[0] = c
      · have hE : (eat c x.data.toList).isSome = true := by rw [hcons]; simp [eat, hc]
        have hq : ((x.extract 0 1).toList == [c]) = true := by rw [hex, hc, Lib.toList_data, tstr_data]; exact beq_self_eq_true _
        have HE := hid hE
        have HQ := hid hq
        clear hE hcons hex hc h hq
        go_enter Tryd.func59, Tryd.ntmps59
        go_wp2_with fail
        go_ret
        exact ⟨by rw [HE.out]; exact ret_bool HQ.out, rfl⟩
      · have hE : (eat c x.data.toList).isSome = false := by rw [hcons]; simp [eat, hc]
        have hq : ((x.extract 0 1).toList == [c]) = false := by
          rw [hex, Lib.toList_data, tstr_data, beq_eq_false_iff_ne]
          intro e
          injection e with e
          exact hc e
        have HE := hid hE
        have HQ := hid hq
        clear hE hcons hex hc h hq
        go_enter Tryd.func59, Tryd.ntmps59
        go_wp2_with fail
        go_ret
        exact ⟨by rw [HE.out]; exact ret_bool HQ.out, rfl⟩
    · have h0 : x.size = 0 := by omega
      have hE : (eat c x.data.toList).isSome = false := by
        have : x.data.toList = [] := by
          apply List.eq_nil_of_length_eq_zero
          rw [Array.length_toList]; exact h0
        rw [this]; rfl
      have h1 : (x.size : Int) < 1 := by omega
      have HE := hid hE
      clear hE h0 h
      go_enter Tryd.func59, Tryd.ntmps59
      go_wp2_with fail
      go_ret
      exact ⟨by rw [HE.out]; rfl, rfl⟩
  have HI := hid hinner
  clear hinner
  go_enter Tryd.func51, Tryd.ntmps51
  go_wp2_with fail
  refine HI.out.mono ?_
  rintro e w1 ⟨rfl, rfl⟩
  go_wp2_with fail
  go_ret
  exact ⟨rfl, rfl⟩

theorem index_op (c : UInt8) (k : Int) (h : Lib.indexByte [38, 124] c = k) (w : World) : Calls Tryd.prog 52 #[.string ⟨#[38, 124]⟩, .int .u8 c.toNat] w fun e w' => e = .returned (.int .i64 k) ∧ w' = w := by
  have HI := hid (show Calls Tryd.prog 60 #[.string ⟨#[38, 124]⟩, .int .u8 c.toNat] w fun e w' => e = .returned (.int .i64 k) ∧ w' = w from
    (Tryd.stringslite_IndexByte ⟨#[38, 124]⟩ c.toNat w).mono fun e w' ⟨h1, h2⟩ => ⟨by rw [h1, ← h]; simp, h2⟩)
  clear h
  go_enter Tryd.func52, Tryd.ntmps52
  go_wp2_with fail
  refine HI.out.mono ?_
  rintro e w1 ⟨rfl, rfl⟩
  go_wp2_with fail
  go_ret
  exact ⟨rfl, rfl⟩

/-- what a call of read leaves: every block but the row's own stays; the new row lies where the old one lay, or in a new block. -/
structure GB (w w' : World) (v v' : Value) : Prop where
  grown : w.grownBy w' v.ownBlock
  own : ∀ g, v'.ownBlock = some g → v.ownBlock = some g ∨ w.heap.size ≤ g
theorem GB.refl (w : World) (v : Value) : GB w w v v := ⟨World.grownBy.refl w _, fun _ h => .inl h⟩
theorem GB.trans {a b c : World} {u v x : Value} (h : GB a b u v) (k : GB b c v x) : GB a c u x := by
  refine ⟨⟨k.grown.os.trans h.grown.os, k.grown.tape.trans h.grown.tape, k.grown.output.trans h.grown.output, Nat.le_trans h.grown.size k.grown.size, fun i hi hn => ?_⟩, fun g hg => ?_⟩
  · refine (k.grown.block i (Nat.lt_of_lt_of_le hi h.grown.size) fun e => ?_).trans (h.grown.block i hi hn)
    rcases h.own i e.symm with h1 | h1
    · exact hn h1.symm
    · omega
  · rcases k.own g hg with h1 | h1
    · exact h.own g h1
    · exact .inr (Nat.le_trans h.grown.size h1)
theorem GB.grow {a b c : World} {u v : Value} (h : GB a b u v) (k : b.grownBy c v.ownBlock) : a.grownBy c u.ownBlock :=
  (h.trans (⟨k, fun g hg => by cases hg⟩ : GB b c v (.slice none 0 0))).grown
theorem GB.of_ext {w w' : World} (x : Ext w w') (v : Value) : GB w w' v v :=
  ⟨⟨Below.os x, Below.tape x, Below.output x, x.size, fun _ hk _ => x.blockAt hk⟩, fun _ h => .inl h⟩
theorem GB.setNew {a w : World} {u v : Value} (h : GB a w u v) {z o : Nat} (hz : a.heap.size ≤ z) (y : Value) : GB a (w.setCell ⟨z, o, none⟩ y) u v :=
  ⟨⟨h.grown.os, h.grown.tape, h.grown.output, by simpa [World.setCell] using h.grown.size, fun k hk hn => (Below.heap_setCell _ _ _ _ (by show k ≠ z; omega)).trans (h.grown.block k hk hn)⟩, h.own⟩
theorem grown_set {a w : World} {b : Option Nat} (h : a.grownBy w b) {z o : Nat} (hz : a.heap.size ≤ z) (y : Value) : a.grownBy (w.setCell ⟨z, o, none⟩ y) b :=
  ⟨h.os, h.tape, h.output, by simpa [World.setCell] using h.size, fun k hk hn => (Below.heap_setCell _ _ _ _ (by show k ≠ z; omega)).trans (h.block k hk hn)⟩
theorem Own.farSet {w : World} {base z o : Nat} {v : Value} {L : List Node} (h : Own RNode 3 39 w base v L) (hz : v.ownBlock ≠ some z) (hty : tyAt w z = some 39) (hb : base ≤ z) (u : Value) : Own RNode 3 39 (w.setCell ⟨z, o, none⟩ u) base v L :=
  h.chg (B := base) (ts := [39]) RTrip.mono (Chg.setCell (Chg.refl _) hty (by simp) _ hb) (fun g hg => Below.heap_setCell _ _ _ _ (by
    intro e
    exact hz (by rw [hg]; exact congrArg some e)))
theorem extract_cut {t t2 : List UInt8} {c : UInt8} (h : t = c :: t2) : (tstr t).extract 1 (tstr t).size = tstr t2 := by
  rw [drop_tstr, tstr_data, h]; rfl
theorem some_eat {c : UInt8} {t t2 : List UInt8} (h : eat c t = some t2) : t = c :: t2 := eat_len h
section
variable {α : Type} {P : Program} {R : World → List Value → α → Prop} {sz bytes : Nat} {t e : TypeId} {w : World} {base B B' : Nat} {v : Value} {l ys : List α} {A : Option Addr} {c : Nat}
/-- wpList_app, and where the row lies afterwards. -/
theorem wpList_app2 {ops : Array Oper} {rest : List Oper} {o : Oper} {a : Act} {Q : Exit → Act → World → Prop} (hgd : o.guard = none) (s x : Operand)
    (ho : o.op = .call { callee := .builtin .append, args := #[s, x], argTypes := #[t, t] }) (ei : ElemInfo P t e sz bytes)
    (hs : a.eval s = v) (hown : Own R sz e w base v l) (hB : B ≤ base) (hb : base ≤ w.heap.size) {e' : TypeId} (hx : a.eval x = .slice A ys.length c) (hsl : Sl B' e' R sz w A ys) (h1 : OneC R) (m : Mono B [e] R)
    (h63 : l.length + ys.length ≤ maxLen) (hby : (l.length + ys.length) * bytes ≤ 140737488355328)
    (h : ∀ v' w', Own R sz e w' base v' (l ++ ys) → w.grownBy w' v.ownBlock → (v'.ownBlock = v.ownBlock ∨ v'.ownBlock = some w.heap.size) → wpList P ops Q rest (a.put o.dst v') w') : wpList P ops Q (o :: rest) a w := by
  refine wpList_plain hgd fun K hK => ?_
  obtain ⟨v', w', hr, h2, h3, h4, h5, h6⟩ := run_app2 (P := P) (t := t) (ty := o.type) (c := c) ei hown hB hb hsl h1 m h63 hby
  unfold Oper.wp execOp
  simp only [ho, resolve, invoke, builtin, Sem.run_bind, Sem.run_pure, Result.andThen_ok, List.map_toArray, List.map_cons, List.map_nil, hs, hx, hr]
  exact hK _ _ (h v' w' h2 h3 h6)
end

end Go.Proofs.YtbkmgbckeaimdaaDoor
