/- Append to a row of the call's own: also which block the row lies in then. No program in sight. -/
import Derived.Test.YtiigbcnnapnceaaRep
namespace Go.Proofs.Ytiigbcnnapnceaa
open Go Go.RowKit

section
variable {α : Type} {P : Program} {R : World → List Value → α → Prop} {sz bytes : Nat} {t ty e : TypeId} {w : World} {base B B' : Nat} {v : Value} {l ys : List α} {A : Option Addr} {c : Nat}

theorem run_app2 (ei : ElemInfo P t e sz bytes) (hown : Own R sz e w base v l) (hB : B ≤ base) (hb : base ≤ w.heap.size) {e' : TypeId} (hs : Sl B' e' R sz w A ys) (h1 : OneC R) (m : Mono B [e] R)
    (h63 : l.length + ys.length ≤ maxLen) (hby : (l.length + ys.length) * bytes ≤ 140737488355328) :
    ∃ v' w', (Builtin.append_ #[t, t] ty #[v, .slice A ys.length c]).run P w = .ok v' w' ∧ Own R sz e w' base v' (l ++ ys) ∧ w.grownBy w' v.ownBlock ∧ Chg B [e] w w' ∧ Below base w w' ∧ (v'.ownBlock = v.ownBlock ∨ v'.ownBlock = some w.heap.size) := by
  by_cases hy : ys = []
  · subst hy
    refine ⟨v, w, run_app_nil ei hown A c, by simpa using hown, World.grownBy.refl w _, Chg.refl w, Below.refl _ _, .inl rfl⟩
  have hpos : 0 < ys.length := List.length_pos_iff.2 hy
  obtain ⟨b, off, _, rfl, _, _, _⟩ := hs.at_ hpos
  obtain ⟨zs, hzl, hz⟩ := choose_list (p := fun i cs => ∀ x, ys[i]? = some x → cs.length = sz ∧ CellsAt w b (off + i * sz) cs ∧ R w cs x) ys.length (by
    intro i hi
    obtain ⟨b', off', cs, hA, _, h3, h4, h5⟩ := hs.at_ hi
    injection hA with hA
    injection hA with hb' ho' _
    subst hb' ho'
    refine ⟨cs, fun x hx => ?_⟩
    rw [List.getElem?_eq_getElem hi] at hx
    injection hx with hx
    subst hx
    exact ⟨h3, h4, h5⟩)
  have hyi : ∀ i cs, zs[i]? = some cs → ∃ x, ys[i]? = some x := fun i cs h => ⟨ys[i]'(by have := (List.getElem?_eq_some_iff.1 h).1; omega), List.getElem?_eq_getElem _⟩
  have hzall : ∀ cs ∈ zs, cs.length = sz := by
    intro cs hcs
    obtain ⟨i, hi, rfl⟩ := List.getElem_of_mem hcs
    obtain ⟨x, hx⟩ := hyi i _ (List.getElem?_eq_getElem hi)
    exact (hz i _ (List.getElem?_eq_getElem hi) x hx).1
  have hsz0 : 0 < sz := by obtain ⟨_, _, _, _, _, _, _, _, h⟩ := ei; exact h
  have hnews : ∀ j u, zs.flatten[j]? = some u → w.cell? ((⟨b, off, none⟩ : Addr).add j) = some u := by
    intro j u hj
    obtain ⟨cs, h3, h4⟩ := flatten_back sz hsz0 zs hzall j u hj
    obtain ⟨x, hx⟩ := hyi _ _ h3
    have := (hz _ _ h3 x hx).2.1 _ u h4
    have e1 : off + j / sz * sz + j % sz = off + j := by
      have := Nat.div_add_mod j sz
      rw [Nat.mul_comm] at this
      omega
    rw [e1] at this
    unfold Addr.add
    split
    · subst_vars; simpa using this
    · exact this
  have hlen : zs.flatten.length = ys.length * sz := by
    rw [← hzl]
    clear hyi hz hnews hzl
    induction zs with
    | nil => simp
    | cons y ys ih => simp [hzall y (by simp), ih (fun c hc => hzall c (by simp [hc])), Nat.succ_mul, Nat.add_comm]
  have hone : ∀ u ∈ zs.flatten, u.oneCell' = true := by
    intro u hu
    obtain ⟨cs, hcs, hu⟩ := List.mem_flatten.1 hu
    obtain ⟨i, hi, rfl⟩ := List.getElem_of_mem hcs
    obtain ⟨x, hx⟩ := hyi i _ (List.getElem?_eq_getElem hi)
    exact h1 _ _ _ (hz i _ (List.getElem?_eq_getElem hi) x hx).2.2 u hu
  obtain ⟨i, z, ht, hi, hz0, hs0, hby0, hzs, _⟩ := ei
  obtain ⟨xs, hxl, hxR, ho⟩ := id hown
  obtain ⟨v', w', hrun, hown', hg, _, hbk⟩ := run_append_own_at (P := P) w base t ty e i z sz bytes ht hi hz0 hs0 hby0 hzs hsz0 v l.length xs.flatten ho ⟨b, off, none⟩ ys.length c zs.flatten hlen hnews hone h63 hby hb
  have hc : Chg B [e] w w' := hown.chg_of hB hg
  refine ⟨v', w', hrun, ⟨xs ++ zs, by simp [hxl, hzl], ?_, by rw [List.length_append, List.flatten_append]; exact hown'⟩, hg, hc, hown.below_of hg hb, hbk⟩
  intro k cs x hk hx
  by_cases hkl : k < l.length
  · rw [List.getElem?_append_left (by omega)] at hk hx
    exact ⟨(hxR k cs x hk hx).1, m _ _ _ _ hc (hxR k cs x hk hx).2⟩
  · rw [List.getElem?_append_right (by omega), hxl] at hk
    rw [List.getElem?_append_right (by omega)] at hx
    exact ⟨(hz _ _ hk x hx).1, m _ _ _ _ hc (hz _ _ hk x hx).2.2⟩

/-- append to a row of the call's own, as an operation of the walk. -/
theorem wpList_app2 {ops : Array Oper} {rest : List Oper} {o : Oper} {a : Act} {Q : Exit → Act → World → Prop} (hgd : o.guard = none) (s x : Operand)
    (ho : o.op = .call { callee := .builtin .append, args := #[s, x], argTypes := #[t, t] }) (ei : ElemInfo P t e sz bytes)
    (hs : a.eval s = v) (hown : Own R sz e w base v l) (hB : B ≤ base) (hb : base ≤ w.heap.size) {e' : TypeId} (hx : a.eval x = .slice A ys.length c) (hsl : Sl B' e' R sz w A ys) (h1 : OneC R) (m : Mono B [e] R)
    (h63 : l.length + ys.length ≤ maxLen) (hby : (l.length + ys.length) * bytes ≤ 140737488355328)
    (h : ∀ v' w', Own R sz e w' base v' (l ++ ys) → Chg B [e] w w' → Below base w w' → w.grownBy w' v.ownBlock → (v'.ownBlock = v.ownBlock ∨ v'.ownBlock = some w.heap.size) → wpList P ops Q rest (a.put o.dst v') w') : wpList P ops Q (o :: rest) a w := by
  refine wpList_plain hgd fun K hK => ?_
  obtain ⟨v', w', hr, h2, h3, h4, h5, h6⟩ := run_app2 (P := P) (t := t) (ty := o.type) (c := c) ei hown hB hb hsl h1 m h63 hby
  unfold Oper.wp execOp
  simp only [ho, resolve, invoke, builtin, Sem.run_bind, Sem.run_pure, Result.andThen_ok, List.map_toArray, List.map_cons, List.map_nil, hs, hx, hr]
  exact hK _ _ (h v' w' h2 h4 h5 h3 h6)
end

end Go.Proofs.Ytiigbcnnapnceaa
