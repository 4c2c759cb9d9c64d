/- The walk of slices.Insert at versions: one element. -/
import Derived.Test.YtmedmfjhpabfdaaSrtO
import Derived.Test.YtmedmfjhpabfdaaRowV
import Derived.Lib.AppendZerosOnto
import Derived.Lib.Overlaps
import Derived.Deep.RegionLaw
namespace Go.Proofs.Ytmedmfjhpabfdaa
open Go Go.RowKit

section
variable {P : Program}
theorem run_copyK (w : World) (dT sT ty elem : TypeId) (b o dLen dCap : Nat) (a : Addr) (sLen sCap sz n : Nat) (cs : List Value)
    (hu : P.underlying dT = some (.slice elem)) (hs : (P.info? elem).map (·.size) = some sz) (hn : Nat.min sLen dLen = n) (hl : cs.length = n * sz)
    (hsrc : ∀ j v, cs[j]? = some v → w.cell? (a.add j) = some v) (hc : ∀ j, j < cs.length → (w.cell? ⟨b, o + j, none⟩).isSome = true) (hf : ∀ j, j < cs.length → w.frozen? ⟨b, o + j, none⟩ = false) (h1 : ∀ v ∈ cs, v.oneCell' = true) :
    (Builtin.copy_ #[dT, sT] ty #[.slice (some ⟨b, o, none⟩) dLen dCap, .slice (some a) sLen sCap]).run P w = .ok (goInt n) (w.setCells b o cs) := by
  have hlo := run_loadCells_list (P := P) w a cs hsrc
  have hst := run_storeCells_cells (P := P) b o cs 0 w (by simpa using hc) (by simpa using hf) h1
  cases hq : P.info? elem with
  | none => simp [hq] at hs
  | some i =>
    have hi : i.size = sz := by simpa [hq] using hs
    rw [hl] at hlo
    simp [Builtin.copy_, run_underlying hu, Builtin.lenOf, Builtin.firstCells, sizeOf, typeInfo, hq, hi, hn, hlo, hst]
theorem wp_copyK {o : Oper} {a : Act} (w : World) {Q : Exit → Act → World → Prop} {K : Act → World → Prop} (d s : Operand) (t t' : TypeId)
    (ho : o.op = .call { callee := .builtin .copy, args := #[d, s], argTypes := #[t, t'] }) (v u : Value) (hd : a.eval d = v) (hs : a.eval s = u) {v' : Value} {w' : World}
    (hr : (Builtin.copy_ #[t, t'] o.type #[v, u]).run P w = .ok v' w') (h : K (a.put o.dst v') w') : o.wp P a w K Q := by
  unfold Oper.wp execOp
  simp only [ho, resolve, invoke, builtin, Sem.run_bind, Sem.run_pure, Result.andThen_ok, List.map_toArray, List.map_cons, List.map_nil, hd, hs, hr]
  exact h
theorem wpList_copyK (w : World) {ops : Array Oper} {rest : List Oper} {o : Oper} {a : Act} {Q : Exit → Act → World → Prop} (hgd : o.guard = none) (d s : Operand) (t t' : TypeId)
    (ho : o.op = .call { callee := .builtin .copy, args := #[d, s], argTypes := #[t, t'] }) (v u : Value) (hd : a.eval d = v) (hs : a.eval s = u) {v' : Value} {w' : World}
    (hr : (Builtin.copy_ #[t, t'] o.type #[v, u]).run P w = .ok v' w') (h : wpList P ops Q rest (a.put o.dst v') w') : wpList P ops Q (o :: rest) a w :=
  wpList_plain hgd fun _ hK => wp_copyK w d s t t' ho v u hd hs hr (hK _ _ h)
theorem step_copyK {ops : Array Oper} {o : Oper} {a : Act} {w : World} {K : Act → World → Prop} {Q : Exit → Act → World → Prop} {E : Prop}
    (hg : o.guard = none) (d x : Operand) (dT sT : TypeId) (hop : o.op = Op.call { callee := Callee.builtin Builtin.copy, args := #[d, x], argTypes := #[dT, sT] })
    (v u : Value) (hd : a.eval d = v) (hx : a.eval x = u) {v' : Value} {w' : World} (hr : (Builtin.copy_ #[dT, sT] o.type #[v, u]).run P w = .ok v' w') (hK : K (a.put o.dst v') w') :
    if Region.wanted o (yielded ops a.tmps) = true then Oper.wp P o a w K Q else E := by
  have hw : Region.wanted o (yielded ops a.tmps) = true := by simp [Region.wanted, hg]
  rw [if_pos hw]
  exact wp_copyK w d x dT sT hop v u hd hx hr hK
theorem wp_runA {o : Oper} {a : Act} (w : World) {Q : Exit → Act → World → Prop} {K : Act → World → Prop} (d s : Operand) (t t' : TypeId)
    (ho : o.op = .call { callee := .builtin .append, args := #[d, s], argTypes := #[t, t'] }) (v u : Value) (hd : a.eval d = v) (hs : a.eval s = u) {v' : Value} {w' : World}
    (hr : (Builtin.append_ #[t, t'] o.type #[v, u]).run P w = .ok v' w') (h : K (a.put o.dst v') w') : o.wp P a w K Q := by
  unfold Oper.wp execOp
  simp only [ho, resolve, invoke, builtin, Sem.run_bind, Sem.run_pure, Result.andThen_ok, List.map_toArray, List.map_cons, List.map_nil, hd, hs, hr]
  exact h
theorem wpList_runA (w : World) {ops : Array Oper} {rest : List Oper} {o : Oper} {a : Act} {Q : Exit → Act → World → Prop} (hgd : o.guard = none) (d s : Operand) (t t' : TypeId)
    (ho : o.op = .call { callee := .builtin .append, args := #[d, s], argTypes := #[t, t'] }) (v u : Value) (hd : a.eval d = v) (hs : a.eval s = u) {v' : Value} {w' : World}
    (hr : (Builtin.append_ #[t, t'] o.type #[v, u]).run P w = .ok v' w') (h : wpList P ops Q rest (a.put o.dst v') w') : wpList P ops Q (o :: rest) a w :=
  wpList_plain hgd fun _ hK => wp_runA w d s t t' ho v u hd hs hr (hK _ _ h)
end

section
variable {w : World} {base n c g : Nat} {e : TypeId} {sz : Nat} {xs : List Value}
theorem owns_more (h : w.ownsRow base e sz (.slice (some ⟨g, 0, none⟩) n c) n xs) (hc : n + 1 ≤ c) : ∃ E : List Value, E.length = sz ∧ w.ownsRow base e sz (.slice (some ⟨g, 0, none⟩) (n + 1) c) (n + 1) (xs ++ E) := by
  obtain ⟨hl, h⟩ := h
  rcases h with ⟨h, _⟩ | ⟨g', c', cur, hv, hb, hg, h1, h2, h3, h4⟩
  · cases h
  · injection hv with hA _ hcc
    subst hcc
    have hm : (n + 1) * sz = n * sz + sz := by rw [Nat.succ_mul]
    have hle : (n + 1) * sz ≤ cur.toList.length := by rw [Array.length_toList, h3]; exact Nat.mul_le_mul_right _ hc
    have e1 : xs ++ (cur.toList.take ((n + 1) * sz)).drop (n * sz) = cur.toList.take ((n + 1) * sz) := by
      have := List.take_append_drop (n * sz) (cur.toList.take ((n + 1) * sz))
      rw [List.take_take, Nat.min_eq_left (by omega), h4] at this
      exact this
    refine ⟨(cur.toList.take ((n + 1) * sz)).drop (n * sz), by rw [List.length_drop, List.length_take]; omega, ?_, .inr ⟨g', c, cur, by rw [hA], hb, hg, hc, h2, h3, e1.symm⟩⟩
    rw [e1, List.length_take]
    omega
theorem owns_cell (h : w.ownsRow base e sz (.slice (some ⟨g, 0, none⟩) n c) n xs) (j : Nat) (u : Value) (hj : xs[j]? = some u) : w.cell? ⟨g, j, none⟩ = some u := by
  have := h.cells (g := g) rfl j u hj
  have e1 : (⟨g, 0, none⟩ : Addr).add j = ⟨g, j, none⟩ := by unfold Addr.add; split <;> simp_all
  rwa [e1] at this
theorem owns_isSome (h : w.ownsRow base e sz (.slice (some ⟨g, 0, none⟩) n c) n xs) {j : Nat} (hj : j < n * sz) : (w.cell? ⟨g, j, none⟩).isSome = true := by
  rw [owns_cell h j (xs[j]'(by rw [h.1]; exact hj)) (List.getElem?_eq_getElem _)]; rfl
theorem owns_fz (h : w.ownsRow base e sz (.slice (some ⟨g, 0, none⟩) n c) n xs) (o : Nat) : w.frozen? ⟨g, o, none⟩ = false := by
  obtain ⟨_, h⟩ := h
  rcases h with ⟨h, _⟩ | ⟨g', c', cur, hv, hb, hg, _⟩
  · cases h
  · injection hv with hA
    injection hA with hA
    injection hA with hA
    subst hA
    simp [World.frozen?, hg]
theorem owns_shape (h : w.ownsRow base e sz (.slice (some ⟨g, 0, none⟩) n c) n xs) : w.shape? g = some (e, c * sz) := by
  obtain ⟨_, h⟩ := h
  rcases h with ⟨h, _⟩ | ⟨g', c', cur, hv, hb, hg, _, _, h3, _⟩
  · cases h
  · injection hv with hA _ hcc
    injection hA with hA
    injection hA with hA
    subst hA hcc
    unfold World.shape?
    rw [hg]
    simp [h3]
/-- room: the elements from i on move up by one, then X goes to i. -/
theorem ins_room {E X : List Value} {i : Nat} (h : w.ownsRow base e sz (.slice (some ⟨g, 0, none⟩) (n + 1) c) (n + 1) (xs ++ E)) (hxs : xs.length = n * sz) (hE : E.length = sz) (hX : X.length = sz) (hi : i < n) :
    ((w.setCells g ((i + 1) * sz) (xs.drop (i * sz))).setCells g (i * sz) X).ownsRow base e sz (.slice (some ⟨g, 0, none⟩) (n + 1) c) (n + 1) (xs.take (i * sz) ++ (X ++ xs.drop (i * sz))) ∧
    (w.setCells g ((i + 1) * sz) (xs.drop (i * sz))).ownsRow base e sz (.slice (some ⟨g, 0, none⟩) (n + 1) c) (n + 1) (xs.take (i * sz) ++ ((xs.drop (i * sz)).take sz ++ xs.drop (i * sz))) ∧
    w.grownBy ((w.setCells g ((i + 1) * sz) (xs.drop (i * sz))).setCells g (i * sz) X) (some g) := by
  have hm : (i + 1) * sz = i * sz + sz := by rw [Nat.succ_mul]
  have hm2 : (i + 1) * sz ≤ n * sz := Nat.mul_le_mul_right _ hi
  obtain ⟨a1, g1⟩ := owns_setCells (xs.drop (i * sz)) ((i + 1) * sz) w _ h
  have e1 : xs ++ E = (xs.take (i * sz) ++ (xs.drop (i * sz)).take sz) ++ (((xs.drop (i * sz)).drop sz ++ E) ++ []) := by
    rw [List.append_nil, ← List.append_assoc, List.append_assoc (xs.take (i * sz)), List.take_append_drop, List.take_append_drop]
  have hl1 : (xs.take (i * sz) ++ (xs.drop (i * sz)).take sz).length = (i + 1) * sz := by
    rw [List.length_append, List.length_take, List.length_take, List.length_drop]; omega
  rw [e1, ← hl1, setL_mid _ _ _ _ (by rw [List.length_append, List.length_drop, hE, List.length_drop]; omega), hl1] at a1
  rw [List.append_nil, List.append_assoc] at a1
  obtain ⟨a2, g2⟩ := owns_setCells X (i * sz) _ _ a1
  have hl2 : (xs.take (i * sz)).length = i * sz := by rw [List.length_take]; omega
  have e2 := setL_mid X (xs.take (i * sz)) ((xs.drop (i * sz)).take sz) (xs.drop (i * sz)) (by rw [List.length_take, List.length_drop, hX]; omega)
  rw [hl2] at e2
  rw [e2] at a2
  exact ⟨a2, a1, g1.trans g2⟩
/-- no room: a new row. -/
theorem ins_new {W : World} {N G : Nat} {Z X : List Value} {i : Nat} (h : W.ownsRow base e sz (.slice (some ⟨N, 0, none⟩) (n + 1) G) (n + 1) (xs.take (i * sz) ++ Z)) (hxs : xs.length = n * sz) (hZ : Z.length = (n + 1 - i) * sz) (hX : X.length = sz) (hi : i < n) :
    (W.setCells N (i * sz) X).ownsRow base e sz (.slice (some ⟨N, 0, none⟩) (n + 1) G) (n + 1) (xs.take (i * sz) ++ (X ++ Z.drop sz)) ∧
    ((W.setCells N (i * sz) X).setCells N ((i + 1) * sz) (xs.drop (i * sz))).ownsRow base e sz (.slice (some ⟨N, 0, none⟩) (n + 1) G) (n + 1) (xs.take (i * sz) ++ (X ++ xs.drop (i * sz))) := by
  have hm : (i + 1) * sz = i * sz + sz := by rw [Nat.succ_mul]
  have hm2 : (i + 1) * sz ≤ n * sz := Nat.mul_le_mul_right _ hi
  have hm3 : (n + 1 - i) * sz + i * sz = n * sz + sz := by rw [← Nat.add_mul, show n + 1 - i + i = n + 1 by omega, Nat.succ_mul]
  obtain ⟨a1, _⟩ := owns_setCells X (i * sz) W _ h
  have hl2 : (xs.take (i * sz)).length = i * sz := by rw [List.length_take]; omega
  have e1 : xs.take (i * sz) ++ Z = xs.take (i * sz) ++ (Z.take sz ++ Z.drop sz) := by rw [List.take_append_drop]
  have e2 := setL_mid X (xs.take (i * sz)) (Z.take sz) (Z.drop sz) (by rw [List.length_take, hX]; omega)
  rw [hl2] at e2
  rw [e1, e2] at a1
  obtain ⟨a2, _⟩ := owns_setCells (xs.drop (i * sz)) ((i + 1) * sz) _ _ a1
  have e3 := setL_mid (xs.drop (i * sz)) (xs.take (i * sz) ++ X) (Z.drop sz) [] (by rw [List.length_drop, List.length_drop]; omega)
  rw [List.append_nil, List.append_nil, List.length_append, hl2, hX, ← hm, List.append_assoc, List.append_assoc] at e3
  rw [e3] at a2
  exact ⟨a1, a2⟩
end
theorem heap_setCells_congr (g : Nat) : ∀ (vs : List Value) (o : Nat) (w w2 : World), w.heap = w2.heap → (w.setCells g o vs).heap = (w2.setCells g o vs).heap
  | [], _, _, _, h => h
  | v :: r, o, w, w2, h => by
    rw [World.setCells, World.setCells]
    refine heap_setCells_congr g r (o + 1) _ _ ?_
    unfold World.setCell
    rw [h]
theorem owns_congr {w w2 : World} {base n : Nat} {e : TypeId} {sz : Nat} {v : Value} {xs : List Value} (h : w.heap = w2.heap) (k : w.ownsRow base e sz v n xs) : w2.ownsRow base e sz v n xs := by
  unfold World.ownsRow at k ⊢
  rw [← h]
  exact k
theorem Sl.ofBlkX {α : Type} {R : World → List Value → α → Prop} {B sz : Nat} {e : TypeId} {w : World} {b : Nat} {cs : Array Value} {x : α} (h : Blk w b e cs) (hl : cs.size = sz) (hR : R w cs.toList x) : Sl B e R sz w (some ⟨b, 0, none⟩) [x] := by
  intro i y hi
  match i, hi with
  | 0, hi =>
    simp at hi; subst hi
    exact ⟨b, 0, cs.toList, rfl, h.lt, .inr h.ty, by simp [hl], fun j u hj => by rw [Nat.zero_mul, Nat.zero_add]; exact h.cell (by rwa [Array.getElem?_toList] at hj), hR⟩
theorem insL_get {α β : Type} {Q : β → α → Prop} {X : β} {x : α} {xs : List β} {l : List α} {i : Nat} (hl : xs.length = l.length) (hi : i ≤ l.length) (hX : Q X x) (h : ∀ (k : Nat) (cs : β) (y : α), xs[k]? = some cs → l[k]? = some y → Q cs y) :
    ∀ (k : Nat) (cs : β) (y : α), (xs.take i ++ X :: xs.drop i)[k]? = some cs → (l.take i ++ x :: l.drop i)[k]? = some y → Q cs y := by
  intro k cs y h1 h2
  have l1 : (xs.take i).length = i := by rw [List.length_take]; omega
  have l2 : (l.take i).length = i := by rw [List.length_take]; omega
  rcases Nat.lt_trichotomy k i with g | g | g
  · rw [List.getElem?_append_left (by omega), List.getElem?_take, if_pos g] at h1 h2
    exact h k cs y h1 h2
  · subst g
    rw [List.getElem?_append_right (by omega), l1, Nat.sub_self] at h1
    rw [List.getElem?_append_right (by omega), l2, Nat.sub_self] at h2
    simp at h1 h2
    subst h1 h2
    exact hX
  · obtain ⟨j, rfl⟩ : ∃ j, k = i + 1 + j := ⟨k - i - 1, by omega⟩
    rw [List.getElem?_append_right (by omega), l1, show i + 1 + j - i = j + 1 by omega, List.getElem?_cons_succ, List.getElem?_drop] at h1
    rw [List.getElem?_append_right (by omega), l2, show i + 1 + j - i = j + 1 by omega, List.getElem?_cons_succ, List.getElem?_drop] at h2
    exact h (i + j) cs y h1 h2
theorem flat_take {α : Type} {sz : Nat} : ∀ (xs : List (List α)) (i : Nat), (∀ cs ∈ xs, cs.length = sz) → i ≤ xs.length → (xs.take i).flatten = xs.flatten.take (i * sz) ∧ (xs.drop i).flatten = xs.flatten.drop (i * sz)
  | xs, 0, _, _ => by simp
  | [], i + 1, _, h => by simp at h
  | x :: r, i + 1, hl, h => by
    obtain ⟨a, b⟩ := flat_take r i (fun c hc => hl c (by simp [hc])) (by simpa using h)
    have hx := hl x (by simp)
    rw [Nat.succ_mul, Nat.add_comm (i * sz) sz]
    refine ⟨?_, ?_⟩
    · rw [List.take_succ_cons, List.flatten_cons, List.flatten_cons, List.take_append, a, hx, Nat.add_sub_cancel_left, List.take_of_length_le (l := x) (by omega)]
    · rw [List.drop_succ_cons, List.flatten_cons, List.drop_append, b, hx, Nat.add_sub_cancel_left, show x.drop (sz + i * sz) = [] from List.drop_eq_nil_of_le (by omega), List.nil_append]
end Go.Proofs.Ytmedmfjhpabfdaa
