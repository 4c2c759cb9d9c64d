/- A row of the call's own: two elements change places. No program in sight but its table of types. -/
import Derived.Test.YtmedmfjhpabfdaaSrtP
import Derived.Laws.OwnMore
import Derived.Laws.IdiomCopy
namespace Go.Proofs.Ytmedmfjhpabfdaa
open Go Go.RowKit

/-- a run of stores into a list. -/
def setL : List Value → Nat → List Value → List Value
  | l, _, [] => l
  | l, o, v :: r => setL (l.set o v) (o + 1) r
theorem setL_mid : ∀ (Y P X S : List Value), X.length = Y.length → setL (P ++ (X ++ S)) P.length Y = P ++ (Y ++ S)
  | [], P, X, S, h => by rw [List.eq_nil_of_length_eq_zero h]; rfl
  | y :: Y, P, x :: X, S, h => by
    have := setL_mid Y (P ++ [y]) X S (by simpa using h)
    rw [setL, List.cons_append, List.set_append_right _ _ (Nat.le_refl _), Nat.sub_self, List.set_cons_zero]
    rw [List.length_append, List.length_singleton, List.append_assoc] at this
    rw [show P ++ y :: (X ++ S) = P ++ ([y] ++ (X ++ S)) from rfl, this]
    simp
theorem flat_len8 {sz : Nat} : ∀ (xs : List (List Value)), (∀ cs ∈ xs, cs.length = sz) → xs.flatten.length = xs.length * sz
  | [], _ => by simp
  | x :: r, h => by
    rw [List.flatten_cons, List.length_append, h x (by simp), flat_len8 r (fun c hc => h c (by simp [hc])), List.length_cons, Nat.succ_mul, Nat.add_comm]
section
variable {w : World} {base n cap g : Nat} {e : TypeId} {sz : Nat}
theorem owns_setCells : ∀ (vs : List Value) (o : Nat) (w : World) (xs : List Value), w.ownsRow base e sz (.slice (some ⟨g, 0, none⟩) n cap) n xs → (w.setCells g o vs).ownsRow base e sz (.slice (some ⟨g, 0, none⟩) n cap) n (setL xs o vs) ∧ w.grownBy (w.setCells g o vs) (some g)
  | [], o, w, xs, h => ⟨h, World.grownBy.refl w _⟩
  | v :: r, o, w, xs, h => by
    obtain ⟨h1, g1⟩ := h.stored o v
    obtain ⟨h2, g2⟩ := owns_setCells r (o + 1) _ _ h1
    exact ⟨h2, g1.trans g2⟩
theorem cut_at {α : Type} {l : List α} {n : Nat} (h : n ≤ l.length) : ∃ x y, l = x ++ y ∧ x.length = n := ⟨l.take n, l.drop n, (List.take_append_drop _ _).symm, by rw [List.length_take]; omega⟩
theorem own_split {α : Type} {R : World → List Value → α → Prop} {v : Value} {P M S : List α} {x y : α} (h : Own R sz e w base v (P ++ x :: (M ++ y :: S))) :
    ∃ (XP : List (List Value)) (X : List Value) (XM : List (List Value)) (Y : List Value) (XS : List (List Value)), XP.length = P.length ∧ XM.length = M.length ∧ XS.length = S.length ∧
      (∀ (i : Nat) (cs : List Value) (z : α), (XP ++ X :: (XM ++ Y :: XS))[i]? = some cs → (P ++ x :: (M ++ y :: S))[i]? = some z → cs.length = sz ∧ R w cs z) ∧ w.ownsRow base e sz v (P ++ x :: (M ++ y :: S)).length (XP ++ X :: (XM ++ Y :: XS)).flatten := by
  obtain ⟨xs, hx, hR, ho⟩ := h
  simp only [List.length_append, List.length_cons] at hx
  obtain ⟨XP, r1, rfl, h1⟩ := cut_at (l := xs) (n := P.length) (by omega)
  rw [List.length_append] at hx
  match r1, hx with
  | X :: r2, hx =>
    simp only [List.length_cons] at hx
    obtain ⟨XM, r3, rfl, h2⟩ := cut_at (l := r2) (n := M.length) (by omega)
    rw [List.length_append] at hx
    match r3, hx with
    | Y :: XS, hx =>
      simp only [List.length_cons] at hx
      exact ⟨XP, X, XM, Y, XS, h1, h2, by omega, hR, ho⟩
    | [], hx => exact absurd hx (by simp; omega)
  | [], hx => exact absurd hx (by simp; omega)
theorem get_mid {α : Type} (P : List α) (x : α) (S : List α) : (P ++ x :: S)[P.length]? = some x := by simp
theorem get_mid2 {α : Type} (P : List α) (x : α) (M : List α) (y : α) (S : List α) : (P ++ x :: (M ++ y :: S))[P.length + 1 + M.length]? = some y := by
  rw [List.getElem?_append_right (by omega), show P.length + 1 + M.length - P.length = M.length + 1 by omega, List.getElem?_cons_succ]
  simp
/-- two lists of which two elements change places: what stands at a place stood there, or is one of the two. -/
theorem swap_get {α β : Type} {P M S : List α} {x y : α} {XP XM XS : List β} {X Y : β} (h1 : XP.length = P.length) (h2 : XM.length = M.length) {Q : β → α → Prop}
    (h : ∀ (i : Nat) (cs : β) (z : α), (XP ++ X :: (XM ++ Y :: XS))[i]? = some cs → (P ++ x :: (M ++ y :: S))[i]? = some z → Q cs z) :
    ∀ (i : Nat) (cs : β) (z : α), (XP ++ Y :: (XM ++ X :: XS))[i]? = some cs → (P ++ y :: (M ++ x :: S))[i]? = some z → Q cs z := by
  have hX : Q X x := h P.length X x (by rw [← h1]; exact get_mid _ _ _) (get_mid _ _ _)
  have hY : Q Y y := h (P.length + 1 + M.length) Y y (by rw [← h1, ← h2]; exact get_mid2 _ _ _ _ _) (get_mid2 _ _ _ _ _)
  intro i cs z hc hz
  by_cases e1 : i = P.length
  · subst e1
    rw [get_mid] at hz
    rw [← h1, get_mid] at hc
    injection hz with hz
    injection hc with hc
    subst hz hc
    exact hY
  · by_cases e2 : i = P.length + 1 + M.length
    · subst e2
      rw [get_mid2] at hz
      rw [← h1, ← h2, get_mid2] at hc
      injection hz with hz
      injection hc with hc
      subst hz hc
      exact hX
    · refine h i cs z ?_ ?_
      · rw [← hc]
        rcases Nat.lt_or_ge i P.length with g | g
        · rw [List.getElem?_append_left (by omega), List.getElem?_append_left (by omega)]
        · obtain ⟨k, rfl⟩ : ∃ k, i = P.length + 1 + k := ⟨i - P.length - 1, by omega⟩
          rw [← h1, List.getElem?_append_right (by omega), List.getElem?_append_right (by omega), show XP.length + 1 + k - XP.length = k + 1 by omega, List.getElem?_cons_succ, List.getElem?_cons_succ]
          rcases Nat.lt_or_ge k M.length with g2 | g2
          · rw [List.getElem?_append_left (by omega), List.getElem?_append_left (by omega)]
          · obtain ⟨j, rfl⟩ : ∃ j, k = M.length + 1 + j := ⟨k - M.length - 1, by omega⟩
            rw [← h2, List.getElem?_append_right (by omega), List.getElem?_append_right (by omega), show XM.length + 1 + j - XM.length = j + 1 by omega, List.getElem?_cons_succ, List.getElem?_cons_succ]
      · rw [← hz]
        rcases Nat.lt_or_ge i P.length with g | g
        · rw [List.getElem?_append_left (by omega), List.getElem?_append_left (by omega)]
        · obtain ⟨k, rfl⟩ : ∃ k, i = P.length + 1 + k := ⟨i - P.length - 1, by omega⟩
          rw [List.getElem?_append_right (by omega), List.getElem?_append_right (by omega), show P.length + 1 + k - P.length = k + 1 by omega, List.getElem?_cons_succ, List.getElem?_cons_succ]
          rcases Nat.lt_or_ge k M.length with g2 | g2
          · rw [List.getElem?_append_left (by omega), List.getElem?_append_left (by omega)]
          · obtain ⟨j, rfl⟩ : ∃ j, k = M.length + 1 + j := ⟨k - M.length - 1, by omega⟩
            rw [List.getElem?_append_right (by omega), List.getElem?_append_right (by omega), show M.length + 1 + j - M.length = j + 1 by omega, List.getElem?_cons_succ, List.getElem?_cons_succ]
/-- two elements of a row of the call's own change places, cell by cell: Y at the first's place, then X at the second's. -/
theorem own_swap {α : Type} {R : World → List Value → α → Prop} {B : Nat} (m : Mono B [e] R) (hB : B ≤ base) {P M S : List α} {x y : α} {c : Nat}
    (h : Own R sz e w base (.slice (some ⟨g, 0, none⟩) (P ++ x :: (M ++ y :: S)).length c) (P ++ x :: (M ++ y :: S))) :
    ∃ X Y : List Value, X.length = sz ∧ Y.length = sz ∧ R w X x ∧ R w Y y ∧ CellsAt w g (P.length * sz) X ∧ CellsAt w g ((P.length + 1 + M.length) * sz) Y ∧ (∀ o, w.frozen? ⟨g, o, none⟩ = false) ∧
      (Own R sz e ((w.setCells g (P.length * sz) Y).setCells g ((P.length + 1 + M.length) * sz) X) base (.slice (some ⟨g, 0, none⟩) (P ++ y :: (M ++ x :: S)).length c) (P ++ y :: (M ++ x :: S)) ∧ w.grownBy ((w.setCells g (P.length * sz) Y).setCells g ((P.length + 1 + M.length) * sz) X) (some g)) ∧
      (Own R sz e ((w.setCells g ((P.length + 1 + M.length) * sz) X).setCells g (P.length * sz) Y) base (.slice (some ⟨g, 0, none⟩) (P ++ y :: (M ++ x :: S)).length c) (P ++ y :: (M ++ x :: S)) ∧ w.grownBy ((w.setCells g ((P.length + 1 + M.length) * sz) X).setCells g (P.length * sz) Y) (some g)) := by
  obtain ⟨XP, X, XM, Y, XS, h1, h2, h3, hR, ho⟩ := own_split h
  have hX := hR P.length X x (by rw [← h1]; exact get_mid _ _ _) (get_mid _ _ _)
  have hY := hR (P.length + 1 + M.length) Y y (by rw [← h1, ← h2]; exact get_mid2 _ _ _ _ _) (get_mid2 _ _ _ _ _)
  have hall : ∀ cs ∈ XP ++ X :: (XM ++ Y :: XS), cs.length = sz := by
    intro cs hcs
    obtain ⟨i, hi, rfl⟩ := List.getElem_of_mem hcs
    exact (hR i _ _ (List.getElem?_eq_getElem hi) (List.getElem?_eq_getElem (by simp only [List.length_append, List.length_cons] at hi ⊢; omega))).1
  have hlP : XP.flatten.length = P.length * sz := by rw [flat_len8 XP (fun cs hc => hall cs (by simp [hc])), h1]
  have hlM : XM.flatten.length = M.length * sz := by rw [flat_len8 XM (fun cs hc => hall cs (by simp [hc])), h2]
  have hlen : (P ++ x :: (M ++ y :: S)).length = (P ++ y :: (M ++ x :: S)).length := by simp
  have fl : ∀ U V : List Value, (XP ++ U :: (XM ++ V :: XS)).flatten = XP.flatten ++ (U ++ (XM.flatten ++ (V ++ XS.flatten))) := fun U V => by simp
  have hsw := swap_get (P := P) (M := M) (S := S) (x := x) (y := y) (XP := XP) (XM := XM) (XS := XS) (X := X) (Y := Y) h1 h2 (Q := fun cs z => cs.length = sz ∧ R w cs z) hR
  have cell : ∀ i cs, (XP ++ X :: (XM ++ Y :: XS))[i]? = some cs → CellsAt w g (i * sz) cs := by
    intro i cs hi j u hj
    have hjs : j < sz := by
      have := (List.getElem?_eq_some_iff.1 hj).1
      rw [hall cs (List.mem_of_getElem? hi)] at this
      exact this
    have := ho.cells (g := g) rfl (i * sz + j) u (by rw [flatten_get sz _ hall i j cs hi hjs]; exact hj)
    have e1 : (⟨g, 0, none⟩ : Addr).add (i * sz + j) = ⟨g, i * sz + j, none⟩ := by unfold Addr.add; split <;> simp_all
    rwa [e1] at this
  have hfz : ∀ o, w.frozen? ⟨g, o, none⟩ = false := by
    intro o
    rcases h.at_ with ⟨h', _⟩ | ⟨g', c', h', _, _, _, hf, _⟩
    · simp at h'
    · injection h' with h' _ _
      injection h' with h'
      injection h' with h' _ _
      subst h'
      exact hf o
  have fin : ∀ w' zs, w'.ownsRow base e sz (.slice (some ⟨g, 0, none⟩) (P ++ x :: (M ++ y :: S)).length c) (P ++ x :: (M ++ y :: S)).length zs → zs = (XP ++ Y :: (XM ++ X :: XS)).flatten → w.grownBy w' (some g) → Own R sz e w' base (.slice (some ⟨g, 0, none⟩) (P ++ y :: (M ++ x :: S)).length c) (P ++ y :: (M ++ x :: S)) := by
    intro w' zs hz hzs hg
    have hch : Chg B [e] w w' := h.chg_of hB hg
    rw [hlen, hzs] at hz
    exact ⟨XP ++ Y :: (XM ++ X :: XS), by simp only [List.length_append, List.length_cons]; omega, fun i cs z a b => ⟨(hsw i cs z a b).1, m _ _ _ _ hch (hsw i cs z a b).2⟩, hz⟩
  rw [fl] at ho
  refine ⟨X, Y, hX.1, hY.1, hX.2, hY.2, ?_, ?_, hfz, ?_, ?_⟩
  · rw [← h1]; exact cell _ _ (get_mid _ _ _)
  · rw [← h1, ← h2]; exact cell _ _ (get_mid2 _ _ _ _ _)
  · obtain ⟨a1, g1⟩ := owns_setCells Y (P.length * sz) w _ ho
    rw [← hlP, setL_mid Y _ X _ (by rw [hX.1, hY.1])] at a1
    obtain ⟨a2, g2⟩ := owns_setCells X ((P.length + 1 + M.length) * sz) _ _ a1
    have e1 : (P.length + 1 + M.length) * sz = (XP.flatten ++ (Y ++ XM.flatten)).length := by
      rw [List.length_append, List.length_append, hlP, hlM, hY.1, Nat.add_mul, Nat.add_mul]; omega
    rw [show XP.flatten ++ (Y ++ (XM.flatten ++ (Y ++ XS.flatten))) = (XP.flatten ++ (Y ++ XM.flatten)) ++ (Y ++ XS.flatten) by simp, e1, setL_mid X _ Y _ (by rw [hX.1, hY.1])] at a2
    rw [← hlP, e1]
    rw [← hlP] at g1
    exact ⟨fin _ _ a2 (by rw [fl]; simp) (g1.trans (by rw [e1] at g2; exact g2)), g1.trans (by rw [e1] at g2; exact g2)⟩
  · have e1 : (P.length + 1 + M.length) * sz = (XP.flatten ++ (X ++ XM.flatten)).length := by
      rw [List.length_append, List.length_append, hlP, hlM, hX.1, Nat.add_mul, Nat.add_mul]; omega
    have ho2 := ho
    rw [show XP.flatten ++ (X ++ (XM.flatten ++ (Y ++ XS.flatten))) = (XP.flatten ++ (X ++ XM.flatten)) ++ (Y ++ XS.flatten) by simp] at ho2
    obtain ⟨a1, g1⟩ := owns_setCells X ((P.length + 1 + M.length) * sz) w _ ho2
    rw [e1, setL_mid X _ Y _ (by rw [hX.1, hY.1])] at a1
    rw [show (XP.flatten ++ (X ++ XM.flatten)) ++ (X ++ XS.flatten) = XP.flatten ++ (X ++ (XM.flatten ++ (X ++ XS.flatten))) by simp] at a1
    obtain ⟨a2, g2⟩ := owns_setCells Y (P.length * sz) _ _ a1
    rw [← hlP, setL_mid Y _ X _ (by rw [hX.1, hY.1])] at a2
    rw [e1, ← hlP]
    rw [e1] at g1
    exact ⟨fin _ _ a2 (by rw [fl]) (g1.trans (by rw [← hlP] at g2; exact g2)), g1.trans (by rw [← hlP] at g2; exact g2)⟩
end
end Go.Proofs.Ytmedmfjhpabfdaa
