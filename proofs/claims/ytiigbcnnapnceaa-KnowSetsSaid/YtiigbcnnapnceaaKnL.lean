/- Plain law on what know.Made lays: the greatest entries of the vectors, the loop over the dots, the zeros at the end. No program in sight. -/
import Derived.Test.YtiigbcnnapnceaaKnowP
namespace Go.Proofs.Ytiigbcnnapnceaa
open Go

/-- the greatest entry of some vectors at a site. -/
def maxAt (vs : List (List Int)) (s : Int) : Int := vs.foldl (fun m l => max m (vecAt l s)) 0
theorem maxAt_nil (s : Int) : maxAt [] s = 0 := rfl
theorem maxAt_concat (vs : List (List Int)) (l : List Int) (s : Int) : maxAt (vs ++ [l]) s = max (maxAt vs s) (vecAt l s) := by simp [maxAt, List.foldl_append]
theorem maxAt_succ (vs : List (List Int)) (j : Nat) (hj : j < vs.length) (s : Int) : maxAt (vs.take (j + 1)) s = max (maxAt (vs.take j) s) (vecAt vs[j] s) := by
  rw [← List.take_append_getElem hj, maxAt_concat]
theorem maxAt_nonneg (vs : List (List Int)) (s : Int) : 0 ≤ maxAt vs s := by
  have : ∀ (vs : List (List Int)) (m : Int), 0 ≤ m → 0 ≤ vs.foldl (fun m l => max m (vecAt l s)) m := by
    intro vs
    induction vs with
    | nil => intro m h; exact h
    | cons l r ih => intro m h; exact ih (max m (vecAt l s)) (by omega)
  exact this vs 0 (by omega)
theorem maxAt_le (vs : List (List Int)) (s : Nat) (h : ∀ l ∈ vs, vecAt l s ≤ 1000) : maxAt vs s ≤ 1000 := by
  have : ∀ (vs : List (List Int)) (m : Int), m ≤ 1000 → (∀ l ∈ vs, vecAt l s ≤ 1000) → vs.foldl (fun m l => max m (vecAt l s)) m ≤ 1000 := by
    intro vs
    induction vs with
    | nil => intro m h _; exact h
    | cons l r ih => intro m h g; exact ih (max m (vecAt l s)) (by have := g l (by simp); omega) (fun l hl => g l (by simp [hl]))
  exact this vs 0 (by omega) h
theorem vecAt_take (l : List Int) (k s : Nat) : vecAt (l.take k) s = if s < k then vecAt l s else 0 := by
  unfold vecAt
  simp only [Int.toNat_natCast, List.getD_eq_getElem?_getD, List.getElem?_take]
  split <;> simp
theorem vecAt_nil (s : Int) : vecAt [] s = 0 := by simp [vecAt]

/-- behind j vectors. -/
def VOk (vs : List (List Int)) (j : Nat) (u : List Int) : Prop := u.length = 5 ∧ ∀ s : Nat, s < 5 → vecAt u s = maxAt (vs.take j) s
/-- behind j vectors and k entries of the next. -/
def VOk2 (vs : List (List Int)) (j : Nat) (l : List Int) (k : Nat) (u : List Int) : Prop := u.length = 5 ∧ ∀ s : Nat, s < 5 → vecAt u s = max (maxAt (vs.take j) s) (vecAt (l.take k) s)
theorem VOk.start (vs : List (List Int)) : VOk vs 0 [0, 0, 0, 0, 0] := by
  refine ⟨rfl, fun s hs => ?_⟩
  rw [List.take_zero, maxAt_nil]
  match s, hs with
  | 0, _ => rfl
  | 1, _ => rfl
  | 2, _ => rfl
  | 3, _ => rfl
  | 4, _ => rfl
theorem VOk.enter {vs : List (List Int)} {j : Nat} {u : List Int} (h : VOk vs j u) (l : List Int) : VOk2 vs j l 0 u :=
  ⟨h.1, fun s hs => by rw [h.2 s hs, List.take_zero, vecAt_nil]; have := maxAt_nonneg (vs.take j) s; omega⟩
theorem VOk2.leave {vs : List (List Int)} {j : Nat} {u : List Int} (hj : j < vs.length) (h : VOk2 vs j vs[j] vs[j].length u) : VOk vs (j + 1) u :=
  ⟨h.1, fun s hs => by rw [h.2 s hs, List.take_length, maxAt_succ vs j hj]⟩
theorem VOk2.step {vs : List (List Int)} {j k : Nat} {l u : List Int} (h : VOk2 vs j l k u) (hk : k < l.length) (h5 : k < 5) (hu : k < u.length) : VOk2 vs j l (k + 1) (u.set k (max u[k] l[k])) := by
  refine ⟨by simp [h.1], fun s hs => ?_⟩
  have e1 : vecAt (u.set k (max u[k] l[k])) s = if s = k then max u[k] l[k] else vecAt u s := by
    have := vecAt_set u k s (max u[k] l[k]) (by omega) (by omega) (by simpa using hu)
    rw [Int.toNat_natCast] at this
    rw [this]
    by_cases e : s = k
    · subst e; simp
    · rw [if_neg (by omega), if_neg e]
  rw [e1, vecAt_take]
  by_cases e : s = k
  · subst e
    rw [if_pos rfl, if_pos (by omega)]
    have h1 := h.2 s hs
    have h2 : vecAt u s = u[s] := by simp [vecAt, hu]
    have h3 : vecAt l s = l[s] := by simp [vecAt, hk]
    rw [h2, vecAt_take, if_neg (by omega)] at h1
    have := maxAt_nonneg (vs.take j) s
    rw [h3]; omega
  · rw [if_neg e, h.2 s hs, vecAt_take]
    by_cases g : s < k
    · rw [if_pos g, if_pos (by omega)]
    · rw [if_neg g, if_neg (by omega)]

/-- the set that some vectors and dots tell. -/
def setOf (vs : List (List Int)) (ds : List Dot) : DSet := fun s c => decide (1 ≤ c) && (decide ((c : Int) ≤ maxAt vs s) || ds.contains ⟨s, c⟩)

theorem madeStep_len (st : List Int × List Dot) (d : Dot) : (madeStep st d).1.length = st.1.length ∧ (madeStep st d).2.length ≤ st.2.length + 1 := by
  unfold madeStep
  split
  · simp
  · split
    · simp
    · split <;> simp
theorem madeFold_succ (v : List Int) (l : List Dot) (j : Nat) (hj : j < l.length) : madeFold v (l.take (j + 1)) = madeStep (madeFold v (l.take j)) l[j] := by
  unfold madeFold
  rw [← List.take_append_getElem hj, List.foldl_append]
  rfl
theorem madeFold_len (v : List Int) (l : List Dot) : ∀ j, j ≤ l.length → (madeFold v (l.take j)).1.length = v.length ∧ (madeFold v (l.take j)).2.length ≤ j
  | 0, _ => by simp [madeFold]
  | j + 1, h => by
    obtain ⟨h1, h2⟩ := madeFold_len v l j (by omega)
    obtain ⟨g1, g2⟩ := madeStep_len (madeFold v (l.take j)) l[j]
    rw [madeFold_succ v l j (by omega)]
    omega
theorem madeFold_le {v : List Int} {l : List Dot} (hl : v.length = 5) (hv : ∀ s : Nat, s < 5 → 0 ≤ vecAt v s ∧ vecAt v s ≤ 1000) (hd : ∀ d ∈ l, dotOk d = true) (ho : OrdD l) (j : Nat) :
    MadeOk v (l.take j) (madeFold v (l.take j)) := by
  have h := made_ok v (l.take j) [] (v, []) ⟨hl, fun _ _ => Int.le_refl _, hv, fun s hs c c1 c2 => .inl c2, SortedD.nil, by simp, by simp, by simp⟩ (fun d h => hd d (List.mem_of_mem_take h)) (ho.sublist (List.take_sublist j l)) (by simp)
  rwa [List.nil_append] at h
theorem madeFold_full (v : List Int) (l : List Dot) : madeFold v (l.take l.length) = madeFold v l := by rw [List.take_length]

/-- what Made answers. -/
theorem made_set {vs : List (List Int)} {ds l : List Dot} {v : List Int} (hv : VOk vs vs.length v) (hb : ∀ s : Nat, s < 5 → 0 ≤ vecAt v s ∧ vecAt v s ≤ 1000) (hp : l.Perm ds) (ho : OrdD l) (hd : ∀ d ∈ l, dotOk d = true) :
    made v l = formOf (setOf vs ds) := by
  have hmem : ∀ n ∈ v, 0 ≤ n ∧ n ≤ 1000 := by
    intro n hn
    obtain ⟨i, hi, rfl⟩ := List.getElem_of_mem hn
    have := hb i (by have := hv.1; omega)
    rwa [show vecAt v i = v[i] by simp [vecAt, hi]] at this
  rw [made_form hv.1 hmem hd ho]
  apply formOf_congr
  intro s hs c c1 c2
  have h1 := hv.2 s hs
  rw [List.take_length] at h1
  have h2 : l.contains (⟨s, c⟩ : Dot) = ds.contains ⟨s, c⟩ := by
    rw [Bool.eq_iff_iff, List.contains_iff_mem, List.contains_iff_mem]; exact hp.mem_iff
  simp only [madeSet, setOf, h1, h2]
theorem vok_bound {vs : List (List Int)} {v : List Int} (hv : VOk vs vs.length v) (hle : ∀ l ∈ vs, ∀ n ∈ l, 0 ≤ n ∧ n ≤ 1000) : ∀ s : Nat, s < 5 → 0 ≤ vecAt v s ∧ vecAt v s ≤ 1000 := by
  intro s hs
  have h1 := hv.2 s hs
  rw [List.take_length] at h1
  rw [h1]
  refine ⟨maxAt_nonneg _ _, maxAt_le _ _ fun l hl => ?_⟩
  by_cases h : s < l.length
  · rw [show vecAt l s = l[s] by simp [vecAt, h]]
    exact (hle l hl _ (List.getElem_mem h)).2
  · rw [show vecAt l s = 0 by simp [vecAt, h]]; omega

theorem trim_zero {v : List Int} {n : Nat} (hn : n < v.length) (h : v[n] = 0) : trim (v.take (n + 1)) = trim (v.take n) := by
  rw [← List.take_append_getElem hn, h]
  unfold trim
  rw [List.reverse_append]
  simp
theorem trim_done {v : List Int} {n : Nat} (hn : n < v.length) (h : v[n] ≠ 0) : trim (v.take (n + 1)) = v.take (n + 1) := by
  rw [← List.take_append_getElem hn]
  unfold trim
  rw [List.reverse_append]
  simp [h]
theorem trim_nil : trim [] = [] := rfl

end Go.Proofs.Ytiigbcnnapnceaa
