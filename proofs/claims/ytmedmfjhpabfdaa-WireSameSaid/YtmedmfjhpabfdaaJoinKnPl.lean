/- Several texts in one: data, readings, plain laws, walks. No condition. -/
import Derived.Test.YtmedmfjhpabfdaaKnI
import Derived.Test.YtmedmfjhpabfdaaBase
namespace Go.Proofs.Ytmedmfjhpabfdaa
open Go Go.RowKit

theorem clean_has {k : Know} (hk : KnowOk k) : Clean (hasK k) := by
  intro s c h
  simp only [hasK, Bool.or_eq_true, Bool.and_eq_true, decide_eq_true_eq, List.contains_iff_mem] at h
  obtain ⟨h1, h2 | h2⟩ := h
  · have hb := vecAt_bd hk.vec s
    refine ⟨?_, h1, by omega⟩
    apply Nat.lt_of_not_le
    intro hn
    rw [vecAt_out (by have := hk.vlen; omega)] at h2
    omega
  · obtain ⟨o1, o2, o3, o4⟩ := dotOk_iff.1 (hk.more _ h2).1
    simp only at o1 o2 o3 o4
    omega
/-- are the words of two sets the same? -/
def eqD (S T : DSet) : Bool := allTo (fun i => allTo (fun k => ((wordOf S i k : Nat) : Int) == ((wordOf T i k : Nat) : Int)) 16) 5
theorem eqD_iff (S T : DSet) : eqD S T = true ↔ EqWords S T := by
  unfold eqD EqWords
  rw [allTo_iff]
  constructor
  · intro h s hs k hk
    have h1 := (allTo_iff _ _).1 (h s hs) k hk
    rw [beq_iff_eq] at h1
    omega
  · intro h s hs
    refine (allTo_iff _ _).2 fun k hk => ?_
    rw [beq_iff_eq, h s hs k hk]
theorem inK_has (k : Know) (s c : Nat) (hc : 1 ≤ c) : inK k ⟨(s : Int), (c : Int)⟩ = hasK k s c := by
  simp only [inK, hasK, decide_eq_true hc, Bool.true_and]

end Go.Proofs.Ytmedmfjhpabfdaa

namespace Go.Proofs.Ytmedmfjhpabfdaa
open Go Go.RowKit

def partsGo : List Part → Int
  | [] => 0
  | p :: r => if filterCheck p.filter = 0 then (if knowCheck p.know = 0 then partsGo r else knowCheck p.know) else filterCheck p.filter
def partsCheck (l : List Part) : Int := if 30 < l.length then 2 else partsGo l
theorem partsGo_drop (l : List Part) (k : Nat) (hk : k < l.length) : partsGo (l.drop k) = if filterCheck l[k].filter = 0 then (if knowCheck l[k].know = 0 then partsGo (l.drop (k + 1)) else knowCheck l[k].know) else filterCheck l[k].filter := by
  rw [List.drop_eq_getElem_cons hk, partsGo]
structure PartOk (p : Part) : Prop where
  f : filterCheck p.filter = 0
  k : KnowOk p.know
theorem partsGo_ok : ∀ l : List Part, partsGo l = 0 ↔ ∀ p ∈ l, PartOk p
  | [] => by simp [partsGo]
  | p :: r => by
    rw [partsGo]
    by_cases h1 : filterCheck p.filter = 0
    · rw [if_pos h1]
      by_cases h2 : knowCheck p.know = 0
      · rw [if_pos h2, partsGo_ok r]
        simp only [List.mem_cons, forall_eq_or_imp]
        exact ⟨fun h => ⟨⟨h1, knowCheck_iff.1 h2⟩, h⟩, fun h => h.2⟩
      · rw [if_neg h2]
        exact ⟨fun h => absurd h h2, fun h => absurd (knowCheck_iff.2 (h p (by simp)).k) h2⟩
    · rw [if_neg h1]
      exact ⟨fun h => absurd h h1, fun h => absurd (h p (by simp)).f h1⟩
theorem partsCheck_ok {l : List Part} (h : partsCheck l = 0) : l.length ≤ 30 ∧ ∀ p ∈ l, PartOk p := by
  unfold partsCheck at h
  by_cases hl : 30 < l.length
  · rw [if_pos hl] at h; cases h
  · rw [if_neg hl] at h
    exact ⟨by omega, (partsGo_ok l).1 h⟩
theorem partsCheck_of {l : List Part} (h : l.length ≤ 30) (hp : ∀ p ∈ l, PartOk p) : partsCheck l = 0 := by
  rw [partsCheck, if_neg (by omega), (partsGo_ok l).2 hp]

/-! is a dot known of a point? -/
def partIn (p : Point) (d : Dot) (x : Part) : Bool := filterIn x.filter p && inK x.know d
def partsIn (l : List Part) (p : Point) (d : Dot) : Bool := l.any (partIn p d)
def partsHasErr (l : List Part) (p : Point) (d : Dot) : Int := if partsCheck l = 0 then (if (pointOk p && dotOk d) = true then 0 else 1) else partsCheck l
def partsHas (l : List Part) (p : Point) (d : Dot) : Bool := if partsCheck l = 0 then (if (pointOk p && dotOk d) = true then partsIn l p d else false) else false

/-- what a part says: of which points which dots. -/
structure RP where
  P : Nat → Bool
  K : DSet
def meanOf (x : Part) : RP := ⟨pts x.filter, hasK x.know⟩
def knowsR (l : List RP) (i s c : Nat) : Bool := l.any fun x => x.P i && x.K s c
theorem any_takeR {α : Type} (q : α → Bool) (f : List α) (k : Nat) (hk : k < f.length) : (f.take (k + 1)).any q = ((f.take k).any q || q f[k]) := by
  rw [List.take_succ_eq_append_getElem hk, List.any_append]; simp
theorem partsIn_mean (l : List Part) (p : Point) (hp : pointOk p = true) (s c : Nat) (hc : 1 ≤ c) : partsIn l p ⟨(s : Int), (c : Int)⟩ = knowsR (l.map meanOf) (32 * p.tags + p.num).toNat s c := by
  unfold partsIn knowsR partIn
  rw [List.any_map]
  congr 1
  funext x
  simp only [Function.comp, meanOf, filterIn_pts x.filter hp, inK_has x.know s c hc]

/-! what is known of a point. -/
def setAt (l : List RP) (i : Nat) : DSet := fun s c => l.any fun x => x.P i && x.K s c
theorem setAt_step (l : List RP) (i k : Nat) (hk : k < l.length) : setAt (l.take (k + 1)) i = if l[k].P i = true then orD (setAt (l.take k) i) l[k].K else setAt (l.take k) i := by
  funext s c
  unfold setAt
  rw [any_takeR _ _ _ hk]
  split
  · rename_i h; simp [orD, h]
  · rename_i h; simp [h]
def partsWithinR (a b : List RP) : Bool := allTo (fun i => eqD (andD (setAt a i) (setAt b i)) (setAt a i)) 512

def atL (l : List Part) (p : Point) : List Part := l.filter fun x => filterIn x.filter p
def atVecs (l : List Part) (p : Point) : List (List Int) := (atL l p).map fun x => x.know.vec
def atDots (l : List Part) (p : Point) : List Dot := (atL l p).flatMap fun x => x.know.more
theorem atL_yes (l : List Part) (p : Point) (k : Nat) (hk : k < l.length) (h : filterIn l[k].filter p = true) : atL (l.take (k + 1)) p = atL (l.take k) p ++ [l[k]] := by
  unfold atL
  rw [List.take_succ_eq_append_getElem hk, List.filter_append]
  simp [h]
theorem atL_no (l : List Part) (p : Point) (k : Nat) (hk : k < l.length) (h : filterIn l[k].filter p = false) : atL (l.take (k + 1)) p = atL (l.take k) p := by
  unfold atL
  rw [List.take_succ_eq_append_getElem hk, List.filter_append]
  simp [h]
theorem atL_len (l : List Part) (p : Point) (k : Nat) : (atL (l.take k) p).length ≤ l.length := by
  unfold atL
  have h1 := List.length_filter_le (fun x : Part => filterIn x.filter p) (l.take k)
  have h2 : (l.take k).length ≤ l.length := by rw [List.length_take]; omega
  omega
theorem flatMap_len {α β : Type} (f : α → List β) (n : Nat) : ∀ (l : List α), (∀ x ∈ l, (f x).length ≤ n) → (l.flatMap f).length ≤ l.length * n
  | [], _ => by simp
  | x :: r, h => by
    have h1 := h x (by simp)
    have h2 := flatMap_len f n r fun y hy => h y (by simp [hy])
    simp only [List.flatMap_cons, List.length_append, List.length_cons, Nat.succ_mul]
    omega
theorem atDots_len (l : List Part) (p : Point) (h : ∀ x ∈ l, KnowOk x.know) (k : Nat) : (atDots (l.take k) p).length ≤ l.length * 60 := by
  unfold atDots
  have h1 := flatMap_len (fun x : Part => x.know.more) 60 (atL (l.take k) p) fun x hx => (h x (List.mem_of_mem_take (List.mem_filter.1 hx).1)).mlen
  have h2 := atL_len l p k
  have h3 := Nat.mul_le_mul_right 60 h2
  omega
def atK (l : List Part) (p : Point) : Know := formOf (setOf (atVecs l p) (atDots l p))
def withinK (a b : Know) : Bool := decide (formOf (setOf [a.vec, b.vec] [a.more, b.more].flatten) = b)
def partsWithinP (a b : List Part) : Bool := allTo (fun t => allTo (fun n => withinK (atK a ⟨(t : Int), (n : Int)⟩) (atK b ⟨(t : Int), (n : Int)⟩)) 32) 16
def partsTwo (a b : List Part) : Int := if partsCheck a = 0 then partsCheck b else partsCheck a
def partsWithin (a b : List Part) : Bool := if partsTwo a b = 0 then partsWithinP a b else false

theorem maxFold_iff (s c : Nat) : ∀ (vs : List (List Int)) (m : Int), (c : Int) ≤ vs.foldl (fun m l => max m (vecAt l s)) m ↔ (c : Int) ≤ m ∨ ∃ v ∈ vs, (c : Int) ≤ vecAt v s
  | [], m => by simp
  | v :: r, m => by
    rw [List.foldl_cons, maxFold_iff s c r]
    simp only [List.mem_cons, exists_eq_or_imp]
    constructor
    · rintro (h | h)
      · by_cases h1 : (c : Int) ≤ m
        · exact .inl h1
        · exact .inr (.inl (by omega))
      · exact .inr (.inr h)
    · rintro (h | h | h)
      · exact .inl (by omega)
      · exact .inl (by omega)
      · exact .inr h
theorem maxAt_iff (s c : Nat) (hc : 1 ≤ c) (vs : List (List Int)) : (c : Int) ≤ maxAt vs s ↔ ∃ v ∈ vs, (c : Int) ≤ vecAt v s := by
  rw [maxAt, maxFold_iff]
  exact ⟨fun h => h.resolve_left (by omega), .inr⟩
/-- the union of sets, told by all vectors and all dots together. -/
theorem setOf_union {α : Type} (f : α → Know) (l : List α) (s c : Nat) (hc : 1 ≤ c) : setOf (l.map fun x => (f x).vec) (l.flatMap fun x => (f x).more) s c = l.any fun x => hasK (f x) s c := by
  rw [Bool.eq_iff_iff]
  simp only [setOf, hasK, List.any_eq_true, Bool.and_eq_true, Bool.or_eq_true, decide_eq_true_eq, List.contains_iff_mem, maxAt_iff s c hc, List.mem_map, List.mem_flatMap]
  constructor
  · rintro ⟨_, ⟨v, ⟨x, hx, rfl⟩, h⟩ | ⟨x, hx, h⟩⟩
    · exact ⟨x, hx, hc, .inl h⟩
    · exact ⟨x, hx, hc, .inr h⟩
  · rintro ⟨x, hx, _, h | h⟩
    · exact ⟨hc, .inl ⟨_, ⟨x, hx, rfl⟩, h⟩⟩
    · exact ⟨hc, .inr ⟨x, hx, h⟩⟩
theorem atK_form (l : List Part) (p : Point) (hp : pointOk p = true) : atK l p = formOf (setAt (l.map meanOf) (32 * p.tags + p.num).toNat) := by
  apply formOf_congr
  intro s _ c hc _
  unfold atVecs atDots
  rw [setOf_union (fun x : Part => x.know) (atL l p) s c hc]
  unfold setAt atL
  rw [List.any_map, List.any_filter]
  congr 1
  funext x
  simp only [Function.comp, meanOf, filterIn_pts x.filter hp]
theorem clean_setAt {l : List Part} (h : ∀ x ∈ l, KnowOk x.know) (i : Nat) : Clean (setAt (l.map meanOf) i) := by
  intro s c hs
  unfold setAt at hs
  obtain ⟨x, hx, h1⟩ := List.any_eq_true.1 hs
  obtain ⟨y, hy, rfl⟩ := List.mem_map.1 hx
  simp only [meanOf, Bool.and_eq_true] at h1
  exact clean_has (h y hy) s c h1.2
theorem join_any (k l : Know) (s c : Nat) (hc : 1 ≤ c) : setOf [k.vec, l.vec] [k.more, l.more].flatten s c = orD (hasK k) (hasK l) s c := by
  have h := setOf_union (fun x : Know => x) [k, l] s c hc
  simp only [List.map_cons, List.map_nil, List.flatMap_cons, List.flatMap_nil, List.any_cons, List.any_nil, Bool.or_false] at h
  simp only [List.flatten_cons, List.flatten_nil, orD]
  exact h
theorem withinK_form (S T : DSet) : withinK (formOf S) (formOf T) = true ↔ SameSet (orD S T) T := by
  unfold withinK
  rw [decide_eq_true_eq]
  have h1 : formOf (setOf [(formOf S).vec, (formOf T).vec] [(formOf S).more, (formOf T).more].flatten) = formOf (orD S T) := by
    apply formOf_congr
    intro s hs c hc c2
    rw [join_any _ _ s c hc]
    simp only [orD, formOf_has S s hs c hc c2, formOf_has T s hs c hc c2]
  rw [h1]
  exact ⟨same_of_form, formOf_congr⟩
theorem within_at (S T : DSet) (hS : Clean S) : eqD (andD S T) S = true ↔ SameSet (orD S T) T := by
  have hc : Clean (andD S T) := by
    intro s c h
    simp only [andD, Bool.and_eq_true] at h
    exact hS s c h.1
  rw [eqD_iff, eqWords_same hc hS]
  constructor
  · intro h s hs c c1 c2
    have := h s hs c c1 c2
    simp only [andD, orD] at this ⊢
    cases hs1 : S s c <;> cases ht1 : T s c <;> simp_all
  · intro h s hs c c1 c2
    have := h s hs c c1 c2
    simp only [andD, orD] at this ⊢
    cases hs1 : S s c <;> cases ht1 : T s c <;> simp_all
theorem allTo_congr {p q : Nat → Bool} : ∀ n, (∀ i, i < n → p i = q i) → allTo p n = allTo q n
  | n, h => by
    rw [Bool.eq_iff_iff, allTo_iff, allTo_iff]
    exact ⟨fun g i hi => by rw [← h i hi]; exact g i hi, fun g i hi => by rw [h i hi]; exact g i hi⟩
theorem allTo_grid (p : Nat → Bool) : allTo (fun t => allTo (fun n => p (32 * t + n)) 32) 16 = allTo p 512 := by
  rw [Bool.eq_iff_iff, allTo_iff, allTo_iff]
  constructor
  · intro h i hi
    have h1 := (allTo_iff _ _).1 (h (i / 32) (by omega)) (i % 32) (by omega)
    rwa [show 32 * (i / 32) + i % 32 = i by omega] at h1
  · intro h t ht
    exact (allTo_iff _ _).2 fun n hn => h _ (by omega)
theorem partsWithin_mean {a b : List Part} (ha : ∀ x ∈ a, KnowOk x.know) : partsWithinP a b = partsWithinR (a.map meanOf) (b.map meanOf) := by
  unfold partsWithinP partsWithinR
  rw [← allTo_grid]
  refine allTo_congr 16 fun t ht => allTo_congr 32 fun n hn => ?_
  have hp : pointOk ⟨(t : Int), (n : Int)⟩ = true := pointOk_iff.2 ⟨by show (0 : Int) ≤ t; omega, by show (t : Int) ≤ 15; omega, by show (0 : Int) ≤ n; omega, by show (n : Int) ≤ 31; omega⟩
  rw [atK_form a _ hp, atK_form b _ hp]
  have hi : (32 * (t : Int) + (n : Int)).toNat = 32 * t + n := by omega
  rw [show (32 * (⟨(t : Int), (n : Int)⟩ : Point).tags + (⟨(t : Int), (n : Int)⟩ : Point).num).toNat = 32 * t + n from hi]
  rw [Bool.eq_iff_iff, withinK_form, within_at _ _ (clean_setAt ha _)]

end Go.Proofs.Ytmedmfjhpabfdaa
