/- Plain law on sets of dots: what may be, a set's form, and what Made lays. No program, no memory in sight. -/
import Derived.Test.YtiigbcnnapnceaaData
import Derived.Test.YtiigbcnnapnceaaSpanP
namespace Go.Proofs.Ytiigbcnnapnceaa
open Go

def dotOk (d : Dot) : Bool := decide (0 ≤ d.site ∧ d.site ≤ 4 ∧ 1 ≤ d.count ∧ d.count ≤ 1000)
theorem dotOk_iff {d : Dot} : dotOk d = true ↔ 0 ≤ d.site ∧ d.site ≤ 4 ∧ 1 ≤ d.count ∧ d.count ≤ 1000 := by simp [dotOk]
/-- up to which count all dots of a site are there. -/
def vecAt (v : List Int) (s : Int) : Int := v.getD s.toNat 0
/-- by sites, then by counts. -/
def dlt (a b : Dot) : Bool := decide (a.site < b.site ∨ a.site = b.site ∧ a.count < b.count)
theorem dlt_iff {a b : Dot} : dlt a b = true ↔ a.site < b.site ∨ a.site = b.site ∧ a.count < b.count := by simp [dlt]
theorem dlt_trans {a b c : Dot} (h : dlt a b = true) (k : dlt b c = true) : dlt a c = true := by
  rw [dlt_iff] at *; omega
theorem Dot.ext' {a b : Dot} (h : a.site = b.site) (k : a.count = b.count) : a = b := by
  cases a; cases b; simp_all
theorem dlt_total {a b : Dot} (h : dlt a b = false) (k : a ≠ b) : dlt b a = true := by
  have h' : ¬ (a.site < b.site ∨ a.site = b.site ∧ a.count < b.count) := by simpa [dlt] using h
  rw [dlt_iff]
  by_cases e : a.site = b.site
  · by_cases e2 : a.count = b.count
    · exact absurd (Dot.ext' e e2) k
    · omega
  · omega
theorem dlt_irrefl (a : Dot) : dlt a a = false := by simp [dlt]

/-- what Check finds behind a dot. -/
def moreGo (v : List Int) : Dot → List Dot → Int
  | _, [] => 0
  | last, d :: r => if dotOk d then (if d.count ≤ vecAt v d.site + 1 ∨ dlt last d = false then 3 else moreGo v d r) else 1
def vecGo : List Int → Int
  | [] => 0
  | n :: r => if 0 ≤ n ∧ n ≤ 1000 then vecGo r else 1
def knowCheck (k : Know) : Int :=
  if 5 < k.vec.length ∨ 60 < k.more.length then 2
  else if vecGo k.vec = 0 then (if k.vec.getLast? = some 0 then 3 else moreGo k.vec ⟨-1, 0⟩ k.more) else 1
/-- the dot ahead of the k-th. -/
def lastDot (l : List Dot) (k : Nat) : Dot := if k = 0 then ⟨-1, 0⟩ else (l[k - 1]?).getD ⟨-1, 0⟩
theorem vecGo_drop (l : List Int) (k : Nat) (hk : k < l.length) : vecGo (l.drop k) = if 0 ≤ l[k] ∧ l[k] ≤ 1000 then vecGo (l.drop (k + 1)) else 1 := by
  rw [List.drop_eq_getElem_cons hk, vecGo]
theorem lastDot_succ (l : List Dot) (k : Nat) (hk : k < l.length) : lastDot l (k + 1) = l[k] := by simp [lastDot, hk]
theorem moreGo_drop (v : List Int) (l : List Dot) (k : Nat) (hk : k < l.length) :
    moreGo v (lastDot l k) (l.drop k) = if dotOk l[k] = true then (if l[k].count ≤ vecAt v l[k].site + 1 ∨ dlt (lastDot l k) l[k] = false then 3 else moreGo v (lastDot l (k + 1)) (l.drop (k + 1))) else 1 := by
  rw [List.drop_eq_getElem_cons hk, moreGo, lastDot_succ l k hk]

/-- one behind the other. -/
def SortedD (lo : Dot) (l : List Dot) : Prop := List.Pairwise (fun a b => dlt a b = true) (lo :: l)
theorem SortedD.nil {lo : Dot} : SortedD lo [] := List.pairwise_cons.2 ⟨by simp, List.Pairwise.nil⟩
theorem SortedD.head {lo d : Dot} {r : List Dot} (h : SortedD lo (d :: r)) : dlt lo d = true := (List.pairwise_cons.1 h).1 d (by simp)
theorem SortedD.tail {lo d : Dot} {r : List Dot} (h : SortedD lo (d :: r)) : SortedD d r := (List.pairwise_cons.1 h).2
theorem SortedD.above {l : List Dot} {lo x : Dot} (h : SortedD lo l) (hx : x ∈ l) : dlt lo x = true := (List.pairwise_cons.1 h).1 x hx
theorem SortedD.low {l : List Dot} {lo lo' : Dot} (h : SortedD lo l) (k : ∀ x ∈ l, dlt lo' x = true) : SortedD lo' l := List.pairwise_cons.2 ⟨k, (List.pairwise_cons.1 h).2⟩
theorem SortedD.cons {lo d : Dot} {r : List Dot} (k : dlt lo d = true) (h : SortedD d r) : SortedD lo (d :: r) := by
  refine List.pairwise_cons.2 ⟨fun x hx => ?_, h⟩
  rcases List.mem_cons.1 hx with rfl | hx
  · exact k
  · exact dlt_trans k (h.above hx)
theorem SortedD.append : ∀ {l m : List Dot} {lo : Dot}, SortedD lo l → SortedD lo m → (∀ x ∈ l, ∀ y ∈ m, dlt x y = true) → SortedD lo (l ++ m)
  | [], _, _, _, h, _ => h
  | e :: r, m, _, h, k, g => SortedD.cons h.head (SortedD.append h.tail (k.low fun y hy => g e (by simp) y hy) fun x hx y hy => g x (by simp [hx]) y hy)
theorem SortedD.concat {l : List Dot} {lo d : Dot} (h : SortedD lo l) (k : ∀ x ∈ l, dlt x d = true) (g : dlt lo d = true) : SortedD lo (l ++ [d]) :=
  h.append (SortedD.cons g SortedD.nil) fun x hx y hy => by rw [List.mem_singleton.1 hy]; exact k x hx
theorem SortedD.unique : ∀ {l m : List Dot} {lo : Dot}, SortedD lo l → SortedD lo m → (∀ x, x ∈ l ↔ x ∈ m) → l = m
  | [], [], _, _, _, _ => rfl
  | [], d :: r, _, _, _, h => by have := (h d).2 (by simp); simp at this
  | d :: r, [], _, _, _, h => by have := (h d).1 (by simp); simp at this
  | d :: r, e :: s, lo, h, k, g => by
    have hde : d = e := by
      have h1 := (g d).1 (by simp)
      have h2 := (g e).2 (by simp)
      rcases List.mem_cons.1 h1 with h1 | h1
      · exact h1
      · rcases List.mem_cons.1 h2 with h2 | h2
        · exact h2.symm
        · have := dlt_trans (k.tail.above h1) (h.tail.above h2)
          rw [dlt_irrefl] at this; cases this
    subst hde
    congr 1
    refine SortedD.unique h.tail k.tail fun x => ?_
    have := g x
    simp only [List.mem_cons] at this
    constructor
    · intro hx
      rcases this.1 (.inr hx) with rfl | hx'
      · have := h.tail.above hx; rw [dlt_irrefl] at this; cases this
      · exact hx'
    · intro hx
      rcases this.2 (.inr hx) with rfl | hx'
      · have := k.tail.above hx; rw [dlt_irrefl] at this; cases this
      · exact hx'

theorem moreGo_ok (v : List Int) : ∀ (l : List Dot) (last : Dot), moreGo v last l = 0 ↔ SortedD last l ∧ ∀ d ∈ l, dotOk d = true ∧ vecAt v d.site + 2 ≤ d.count
  | [], _ => by simp [moreGo, SortedD.nil]
  | d :: r, last => by
    rw [moreGo]
    by_cases h1 : dotOk d = true
    · rw [if_pos h1]
      by_cases h2 : d.count ≤ vecAt v d.site + 1 ∨ dlt last d = false
      · rw [if_pos h2]
        constructor
        · intro h; simp at h
        · rintro ⟨hs, hd⟩
          have := hd d (by simp)
          rcases h2 with h2 | h2
          · omega
          · rw [hs.head] at h2; cases h2
      · rw [if_neg h2, moreGo_ok v r d]
        have h3 : dlt last d = true := by
          cases h : dlt last d
          · exact absurd (.inr h) h2
          · rfl
        constructor
        · rintro ⟨hs, hd⟩
          refine ⟨SortedD.cons h3 hs, fun x hx => ?_⟩
          rcases List.mem_cons.1 hx with rfl | hx
          · exact ⟨h1, by omega⟩
          · exact hd x hx
        · rintro ⟨hs, hd⟩
          exact ⟨hs.tail, fun x hx => hd x (by simp [hx])⟩
    · rw [if_neg h1]
      constructor
      · intro h; simp at h
      · rintro ⟨_, hd⟩
        exact absurd (hd d (by simp)).1 h1
theorem vecGo_ok : ∀ l : List Int, vecGo l = 0 ↔ ∀ n ∈ l, 0 ≤ n ∧ n ≤ 1000
  | [] => by simp [vecGo]
  | n :: r => by
    rw [vecGo]
    by_cases h : 0 ≤ n ∧ n ≤ 1000
    · rw [if_pos h, vecGo_ok r]; simp [h]
    · rw [if_neg h]; simp; intro h0 h1; exact absurd ⟨h0, h1⟩ h

structure KnowOk (k : Know) : Prop where
  vlen : k.vec.length ≤ 5
  mlen : k.more.length ≤ 60
  vec : ∀ n ∈ k.vec, 0 ≤ n ∧ n ≤ 1000
  last : k.vec.getLast? ≠ some 0
  sorted : SortedD ⟨-1, 0⟩ k.more
  more : ∀ d ∈ k.more, dotOk d = true ∧ vecAt k.vec d.site + 2 ≤ d.count
theorem knowCheck_iff {k : Know} : knowCheck k = 0 ↔ KnowOk k := by
  unfold knowCheck
  by_cases h1 : 5 < k.vec.length ∨ 60 < k.more.length
  · rw [if_pos h1]
    exact ⟨fun h => by simp at h, fun h => by have := h.vlen; have := h.mlen; omega⟩
  · rw [if_neg h1]
    by_cases h2 : vecGo k.vec = 0
    · rw [if_pos h2]
      by_cases h3 : k.vec.getLast? = some 0
      · rw [if_pos h3]
        exact ⟨fun h => by simp at h, fun h => absurd h3 h.last⟩
      · rw [if_neg h3, moreGo_ok]
        exact ⟨fun h => ⟨by omega, by omega, (vecGo_ok _).1 h2, h3, h.1, h.2⟩, fun h => ⟨h.sorted, h.more⟩⟩
    · rw [if_neg h2]
      exact ⟨fun h => by simp at h, fun h => absurd ((vecGo_ok _).2 h.vec) h2⟩

/-! a set of dots, by site and count. -/
abbrev DSet := Nat → Nat → Bool
def hasK (k : Know) : DSet := fun s c => decide (1 ≤ c) && (decide ((c : Int) ≤ vecAt k.vec s) || k.more.contains ⟨s, c⟩)
/-- the two sets have the same dots that may be. -/
def SameSet (S T : DSet) : Prop := ∀ s, s < 5 → ∀ c, 1 ≤ c → c ≤ 1000 → S s c = T s c

/-- how many of a site's dots are there from the first one on. -/
def preFrom (p : Nat → Bool) : Nat → Nat → Nat
  | 0, n => n
  | f + 1, n => if p (n + 1) then preFrom p f (n + 1) else n
termination_by f => f
def pre (S : DSet) (s : Nat) : Nat := preFrom (S s) 1000 0
theorem preFrom_ok (p : Nat → Bool) : ∀ (f n : Nat), (∀ c, 1 ≤ c → c ≤ n → p c = true) → (∀ c, 1 ≤ c → c ≤ preFrom p f n → p c = true) ∧ n ≤ preFrom p f n ∧ preFrom p f n ≤ n + f ∧ (preFrom p f n < n + f → p (preFrom p f n + 1) = false)
  | 0, n, h => by rw [preFrom]; exact ⟨h, Nat.le_refl _, Nat.le_refl _, fun h => absurd h (by omega)⟩
  | f + 1, n, h => by
    rw [preFrom]
    by_cases hp : p (n + 1) = true
    · rw [if_pos hp]
      obtain ⟨h1, h2, h3, h4⟩ := preFrom_ok p f (n + 1) (fun c c1 c2 => by
        by_cases e : c = n + 1
        · rw [e]; exact hp
        · exact h c c1 (by omega))
      exact ⟨h1, by omega, by omega, fun hlt => h4 (by omega)⟩
    · rw [if_neg hp]
      exact ⟨h, Nat.le_refl _, by omega, fun _ => by simpa using hp⟩
theorem pre_ok (S : DSet) (s : Nat) : (∀ c, 1 ≤ c → c ≤ pre S s → S s c = true) ∧ pre S s ≤ 1000 ∧ (pre S s < 1000 → S s (pre S s + 1) = false) := by
  obtain ⟨h1, _, h3, h4⟩ := preFrom_ok (S s) 1000 0 (fun c c1 c2 => by omega)
  exact ⟨h1, by unfold pre; omega, fun h => h4 (by unfold pre at h; omega)⟩
theorem pre_unique (S : DSet) (s n : Nat) (h1 : ∀ c, 1 ≤ c → c ≤ n → S s c = true) (h2 : n ≤ 1000) (h3 : n < 1000 → S s (n + 1) = false) : pre S s = n := by
  obtain ⟨k1, k2, k3⟩ := pre_ok S s
  by_cases e : pre S s < n
  · have := h1 (pre S s + 1) (by omega) (by omega)
    rw [k3 (by omega)] at this; cases this
  · by_cases e2 : n < pre S s
    · have := k1 (n + 1) (by omega) (by omega)
      rw [h3 (by omega)] at this; cases this
    · omega
/-- a site's dots behind the gap. -/
def moreOf (S : DSet) (s : Nat) : List Dot := ((List.range 1001).filter fun c => decide (pre S s + 2 ≤ c) && S s c).map fun (c : Nat) => ⟨(s : Int), (c : Int)⟩
def trim (v : List Int) : List Int := (v.reverse.dropWhile (· == 0)).reverse
def formVec (S : DSet) : List Int := (List.range 5).map fun s => (pre S s : Int)
def formMore (S : DSet) : List Dot := (List.range 5).flatMap fun s => moreOf S s
def formOf (S : DSet) : Know := ⟨trim (formVec S), formMore S⟩

theorem mem_moreOf {S : DSet} {s : Nat} {d : Dot} : d ∈ moreOf S s ↔ ∃ c : Nat, d = ⟨(s : Int), (c : Int)⟩ ∧ c ≤ 1000 ∧ pre S s + 2 ≤ c ∧ S s c = true := by
  simp only [moreOf, List.mem_map, List.mem_filter, List.mem_range, Bool.and_eq_true, decide_eq_true_eq]
  constructor
  · rintro ⟨c, ⟨h1, h2, h3⟩, rfl⟩; exact ⟨c, rfl, by omega, h2, h3⟩
  · rintro ⟨c, rfl, h1, h2, h3⟩; exact ⟨c, ⟨by omega, h2, h3⟩, rfl⟩
theorem mem_formMore {S : DSet} {d : Dot} : d ∈ formMore S ↔ ∃ s c : Nat, s < 5 ∧ d = ⟨(s : Int), (c : Int)⟩ ∧ c ≤ 1000 ∧ pre S s + 2 ≤ c ∧ S s c = true := by
  simp only [formMore, List.mem_flatMap, List.mem_range, mem_moreOf]
  constructor
  · rintro ⟨s, hs, c, h⟩; exact ⟨s, c, hs, h⟩
  · rintro ⟨s, c, hs, h⟩; exact ⟨s, hs, c, h⟩
theorem sorted_range (s : Nat) (q : Nat → Bool) : ∀ (n : Nat), SortedD ⟨-1, 0⟩ (((List.range n).filter q).map fun (c : Nat) => (⟨(s : Int), (c : Int)⟩ : Dot))
  | 0 => SortedD.nil
  | n + 1 => by
    rw [List.range_succ, List.filter_append, List.map_append]
    have ih := sorted_range s q n
    by_cases h : q n = true
    · simp only [List.filter_cons, h, if_true, List.filter_nil, List.map_cons, List.map_nil]
      refine ih.concat ?_ (by rw [dlt_iff]; left; show (-1 : Int) < s; omega)
      intro x hx
      simp only [List.mem_map, List.mem_filter, List.mem_range] at hx
      obtain ⟨c, ⟨hc, _⟩, rfl⟩ := hx
      rw [dlt_iff]; right; exact ⟨rfl, by show (c : Int) < n; omega⟩
    · simp [h]; exact ih
theorem sorted_formMore (S : DSet) : SortedD ⟨-1, 0⟩ (formMore S) := by
  have : ∀ n : Nat, SortedD ⟨-1, 0⟩ ((List.range n).flatMap fun s => moreOf S s) := by
    intro n
    induction n with
    | zero => exact SortedD.nil
    | succ n ih =>
      rw [List.range_succ, List.flatMap_append]
      refine ih.append (by rw [List.flatMap_cons, List.flatMap_nil, List.append_nil]; exact sorted_range n _ 1001) ?_
      intro x hx y hy
      simp only [List.mem_flatMap, List.mem_range, mem_moreOf, List.mem_singleton] at hx hy
      obtain ⟨s, hs, c, rfl, _⟩ := hx
      obtain ⟨t, rfl, c', rfl, _⟩ := hy
      rw [dlt_iff]; left; show (s : Int) < t; omega
  exact this 5

theorem preFrom_congr {p q : Nat → Bool} : ∀ (f n : Nat), (∀ c, 1 ≤ c → c ≤ n + f → p c = q c) → preFrom p f n = preFrom q f n
  | 0, _, _ => by rw [preFrom, preFrom]
  | f + 1, n, h => by
    rw [preFrom, preFrom, h (n + 1) (by omega) (by omega), preFrom_congr f (n + 1) (fun c c1 c2 => h c c1 (by omega))]
theorem formOf_congr {S T : DSet} (h : SameSet S T) : formOf S = formOf T := by
  have hp : ∀ s, s < 5 → pre S s = pre T s := fun s hs => preFrom_congr 1000 0 fun c c1 c2 => h s hs c c1 (by omega)
  have hv : formVec S = formVec T := by
    unfold formVec
    apply List.map_congr_left
    intro s hs
    rw [hp s (List.mem_range.1 hs)]
  have hm : formMore S = formMore T := by
    refine (sorted_formMore S).unique (sorted_formMore T) fun x => ?_
    rw [mem_formMore, mem_formMore]
    constructor
    · rintro ⟨s, c, hs, rfl, hc, h1, h2⟩
      exact ⟨s, c, hs, rfl, hc, by rw [← hp s hs]; exact h1, by rw [← h s hs c (by omega) hc]; exact h2⟩
    · rintro ⟨s, c, hs, rfl, hc, h1, h2⟩
      exact ⟨s, c, hs, rfl, hc, by rw [hp s hs]; exact h1, by rw [h s hs c (by omega) hc]; exact h2⟩
  unfold formOf
  rw [hv, hm]

theorem trim_getD (v : List Int) (i : Nat) : (trim v).getD i 0 = v.getD i 0 := by
  unfold trim
  have key : ∀ (r : List Int) (i : Nat), (r.dropWhile (· == 0)).reverse.getD i 0 = r.reverse.getD i 0 := by
    intro r
    induction r with
    | nil => intro i; rfl
    | cons x r ih =>
      intro i
      by_cases hx : x = 0
      · subst hx
        rw [List.dropWhile_cons, if_pos (by rfl), ih i, List.reverse_cons]
        simp only [List.getD_eq_getElem?_getD]
        by_cases hi : i < r.reverse.length
        · rw [List.getElem?_append_left hi]
        · rw [List.getElem?_append_right (by omega), List.getElem?_eq_none (by omega)]
          cases i - r.reverse.length <;> rfl
      · rw [List.dropWhile_cons, if_neg (by simpa using hx)]
  rw [key, List.reverse_reverse]
theorem trim_last (v : List Int) : (trim v).getLast? ≠ some 0 := by
  unfold trim
  rw [List.getLast?_reverse]
  intro h
  have := List.head?_dropWhile_not (· == (0 : Int)) v.reverse
  rw [h] at this
  simp at this
theorem trim_len (v : List Int) : (trim v).length ≤ v.length := by
  unfold trim
  rw [List.length_reverse]
  have := (List.dropWhile_sublist (l := v.reverse) (· == (0 : Int))).length_le
  simpa using this
/-- a list without needless zeros is told by its entries. -/
theorem eq_of_getD {a b : List Int} (ha : a.getLast? ≠ some 0) (hb : b.getLast? ≠ some 0) (h : ∀ i, a.getD i 0 = b.getD i 0) : a = b := by
  have key : ∀ {a b : List Int}, b.getLast? ≠ some 0 → (∀ i, a.getD i 0 = b.getD i 0) → b.length ≤ a.length := by
    intro a b hb h
    apply Classical.byContradiction
    intro hn
    have hpos : 0 < b.length := by omega
    apply hb
    rw [List.getLast?_eq_getElem?, List.getElem?_eq_getElem (by omega)]
    have := h (b.length - 1)
    simp only [List.getD_eq_getElem?_getD] at this
    rw [List.getElem?_eq_none (by omega), List.getElem?_eq_getElem (by omega)] at this
    simp at this
    rw [← this]
  have hl : a.length = b.length := by
    have := key hb h
    have := key ha fun i => (h i).symm
    omega
  apply List.ext_getElem hl
  intro i h1 h2
  have := h i
  simp only [List.getD_eq_getElem?_getD, List.getElem?_eq_getElem h1, List.getElem?_eq_getElem h2, Option.getD_some] at this
  exact this
theorem formVec_getD (S : DSet) (s : Nat) (hs : s < 5) : (formVec S).getD s 0 = (pre S s : Int) := by
  simp [formVec, hs]
theorem formVec_out (S : DSet) (s : Nat) (hs : 5 ≤ s) : (formVec S).getD s 0 = 0 := by
  simp [formVec, hs]

/-- what is in its form is told by its dots. -/
theorem form_has {k : Know} (h : KnowOk k) : formOf (hasK k) = k := by
  have hvec : ∀ s : Nat, s < 5 → 0 ≤ vecAt k.vec s ∧ vecAt k.vec s ≤ 1000 := by
    intro s hs
    unfold vecAt
    rw [List.getD_eq_getElem?_getD, Int.toNat_natCast]
    cases e : k.vec[s]? with
    | none => simp
    | some n => simpa using h.vec n (List.mem_of_getElem? e)
  have hp : ∀ s : Nat, s < 5 → (pre (hasK k) s : Int) = vecAt k.vec s := by
    intro s hs
    obtain ⟨h0, h1⟩ := hvec s hs
    obtain ⟨n, hn⟩ := Int.eq_ofNat_of_zero_le h0
    rw [hn]
    congr 1
    refine pre_unique _ _ _ ?_ (by omega) ?_
    · intro c c1 c2
      have : ((c : Int) ≤ vecAt k.vec s) := by omega
      simp [hasK, c1, this]
    · intro _
      have h2 : ¬ (((n + 1 : Nat) : Int) ≤ vecAt k.vec s) := by omega
      have h3 : k.more.contains ⟨s, ((n + 1 : Nat) : Int)⟩ = false := by
        rw [← Bool.not_eq_true, List.contains_iff_mem]
        intro hm
        have := (h.more _ hm).2
        simp only at this
        omega
      simp only [hasK, h2, h3]
      simp
  have hv : trim (formVec (hasK k)) = k.vec := by
    refine eq_of_getD (trim_last _) h.last fun i => ?_
    rw [trim_getD]
    by_cases hi : i < 5
    · rw [formVec_getD _ _ hi, hp i hi]
      simp [vecAt]
    · rw [formVec_out _ _ (by omega)]
      have := h.vlen
      rw [List.getD_eq_getElem?_getD, List.getElem?_eq_none (by omega)]; rfl
  have hm : formMore (hasK k) = k.more := by
    refine (sorted_formMore _).unique h.sorted fun d => ?_
    rw [mem_formMore]
    constructor
    · rintro ⟨s, c, hs, rfl, hc, h1, h2⟩
      have := hp s hs
      have hn : ¬ ((c : Int) ≤ vecAt k.vec s) := by omega
      simp only [hasK, hn, decide_false, Bool.false_or, Bool.and_eq_true] at h2
      exact List.contains_iff_mem.1 h2.2
    · intro hd
      obtain ⟨h1, h2⟩ := h.more d hd
      rw [dotOk_iff] at h1
      obtain ⟨s, hs⟩ := Int.eq_ofNat_of_zero_le h1.1
      obtain ⟨c, hc⟩ := Int.eq_ofNat_of_zero_le (show 0 ≤ d.count by omega)
      have hd' : d = ⟨(s : Int), (c : Int)⟩ := Dot.ext' hs hc
      have hs5 : s < 5 := by omega
      have := hp s hs5
      rw [hs] at h2
      refine ⟨s, c, hs5, hd', by omega, by omega, ?_⟩
      have hm : k.more.contains (⟨(s : Int), (c : Int)⟩ : Dot) = true := List.contains_iff_mem.2 (hd' ▸ hd)
      have hc1 : 1 ≤ c := by omega
      simp only [hasK, hm, hc1]
      simp
  unfold formOf
  rw [hv, hm]

/-- the form of a set has its dots. -/
theorem formOf_more (S : DSet) : (formOf S).more = formMore S := by simp only [formOf]
theorem formOf_vec (S : DSet) : (formOf S).vec = trim (formVec S) := by simp only [formOf]
theorem formOf_has (S : DSet) : SameSet (hasK (formOf S)) S := by
  intro s hs c c1 c2
  obtain ⟨h1, h2, h3⟩ := pre_ok S s
  have hv : vecAt (formOf S).vec s = (pre S s : Int) := by
    unfold vecAt
    rw [formOf_vec, trim_getD, Int.toNat_natCast, formVec_getD _ _ hs]
  have e0 := formOf_more S
  rw [Bool.eq_iff_iff]
  simp only [hasK, hv, e0, Bool.and_eq_true, Bool.or_eq_true, decide_eq_true_eq, List.contains_iff_mem]
  constructor
  · rintro ⟨_, hle | hm⟩
    · exact h1 c c1 (by omega)
    · obtain ⟨s', c', _, e, _, _, h⟩ := mem_formMore.1 hm
      have e1 : (s : Int) = s' := congrArg Dot.site e
      have e2 : (c : Int) = c' := congrArg Dot.count e
      rw [show s = s' by omega, show c = c' by omega]; exact h
  · intro h
    refine ⟨c1, ?_⟩
    by_cases hle : c ≤ pre S s
    · left; omega
    · right
      have hne : c ≠ pre S s + 1 := by
        intro e
        rw [e] at h
        rw [h3 (by omega)] at h; cases h
      exact mem_formMore.2 ⟨s, c, hs, rfl, c2, by omega, h⟩
theorem formOf_ok (S : DSet) (h : (formOf S).more.length ≤ 60) : KnowOk (formOf S) := by
  refine ⟨?_, h, ?_, ?_, ?_, ?_⟩
  · rw [formOf_vec]
    have := trim_len (formVec S); simp only [formVec, List.length_map, List.length_range] at this; exact this
  · intro n hn
    rw [formOf_vec] at hn
    obtain ⟨i, hi, rfl⟩ := List.getElem_of_mem hn
    have e := trim_getD (formVec S) i
    rw [List.getD_eq_getElem?_getD, List.getElem?_eq_getElem hi, Option.getD_some] at e
    rw [e]
    by_cases h5 : i < 5
    · rw [formVec_getD _ _ h5]
      have := (pre_ok S i).2.1
      omega
    · rw [formVec_out _ _ (by omega)]; omega
  · rw [formOf_vec]; exact trim_last _
  · rw [formOf_more]; exact sorted_formMore S
  · intro d hd
    rw [formOf_more] at hd
    rw [formOf_vec]
    obtain ⟨s, c, hs, rfl, hc, h1, h2⟩ := mem_formMore.1 hd
    refine ⟨dotOk_iff.2 ⟨?_, ?_, ?_, ?_⟩, ?_⟩
    · show (0 : Int) ≤ s; omega
    · show (s : Int) ≤ 4; omega
    · show (1 : Int) ≤ c; omega
    · show (c : Int) ≤ 1000; omega
    · unfold vecAt
      rw [trim_getD]
      show (formVec S).getD (s : Int).toNat 0 + 2 ≤ (c : Int)
      rw [Int.toNat_natCast, formVec_getD _ _ hs]
      omega
theorem same_of_form {S T : DSet} (h : formOf S = formOf T) : SameSet S T := by
  intro s hs c c1 c2
  rw [← formOf_has S s hs c c1 c2, ← formOf_has T s hs c c1 c2, h]

/-! what Made lays -/
def madeStep (st : List Int × List Dot) (d : Dot) : List Int × List Dot :=
  if d.count ≤ vecAt st.1 d.site then st
  else if d.count = vecAt st.1 d.site + 1 then (st.1.set d.site.toNat (vecAt st.1 d.site + 1), st.2)
  else if st.2.getLast? = some d then st else (st.1, st.2 ++ [d])
def madeFold (v : List Int) (ds : List Dot) : List Int × List Dot := ds.foldl madeStep (v, [])
def dle (a b : Dot) : Bool := !dlt b a
/-- in order, with doubles. -/
def OrdD (l : List Dot) : Prop := l.Pairwise fun a b => dle a b = true

structure MadeOk (v0 : List Int) (P : List Dot) (st : List Int × List Dot) : Prop where
  len : st.1.length = 5
  ge : ∀ s : Nat, s < 5 → vecAt v0 s ≤ vecAt st.1 s
  le : ∀ s : Nat, s < 5 → 0 ≤ vecAt st.1 s ∧ vecAt st.1 s ≤ 1000
  all : ∀ s : Nat, s < 5 → ∀ c : Nat, 1 ≤ c → (c : Int) ≤ vecAt st.1 s → (c : Int) ≤ vecAt v0 s ∨ (⟨s, c⟩ : Dot) ∈ P
  sorted : SortedD ⟨-1, 0⟩ st.2
  sub : ∀ d ∈ st.2, d ∈ P ∧ vecAt st.1 d.site + 2 ≤ d.count
  cover : ∀ d ∈ P, d.count ≤ vecAt st.1 d.site ∨ d ∈ st.2
  pok : ∀ d ∈ P, dotOk d = true

theorem vecAt_set (v : List Int) (i s : Int) (n : Int) (h0 : 0 ≤ i) (h1 : 0 ≤ s) (hi : i.toNat < v.length) : vecAt (v.set i.toNat n) s = if i = s then n else vecAt v s := by
  unfold vecAt
  simp only [List.getD_eq_getElem?_getD, List.getElem?_set]
  by_cases h : i = s
  · subst h; simp [hi]
  · rw [if_neg h, if_neg (by omega)]
theorem getLast_sorted : ∀ {l : List Dot} {lo x y : Dot}, SortedD lo l → l.getLast? = some y → x ∈ l → x = y ∨ dlt x y = true
  | [d], _, x, y, _, h, hx => by simp at h hx; left; rw [hx, h]
  | d :: e :: r, lo, x, y, hs, h, hx => by
    have h' : (e :: r).getLast? = some y := by simpa using h
    rcases List.mem_cons.1 hx with rfl | hx
    · right
      rcases getLast_sorted hs.tail h' (x := e) (by simp) with rfl | h2
      · exact hs.tail.head
      · exact dlt_trans hs.tail.head h2
    · exact getLast_sorted hs.tail h' hx

theorem made_ok (v0 : List Int) : ∀ (ds P : List Dot) (st : List Int × List Dot), MadeOk v0 P st → (∀ d ∈ ds, dotOk d = true) → OrdD ds → (∀ p ∈ P, ∀ d ∈ ds, dle p d = true) → MadeOk v0 (P ++ ds) (ds.foldl madeStep st)
  | [], P, st, h, _, _, _ => by simpa using h
  | d :: ds, P, st, h, hd, ho, hP => by
    have hdo := dotOk_iff.1 (hd d (by simp))
    obtain ⟨s, hs⟩ := Int.eq_ofNat_of_zero_le hdo.1
    obtain ⟨c, hc⟩ := Int.eq_ofNat_of_zero_le (show 0 ≤ d.count by omega)
    have hs5 : s < 5 := by omega
    have hd' : d = ⟨(s : Int), (c : Int)⟩ := Dot.ext' hs hc
    have hPd : ∀ p ∈ P, dle p d = true := fun p hp => hP p hp d (by simp)
    have hpok : ∀ e ∈ P ++ [d], dotOk e = true := by
      intro e he
      rcases List.mem_append.1 he with he | he
      · exact h.pok e he
      · rw [List.mem_singleton.1 he]; exact hd d (by simp)
    have step : MadeOk v0 (P ++ [d]) (madeStep st d) := by
      unfold madeStep
      by_cases h1 : d.count ≤ vecAt st.1 d.site
      · rw [if_pos h1]
        refine ⟨h.len, h.ge, h.le, fun s hs c c1 c2 => (h.all s hs c c1 c2).imp id (by simp; exact .inl), h.sorted, fun e he => ⟨by simp [(h.sub e he).1], (h.sub e he).2⟩, fun e he => ?_, hpok⟩
        rcases List.mem_append.1 he with he | he
        · exact h.cover e he
        · obtain rfl := List.mem_singleton.1 he; exact .inl h1
      · rw [if_neg h1]
        by_cases h2 : d.count = vecAt st.1 d.site + 1
        · rw [if_pos h2]
          have hset : ∀ t : Int, 0 ≤ t → vecAt (st.1.set d.site.toNat (vecAt st.1 d.site + 1)) t = if d.site = t then vecAt st.1 d.site + 1 else vecAt st.1 t :=
            fun t ht => vecAt_set _ _ _ _ hdo.1 ht (by rw [h.len]; omega)
          have hmono : ∀ t : Int, 0 ≤ t → vecAt st.1 t ≤ vecAt (st.1.set d.site.toNat (vecAt st.1 d.site + 1)) t := by
            intro t ht
            rw [hset t ht]
            split
            · rename_i e; rw [← e]; omega
            · exact Int.le_refl _
          refine ⟨by simp [h.len], fun t ht => ?_, fun t ht => ?_, fun t ht c' c1 c2 => ?_, h.sorted, fun e he => ?_, fun e he => ?_, hpok⟩
          · exact Int.le_trans (h.ge t ht) (hmono t (by omega))
          · have := h.le t ht
            show 0 ≤ vecAt (st.1.set d.site.toNat (vecAt st.1 d.site + 1)) t ∧ vecAt (st.1.set d.site.toNat (vecAt st.1 d.site + 1)) t ≤ 1000
            rw [hset t (by omega)]
            split
            · rename_i e; rw [← e] at this; omega
            · exact this
          · have c2' : (c' : Int) ≤ vecAt (st.1.set d.site.toNat (vecAt st.1 d.site + 1)) t := c2
            rw [hset t (by omega)] at c2'
            split at c2'
            · rename_i e
              by_cases hle : (c' : Int) ≤ vecAt st.1 t
              · exact (h.all t ht c' c1 hle).imp id (by simp; exact .inl)
              · right
                rw [← e] at hle
                have : d = ⟨(t : Int), (c' : Int)⟩ := Dot.ext' e (by show d.count = (c' : Int); omega)
                simp [this]
            · exact (h.all t ht c' c1 c2').imp id (by simp; exact .inl)
          · obtain ⟨g1, g2⟩ := h.sub e he
            have heo := dotOk_iff.1 (h.pok e g1)
            refine ⟨by simp [g1], ?_⟩
            have hle := hPd e g1
            have hle' : ¬ dlt d e = true := by simpa [dle] using hle
            rw [dlt_iff] at hle'
            show vecAt (st.1.set d.site.toNat (vecAt st.1 d.site + 1)) e.site + 2 ≤ e.count
            rw [hset e.site heo.1]
            split
            · rename_i e'
              rw [← e'] at g2 hle'
              omega
            · exact g2
          · rcases List.mem_append.1 he with he | he
            · have heo := dotOk_iff.1 (h.pok e he)
              exact (h.cover e he).imp (fun hh => Int.le_trans hh (hmono e.site heo.1)) id
            · obtain rfl := List.mem_singleton.1 he
              left
              show e.count ≤ vecAt (st.1.set e.site.toNat (vecAt st.1 e.site + 1)) e.site
              rw [hset _ hdo.1, if_pos rfl]; omega
        · rw [if_neg h2]
          by_cases h3 : st.2.getLast? = some d
          · rw [if_pos h3]
            refine ⟨h.len, h.ge, h.le, fun s hs c c1 c2 => (h.all s hs c c1 c2).imp id (by simp; exact .inl), h.sorted, fun e he => ⟨by simp [(h.sub e he).1], (h.sub e he).2⟩, fun e he => ?_, hpok⟩
            rcases List.mem_append.1 he with he | he
            · exact h.cover e he
            · obtain rfl := List.mem_singleton.1 he; exact .inr (List.mem_of_getLast? h3)
          · rw [if_neg h3]
            refine ⟨h.len, h.ge, h.le, fun s hs c c1 c2 => (h.all s hs c c1 c2).imp id (by simp; exact .inl), ?_, fun e he => ?_, fun e he => ?_, hpok⟩
            · refine h.sorted.concat (fun x hx => ?_) (by rw [dlt_iff]; left; show (-1 : Int) < d.site; omega)
              have hle := hPd x (h.sub x hx).1
              by_cases hxd : x = d
              · subst hxd
                cases hg : st.2.getLast? with
                | none => rw [List.getLast?_eq_none_iff] at hg; rw [hg] at hx; simp at hx
                | some y =>
                  rcases getLast_sorted h.sorted hg hx with rfl | hlt
                  · exact absurd hg h3
                  · have := hPd y (h.sub y (List.mem_of_getLast? hg)).1
                    simp [dle, hlt] at this
              · exact dlt_total (by simpa [dle] using hle) fun e => hxd e.symm
            · rcases List.mem_append.1 he with he | he
              · exact ⟨by simp [(h.sub e he).1], (h.sub e he).2⟩
              · obtain rfl := List.mem_singleton.1 he
                exact ⟨by simp, by show vecAt st.1 _ + 2 ≤ _; omega⟩
            · rcases List.mem_append.1 he with he | he
              · exact (h.cover e he).imp id (by simp; exact .inl)
              · obtain rfl := List.mem_singleton.1 he; exact .inr (by simp)
    have := made_ok v0 ds (P ++ [d]) (madeStep st d) step (fun e he => hd e (by simp [he])) (List.pairwise_cons.1 ho).2 (fun p hp e he => by
      rcases List.mem_append.1 hp with hp | hp
      · exact hP p hp e (by simp [he])
      · obtain rfl := List.mem_singleton.1 hp; exact (List.pairwise_cons.1 ho).1 e he)
    simpa using this

/-- the set that vectors and dots tell. -/
def madeSet (v : List Int) (ds : List Dot) : DSet := fun s c => decide (1 ≤ c) && (decide ((c : Int) ≤ vecAt v s) || ds.contains ⟨s, c⟩)
def made (v : List Int) (ds : List Dot) : Know := ⟨trim (madeFold v ds).1, (madeFold v ds).2⟩
theorem made_form {v : List Int} {ds : List Dot} (hl : v.length = 5) (hv : ∀ n ∈ v, 0 ≤ n ∧ n ≤ 1000) (hd : ∀ d ∈ ds, dotOk d = true) (ho : OrdD ds) : made v ds = formOf (madeSet v ds) := by
  have hv' : ∀ s : Nat, s < 5 → 0 ≤ vecAt v s ∧ vecAt v s ≤ 1000 := by
    intro s hs
    unfold vecAt
    rw [List.getD_eq_getElem?_getD, Int.toNat_natCast, List.getElem?_eq_getElem (by omega)]
    exact hv _ (List.getElem_mem _)
  have h := made_ok v ds [] (v, []) ⟨hl, fun _ _ => Int.le_refl _, hv', fun s hs c c1 c2 => .inl c2, SortedD.nil, by simp, by simp, by simp⟩ hd ho (by simp)
  rw [List.nil_append] at h
  have hp : ∀ s : Nat, s < 5 → (pre (madeSet v ds) s : Int) = vecAt (madeFold v ds).1 s := by
    intro s hs
    obtain ⟨h0, h1⟩ := h.le s hs
    obtain ⟨n, hn⟩ := Int.eq_ofNat_of_zero_le h0
    show _ = vecAt (ds.foldl madeStep (v, [])).1 s
    rw [hn]
    congr 1
    refine pre_unique _ _ _ ?_ (by omega) ?_
    · intro c c1 c2
      rcases h.all s hs c c1 (by omega) with hh | hh
      · simp [madeSet, c1, hh]
      · have := List.contains_iff_mem.2 hh
        simp only [madeSet, c1, this]; simp
    · intro _
      rw [← Bool.not_eq_true]
      simp only [madeSet, Bool.and_eq_true, Bool.or_eq_true, decide_eq_true_eq]
      rintro ⟨_, hh | hh⟩
      · have := h.ge s hs; omega
      · rcases h.cover _ (List.contains_iff_mem.1 hh) with g | g
        · have g' : ((n + 1 : Nat) : Int) ≤ vecAt (ds.foldl madeStep (v, [])).1 s := g
          omega
        · have g' : vecAt (ds.foldl madeStep (v, [])).1 s + 2 ≤ ((n + 1 : Nat) : Int) := (h.sub _ g).2
          omega
  have e1 : trim (madeFold v ds).1 = trim (formVec (madeSet v ds)) := by
    congr 1
    apply List.ext_getElem
    · show (ds.foldl madeStep (v, [])).1.length = _
      rw [h.len]; simp [formVec]
    · intro i h1 h2
      have h5 : i < 5 := by simp [formVec] at h2; exact h2
      have := hp i h5
      rw [← formVec_getD _ _ h5] at this
      rw [List.getD_eq_getElem?_getD, List.getElem?_eq_getElem h2, Option.getD_some] at this
      rw [this]
      unfold vecAt
      rw [List.getD_eq_getElem?_getD, Int.toNat_natCast, List.getElem?_eq_getElem h1, Option.getD_some]
  have e2 : (madeFold v ds).2 = formMore (madeSet v ds) := by
    refine h.sorted.unique (sorted_formMore _) fun d => ?_
    rw [mem_formMore]
    constructor
    · intro hm
      obtain ⟨g1, g2⟩ := h.sub d hm
      have hdo := dotOk_iff.1 (hd d g1)
      obtain ⟨s, hs⟩ := Int.eq_ofNat_of_zero_le hdo.1
      obtain ⟨c, hc⟩ := Int.eq_ofNat_of_zero_le (show 0 ≤ d.count by omega)
      have hd' : d = ⟨(s : Int), (c : Int)⟩ := Dot.ext' hs hc
      have hs5 : s < 5 := by omega
      have hps := hp s hs5
      rw [hs] at g2
      have g2' : vecAt (madeFold v ds).1 s + 2 ≤ d.count := g2
      refine ⟨s, c, hs5, hd', by omega, by omega, ?_⟩
      have hc1 : 1 ≤ c := by omega
      have := List.contains_iff_mem.2 (hd' ▸ g1)
      simp only [madeSet, this, hc1]
      simp
    · rintro ⟨s, c, hs, rfl, hc, h1, h2⟩
      have hps := hp s hs
      simp only [madeSet, Bool.and_eq_true, Bool.or_eq_true, decide_eq_true_eq] at h2
      rcases h2.2 with g | g
      · have g0 := h.ge s hs
        have hps' : (pre (madeSet v ds) s : Int) = vecAt (ds.foldl madeStep (v, [])).1 s := hps
        omega
      · rcases h.cover _ (List.contains_iff_mem.1 g) with g' | g'
        · have g'' : (c : Int) ≤ vecAt (ds.foldl madeStep (v, [])).1 s := g'
          have hps' : (pre (madeSet v ds) s : Int) = vecAt (ds.foldl madeStep (v, [])).1 s := hps
          omega
        · exact g'
  unfold made formOf
  rw [e1, e2]

end Go.Proofs.Ytiigbcnnapnceaa
