/- Plain law on sentences: what may be, what is said of all points, the sentence of a filter. No program, no memory in sight. -/
import Derived.Test.YtbkmgbckeaimdaaDoorBase
namespace Go.Proofs.YtbkmgbckeaimdaaDoor
open Go

/-- what is wrong with the i-th node. -/
def nodeErr (i : Nat) (n : Node) : Int :=
  if n.kind = 1 then 0
  else if n.kind = 2 then (if 0 ≤ n.a ∧ n.a ≤ 3 then 0 else 1)
  else if n.kind = 3 then (if 0 ≤ n.a ∧ n.b ≤ 32 ∧ n.a < n.b then 0 else 1)
  else if n.kind = 4 then (if 0 ≤ n.a ∧ n.a < i then 0 else 1)
  else if n.kind = 5 ∨ n.kind = 6 then (if 0 ≤ n.a ∧ n.a < i ∧ 0 ≤ n.b ∧ n.b < i then 0 else 1)
  else 3
def formGo : Nat → List Node → Int
  | _, [] => 0
  | i, n :: r => if nodeErr i n = 0 then formGo (i + 1) r else nodeErr i n
def formCheck (l : List Node) : Int := if l.length = 0 ∨ 30 < l.length then 2 else formGo 0 l
theorem formGo_drop (l : List Node) (k : Nat) (hk : k < l.length) : formGo k (l.drop k) = if nodeErr k l[k] = 0 then formGo (k + 1) (l.drop (k + 1)) else nodeErr k l[k] := by
  rw [List.drop_eq_getElem_cons hk, formGo]
theorem formGo_ok : ∀ (l : List Node) (i : Nat), formGo i l = 0 ↔ ∀ k (h : k < l.length), nodeErr (i + k) l[k] = 0
  | [], _ => by simp [formGo]
  | n :: r, i => by
    rw [formGo]
    by_cases h : nodeErr i n = 0
    · rw [if_pos h, formGo_ok r (i + 1)]
      constructor
      · intro g k hk
        cases k with
        | zero => exact h
        | succ k => have := g k (by simpa using hk); rw [show i + 1 + k = i + (k + 1) by omega] at this; exact this
      · intro g k hk
        have := g (k + 1) (by simpa using hk)
        rw [show i + 1 + k = i + (k + 1) by omega]; exact this
    · rw [if_neg h]
      exact ⟨fun e => absurd e h, fun g => absurd (g 0 (by simp)) h⟩
structure FormOk (l : List Node) : Prop where
  lo : 0 < l.length
  hi : l.length ≤ 30
  node : ∀ k (h : k < l.length), nodeErr k l[k] = 0
theorem formCheck_iff {l : List Node} : formCheck l = 0 ↔ FormOk l := by
  unfold formCheck
  by_cases h : l.length = 0 ∨ 30 < l.length
  · rw [if_pos h]
    exact ⟨fun e => by simp at e, fun e => by have := e.lo; have := e.hi; omega⟩
  · rw [if_neg h, formGo_ok]
    constructor
    · intro g; exact ⟨by omega, by omega, fun k hk => by have := g k hk; rwa [Nat.zero_add] at this⟩
    · intro g k hk; rw [Nat.zero_add]; exact g.node k hk

/-! what is said of the points, node by node. -/
abbrev PSet := Nat → Bool
def nodeSay (vals : List PSet) (n : Node) : PSet := fun j =>
  if n.kind = 1 then true
  else if n.kind = 2 then bitb (j / 32) n.a.toNat
  else if n.kind = 3 then decide (n.a ≤ (j % 32 : Nat) ∧ ((j % 32 : Nat) : Int) < n.b)
  else if n.kind = 4 then !(vals.getD n.a.toNat (fun _ => false)) j
  else if n.kind = 5 then (vals.getD n.a.toNat (fun _ => false)) j && (vals.getD n.b.toNat (fun _ => false)) j
  else (vals.getD n.a.toNat (fun _ => false)) j || (vals.getD n.b.toNat (fun _ => false)) j
def sayL (l : List Node) : List PSet := l.foldl (fun vals n => vals ++ [nodeSay vals n]) []
def sayAt (l : List Node) (i : Nat) : PSet := (sayL l).getD i fun _ => false
theorem sayL_len (l : List Node) : (sayL l).length = l.length := by
  have : ∀ (l : List Node) (a : List PSet), (l.foldl (fun vals n => vals ++ [nodeSay vals n]) a).length = a.length + l.length := by
    intro l
    induction l with
    | nil => intro a; rfl
    | cons n r ih => intro a; rw [List.foldl_cons, ih]; simp; omega
  rw [sayL, this]; simp
theorem sayL_snoc (l : List Node) (n : Node) : sayL (l ++ [n]) = sayL l ++ [nodeSay (sayL l) n] := by
  rw [sayL, List.foldl_append]; rfl
theorem sayAt_append (l m : List Node) (i : Nat) (hi : i < l.length) : sayAt (l ++ m) i = sayAt l i := by
  have key : ∀ (r : List Node), sayAt (l ++ r.reverse) i = sayAt l i := by
    intro r
    induction r with
    | nil => simp
    | cons n r ih =>
      rw [← ih, List.reverse_cons, ← List.append_assoc]
      unfold sayAt
      rw [sayL_snoc, List.getD_eq_getElem?_getD, List.getD_eq_getElem?_getD, List.getElem?_append_left (by rw [sayL_len]; simp; omega)]
  have := key m.reverse
  rwa [List.reverse_reverse] at this
theorem nodeErr_cases {i : Nat} {n : Node} (h : nodeErr i n = 0) : n.kind = 1 ∨ (n.kind = 2 ∧ 0 ≤ n.a ∧ n.a ≤ 3) ∨ (n.kind = 3 ∧ 0 ≤ n.a ∧ n.b ≤ 32 ∧ n.a < n.b) ∨ (n.kind = 4 ∧ 0 ≤ n.a ∧ n.a < i) ∨ ((n.kind = 5 ∨ n.kind = 6) ∧ 0 ≤ n.a ∧ n.a < i ∧ 0 ≤ n.b ∧ n.b < i) := by
  unfold nodeErr at h
  split at h
  · exact .inl ‹_›
  · split at h
    · split at h
      · exact .inr (.inl ⟨‹_›, ‹_›⟩)
      · simp at h
    · split at h
      · split at h
        · exact .inr (.inr (.inl ⟨‹_›, ‹_›⟩))
        · simp at h
      · split at h
        · split at h
          · exact .inr (.inr (.inr (.inl ⟨‹_›, ‹_›⟩)))
          · simp at h
        · split at h
          · split at h
            · exact .inr (.inr (.inr (.inr ⟨‹_›, ‹_›⟩)))
            · simp at h
          · simp at h

/-! the filter's sentence says the filter's points. -/
def Good (l : List Node) : Prop := ∀ k (h : k < l.length), nodeErr k l[k] = 0
/-- a list of nodes on the way: it stands on l0, its node st.2 says p. -/
structure Said (l0 : List Node) (st : List Node × Nat) (p : PSet) : Prop where
  ext : ∃ m, st.1 = l0 ++ m
  good : Good st.1
  lt : st.2 < st.1.length
  say : ∀ j, sayAt st.1 st.2 j = p j
theorem Said.refl {l : List Node} (h : Good l) {i : Nat} (hi : i < l.length) {p : PSet} (hp : ∀ j, sayAt l i j = p j) : Said l (l, i) p := ⟨⟨[], by simp⟩, h, hi, hp⟩
theorem Said.len {l0 : List Node} {st : List Node × Nat} {p : PSet} (h : Said l0 st p) : l0.length ≤ st.1.length := by
  obtain ⟨m, hm⟩ := h.ext
  rw [hm]; simp
theorem Said.old {l0 : List Node} {st : List Node × Nat} {p : PSet} (h : Said l0 st p) {i : Nat} (hi : i < l0.length) : sayAt st.1 i = sayAt l0 i := by
  obtain ⟨m, hm⟩ := h.ext
  rw [hm]; exact sayAt_append l0 m i hi
theorem Said.trans {l0 l1 : List Node} {i : Nat} {st : List Node × Nat} {p q : PSet} (h : Said l0 (l1, i) p) (k : Said l1 st q) : Said l0 st q := by
  obtain ⟨m, hm⟩ := h.ext
  obtain ⟨m', hm'⟩ := k.ext
  exact ⟨⟨m ++ m', by rw [hm']; simp only at hm; rw [hm]; simp⟩, k.good, k.lt, k.say⟩

end Go.Proofs.YtbkmgbckeaimdaaDoor
