/- Plain law on sentences: what may be, what is said of all points, the sentence of a filter. No program, no memory in sight. -/
import Derived.Test.YtbkmgbckeaimdaaDoorBase
namespace Go.Proofs.YtbkmgbckeaimdaaDoor
open Go

/-- what is wrong with the i-th node. -/
def nodeErr (i : Nat) (n : Node) : Int :=
  if n.kind = 1 then 0
  else if n.kind = 2 then (if 0 ≤ n.a ∧ n.a ≤ 3 then 0 else 1)
  else if n.kind = 3 then (if 0 ≤ n.a ∧ n.b ≤ 32 ∧ n.a < n.b then 0 else 1)
  else if n.kind = 4 then (if 0 ≤ n.a ∧ n.a < i then 0 else 1)
  else if n.kind = 5 ∨ n.kind = 6 then (if 0 ≤ n.a ∧ n.a < i ∧ 0 ≤ n.b ∧ n.b < i then 0 else 1)
  else 3
def formGo : Nat → List Node → Int
  | _, [] => 0
  | i, n :: r => if nodeErr i n = 0 then formGo (i + 1) r else nodeErr i n
def formCheck (l : List Node) : Int := if l.length = 0 ∨ 30 < l.length then 2 else formGo 0 l
theorem formGo_drop (l : List Node) (k : Nat) (hk : k < l.length) : formGo k (l.drop k) = if nodeErr k l[k] = 0 then formGo (k + 1) (l.drop (k + 1)) else nodeErr k l[k] := by
  rw [List.drop_eq_getElem_cons hk, formGo]
theorem formGo_ok : ∀ (l : List Node) (i : Nat), formGo i l = 0 ↔ ∀ k (h : k < l.length), nodeErr (i + k) l[k] = 0
  | [], _ => by simp [formGo]
  | n :: r, i => by
    rw [formGo]
    by_cases h : nodeErr i n = 0
    · rw [if_pos h, formGo_ok r (i + 1)]
      constructor
      · intro g k hk
        cases k with
        | zero => exact h
        | succ k => have := g k (by simpa using hk); rw [show i + 1 + k = i + (k + 1) by omega] at this; exact this
      · intro g k hk
        have := g (k + 1) (by simpa using hk)
        rw [show i + 1 + k = i + (k + 1) by omega]; exact this
    · rw [if_neg h]
      exact ⟨fun e => absurd e h, fun g => absurd (g 0 (by simp)) h⟩
structure FormOk (l : List Node) : Prop where
  lo : 0 < l.length
  hi : l.length ≤ 30
  node : ∀ k (h : k < l.length), nodeErr k l[k] = 0
theorem formCheck_iff {l : List Node} : formCheck l = 0 ↔ FormOk l := by
  unfold formCheck
  by_cases h : l.length = 0 ∨ 30 < l.length
  · rw [if_pos h]
    exact ⟨fun e => by simp at e, fun e => by have := e.lo; have := e.hi; omega⟩
  · rw [if_neg h, formGo_ok]
    constructor
    · intro g; exact ⟨by omega, by omega, fun k hk => by have := g k hk; rwa [Nat.zero_add] at this⟩
    · intro g k hk; rw [Nat.zero_add]; exact g.node k hk

/-! what is said of the points, node by node. -/
abbrev PSet := Nat → Bool
def nodeSay (vals : List PSet) (n : Node) : PSet := fun j =>
  if n.kind = 1 then true
  else if n.kind = 2 then bitb (j / 32) n.a.toNat
  else if n.kind = 3 then decide (n.a ≤ (j % 32 : Nat) ∧ ((j % 32 : Nat) : Int) < n.b)
  else if n.kind = 4 then !(vals.getD n.a.toNat (fun _ => false)) j
  else if n.kind = 5 then (vals.getD n.a.toNat (fun _ => false)) j && (vals.getD n.b.toNat (fun _ => false)) j
  else (vals.getD n.a.toNat (fun _ => false)) j || (vals.getD n.b.toNat (fun _ => false)) j
def sayL (l : List Node) : List PSet := l.foldl (fun vals n => vals ++ [nodeSay vals n]) []
def sayAt (l : List Node) (i : Nat) : PSet := (sayL l).getD i fun _ => false
theorem sayL_len (l : List Node) : (sayL l).length = l.length := by
  have : ∀ (l : List Node) (a : List PSet), (l.foldl (fun vals n => vals ++ [nodeSay vals n]) a).length = a.length + l.length := by
    intro l
    induction l with
    | nil => intro a; rfl
    | cons n r ih => intro a; rw [List.foldl_cons, ih]; simp; omega
  rw [sayL, this]; simp
theorem sayL_snoc (l : List Node) (n : Node) : sayL (l ++ [n]) = sayL l ++ [nodeSay (sayL l) n] := by
  rw [sayL, List.foldl_append]; rfl
theorem sayAt_append (l m : List Node) (i : Nat) (hi : i < l.length) : sayAt (l ++ m) i = sayAt l i := by
  have key : ∀ (r : List Node), sayAt (l ++ r.reverse) i = sayAt l i := by
    intro r
    induction r with
    | nil => simp
    | cons n r ih =>
      rw [← ih, List.reverse_cons, ← List.append_assoc]
      unfold sayAt
      rw [sayL_snoc, List.getD_eq_getElem?_getD, List.getD_eq_getElem?_getD, List.getElem?_append_left (by rw [sayL_len]; simp; omega)]
  have := key m.reverse
  rwa [List.reverse_reverse] at this
theorem sayAt_last (l : List Node) (n : Node) : sayAt (l ++ [n]) l.length = nodeSay (sayL l) n := by
  unfold sayAt
  rw [sayL_snoc, List.getD_eq_getElem?_getD, List.getElem?_append_right (by rw [sayL_len]; omega), sayL_len, Nat.sub_self]; rfl
/-- a node's value by those of the nodes ahead of it. -/
theorem sayAt_node (l : List Node) (k : Nat) (hk : k < l.length) : sayAt l k = nodeSay (sayL (l.take k)) l[k] := by
  have h := sayAt_append (l.take (k + 1)) (l.drop (k + 1)) k (by simp; omega)
  rw [List.take_append_drop] at h
  rw [h, List.take_succ_eq_append_getElem hk]
  have e : (l.take k).length = k := by simp; omega
  have := sayAt_last (l.take k) l[k]
  rw [e] at this
  exact this
theorem sayL_take (l : List Node) (k i : Nat) (hk : k ≤ l.length) (hi : i < k) : (sayL (l.take k)).getD i (fun _ => false) = sayAt l i := by
  have h := sayAt_append (l.take k) (l.drop k) i (by simp; omega)
  rw [List.take_append_drop] at h
  exact h.symm
theorem nodeErr_cases {i : Nat} {n : Node} (h : nodeErr i n = 0) : n.kind = 1 ∨ (n.kind = 2 ∧ 0 ≤ n.a ∧ n.a ≤ 3) ∨ (n.kind = 3 ∧ 0 ≤ n.a ∧ n.b ≤ 32 ∧ n.a < n.b) ∨ (n.kind = 4 ∧ 0 ≤ n.a ∧ n.a < i) ∨ ((n.kind = 5 ∨ n.kind = 6) ∧ 0 ≤ n.a ∧ n.a < i ∧ 0 ≤ n.b ∧ n.b < i) := by
  unfold nodeErr at h
  split at h
  · exact .inl ‹_›
  · split at h
    · split at h
      · exact .inr (.inl ⟨‹_›, ‹_›⟩)
      · simp at h
    · split at h
      · split at h
        · exact .inr (.inr (.inl ⟨‹_›, ‹_›⟩))
        · simp at h
      · split at h
        · split at h
          · exact .inr (.inr (.inr (.inl ⟨‹_›, ‹_›⟩)))
          · simp at h
        · split at h
          · split at h
            · exact .inr (.inr (.inr (.inr ⟨‹_›, ‹_›⟩)))
            · simp at h
          · simp at h

/-! a filter's sentence -/
/-- one tag of a box. -/
def tagStep (yes no : Nat) (st : List Node × Nat) (t : Nat) : List Node × Nat :=
  if bitb (yes ||| no) t then
    let l1 := st.1 ++ [⟨2, t, 0⟩]
    let k1 := st.1.length
    let l2 := if bitb no t then l1 ++ [⟨4, k1, 0⟩] else l1
    let k2 := if bitb no t then l1.length else k1
    (l2 ++ [⟨5, st.2, k2⟩], l2.length)
  else st
def tagsK (yes no : Nat) (l : List Node) : Nat → List Node × Nat
  | 0 => (l, 0)
  | t + 1 => tagStep yes no (tagsK yes no l t) t
def spanStep (st : List Node × Nat) (s : Span) : List Node × Nat := (st.1 ++ [⟨3, s.fr, s.to⟩] ++ [⟨6, st.2, st.1.length⟩], st.1.length + 1)
def spansF (l : List Node) (ss : List Span) : List Node × Nat := ss.foldl spanStep (l, 1)
def boxStep (st : List Node × Nat) (b : Box) : List Node × Nat :=
  let a := tagsK b.cube.yes.toNat b.cube.no.toNat st.1 4
  let s := spansF a.1 b.spans
  (s.1 ++ [⟨5, a.2, s.2⟩] ++ [⟨6, st.2, s.1.length⟩], s.1.length + 1)
def formF (f : List Box) : List Node × Nat := f.foldl boxStep ([⟨1, 0, 0⟩, ⟨4, 0, 0⟩], 1)

/-- how many nodes a box takes. -/
def boxNodes (b : Box) : Int := 2 + 2 * (b.spans.length : Int) + (2 * (if bitb b.cube.yes.toNat 0 then 1 else 0) + 3 * (if bitb b.cube.no.toNat 0 then 1 else 0)) + (2 * (if bitb b.cube.yes.toNat 1 then 1 else 0) + 3 * (if bitb b.cube.no.toNat 1 then 1 else 0)) + (2 * (if bitb b.cube.yes.toNat 2 then 1 else 0) + 3 * (if bitb b.cube.no.toNat 2 then 1 else 0)) + (2 * (if bitb b.cube.yes.toNat 3 then 1 else 0) + 3 * (if bitb b.cube.no.toNat 3 then 1 else 0))
def filterNodes (f : List Box) : Int := f.foldl (fun n b => n + boxNodes b) 2

/-! the filter's sentence says the filter's points. -/
def Good (l : List Node) : Prop := ∀ k (h : k < l.length), nodeErr k l[k] = 0
theorem Good.snoc {l : List Node} {n : Node} (h : Good l) (hn : nodeErr l.length n = 0) : Good (l ++ [n]) := by
  intro k hk
  by_cases hl : k < l.length
  · rw [List.getElem_append_left hl]; exact h k hl
  · have : k = l.length := by simp at hk; omega
    subst this
    simpa using hn
theorem say_not (l : List Node) (a : Nat) (b : Int) (j : Nat) : nodeSay (sayL l) ⟨4, (a : Int), b⟩ j = !sayAt l a j := by simp [nodeSay, sayAt]
theorem say_and (l : List Node) (a b : Nat) (j : Nat) : nodeSay (sayL l) ⟨5, (a : Int), (b : Int)⟩ j = (sayAt l a j && sayAt l b j) := by simp [nodeSay, sayAt]
theorem say_or (l : List Node) (a b : Nat) (j : Nat) : nodeSay (sayL l) ⟨6, (a : Int), (b : Int)⟩ j = (sayAt l a j || sayAt l b j) := by simp [nodeSay, sayAt]
theorem err_two {i a b : Nat} {q : Int} (hq : q = 5 ∨ q = 6) (ha : a < i) (hb : b < i) : nodeErr i ⟨q, (a : Int), (b : Int)⟩ = 0 := by
  rcases hq with rfl | rfl <;> simp [nodeErr] <;> omega
theorem err_not {i a : Nat} {b : Int} (ha : a < i) : nodeErr i ⟨4, (a : Int), b⟩ = 0 := by simp [nodeErr]; omega
theorem err_tag {i t : Nat} {b : Int} (ht : t < 4) : nodeErr i ⟨2, (t : Int), b⟩ = 0 := by simp [nodeErr]; omega
theorem err_in {i : Nat} {a b : Int} (h : 0 ≤ a ∧ a < b ∧ b ≤ 32) : nodeErr i ⟨3, a, b⟩ = 0 := by simp [nodeErr]; omega

/-- a list of nodes on the way: it stands on l0, its node st.2 says p. -/
structure Said (l0 : List Node) (st : List Node × Nat) (p : PSet) : Prop where
  ext : ∃ m, st.1 = l0 ++ m
  good : Good st.1
  lt : st.2 < st.1.length
  say : ∀ j, sayAt st.1 st.2 j = p j
theorem Said.refl {l : List Node} (h : Good l) {i : Nat} (hi : i < l.length) {p : PSet} (hp : ∀ j, sayAt l i j = p j) : Said l (l, i) p := ⟨⟨[], by simp⟩, h, hi, hp⟩
theorem Said.len {l0 : List Node} {st : List Node × Nat} {p : PSet} (h : Said l0 st p) : l0.length ≤ st.1.length := by
  obtain ⟨m, hm⟩ := h.ext
  rw [hm]; simp
theorem Said.old {l0 : List Node} {st : List Node × Nat} {p : PSet} (h : Said l0 st p) {i : Nat} (hi : i < l0.length) : sayAt st.1 i = sayAt l0 i := by
  obtain ⟨m, hm⟩ := h.ext
  rw [hm]; exact sayAt_append l0 m i hi
theorem Said.snoc {l0 : List Node} {st : List Node × Nat} {p : PSet} (h : Said l0 st p) (n : Node) (hn : nodeErr st.1.length n = 0) {q : PSet} (hq : ∀ j, nodeSay (sayL st.1) n j = q j) : Said l0 (st.1 ++ [n], st.1.length) q := by
  obtain ⟨m, hm⟩ := h.ext
  refine ⟨⟨m ++ [n], by rw [hm]; simp⟩, h.good.snoc hn, by simp, fun j => ?_⟩
  show sayAt (st.1 ++ [n]) st.1.length j = q j
  rw [sayAt_last]; exact hq j
theorem Said.trans {l0 l1 : List Node} {i : Nat} {st : List Node × Nat} {p q : PSet} (h : Said l0 (l1, i) p) (k : Said l1 st q) : Said l0 st q := by
  obtain ⟨m, hm⟩ := h.ext
  obtain ⟨m', hm'⟩ := k.ext
  exact ⟨⟨m ++ m', by rw [hm']; simp only at hm; rw [hm]; simp⟩, k.good, k.lt, k.say⟩

def tagNodes (yes no : Nat) : Nat → Int
  | 0 => 0
  | t + 1 => tagNodes yes no t + (2 * (if bitb yes t then 1 else 0) + 3 * (if bitb no t then 1 else 0))
theorem bit_or : ∀ y, y < 16 → ∀ n, n < 16 → ∀ t, t < 4 → bitb (y ||| n) t = (bitb y t || bitb n t) := by decide +kernel
theorem bit_dis : ∀ y, y < 16 → ∀ n, n < 16 → y &&& n = 0 → ∀ t, t < 4 → (bitb y t && bitb n t) = false := by decide +kernel

theorem tagStep_ok {yes no : Nat} (hy : yes < 16) (hn : no < 16) (hd : yes &&& no = 0) {l : List Node} {st : List Node × Nat} {t : Nat} (ht : t < 4) (h : Said l st (fun j => allTo (goodb yes no (j / 32)) t)) :
    Said l (tagStep yes no st t) (fun j => allTo (goodb yes no (j / 32)) (t + 1)) ∧ ((tagStep yes no st t).1.length : Int) = st.1.length + (2 * (if bitb yes t then 1 else 0) + 3 * (if bitb no t then 1 else 0)) := by
  have ho := bit_or yes hy no hn t ht
  have hb := bit_dis yes hy no hn hd t ht
  have hlt := h.lt
  unfold tagStep
  rw [ho]
  cases hyt : bitb yes t <;> cases hnt : bitb no t
  · refine ⟨?_, by simp⟩
    simp only [Bool.or_self, Bool.false_eq_true, if_false]
    refine ⟨h.ext, h.good, h.lt, fun j => ?_⟩
    rw [h.say j, allTo, goodb, hyt, hnt]; simp
  · simp only [Bool.or_true, if_true]
    have s1 := h.snoc ⟨2, t, 0⟩ (err_tag ht) (q := fun j => bitb (j / 32) t) (fun j => by simp [nodeSay])
    have s2 := s1.snoc ⟨4, (st.1.length : Nat), 0⟩ (err_not (by simp)) (q := fun j => !bitb (j / 32) t) (fun j => by
      have := s1.say j
      simp only at this
      rw [say_not, this])
    have hold : ∀ j, sayAt (st.1 ++ [⟨2, t, 0⟩] ++ [⟨4, (st.1.length : Nat), 0⟩]) st.2 j = allTo (goodb yes no (j / 32)) t := by
      intro j
      rw [List.append_assoc, sayAt_append _ _ _ hlt]; exact h.say j
    have s3 := s2.snoc ⟨5, (st.2 : Nat), ((st.1 ++ [(⟨2, (t : Int), 0⟩ : Node)]).length : Nat)⟩ (err_two (.inl rfl) (by simp; omega) (by simp)) (q := fun j => allTo (goodb yes no (j / 32)) (t + 1)) (fun j => by
      rw [say_and, hold j]
      have := s2.say j
      simp only at this
      rw [this, allTo, goodb, hyt, hnt]; simp)
    exact ⟨s3, by simp⟩
  · simp only [Bool.or_false, if_true, Bool.false_eq_true, if_false]
    have s1 := h.snoc ⟨2, t, 0⟩ (err_tag ht) (q := fun j => bitb (j / 32) t) (fun j => by simp [nodeSay])
    have hold : ∀ j, sayAt (st.1 ++ [⟨2, t, 0⟩]) st.2 j = allTo (goodb yes no (j / 32)) t := by
      intro j
      rw [sayAt_append _ _ _ hlt]; exact h.say j
    have s3 := s1.snoc ⟨5, (st.2 : Nat), (st.1.length : Nat)⟩ (err_two (.inl rfl) (by simp; omega) (by simp)) (q := fun j => allTo (goodb yes no (j / 32)) (t + 1)) (fun j => by
      rw [say_and, hold j]
      have := s1.say j
      simp only at this
      rw [this, allTo, goodb, hyt, hnt]; simp)
    exact ⟨s3, by simp⟩
  · rw [hyt, hnt] at hb; simp at hb

theorem tagsK_ok {yes no : Nat} (hy : yes < 16) (hn : no < 16) (hd : yes &&& no = 0) {l : List Node} (hg : Good l) (hl : 0 < l.length) (h0 : ∀ j, sayAt l 0 j = true) : ∀ k, k ≤ 4 →
    Said l (tagsK yes no l k) (fun j => allTo (goodb yes no (j / 32)) k) ∧ ((tagsK yes no l k).1.length : Int) = l.length + tagNodes yes no k
  | 0, _ => ⟨Said.refl hg hl fun j => by rw [h0 j]; rfl, by simp [tagsK, tagNodes]⟩
  | k + 1, hk => by
    obtain ⟨h1, h2⟩ := tagsK_ok hy hn hd hg hl h0 k (by omega)
    obtain ⟨h3, h4⟩ := tagStep_ok hy hn hd (show k < 4 by omega) h1
    exact ⟨h3, by rw [tagsK, h4, h2, tagNodes]; omega⟩

theorem spansF_ok : ∀ (ss : List Span) (l0 : List Node) (st : List Node × Nat) (p : PSet), SpansOk ss → Said l0 st p →
    Said l0 (ss.foldl spanStep st) (fun j => p j || spanIn ss (j % 32 : Nat)) ∧ ((ss.foldl spanStep st).1.length : Int) = st.1.length + 2 * ss.length
  | [], l0, st, p, _, h => ⟨⟨h.ext, h.good, h.lt, fun j => by simpa [spanIn] using h.say j⟩, by simp⟩
  | s :: ss, l0, st, p, hok, h => by
    have hs := hok s (by simp)
    have hlt := h.lt
    have s1 := h.snoc ⟨3, s.fr, s.to⟩ (err_in (by omega)) (q := fun j => decide (s.fr ≤ (j % 32 : Nat) ∧ ((j % 32 : Nat) : Int) < s.to)) (fun j => by simp [nodeSay])
    have s2 := s1.snoc ⟨6, (st.2 : Nat), (st.1.length : Nat)⟩ (err_two (.inr rfl) (by simp; omega) (by simp)) (q := fun j => p j || decide (s.fr ≤ (j % 32 : Nat) ∧ ((j % 32 : Nat) : Int) < s.to)) (fun j => by
      rw [say_or, sayAt_append _ _ _ hlt, h.say j]
      have := s1.say j
      simp only at this
      rw [this])
    have e : spanStep st s = (st.1 ++ [⟨3, s.fr, s.to⟩] ++ [⟨6, (st.2 : Nat), (st.1.length : Nat)⟩], (st.1 ++ [(⟨3, s.fr, s.to⟩ : Node)]).length) := by simp [spanStep]
    rw [List.foldl_cons, e]
    obtain ⟨h3, h4⟩ := spansF_ok ss l0 _ _ (fun t ht => hok t (by simp [ht])) s2
    refine ⟨⟨h3.ext, h3.good, h3.lt, fun j => ?_⟩, ?_⟩
    · rw [h3.say j, spanIn_cons, Bool.or_assoc]
    · rw [h4]; simp; omega

theorem boxNodes_eq (b : Box) : boxNodes b = 2 + 2 * (b.spans.length : Int) + tagNodes b.cube.yes.toNat b.cube.no.toNat 4 := by
  simp only [boxNodes, tagNodes]; omega

structure FormInv (st : List Node × Nat) (p : PSet) (n : Int) : Prop where
  good : Good st.1
  lt : st.2 < st.1.length
  top : st.2 + 1 = st.1.length
  lo : 2 ≤ st.1.length
  all : ∀ j, sayAt st.1 0 j = true
  none : ∀ j, sayAt st.1 1 j = false
  say : ∀ j, j < 512 → sayAt st.1 st.2 j = p j
  len : (st.1.length : Int) = n
theorem boxStep_ok {st : List Node × Nat} {p : PSet} {n : Int} (h : FormInv st p n) {b : Box} (hb : BoxOk b) : FormInv (boxStep st b) (fun j => p j || (spanIn b.spans (j % 32 : Nat) && boxIn b (j / 32))) (n + boxNodes b) := by
  obtain ⟨y, m, hc⟩ := cubeOk_of hb.1
  have hy : b.cube.yes.toNat = y := by rw [hc.yes, Int.toNat_natCast]
  have hm : b.cube.no.toNat = m := by rw [hc.no, Int.toNat_natCast]
  have hlo := h.lo
  have hlt := h.lt
  obtain ⟨a1, a2⟩ := tagsK_ok hc.hy hc.hn hc.dis h.good (show 0 < st.1.length by omega) h.all 4 (by omega)
  have al := a1.len
  have n1 : ∀ j, sayAt (tagsK y m st.1 4).1 1 j = false := fun j => by rw [a1.old (by omega)]; exact h.none j
  obtain ⟨s1, s2⟩ := spansF_ok b.spans (tagsK y m st.1 4).1 ((tagsK y m st.1 4).1, 1) (fun _ => false) (spanCheck_ok hb.2).1 (Said.refl a1.good (by omega) n1)
  have sl := s1.len
  have e : boxStep st b = ((spansF (tagsK y m st.1 4).1 b.spans).1 ++ [⟨5, ((tagsK y m st.1 4).2 : Nat), ((spansF (tagsK y m st.1 4).1 b.spans).2 : Nat)⟩] ++ [⟨6, (st.2 : Nat), ((spansF (tagsK y m st.1 4).1 b.spans).1.length : Nat)⟩], (spansF (tagsK y m st.1 4).1 b.spans).1.length + 1) := by
    rw [boxStep, hy, hm]
  rw [e]
  have s1' : Said (tagsK y m st.1 4).1 (spansF (tagsK y m st.1 4).1 b.spans) (fun j => false || spanIn b.spans (j % 32 : Nat)) := s1
  have s2' : ((spansF (tagsK y m st.1 4).1 b.spans).1.length : Int) = ((tagsK y m st.1 4).1.length : Int) + 2 * b.spans.length := s2
  have sl' : (tagsK y m st.1 4).1.length ≤ (spansF (tagsK y m st.1 4).1 b.spans).1.length := sl
  have hat : ∀ j, sayAt (spansF (tagsK y m st.1 4).1 b.spans).1 (tagsK y m st.1 4).2 j = allTo (goodb y m (j / 32)) 4 := fun j => by rw [s1'.old a1.lt]; exact a1.say j
  have t1 := a1.lt
  have t2 := s1'.lt
  have hrest : ∀ i, i < st.1.length → sayAt (spansF (tagsK y m st.1 4).1 b.spans).1 i = sayAt st.1 i := fun i hi => by rw [s1'.old (by omega), a1.old hi]
  have f1 := s1'.snoc ⟨5, ((tagsK y m st.1 4).2 : Nat), ((spansF (tagsK y m st.1 4).1 b.spans).2 : Nat)⟩ (err_two (.inl rfl) (by omega) t2) (q := fun j => allTo (goodb y m (j / 32)) 4 && spanIn b.spans (j % 32 : Nat)) (fun j => by
    rw [say_and, hat j, s1'.say j]; simp)
  have f2 := f1.snoc ⟨6, (st.2 : Nat), ((spansF (tagsK y m st.1 4).1 b.spans).1.length : Nat)⟩ (err_two (.inr rfl) (by simp; omega) (by simp)) (q := fun j => sayAt st.1 st.2 j || (allTo (goodb y m (j / 32)) 4 && spanIn b.spans (j % 32 : Nat))) (fun j => by
    rw [say_or, sayAt_append _ _ _ (by omega), hrest _ hlt]
    have := f1.say j
    simp only at this
    rw [this])
  have el : ((spansF (tagsK y m st.1 4).1 b.spans).1 ++ [(⟨5, ((tagsK y m st.1 4).2 : Nat), ((spansF (tagsK y m st.1 4).1 b.spans).2 : Nat)⟩ : Node)]).length = (spansF (tagsK y m st.1 4).1 b.spans).1.length + 1 := by simp
  rw [el] at f2
  have fin : ∀ i, i < st.1.length → ∀ j, sayAt ((spansF (tagsK y m st.1 4).1 b.spans).1 ++ [⟨5, ((tagsK y m st.1 4).2 : Nat), ((spansF (tagsK y m st.1 4).1 b.spans).2 : Nat)⟩] ++ [⟨6, (st.2 : Nat), ((spansF (tagsK y m st.1 4).1 b.spans).1.length : Nat)⟩]) i j = sayAt st.1 i j := by
    intro i hi j
    rw [List.append_assoc, sayAt_append _ _ _ (by omega), hrest i hi]
  refine ⟨f2.good, f2.lt, by simp, by simp only [List.length_append, List.length_singleton]; omega, fun j => ?_, fun j => ?_, fun j hj => ?_, ?_⟩
  · show sayAt _ 0 j = true
    rw [fin 0 (by omega)]; exact h.all j
  · show sayAt _ 1 j = false
    rw [fin 1 (by omega)]; exact h.none j
  · rw [f2.say j, h.say j hj]
    congr 1
    rw [boxIn, hy, hm, cubeIn_bits y hc.hy m hc.hn (j / 32) (by omega), Bool.and_comm]
  · have := h.len
    have hn := boxNodes_eq b
    rw [hy, hm] at hn
    simp
    omega
theorem formF_ok : ∀ (f : List Box) (st : List Node × Nat) (p : PSet) (n : Int), FormInv st p n → (∀ b ∈ f, BoxOk b) → FormInv (f.foldl boxStep st) (fun j => p j || pts f j) (f.foldl (fun n b => n + boxNodes b) n)
  | [], st, p, n, h, _ => ⟨h.good, h.lt, h.top, h.lo, h.all, h.none, fun j hj => by simpa [pts] using h.say j hj, h.len⟩
  | b :: f, st, p, n, h, hb => by
    have h1 := boxStep_ok h (hb b (by simp))
    have h2 := formF_ok f _ _ _ h1 (fun x hx => hb x (by simp [hx]))
    rw [List.foldl_cons, List.foldl_cons]
    exact ⟨h2.good, h2.lt, h2.top, h2.lo, h2.all, h2.none, fun j hj => by rw [h2.say j hj]; simp only [pts, List.any_cons, Bool.or_assoc], h2.len⟩
theorem form_start : FormInv ([⟨1, 0, 0⟩, ⟨4, 0, 0⟩], 1) (fun _ => false) 2 := by
  refine ⟨?_, by simp, by simp, by simp, fun j => ?_, fun j => ?_, fun j _ => ?_, by simp⟩
  · intro k hk
    match k, hk with
    | 0, _ => rfl
    | 1, _ => rfl
  · rfl
  · rfl
  · rfl
theorem form_says {f : List Box} (h : ∀ b ∈ f, BoxOk b) : FormInv (formF f) (pts f) (filterNodes f) := by
  have := formF_ok f _ _ _ form_start h
  exact ⟨this.good, this.lt, this.top, this.lo, this.all, this.none, fun j hj => by rw [show sayAt (formF f).1 (formF f).2 j = _ from this.say j hj]; simp, this.len⟩

end Go.Proofs.YtbkmgbckeaimdaaDoor
