/- Plain law on Less: of two cubes that meet it tells disjoint cubes whose union is the difference. -/
import Derived.Test.YtmedmfjhpabfdaaBase
namespace Go.Proofs.Ytmedmfjhpabfdaa
open Go

/-- Less on bits. -/
def lessNS (z m bit y n : Nat) (out : List (Nat × Nat)) : Nat × Nat × List (Nat × Nat) :=
  if (y ||| n) &&& bit = 0 then
    if z &&& bit = 0 then
      if m &&& bit = 0 then (y, n, out) else (y, n ||| bit, out ++ [(y ||| bit, n)])
    else (y ||| bit, n, out ++ [(y, n ||| bit)])
  else (y, n, out)
def lessN (y n z m : Nat) : Nat → Nat × Nat × List (Nat × Nat)
  | 0 => (y, n, [])
  | k + 1 => lessNS z m (2 ^ k) (lessN y n z m k).1 (lessN y n z m k).2.1 (lessN y n z m k).2.2
def toCube (p : Nat × Nat) : Cube := ⟨(p.1 : Int), (p.2 : Int)⟩
theorem lessK_N (y n z m : Nat) : ∀ k, lessK y n z m k = ((lessN y n z m k).1, (lessN y n z m k).2.1, (lessN y n z m k).2.2.map toCube)
  | 0 => rfl
  | k + 1 => by
    rw [lessK, lessN, lessK_N y n z m k]
    generalize lessN y n z m k = s
    obtain ⟨a, b, out⟩ := s
    simp only [lessStep, lessNS]
    split
    · split
      · split
        · rfl
        · simp [toCube]
      · simp [toCube]
    · rfl

def lessOk (y n z m : Nat) : Bool :=
  !(y &&& n == 0) || !(z &&& m == 0) || !((y ||| z) &&& (n ||| m) == 0) ||
    ((lessN y n z m 4).2.2.length ≤ 4 && (lessN y n z m 4).2.2.all (fun p => Nat.blt p.1 16 && Nat.blt p.2 16 && (p.1 &&& p.2 == 0)) &&
      (List.range 16).all (fun t => ((lessN y n z m 4).2.2.filter (fun p => cubeIn p.1 p.2 t)).length == (if cubeIn y n t && !cubeIn z m t then 1 else 0)))
theorem lessOk_all : ((List.range 16).all fun y => (List.range 16).all fun n => (List.range 16).all fun z => (List.range 16).all fun m => lessOk y n z m) = true := by decide +kernel

theorem lessOk_of {y n z m : Nat} (hy : y < 16) (hn : n < 16) (hz : z < 16) (hm : m < 16) : lessOk y n z m = true := by
  have h := lessOk_all
  simp only [List.all_eq_true, List.mem_range] at h
  exact h y hy n hn z hz m hm

theorem less_says {y n z m : Nat} (hy : y < 16) (hn : n < 16) (hz : z < 16) (hm : m < 16) (d1 : y &&& n = 0) (d2 : z &&& m = 0) (hmeet : (y ||| z) &&& (n ||| m) = 0) :
    (lessN y n z m 4).2.2.length ≤ 4 ∧ (∀ p ∈ (lessN y n z m 4).2.2, p.1 < 16 ∧ p.2 < 16 ∧ p.1 &&& p.2 = 0) ∧
      ∀ t, t < 16 → ((lessN y n z m 4).2.2.filter (fun p => cubeIn p.1 p.2 t)).length = if cubeIn y n t && !cubeIn z m t then 1 else 0 := by
  have h := lessOk_of hy hn hz hm
  unfold lessOk at h
  rw [d1, d2, hmeet] at h
  simp only [beq_self_eq_true, Bool.not_true, Bool.false_or, Bool.and_eq_true, decide_eq_true_eq, List.all_eq_true, List.mem_range, beq_iff_eq, Nat.blt_eq] at h
  obtain ⟨⟨h1, h2⟩, h3⟩ := h
  exact ⟨h1, fun p hp => ⟨(h2 p hp).1.1, (h2 p hp).1.2, (h2 p hp).2⟩, fun t ht => by rw [h3 t ht]; simp only [Bool.and_eq_true]⟩

/-! what the law asks of two cubes that may be. -/
def inC (c : Cube) (t : Nat) : Bool := cubeIn c.yes.toNat c.no.toNat t
theorem CubeOk.inC {c : Cube} {y n : Nat} (h : CubeOk c y n) (t : Nat) : inC c t = cubeIn y n t := by simp [Proofs.Ytmedmfjhpabfdaa.inC, h.yes, h.no]
theorem CubeOk.check {c : Cube} {y n : Nat} (h : CubeOk c y n) : cubeCheck c = 0 := by
  have h1 : tagsOk ((y : Nat) : Int) = true := tagsOk_iff.2 ⟨by omega, by have := h.hy; omega⟩
  have h2 : tagsOk ((n : Nat) : Int) = true := tagsOk_iff.2 ⟨by omega, by have := h.hn; omega⟩
  rw [cubeCheck, h.yes, h.no, if_pos ⟨h1, h2⟩, Int.toNat_natCast, Int.toNat_natCast, if_pos h.dis]
theorem toCube_ok {p : Nat × Nat} (h1 : p.1 < 16) (h2 : p.2 < 16) (h3 : p.1 &&& p.2 = 0) : CubeOk (toCube p) p.1 p.2 := ⟨rfl, rfl, h1, h2, h3⟩

theorem and_or_all : ∀ t, t < 16 → ∀ y, y < 16 → ∀ z, z < 16 → ((t &&& (y ||| z) == y ||| z) = ((t &&& y == y) && (t &&& z == z))) ∧ ((t &&& (y ||| z) == 0) = ((t &&& y == 0) && (t &&& z == 0))) := by decide +kernel
theorem cubeIn_meet {y n z m t : Nat} (hy : y < 16) (hn : n < 16) (hz : z < 16) (hm : m < 16) (ht : t < 16) : cubeIn (y ||| z) (n ||| m) t = (cubeIn y n t && cubeIn z m t) := by
  unfold cubeIn
  rw [(and_or_all t ht y hy z hz).1, (and_or_all t ht n hn m hm).2]
  cases (t &&& y == y) <;> cases (t &&& z == z) <;> cases (t &&& n == 0) <;> rfl
def twoOk (y n z m : Nat) : Bool := !(y &&& n == 0) || !(z &&& m == 0) ||
  ((((y &&& z == z) && (n &&& m == m)) == allTo (fun t => !cubeIn y n t || cubeIn z m t) 16) && (((y ||| z) &&& (n ||| m) == 0) == !allTo (fun t => !(cubeIn y n t && cubeIn z m t)) 16))
theorem twoOk_all : ((List.range 16).all fun y => (List.range 16).all fun n => (List.range 16).all fun z => (List.range 16).all fun m => twoOk y n z m) = true := by decide +kernel
theorem twoOk_of {y n z m : Nat} (hy : y < 16) (hn : n < 16) (hz : z < 16) (hm : m < 16) : twoOk y n z m = true := by
  have h := twoOk_all
  simp only [List.all_eq_true, List.mem_range] at h
  exact h y hy n hn z hz m hm
theorem countTo_none (p : Nat → Bool) (k : Nat) : (countTo p k == 0) = allTo (fun i => !p i) k := by
  induction k with
  | zero => rfl
  | succ k ih =>
    have := (countTo_bd p k).1
    rw [countTo, allTo, ← ih]
    cases p k
    · simp
    · simp; omega

structure TwoSays (a b : Cube) : Prop where
  len : (cubeLess a b).length ≤ 4
  ok : ∀ c ∈ cubeLess a b, cubeCheck c = 0
  times : ∀ t, t < 16 → ((cubeLess a b).filter fun c => inC c t).length = if inC a t && !inC b t then 1 else 0
  within : cubeWithin a b = allTo (fun t => !inC a t || inC b t) 16
  meet : meets a b = true → cubeMeetErr a b = 0 ∧ cubeCheck (cubeMeet a b) = 0 ∧ ∀ t, t < 16 → inC (cubeMeet a b) t = (inC a t && inC b t)
  none : meets a b = false → cubeMeetErr a b = 4 ∧ cubeMeet a b = ⟨0, 0⟩
  both : meets a b = !(countTo (fun t => inC a t && inC b t) 16 == 0)
theorem two_says {a b : Cube} (ha : cubeCheck a = 0) (hb : cubeCheck b = 0) : TwoSays a b := by
  obtain ⟨y, n, ca⟩ := cubeOk_of ha
  obtain ⟨z, m, cb⟩ := cubeOk_of hb
  have hT : cubeTwo a b = 0 := by rw [cubeTwo, if_pos ha, hb]
  have h2 := twoOk_of ca.hy ca.hn cb.hy cb.hn
  unfold twoOk at h2
  rw [ca.dis, cb.dis] at h2
  simp only [beq_self_eq_true, Bool.not_true, Bool.false_or, Bool.and_eq_true, beq_iff_eq] at h2
  obtain ⟨hw, hm⟩ := h2
  have hmt : meets a b = ((y ||| z) &&& (n ||| m) == 0) := by simp [meets, ca.yes, ca.no, cb.yes, cb.no]
  have hia : ∀ t, inC a t = cubeIn y n t := ca.inC
  have hib : ∀ t, inC b t = cubeIn z m t := cb.inC
  have hL : cubeLess a b = if meets a b = true then (lessN y n z m 4).2.2.map toCube else [a] := by
    rw [cubeLess, if_pos hT, ca.yes, ca.no, cb.yes, cb.no]
    simp only [Int.toNat_natCast, lessK_N]
  have hboth : meets a b = !(countTo (fun t => inC a t && inC b t) 16 == 0) := by
    rw [countTo_none, hmt, hm]
    simp only [hia, hib]
  by_cases hme : meets a b = true
  · have he := hme
    rw [hmt, beq_iff_eq] at he
    obtain ⟨l1, l2, l3⟩ := less_says ca.hy ca.hn cb.hy cb.hn ca.dis cb.dis he
    rw [if_pos hme] at hL
    have hM : cubeMeetErr a b = 0 := by rw [cubeMeetErr, if_pos hT, if_pos hme]
    have cm : CubeOk (cubeMeet a b) (y ||| z) (n ||| m) := by
      refine ⟨?_, ?_, or16_lt y ca.hy z cb.hy, or16_lt n ca.hn m cb.hn, he⟩
      · simp [cubeMeet, hM, ca.yes, cb.yes]
      · simp [cubeMeet, hM, ca.no, cb.no]
    refine ⟨by rw [hL, List.length_map]; exact l1, ?_, ?_, ?_, fun _ => ⟨hM, cm.check, ?_⟩, fun h => by rw [hme] at h; simp at h, hboth⟩
    · intro c hc
      rw [hL] at hc
      obtain ⟨p, hp, rfl⟩ := List.mem_map.1 hc
      obtain ⟨p1, p2, p3⟩ := l2 p hp
      exact (toCube_ok p1 p2 p3).check
    · intro t ht
      rw [hL, List.filter_map, List.length_map, hia, hib, ← l3 t ht]
      congr 1
    · rw [cubeWithin, hT, ca.yes, ca.no, cb.yes, cb.no]
      simp only [Int.toNat_natCast, decide_true, Bool.true_and, hia, hib]
      exact hw
    · intro t ht
      rw [cm.inC, hia, hib, cubeIn_meet ca.hy ca.hn cb.hy cb.hn ht]
  · have hme' : meets a b = false := by simpa using hme
    rw [if_neg hme] at hL
    have hM : cubeMeetErr a b = 4 := by rw [cubeMeetErr, if_pos hT, if_neg hme]
    refine ⟨by rw [hL]; simp, ?_, ?_, ?_, fun h => absurd h hme, fun _ => ⟨hM, ?_⟩, hboth⟩
    · intro c hc
      rw [hL, List.mem_singleton] at hc
      rw [hc]; exact ha
    · intro t ht
      rw [hmt] at hme'
      rw [hme'] at hm
      have h0 := (allTo_iff _ 16).1 (show allTo (fun t => !(cubeIn y n t && cubeIn z m t)) 16 = true by simpa using hm.symm) t ht
      rw [hL, hia, hib]
      rw [List.filter_cons, hia]
      cases h1 : cubeIn y n t
      · simp
      · rw [h1] at h0
        have : cubeIn z m t = false := by simpa using h0
        simp [this]
    · rw [cubeWithin, hT, ca.yes, ca.no, cb.yes, cb.no]
      simp only [Int.toNat_natCast, decide_true, Bool.true_and, hia, hib]
      exact hw
    · rw [cubeMeet, hM]; rfl

end Go.Proofs.Ytmedmfjhpabfdaa
