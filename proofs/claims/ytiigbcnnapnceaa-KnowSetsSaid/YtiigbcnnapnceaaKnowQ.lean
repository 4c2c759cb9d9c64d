/- Plain law on the reference's sets of dots: words of bits. No program, no memory in sight. -/
import Derived.Test.YtiigbcnnapnceaaKnowP
import Derived.Laws.BitsAllLaws
namespace Go.Proofs.Ytiigbcnnapnceaa
open Go

def ofBits (p : Nat → Bool) : Nat → Nat
  | 0 => 0
  | n + 1 => 2 ^ n * (p n).toNat + ofBits p n
theorem ofBits_lt (p : Nat → Bool) : ∀ n, ofBits p n < 2 ^ n
  | 0 => by simp [ofBits]
  | n + 1 => by
    have := ofBits_lt p n
    rw [ofBits, Nat.pow_succ]
    cases p n <;> simp <;> omega
theorem testBit_ofBits (p : Nat → Bool) (i : Nat) : ∀ n, (ofBits p n).testBit i = (decide (i < n) && p i)
  | 0 => by simp [ofBits]
  | n + 1 => by
    rw [ofBits, Nat.testBit_two_pow_mul_add _ (ofBits_lt p n), testBit_ofBits p i n]
    by_cases h : i < n
    · have : i < n + 1 := by omega
      simp [h, this]
    · by_cases h2 : i = n
      · subst h2; cases p i <;> simp
      · have h3 : ¬ i < n + 1 := by omega
        obtain ⟨j, hj⟩ : ∃ j, i - n = j + 1 := ⟨i - n - 1, by omega⟩
        rw [if_neg h, hj, Nat.testBit_succ]
        cases p n <;> simp [h3]
theorem ofBits_congr {p q : Nat → Bool} : ∀ {n}, (∀ i, i < n → p i = q i) → ofBits p n = ofBits q n
  | 0, _ => rfl
  | n + 1, h => by rw [ofBits, ofBits, h n (by omega), ofBits_congr (fun i hi => h i (by omega))]
theorem ofBits_inj {p q : Nat → Bool} {n : Nat} (h : ofBits p n = ofBits q n) (i : Nat) (hi : i < n) : p i = q i := by
  have h1 := testBit_ofBits p i n
  have h2 := testBit_ofBits q i n
  rw [h, h2] at h1
  simpa [hi] using h1.symm
theorem ofBits_or (p q : Nat → Bool) (n : Nat) : ofBits p n ||| ofBits q n = ofBits (fun i => p i || q i) n := by
  apply Nat.eq_of_testBit_eq
  intro i
  rw [Nat.testBit_or, testBit_ofBits, testBit_ofBits, testBit_ofBits]
  cases decide (i < n) <;> simp
theorem ofBits_and (p q : Nat → Bool) (n : Nat) : ofBits p n &&& ofBits q n = ofBits (fun i => p i && q i) n := by
  apply Nat.eq_of_testBit_eq
  intro i
  rw [Nat.testBit_and, testBit_ofBits, testBit_ofBits, testBit_ofBits]
  cases decide (i < n) <;> simp
theorem ofBits_set (p : Nat → Bool) (n k : Nat) (hk : k < n) : ofBits p n ||| 2 ^ k = ofBits (fun i => p i || decide (i = k)) n := by
  apply Nat.eq_of_testBit_eq
  intro i
  rw [Nat.testBit_or, testBit_ofBits, testBit_ofBits, Nat.testBit_two_pow]
  by_cases h : k = i
  · subst h; simp [hk]
  · have h' : ¬ i = k := fun e => h e.symm
    simp [h, h']
theorem ofBits_get (p : Nat → Bool) (n k : Nat) (hk : k < n) : ofBits p n / 2 ^ k % 2 = if p k then 1 else 0 := by
  have h := testBit_ofBits p k n
  rw [Nat.testBit_eq_decide_div_mod_eq] at h
  simp only [hk, decide_true, Bool.true_and] at h
  cases hp : p k
  · rw [hp] at h; simp at h; simp; omega
  · rw [hp] at h; simp at h; simp [h]

/-- a word of a set's site. -/
def wordOf (S : DSet) (s k : Nat) : Nat := ofBits (fun b => S s (64 * k + b)) 64
theorem wordOf_lt (S : DSet) (s k : Nat) : wordOf S s k < 18446744073709551616 := ofBits_lt _ 64
theorem wordOf_congr {S T : DSet} {s k : Nat} (h : ∀ b, b < 64 → S s (64 * k + b) = T s (64 * k + b)) : wordOf S s k = wordOf T s k := ofBits_congr h
theorem word_get (S : DSet) (s c : Nat) : wordOf S s (c / 64) / 2 ^ (c % 64) % 2 = if S s c then 1 else 0 := by
  unfold wordOf
  rw [ofBits_get _ 64 _ (Nat.mod_lt _ (by omega))]
  rw [show 64 * (c / 64) + c % 64 = c from Nat.div_add_mod c 64]
def withD (S : DSet) (s c : Nat) : DSet := fun t d => S t d || (decide (t = s) && decide (d = c))
theorem word_set (S : DSet) (s c : Nat) : wordOf S s (c / 64) ||| 2 ^ (c % 64) = wordOf (withD S s c) s (c / 64) := by
  unfold wordOf
  rw [ofBits_set _ 64 _ (Nat.mod_lt _ (by omega))]
  apply ofBits_congr
  intro i hi
  simp only [withD, decide_true, Bool.true_and]
  congr 1
  rw [decide_eq_decide]
  constructor
  · intro e; subst e; exact Nat.div_add_mod c 64
  · intro e; omega
theorem word_with_other (S : DSet) (s c t k : Nat) (h : ¬ (t = s ∧ k = c / 64)) : wordOf (withD S s c) t k = wordOf S t k := by
  apply wordOf_congr
  intro b hb
  have : (decide (t = s) && decide (64 * k + b = c)) = false := by
    rw [← Bool.not_eq_true]
    simp only [Bool.and_eq_true, decide_eq_true_eq]
    rintro ⟨e1, e2⟩
    exact h ⟨e1, by omega⟩
  simp [withD, this]
def orD (S T : DSet) : DSet := fun s c => S s c || T s c
def andD (S T : DSet) : DSet := fun s c => S s c && T s c
theorem word_or (S T : DSet) (s k : Nat) : wordOf S s k ||| wordOf T s k = wordOf (orD S T) s k := ofBits_or _ _ _
theorem word_and (S T : DSet) (s k : Nat) : wordOf S s k &&& wordOf T s k = wordOf (andD S T) s k := ofBits_and _ _ _
/-- the words of two sets are the same where their dots are. -/
def EqWords (S T : DSet) : Prop := ∀ s, s < 5 → ∀ k, k < 16 → wordOf S s k = wordOf T s k
theorem eqWords_iff (S T : DSet) : EqWords S T ↔ ∀ s, s < 5 → ∀ c, c < 1024 → S s c = T s c := by
  constructor
  · intro h s hs c hc
    have := ofBits_inj (h s hs (c / 64) (by omega)) (c % 64) (Nat.mod_lt _ (by omega))
    simpa [Nat.div_add_mod] using this
  · intro h s hs k hk
    exact wordOf_congr fun b hb => h s hs _ (by omega)
/-- no dot that may not be. -/
def Clean (S : DSet) : Prop := ∀ s c, S s c = true → s < 5 ∧ 1 ≤ c ∧ c ≤ 1000
theorem eqWords_same {S T : DSet} (hS : Clean S) (hT : Clean T) : EqWords S T ↔ SameSet S T := by
  rw [eqWords_iff]
  constructor
  · intro h s hs c c1 c2; exact h s hs c (by omega)
  · intro h s hs c hc
    by_cases hv : 1 ≤ c ∧ c ≤ 1000
    · exact h s hs c hv.1 hv.2
    · have a : S s c = false := by
        rw [← Bool.not_eq_true]; intro e; exact hv (hS s c e).2
      have b : T s c = false := by
        rw [← Bool.not_eq_true]; intro e; exact hv (hT s c e).2
      rw [a, b]

/-- the ones of a word, as the reference counts them. -/
def ones : Nat → Nat → Int
  | 0, _ => 0
  | f + 1, v => if v = 0 then 0 else ones f (v / 2) + (v % 2 : Nat)
theorem ones_zero : ∀ f, ones f 0 = 0
  | 0 => rfl
  | f + 1 => by simp [ones]
theorem ones_count : ∀ (f v : Nat), v < 2 ^ f → ones f v = countTo (fun i => v.testBit i) f
  | 0, v, h => rfl
  | f + 1, v, h => by
    have e : countTo (fun i => v.testBit i) (f + 1) = (v % 2 : Nat) + countTo (fun i => (v / 2).testBit i) f := by
      have : ∀ n, countTo (fun i => v.testBit i) (n + 1) = (v % 2 : Nat) + countTo (fun i => (v / 2).testBit i) n := by
        intro n
        induction n with
        | zero =>
          simp only [countTo, Nat.testBit_zero]
          have : v % 2 = 0 ∨ v % 2 = 1 := by omega
          rcases this with h | h <;> simp [h]
        | succ n ih =>
          rw [countTo, ih, countTo, Nat.testBit_succ]; omega
      exact this f
    rw [ones, e]
    split
    · rename_i h0; subst h0
      rw [countTo_congr (q := fun _ => false) (by simp), countTo_zero]; simp
    · rw [ones_count f (v / 2) (by rw [Nat.pow_succ] at h; omega)]; omega

end Go.Proofs.Ytiigbcnnapnceaa
