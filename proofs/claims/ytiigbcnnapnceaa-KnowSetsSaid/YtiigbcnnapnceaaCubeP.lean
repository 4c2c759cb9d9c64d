/- Plain law on cubes: tags as bits below 16. No program, no memory in sight. -/
import Derived.Test.YtiigbcnnapnceaaData
import Derived.Test.YtiigbcnnapnceaaSpanP
import Derived.Laws.BitsAllLaws
namespace Go.Proofs.Ytiigbcnnapnceaa
open Go

theorem and16 : ∀ a, a < 16 → ∀ b, b < 16 → bits .and .i64 ((a : Nat) : Int) ((b : Nat) : Int) = ((a &&& b : Nat) : Int) := by decide +kernel
theorem or16 : ∀ a, a < 16 → ∀ b, b < 16 → bits .or .i64 ((a : Nat) : Int) ((b : Nat) : Int) = ((a ||| b : Nat) : Int) := by decide +kernel
theorem and16_lt : ∀ a, a < 16 → ∀ b, b < 16 → a &&& b < 16 := by decide +kernel
theorem or16_lt : ∀ a, a < 16 → ∀ b, b < 16 → a ||| b < 16 := by decide +kernel

def tagsOk (n : Int) : Bool := decide (0 ≤ n ∧ n ≤ 15)
def cubeCheck (c : Cube) : Int :=
  if tagsOk c.yes = true ∧ tagsOk c.no = true then (if c.yes.toNat &&& c.no.toNat = 0 then 0 else 3) else 1
/-- a cube that may be, by its bits. -/
structure CubeOk (c : Cube) (y n : Nat) : Prop where
  yes : c.yes = (y : Int)
  no : c.no = (n : Int)
  hy : y < 16
  hn : n < 16
  dis : y &&& n = 0
theorem tagsOk_iff {n : Int} : tagsOk n = true ↔ 0 ≤ n ∧ n ≤ 15 := by simp [tagsOk]
theorem cubeOk_of {c : Cube} (h : cubeCheck c = 0) : ∃ y n, CubeOk c y n := by
  unfold cubeCheck at h
  split at h
  · rename_i h1
    split at h
    · rename_i h2
      have a := tagsOk_iff.1 h1.1
      have b := tagsOk_iff.1 h1.2
      exact ⟨c.yes.toNat, c.no.toNat, by omega, by omega, by omega, by omega, h2⟩
    · simp at h
  · simp at h
/-- are tags in a cube? -/
def cubeIn (y n t : Nat) : Bool := (t &&& y == y) && (t &&& n == 0)

theorem cast_beq (a b : Nat) : ((a : Int) == (b : Int)) = (a == b) := by
  rw [Bool.eq_iff_iff, beq_iff_eq, beq_iff_eq]; omega
theorem cast_beq0 (a : Nat) : ((a : Int) == 0) = (a == 0) := cast_beq a 0

def cubeTwo (a b : Cube) : Int := if cubeCheck a = 0 then cubeCheck b else cubeCheck a
def cubeHasErr (c : Cube) (t : Int) : Int := if cubeCheck c = 0 then (if tagsOk t = true then 0 else 1) else cubeCheck c
def cubeHas (c : Cube) (t : Int) : Bool := decide (cubeHasErr c t = 0) && cubeIn c.yes.toNat c.no.toNat t.toNat
/-- of two cubes that may be: do they meet? -/
def meets (a b : Cube) : Bool := (a.yes.toNat ||| b.yes.toNat) &&& (a.no.toNat ||| b.no.toNat) == 0
def cubeMeetErr (a b : Cube) : Int := if cubeTwo a b = 0 then (if meets a b = true then 0 else 4) else cubeTwo a b
def cubeMeet (a b : Cube) : Cube := if cubeMeetErr a b = 0 then ⟨((a.yes.toNat ||| b.yes.toNat : Nat) : Int), ((a.no.toNat ||| b.no.toNat : Nat) : Int)⟩ else ⟨0, 0⟩
def cubeWithin (a b : Cube) : Bool := decide (cubeTwo a b = 0) && ((a.yes.toNat &&& b.yes.toNat == b.yes.toNat) && (a.no.toNat &&& b.no.toNat == b.no.toNat))

/-- bit k of v. -/
def bitb (v k : Nat) : Bool := v / 2 ^ k % 2 == 1
theorem bit_int (v k : Nat) : ((v : Int) / 2 ^ k).tmod 2 = if bitb v k then 1 else 0 := by
  have h1 : ((v : Int) / 2 ^ k) = ((v / 2 ^ k : Nat) : Int) := by simp
  rw [h1, show (2 : Int) = ((2 : Nat) : Int) from rfl, ← Int.ofNat_tmod]
  unfold bitb
  have : v / 2 ^ k % 2 = 0 ∨ v / 2 ^ k % 2 = 1 := by omega
  rcases this with h | h <;> simp [h]
/-- tag k says nothing against it. -/
def goodb (y n t k : Nat) : Bool := !(bitb y k && !bitb t k || bitb n k && bitb t k)
theorem cubeIn_bits : ∀ y, y < 16 → ∀ n, n < 16 → ∀ t, t < 16 → cubeIn y n t = allTo (goodb y n t) 4 := by decide +kernel

/-- how many combinations. -/
def pop (v : Nat) : Nat := v % 2 + v / 2 % 2 + v / 4 % 2 + v / 8
theorem count_cube : ∀ y, y < 16 → ∀ n, n < 16 → y &&& n = 0 → countTo (cubeIn y n) 16 = ((2 ^ (4 - pop (y ||| n)) : Nat) : Int) := by decide +kernel
def cubeCount (c : Cube) : Int := if cubeCheck c = 0 then ((2 ^ (4 - pop (c.yes.toNat ||| c.no.toNat)) : Nat) : Int) else 0

/-- one tag of Less: what is left of a, and what has been told. -/
def lessStep (z m bit y n : Nat) (out : List Cube) : Nat × Nat × List Cube :=
  if (y ||| n) &&& bit = 0 then
    if z &&& bit = 0 then
      if m &&& bit = 0 then (y, n, out) else (y, n ||| bit, out ++ [⟨((y ||| bit : Nat) : Int), (n : Int)⟩])
    else (y ||| bit, n, out ++ [⟨(y : Int), ((n ||| bit : Nat) : Int)⟩])
  else (y, n, out)
def lessK (y n z m : Nat) : Nat → Nat × Nat × List Cube
  | 0 => (y, n, [])
  | k + 1 => lessStep z m (2 ^ k) (lessK y n z m k).1 (lessK y n z m k).2.1 (lessK y n z m k).2.2
def cubeLess (a b : Cube) : List Cube :=
  if cubeTwo a b = 0 then (if meets a b = true then (lessK a.yes.toNat a.no.toNat b.yes.toNat b.no.toNat 4).2.2 else [a]) else []
theorem pow16 : ∀ k, k < 4 → 2 ^ k < 16 := by decide

end Go.Proofs.Ytiigbcnnapnceaa
