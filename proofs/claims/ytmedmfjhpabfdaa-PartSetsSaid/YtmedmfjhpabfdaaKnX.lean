/- The walk of the reference's Size. -/
import Derived.Test.YtmedmfjhpabfdaaKnU
namespace Go.Proofs.Ytmedmfjhpabfdaa
open Go Go.RowKit

def rowN (S : DSet) (i : Nat) : Nat → Int
  | 0 => 0
  | k + 1 => rowN S i k + ones 64 (wordOf S i k)
def sizeN (S : DSet) : Nat → Int
  | 0 => 0
  | i + 1 => sizeN S i + rowN S i 16
theorem ones_bd : ∀ (f v : Nat), 0 ≤ ones f v ∧ ones f v ≤ f
  | 0, _ => by simp [ones]
  | f + 1, v => by
    have := ones_bd f (v / 2)
    rw [ones]
    split
    · omega
    · omega
theorem rowN_bd (S : DSet) (i : Nat) : ∀ k, 0 ≤ rowN S i k ∧ rowN S i k ≤ 64 * k
  | 0 => by simp [rowN]
  | k + 1 => by
    have h1 := rowN_bd S i k
    have h2 := ones_bd 64 (wordOf S i k)
    rw [rowN]; omega
theorem sizeN_bd (S : DSet) : ∀ i, 0 ≤ sizeN S i ∧ sizeN S i ≤ 1024 * i
  | 0 => by simp [sizeN]
  | i + 1 => by
    have h1 := sizeN_bd S i
    have h2 := rowN_bd S i 16
    rw [sizeN]; omega
/-- a row of sixteen words. -/
def rowL (S : DSet) (i : Nat) : List Value := (rowF 16 fun k => .int .u64 ((wordOf S i k : Nat) : Int)).toList
theorem rowL_range {S : DSet} {i : Nat} {w : World} {b : Nat} {e : TypeId} (h : Blk w b e (rowD S)) (hi : i < 5) : w.rangeAt b (i * 16) (rowL S i) := by
  intro j v hv
  have hj : j < 16 := by
    have := (List.getElem?_eq_some_iff.1 hv).1
    simp only [rowL, Array.length_toList, rowF_size] at this
    exact this
  rw [h.cell (rowD_at S hi hj)]
  have : (rowF 16 fun k => Value.int .u64 ((wordOf S i k : Nat) : Int))[j]? = some v := by
    rw [← hv, rowL, Array.getElem?_toList]
  rw [rowF_get _ hj] at this
  exact this
theorem rowL_len (S : DSet) (i : Nat) : (rowL S i).length = 16 := by simp [rowL, rowF_size]
theorem rowL_arr (S : DSet) (i : Nat) : (rowL S i).toArray = rowF 16 fun k => .int .u64 ((wordOf S i k : Nat) : Int) := by simp [rowL]
theorem hu_row : Try.prog.underlying 81 = some (.array 16 80) := Try.underlying81
theorem hi_row : (Try.prog.info? 81).map (·.size) = some 16 := by kernel_rfl

end Go.Proofs.Ytmedmfjhpabfdaa
