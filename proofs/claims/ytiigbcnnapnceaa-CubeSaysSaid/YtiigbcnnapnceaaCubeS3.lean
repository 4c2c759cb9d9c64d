/- The walk of the law CubeSays where both cubes may be. -/
import Derived.Test.YtiigbcnnapnceaaCubeS2
namespace Go.Proofs.Ytiigbcnnapnceaa
open Go Go.RowKit

def bothC (a b : Cube) (t : Nat) : Bool := inC a t && inC b t
def subC (a b : Cube) (t : Nat) : Bool := !inC a t || inC b t
def timesC (l : List Cube) (t : Nat) : Int := (l.filter fun c => inC c t).length
theorem timesC_take (l : List Cube) (t j : Nat) (hj : j < l.length) : timesC (l.take (j + 1)) t = timesC (l.take j) t + (if inC l[j] t then 1 else 0) := by
  rw [List.take_succ_eq_append_getElem hj]
  unfold timesC
  rw [List.filter_append, List.length_append, List.filter_cons, List.filter_nil]
  cases inC l[j] t <;> simp
theorem timesC_bd (l : List Cube) (t : Nat) : 0 ≤ timesC l t ∧ timesC l t ≤ l.length := by
  unfold timesC
  exact ⟨by omega, by have := List.length_filter_le (fun c => inC c t) l; omega⟩

end Go.Proofs.Ytiigbcnnapnceaa
