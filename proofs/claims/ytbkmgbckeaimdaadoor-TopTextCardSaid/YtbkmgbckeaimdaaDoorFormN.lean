/- The walk of the reference's Nodes. -/
import Derived.Test.YtbkmgbckeaimdaaDoorFormP
import Derived.Test.YtbkmgbckeaimdaaDoorWalks
import Derived.Deep.RegionWith
import Derived.Deep.DeepCutAuto
import Derived.Deep.QuietTactic
namespace Go.Proofs.YtbkmgbckeaimdaaDoor
open Go Go.RowKit

theorem tagNodes_bd (y n : Nat) : ∀ k : Nat, 0 ≤ tagNodes y n k ∧ tagNodes y n k ≤ 5 * k
  | 0 => by simp [tagNodes]
  | k + 1 => by
    have := tagNodes_bd y n k
    rw [tagNodes]
    split <;> split <;> omega
theorem boxNodes_bd {b : Box} (hb : BoxOk b) : 0 ≤ boxNodes b ∧ boxNodes b ≤ 54 := by
  have h1 := tagNodes_bd b.cube.yes.toNat b.cube.no.toNat 4
  have h2 := (spanCheck_ok hb.2).2
  rw [boxNodes_eq]
  have h3 : b.spans.length ≤ 16 := by
    have h := hb.2
    unfold spanCheck at h
    by_cases hl : 16 < b.spans.length
    · rw [if_pos hl] at h; cases h
    · omega
  omega
theorem filterNodes_bd : ∀ (f : List Box) (a : Int), (∀ b ∈ f, BoxOk b) → a ≤ f.foldl (fun n b => n + boxNodes b) a ∧ f.foldl (fun n b => n + boxNodes b) a ≤ a + 54 * f.length
  | [], a, _ => by simp
  | b :: r, a, h => by
    have h1 := boxNodes_bd (h b (by simp))
    have h2 := filterNodes_bd r (a + boxNodes b) (fun x hx => h x (by simp [hx]))
    rw [List.foldl_cons]
    simp only [List.length_cons]
    omega

end Go.Proofs.YtbkmgbckeaimdaaDoor
