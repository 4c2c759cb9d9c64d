/- A closure of the law FilterSays. -/
import Derived.Test.YtiigbcnnapnceaaFilM
namespace Go.Proofs.Ytiigbcnnapnceaa
open Go Go.RowKit

theorem fsay1 (a b : Bool) (wn : World) : Calls Try.prog 42 #[.bool a, .bool b] wn fun e w' => e = .returned (.bool (a || b)) ∧ wn = w' := by
  cases a
  all_goals
    go_enter Try.func42, Try.ntmps42
    go_wp2_with fail
    go_ret
    exact ⟨ret_bool (by simp), rfl⟩
end Go.Proofs.Ytiigbcnnapnceaa
