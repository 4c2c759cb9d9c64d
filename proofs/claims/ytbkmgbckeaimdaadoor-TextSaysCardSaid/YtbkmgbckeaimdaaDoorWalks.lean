/- Walks: CubeW2, CubeR in one text: data, readings, plain laws, small walks. No condition. -/
import Derived.Test.YtbkmgbckeaimdaaDoorBase
import Derived.BigQuiet
import Derived.Deep.QuietTactic
import Derived.Outline
import Derived.Test.YtbkmgbckeaimdaaDoorProg
import Derived.WalkKit
namespace Go.Proofs.YtbkmgbckeaimdaaDoor
open Go Go.RowKit

theorem Blk2.first {w : World} {b : Nat} {x y u v : Value} (h0 : w.cell? ⟨b, 0, none⟩ = some x) (_h1 : w.cell? ⟨b, 1, none⟩ = some y) : ((w.setCell ⟨b, 0, none⟩ u).setCell ⟨b, 1, none⟩ v).cell? ⟨b, 0, none⟩ = some u :=
  (World.cell?_setCell_other _ _ _ _ (by intro e; injection e with _ e; cases e)).trans (World.cell?_setCell_same _ _ _ h0)
end Go.Proofs.YtbkmgbckeaimdaaDoor

namespace Go.Proofs.YtbkmgbckeaimdaaDoor
open Go Go.RowKit

/-- in between. -/
def betw (x a b : Int) : Bool := decide (a ≤ x ∧ x ≤ b)

set_option maxHeartbeats 400000 in
theorem ref_within (x a b : Int) (w : World) : Calls Tryd.prog 34 #[.int .i64 x, .int .i64 a, .int .i64 b] w fun e w' => e = .returned (.bool (betw x a b)) ∧ w = w' := by
  by_cases h1 : a ≤ x
  · have HB := hid (show betw x a b = decide (x ≤ b) by simp [betw, h1])
    go_enter Tryd.func34, Tryd.ntmps34
    go_wp2_with fail
    go_ret
    exact ⟨ret_bool HB.out.symm, rfl⟩
  · have HB := hid (show betw x a b = false by simp [betw, h1])
    have h1' : x < a := by omega
    go_enter Tryd.func34, Tryd.ntmps34
    go_wp2_with fail
    go_ret
    exact ⟨ret_bool HB.out.symm, rfl⟩

end Go.Proofs.YtbkmgbckeaimdaaDoor
