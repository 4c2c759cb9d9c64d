/- Plain law on Less: of two cubes that meet it tells disjoint cubes whose union is the difference. -/
import Derived.Test.YtbkmgbckeaimdaaDoorBase
namespace Go.Proofs.YtbkmgbckeaimdaaDoor
open Go

/-! what the law asks of two cubes that may be. -/
def inC (c : Cube) (t : Nat) : Bool := cubeIn c.yes.toNat c.no.toNat t
theorem CubeOk.inC {c : Cube} {y n : Nat} (h : CubeOk c y n) (t : Nat) : inC c t = cubeIn y n t := by simp [Proofs.YtbkmgbckeaimdaaDoor.inC, h.yes, h.no]
end Go.Proofs.YtbkmgbckeaimdaaDoor
