/- What a node says of a point, by the nodes that it names. No program in sight. -/
import Derived.Test.YtbkmgbckeaimdaaDoorFormP
import Derived.Test.YtbkmgbckeaimdaaDoorWalks
import Derived.Test.YtbkmgbckeaimdaaDoorBase
import Derived.ChangeKeysEq
import Derived.Deep.RegionWith
import Derived.Deep.DeepCutAuto
namespace Go.Proofs.YtbkmgbckeaimdaaDoor
open Go Go.RowKit

abbrev SlNodes (B : Nat) := Sl B 39 RNode 3
end Go.Proofs.YtbkmgbckeaimdaaDoor
