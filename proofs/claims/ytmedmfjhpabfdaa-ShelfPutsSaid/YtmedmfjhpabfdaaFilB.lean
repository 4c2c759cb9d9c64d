/- The walk of filter.boxes. -/
import Derived.Test.YtmedmfjhpabfdaaProg
import Derived.Test.YtmedmfjhpabfdaaBase
import Derived.WalkKit
import Derived.Outline
import Derived.Deep.QuietTactic
import Derived.BigQuiet
import Derived.Test.YtmedmfjhpabfdaaWalks
import Derived.Deep.RegionWith
import Derived.Deep.DeepCutAuto
import Derived.Deep.RegionHeld3
import Derived.Deep.RegionLaw
namespace Go.Proofs.Ytmedmfjhpabfdaa
open Go Go.RowKit

theorem CubeOk.of {y n : Nat} (hy : y < 16) (hn : n < 16) (hd : y &&& n = 0) : CubeOk ⟨(y : Int), (n : Int)⟩ y n := ⟨rfl, rfl, hy, hn, hd⟩
end Go.Proofs.Ytmedmfjhpabfdaa
