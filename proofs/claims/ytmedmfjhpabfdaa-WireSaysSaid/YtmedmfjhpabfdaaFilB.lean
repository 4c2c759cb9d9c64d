/- The walk of filter.boxes. -/
import Derived.Test.YtmedmfjhpabfdaaWalks
import Derived.Test.YtmedmfjhpabfdaaBase
import Derived.Deep.RegionWith
import Derived.Deep.DeepCutAuto
import Derived.Deep.RegionHeld3
import Derived.Deep.RegionLaw
namespace Go.Proofs.Ytmedmfjhpabfdaa
open Go Go.RowKit

theorem ei_box : ElemInfo Try.prog 67 108 3 40 := ElemInfo.mk_ (z := .agg #[.int .i64 0, .int .i64 0, .slice none 0 0]) Try.underlying67 (by kernel_rfl) rfl (by decide)
theorem CubeOk.of {y n : Nat} (hy : y < 16) (hn : n < 16) (hd : y &&& n = 0) : CubeOk ⟨(y : Int), (n : Int)⟩ y n := ⟨rfl, rfl, hy, hn, hd⟩
end Go.Proofs.Ytmedmfjhpabfdaa
