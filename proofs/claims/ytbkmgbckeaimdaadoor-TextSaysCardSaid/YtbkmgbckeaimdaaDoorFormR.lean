/- The walk of formula.Of. -/
import Derived.Test.YtbkmgbckeaimdaaDoorFormO
import Derived.Test.YtbkmgbckeaimdaaDoorFormP
import Derived.Test.YtbkmgbckeaimdaaDoorProg
import Derived.Test.YtbkmgbckeaimdaaDoorBase
import Derived.WalkKit
import Derived.Outline
import Derived.Deep.QuietTactic
import Derived.BigQuiet
import Derived.Test.YtbkmgbckeaimdaaDoorWalks
import Derived.Deep.RegionWith
import Derived.Deep.DeepCutAuto
namespace Go.Proofs.YtbkmgbckeaimdaaDoor
open Go Go.RowKit

theorem Nodes.ext {base bL : Nat} {w w' : World} {L : List Node} (h : Nodes base bL w L) (x : Ext w w') : Nodes base bL w' L := by
  obtain ⟨⟨v, hc, ho⟩, hty, hfz, hlo⟩ := h
  have hz : bL < w.heap.size := World.block_lt_of_cell? _ _ hc
  exact ⟨⟨v, x.cell hc, ho.ext (B := base) RTrip.mono x⟩, (tyAt_of (x.blockAt hz)).trans hty, (x.frozenAt hz).trans hfz, hlo⟩
end Go.Proofs.YtbkmgbckeaimdaaDoor
