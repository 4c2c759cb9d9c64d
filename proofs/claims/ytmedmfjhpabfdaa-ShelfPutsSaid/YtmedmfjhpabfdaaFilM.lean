/- The walk of the reference's Means. -/
import Derived.Test.YtmedmfjhpabfdaaFilR
import Derived.Deep.RegionHeld3
namespace Go.Proofs.Ytmedmfjhpabfdaa
open Go Go.RowKit

theorem rangeAt_ext {w w' : World} {b o : Nat} {cs : List Value} (x : Ext w w') (h : w.rangeAt b o cs) : w'.rangeAt b o cs := fun j v hv => x.cell (h j v hv)
theorem Blk.range {w : World} {b : Nat} {e : TypeId} {cs : Array Value} (h : Blk w b e cs) : w.rangeAt b 0 cs.toList := fun j v hv => by
  rw [Nat.zero_add]
  exact h.cell (by rwa [Array.getElem?_toList] at hv)
end Go.Proofs.Ytmedmfjhpabfdaa
