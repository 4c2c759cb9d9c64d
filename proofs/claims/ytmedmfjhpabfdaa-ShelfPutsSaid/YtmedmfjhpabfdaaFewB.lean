/- The walk of part.Few. -/
import Derived.Test.YtmedmfjhpabfdaaPartD
import Derived.Test.YtmedmfjhpabfdaaBase
import Derived.Test.YtmedmfjhpabfdaaKnT
import Derived.Test.YtmedmfjhpabfdaaFilE
import Derived.Test.YtmedmfjhpabfdaaKnR
import Derived.Test.YtmedmfjhpabfdaaKnJ
import Derived.Test.YtmedmfjhpabfdaaKnV
import Derived.Test.YtmedmfjhpabfdaaKnCp
namespace Go.Proofs.Ytmedmfjhpabfdaa
open Go Go.RowKit

theorem InP.chg {B : Nat} {ts : List TypeId} {w w' : World} {Af : Option Addr} {cf : Nat} {Av : Option Addr} {cv : Nat} {Am : Option Addr} {cm : Nat} {p : Part} (h : InP B w Af cf Av cv Am cm p) (x : Chg B ts w w') (h1 : 110 ∉ ts) (h2 : 108 ∉ ts) (h3 : 3 ∉ ts) (h4 : 38 ∉ ts) : InP B w' Af cf Av cv Am cm p :=
  ⟨h.lf, h.lcf, h.sf.chg (RBox.mono h1) h2 x, h.lcv, h.lcm, h.k.chg x h3 h4⟩
end Go.Proofs.Ytmedmfjhpabfdaa
