/- Plain law on batches: what may be, when two are the same. No program in sight. -/
import Derived.Test.YtmedmfjhpabfdaaShelfP
import Derived.Test.YtmedmfjhpabfdaaJoinKnPl
import Derived.Test.YtmedmfjhpabfdaaFewQ
import Derived.Test.YtmedmfjhpabfdaaKnE
import Derived.Test.YtmedmfjhpabfdaaKnJ
import Derived.Test.YtmedmfjhpabfdaaKnV
import Derived.Test.YtmedmfjhpabfdaaKnW
import Derived.Test.YtmedmfjhpabfdaaKnU
import Derived.Test.YtmedmfjhpabfdaaKnT
import Derived.Test.YtmedmfjhpabfdaaBase
import Derived.ChangeKeysEq
namespace Go.Proofs.Ytmedmfjhpabfdaa
open Go Go.RowKit

structure Gone where
  id : ByteArray
  past : Know
structure Batch where
  site : Int
  stamp : Int
  vers : List Version
  gone : List Gone
  parts : List Part

def goneErr (g : Gone) : Int := if idOk g.id = true then knowCheck g.past else 3
end Go.Proofs.Ytmedmfjhpabfdaa
