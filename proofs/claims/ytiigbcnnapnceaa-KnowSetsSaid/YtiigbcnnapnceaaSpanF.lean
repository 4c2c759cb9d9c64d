/- The walks of package span that stand on Check, In and Make. -/
import Derived.Test.YtiigbcnnapnceaaSpanM
namespace Go.Proofs.Ytiigbcnnapnceaa
open Go Go.RowKit

end Go.Proofs.Ytiigbcnnapnceaa
