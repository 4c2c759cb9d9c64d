/- Plain law on sets of dots: what may be is clean; two sets compared word by word; is a dot in a set. No program in sight. -/
import Derived.Test.YtmedmfjhpabfdaaKnI
import Derived.Test.YtmedmfjhpabfdaaBase
namespace Go.Proofs.Ytmedmfjhpabfdaa
open Go Go.RowKit

theorem inK_has (k : Know) (s c : Nat) (hc : 1 ≤ c) : inK k ⟨(s : Int), (c : Int)⟩ = hasK k s c := by
  simp only [inK, hasK, decide_eq_true hc, Bool.true_and]

end Go.Proofs.Ytmedmfjhpabfdaa
