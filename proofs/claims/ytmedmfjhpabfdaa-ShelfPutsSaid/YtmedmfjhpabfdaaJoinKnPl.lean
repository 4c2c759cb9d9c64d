/- Several texts in one: data, readings, plain laws, walks. No condition. -/
import Derived.Test.YtmedmfjhpabfdaaKnI
import Derived.Test.YtmedmfjhpabfdaaBase
namespace Go.Proofs.Ytmedmfjhpabfdaa
open Go Go.RowKit

theorem inK_has (k : Know) (s c : Nat) (hc : 1 ≤ c) : inK k ⟨(s : Int), (c : Int)⟩ = hasK k s c := by
  simp only [inK, hasK, decide_eq_true hc, Bool.true_and]

end Go.Proofs.Ytmedmfjhpabfdaa

namespace Go.Proofs.Ytmedmfjhpabfdaa
open Go Go.RowKit

/-- what a part says: of which points which dots. -/
structure RP where
  P : Nat → Bool
  K : DSet
theorem any_takeR {α : Type} (q : α → Bool) (f : List α) (k : Nat) (hk : k < f.length) : (f.take (k + 1)).any q = ((f.take k).any q || q f[k]) := by
  rw [List.take_succ_eq_append_getElem hk, List.any_append]; simp
end Go.Proofs.Ytmedmfjhpabfdaa
