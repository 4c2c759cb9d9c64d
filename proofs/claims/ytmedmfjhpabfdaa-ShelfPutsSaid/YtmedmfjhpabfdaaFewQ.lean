/- Plain law on parts: what Few leaves says what the reference's Few leaves. No program in sight. -/
import Derived.Test.YtmedmfjhpabfdaaFewB
import Derived.Test.YtmedmfjhpabfdaaPartD
import Derived.Test.YtmedmfjhpabfdaaFilE
import Derived.Test.YtmedmfjhpabfdaaKnR
import Derived.Test.YtmedmfjhpabfdaaKnW
import Derived.Test.YtmedmfjhpabfdaaKnT
import Derived.Test.YtmedmfjhpabfdaaBase
import Derived.ChangeKeysEq
import Derived.Test.YtmedmfjhpabfdaaKnU
import Derived.Test.YtmedmfjhpabfdaaJoinKnPl
import Derived.Test.YtmedmfjhpabfdaaFilR
import Derived.Test.YtmedmfjhpabfdaaFilM
import Derived.Test.YtmedmfjhpabfdaaKnE
import Derived.Test.YtmedmfjhpabfdaaKnJ
import Derived.Test.YtmedmfjhpabfdaaKnV
namespace Go.Proofs.Ytmedmfjhpabfdaa
open Go Go.RowKit

/-! the two Few side by side: of any tests that agree. -/
section
variable {α β : Type} (nP : α → Bool) (uP : α → α → Bool) (nR : β → Bool) (uR : β → β → Bool) (H : α → β → Prop)
end

/-- the parts that were answered say what the reference says. -/
structure SayOk (l : List Part) (want : List RP) : Prop where
  len : l.length = want.length
  at_ : ∀ (i : Nat) (p : Part) (x : RP), l[i]? = some p → want[i]? = some x → p.filter.length ≤ 16 ∧ filterCheck p.filter = 0 ∧ (∀ j, j < 512 → pts p.filter j = x.P j) ∧ formOf x.K = p.know ∧ p.know.more.length ≤ 60
theorem SayOk.nil : SayOk [] [] := ⟨rfl, by intro i p x h; simp at h⟩

end Go.Proofs.Ytmedmfjhpabfdaa
