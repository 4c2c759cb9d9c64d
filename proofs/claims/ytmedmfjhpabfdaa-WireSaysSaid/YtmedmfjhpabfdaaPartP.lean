/- Plain law on parts of what is known: what may be, of which points which dots are known. No program in sight. -/
import Derived.Test.YtmedmfjhpabfdaaBase
import Derived.Test.YtmedmfjhpabfdaaKnPl
namespace Go.Proofs.Ytmedmfjhpabfdaa
open Go Go.RowKit

def partsGo : List Part → Int
  | [] => 0
  | p :: r => if filterCheck p.filter = 0 then (if knowCheck p.know = 0 then partsGo r else knowCheck p.know) else filterCheck p.filter
def partsCheck (l : List Part) : Int := if 30 < l.length then 2 else partsGo l
theorem partsGo_drop (l : List Part) (k : Nat) (hk : k < l.length) : partsGo (l.drop k) = if filterCheck l[k].filter = 0 then (if knowCheck l[k].know = 0 then partsGo (l.drop (k + 1)) else knowCheck l[k].know) else filterCheck l[k].filter := by
  rw [List.drop_eq_getElem_cons hk, partsGo]
structure PartOk (p : Part) : Prop where
  f : filterCheck p.filter = 0
  k : KnowOk p.know
theorem partsGo_ok : ∀ l : List Part, partsGo l = 0 ↔ ∀ p ∈ l, PartOk p
  | [] => by simp [partsGo]
  | p :: r => by
    rw [partsGo]
    by_cases h1 : filterCheck p.filter = 0
    · rw [if_pos h1]
      by_cases h2 : knowCheck p.know = 0
      · rw [if_pos h2, partsGo_ok r]
        simp only [List.mem_cons, forall_eq_or_imp]
        exact ⟨fun h => ⟨⟨h1, knowCheck_iff.1 h2⟩, h⟩, fun h => h.2⟩
      · rw [if_neg h2]
        exact ⟨fun h => absurd h h2, fun h => absurd (knowCheck_iff.2 (h p (by simp)).k) h2⟩
    · rw [if_neg h1]
      exact ⟨fun h => absurd h h1, fun h => absurd (h p (by simp)).f h1⟩
theorem partsCheck_ok {l : List Part} (h : partsCheck l = 0) : l.length ≤ 30 ∧ ∀ p ∈ l, PartOk p := by
  unfold partsCheck at h
  by_cases hl : 30 < l.length
  · rw [if_pos hl] at h; cases h
  · rw [if_neg hl] at h
    exact ⟨by omega, (partsGo_ok l).1 h⟩
/-- what a part says: of which points which dots. -/
structure RP where
  P : Nat → Bool
  K : DSet
end Go.Proofs.Ytmedmfjhpabfdaa
