/- Plain law on sets of dots: what may be is clean; two sets compared word by word; is a dot in a set. No program in sight. -/
import Derived.Test.YtmedmfjhpabfdaaKnI
import Derived.Test.YtmedmfjhpabfdaaBase
namespace Go.Proofs.Ytmedmfjhpabfdaa
open Go Go.RowKit

theorem clean_has {k : Know} (hk : KnowOk k) : Clean (hasK k) := by
  intro s c h
  simp only [hasK, Bool.or_eq_true, Bool.and_eq_true, decide_eq_true_eq, List.contains_iff_mem] at h
  obtain ⟨h1, h2 | h2⟩ := h
  · have hb := vecAt_bd hk.vec s
    refine ⟨?_, h1, by omega⟩
    apply Nat.lt_of_not_le
    intro hn
    rw [vecAt_out (by have := hk.vlen; omega)] at h2
    omega
  · obtain ⟨o1, o2, o3, o4⟩ := dotOk_iff.1 (hk.more _ h2).1
    simp only at o1 o2 o3 o4
    omega
/-- are the words of two sets the same? -/
def eqD (S T : DSet) : Bool := allTo (fun i => allTo (fun k => ((wordOf S i k : Nat) : Int) == ((wordOf T i k : Nat) : Int)) 16) 5
theorem eqD_iff (S T : DSet) : eqD S T = true ↔ EqWords S T := by
  unfold eqD EqWords
  rw [allTo_iff]
  constructor
  · intro h s hs k hk
    have h1 := (allTo_iff _ _).1 (h s hs) k hk
    rw [beq_iff_eq] at h1
    omega
  · intro h s hs
    refine (allTo_iff _ _).2 fun k hk => ?_
    rw [beq_iff_eq, h s hs k hk]
theorem inK_has (k : Know) (s c : Nat) (hc : 1 ≤ c) : inK k ⟨(s : Int), (c : Int)⟩ = hasK k s c := by
  simp only [inK, hasK, decide_eq_true hc, Bool.true_and]

end Go.Proofs.Ytmedmfjhpabfdaa
