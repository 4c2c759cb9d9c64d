/- Plain law on joins and meets of sets of dots; two sets compared word by word; operations on arrays in a region that draws its order. -/
import Derived.Test.YtmedmfjhpabfdaaKnE
import Derived.Test.YtmedmfjhpabfdaaKnG
import Derived.Test.YtmedmfjhpabfdaaKnY
import Derived.Test.YtmedmfjhpabfdaaKnEq
namespace Go.Proofs.Ytmedmfjhpabfdaa
open Go Go.RowKit

theorem join_form (k l : Know) (hk : KnowOk k) (hl : KnowOk l) : joinS k l = formOf (orD (hasK k) (hasK l)) := by
  apply formOf_congr
  intro s hs c hc1 hc2
  have h1 : maxAt [k.vec, l.vec] s = max (max 0 (vecAt k.vec s)) (vecAt l.vec s) := rfl
  have hka := vecAt_bd hk.vec s
  have hlb := vecAt_bd hl.vec s
  rw [Bool.eq_iff_iff]
  simp only [setOf, orD, hasK, Bool.or_eq_true, Bool.and_eq_true, decide_eq_true_eq, List.contains_iff_mem]
  have hL : (⟨(s : Int), (c : Int)⟩ : Dot) ∈ [k.more, l.more].flatten ↔ (⟨(s : Int), (c : Int)⟩ : Dot) ∈ k.more ∨ (⟨(s : Int), (c : Int)⟩ : Dot) ∈ l.more := by simp
  rw [hL]
  by_cases m1 : (⟨(s : Int), (c : Int)⟩ : Dot) ∈ k.more
  · simp [m1, hc1]
  · by_cases m2 : (⟨(s : Int), (c : Int)⟩ : Dot) ∈ l.more
    · simp [m2, hc1]
    · simp only [m1, m2, or_false]
      omega
theorem within_eq {k l : Know} (h : twoErr k l = 0) : withinIs k l = eqD (orD (hasK k) (hasK l)) (hasK l) := by
  obtain ⟨hk, hl⟩ := two_ok h
  have hc : Clean (orD (hasK k) (hasK l)) := by
    intro s c hs
    simp only [orD, Bool.or_eq_true] at hs
    rcases hs with hs | hs
    · exact clean_has hk s c hs
    · exact clean_has hl s c hs
  have hj := join_form k l hk hl
  rw [Bool.eq_iff_iff, eqD_iff, eqWords_same hc (clean_has hl), withinIs, if_pos h]
  constructor
  · intro hw
    split at hw
    · have he := of_decide_eq_true hw
      rw [hj] at he
      exact same_of_form (he.trans (form_has hl).symm)
    · cases hw
  · intro hs
    have he : joinS k l = l := by rw [hj, formOf_congr hs, form_has hl]
    have ht : toldErr (joinS k l) = 0 := by
      rw [he]
      exact if_pos hl.mlen
    rw [if_pos ht, he]
    simp
/-- what Join answers at the law's own two sets. -/
theorem own_two : twoErr ⟨[1], []⟩ ⟨[], [⟨0, 2⟩]⟩ = 0 := by decide
theorem own_join : joinS ⟨[1], []⟩ ⟨[], [⟨0, 2⟩]⟩ = ⟨[2], []⟩ := by
  have hk : KnowOk ⟨[2], []⟩ := knowCheck_iff.1 (by decide)
  rw [← form_has hk]
  apply formOf_congr
  intro s hs c hc1 hc2
  rw [Bool.eq_iff_iff]
  simp only [setOf, hasK, Bool.or_eq_true, Bool.and_eq_true, decide_eq_true_eq, List.contains_iff_mem]
  have h1 : maxAt [[1], []] s = max (max 0 (vecAt [1] s)) (vecAt [] s) := rfl
  have h2 : (⟨(s : Int), (c : Int)⟩ : Dot) ∈ [([] : List Dot), [⟨0, 2⟩]].flatten ↔ s = 0 ∧ c = 2 := by
    simp only [List.flatten_cons, List.flatten_nil, List.append_nil, List.nil_append, List.mem_singleton, Dot.mk.injEq]
    omega
  have h3 : ¬ (⟨(s : Int), (c : Int)⟩ : Dot) ∈ (⟨[2], []⟩ : Know).more := by simp
  have e0 : vecAt [] s = 0 := vecAt_nil s
  rw [h2]
  simp only [h3, or_false]
  by_cases hs0 : s = 0
  · subst hs0
    have e1 : vecAt [1] ((0 : Nat) : Int) = 1 := rfl
    have e2 : vecAt [2] ((0 : Nat) : Int) = 2 := rfl
    omega
  · have e1 : vecAt [1] s = 0 := vecAt_out (by simp; omega)
    have e2 : vecAt [2] s = 0 := vecAt_out (by simp; omega)
    omega
theorem own_err : joinErr ⟨[1], []⟩ ⟨[], [⟨0, 2⟩]⟩ = 0 := by
  rw [joinErr, if_pos own_two, own_join]
  rfl
theorem own_know : joinK ⟨[1], []⟩ ⟨[], [⟨0, 2⟩]⟩ = ⟨[2], []⟩ := by
  rw [joinK, if_pos own_two, own_join]
  rfl

end Go.Proofs.Ytmedmfjhpabfdaa
