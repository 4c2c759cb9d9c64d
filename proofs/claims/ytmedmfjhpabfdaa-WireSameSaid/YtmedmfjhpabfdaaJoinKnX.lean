/- Several texts in one: data, readings, plain laws, walks. No condition. -/
import Derived.Test.YtmedmfjhpabfdaaKnU
import Derived.Test.YtmedmfjhpabfdaaKnW
import Derived.Test.YtmedmfjhpabfdaaKnT
import Derived.Test.YtmedmfjhpabfdaaJoinKnPl
import Derived.Test.YtmedmfjhpabfdaaKnE
import Derived.Test.YtmedmfjhpabfdaaJoinKnG
import Derived.Test.YtmedmfjhpabfdaaKnEq
namespace Go.Proofs.Ytmedmfjhpabfdaa
open Go Go.RowKit

def rowN (S : DSet) (i : Nat) : Nat → Int
  | 0 => 0
  | k + 1 => rowN S i k + ones 64 (wordOf S i k)
def sizeN (S : DSet) : Nat → Int
  | 0 => 0
  | i + 1 => sizeN S i + rowN S i 16
theorem ones_bd : ∀ (f v : Nat), 0 ≤ ones f v ∧ ones f v ≤ f
  | 0, _ => by simp [ones]
  | f + 1, v => by
    have := ones_bd f (v / 2)
    rw [ones]
    split
    · omega
    · omega
theorem rowN_bd (S : DSet) (i : Nat) : ∀ k, 0 ≤ rowN S i k ∧ rowN S i k ≤ 64 * k
  | 0 => by simp [rowN]
  | k + 1 => by
    have h1 := rowN_bd S i k
    have h2 := ones_bd 64 (wordOf S i k)
    rw [rowN]; omega
theorem sizeN_bd (S : DSet) : ∀ i, 0 ≤ sizeN S i ∧ sizeN S i ≤ 1024 * i
  | 0 => by simp [sizeN]
  | i + 1 => by
    have h1 := sizeN_bd S i
    have h2 := rowN_bd S i 16
    rw [sizeN]; omega
/-- a row of sixteen words. -/
def rowL (S : DSet) (i : Nat) : List Value := (rowF 16 fun k => .int .u64 ((wordOf S i k : Nat) : Int)).toList
theorem rowL_range {S : DSet} {i : Nat} {w : World} {b : Nat} {e : TypeId} (h : Blk w b e (rowD S)) (hi : i < 5) : w.rangeAt b (i * 16) (rowL S i) := by
  intro j v hv
  have hj : j < 16 := by
    have := (List.getElem?_eq_some_iff.1 hv).1
    simp only [rowL, Array.length_toList, rowF_size] at this
    exact this
  rw [h.cell (rowD_at S hi hj)]
  have : (rowF 16 fun k => Value.int .u64 ((wordOf S i k : Nat) : Int))[j]? = some v := by
    rw [← hv, rowL, Array.getElem?_toList]
  rw [rowF_get _ hj] at this
  exact this
theorem rowL_len (S : DSet) (i : Nat) : (rowL S i).length = 16 := by simp [rowL, rowF_size]
theorem rowL_arr (S : DSet) (i : Nat) : (rowL S i).toArray = rowF 16 fun k => .int .u64 ((wordOf S i k : Nat) : Int) := by simp [rowL]
theorem hu_row : Try.prog.underlying 81 = some (.array 16 80) := Try.underlying81
theorem hi_row : (Try.prog.info? 81).map (·.size) = some 16 := by kernel_rfl

end Go.Proofs.Ytmedmfjhpabfdaa

namespace Go.Proofs.Ytmedmfjhpabfdaa
open Go

theorem countTo_plus (p : Nat → Bool) (m : Nat) : ∀ n, countTo p (m + n) = countTo p m + countTo (fun b => p (m + b)) n
  | 0 => by simp [countTo]
  | n + 1 => by
    rw [← Nat.add_assoc, countTo, countTo_plus p m n, countTo]
    omega
theorem ones_word (S : DSet) (i k : Nat) : ones 64 (wordOf S i k) = countTo (fun b => S i (64 * k + b)) 64 := by
  rw [ones_count 64 _ (wordOf_lt S i k)]
  apply countTo_congr
  intro b hb
  simp only [wordOf, testBit_ofBits, decide_eq_true hb, Bool.true_and]
theorem rowN_count (S : DSet) (i : Nat) : ∀ k, rowN S i k = countTo (S i) (64 * k)
  | 0 => rfl
  | k + 1 => by rw [rowN, rowN_count S i k, ones_word, Nat.mul_succ, countTo_plus]
theorem countTo_with (p : Nat → Bool) (c : Nat) (h : p c = false) : ∀ n, c < n → countTo (fun b => p b || decide (b = c)) n = countTo p n + 1
  | 0, hc => absurd hc (by omega)
  | n + 1, hc => by
    rw [countTo, countTo]
    by_cases e : c = n
    · subst e
      rw [countTo_congr (q := p) (fun b hb => by rw [decide_eq_false (show ¬ b = c by omega), Bool.or_false])]
      simp [h]
    · rw [countTo_with p c h n (by omega), decide_eq_false (show ¬ n = c by omega), Bool.or_false]
      omega
theorem sizeN_congr {S T : DSet} : ∀ n, (∀ s, s < n → ∀ c, c < 1024 → S s c = T s c) → sizeN S n = sizeN T n
  | 0, _ => rfl
  | n + 1, h => by
    rw [sizeN, sizeN, sizeN_congr n (fun s hs => h s (by omega)), rowN_count, rowN_count, countTo_congr (fun c hc => h n (by omega) c hc)]
theorem sizeN_with (S : DSet) (s c : Nat) (hc : c < 1024) (h : S s c = false) : ∀ n, s < n → sizeN (withD S s c) n = sizeN S n + 1
  | 0, hs => absurd hs (by omega)
  | n + 1, hs => by
    rw [sizeN, sizeN]
    by_cases e : s = n
    · subst e
      rw [sizeN_congr (T := S) s (fun t ht d _ => by simp only [withD]; rw [decide_eq_false (show ¬ t = s by omega)]; simp), rowN_count, rowN_count,
        countTo_congr (q := fun b => S s b || decide (b = c)) (fun b _ => by simp [withD]), countTo_with (S s) c h _ (by omega)]
      omega
    · rw [sizeN_with S s c hc h n (by omega), rowN_count, rowN_count, countTo_congr (q := S n) (fun b _ => by simp only [withD]; rw [decide_eq_false (show ¬ n = s by omega)]; simp)]
      omega
theorem size_vec2 (v : List Int) (j : Nat) (hj : j < 5) : ∀ m, m ≤ 1000 → sizeN (vecD2 v j (m + 1)) 5 = sizeN (vecD v j) 5 + m
  | 0, _ => by
    rw [sizeN_congr (T := vecD v j) 5 (fun s _ c _ => by
      have : decide (1 ≤ c ∧ c < 0 + 1) = false := decide_eq_false (by omega)
      simp only [vecD2, this, Bool.and_false, Bool.or_false])]
    simp
  | m + 1, hm => by
    rw [← vecD_step v j (m + 1) (by omega), sizeN_with _ _ _ (by omega) (by
      simp [vecD2, vecD]) 5 hj, size_vec2 v j hj m (by omega)]
    push_cast
    omega
theorem size_vec (v : List Int) (hl : v.length ≤ 5) (hv : ∀ n ∈ v, 0 ≤ n ∧ n ≤ 1000) : ∀ j, j ≤ v.length → sizeN (vecD v j) 5 = (v.take j).sum
  | 0, _ => by
    rw [sizeN_congr (T := fun _ _ => false) 5 (fun s _ c _ => by simp [vecD])]
    rfl
  | j + 1, hj => by
    have hjl : j < v.length := by omega
    obtain ⟨h0, h1⟩ := hv _ (List.getElem_mem hjl)
    obtain ⟨m, hm⟩ := Int.eq_ofNat_of_zero_le h0
    rw [hm] at h1
    rw [sizeN_congr (T := vecD2 v j (m + 1)) 5 (fun s _ c _ => by
      have hv := vecAt_in hjl
      rw [hm] at hv
      rw [Bool.eq_iff_iff]
      simp only [vecD2, vecD, Bool.or_eq_true, Bool.and_eq_true, decide_eq_true_eq]
      by_cases e : s = j
      · subst e; omega
      · omega), size_vec2 v j (by omega) m (by omega), size_vec v hl hv j (by omega), sum_succ v j hjl, hm]
theorem size_more (k : Know) (hk : KnowOk k) : ∀ j, j ≤ k.more.length → sizeN (moreD k.vec k.more j) 5 = sizeN (vecD k.vec k.vec.length) 5 + j
  | 0, _ => by
    rw [sizeN_congr (T := vecD k.vec k.vec.length) 5 (fun s _ c _ => by simp [moreD])]
    simp
  | j + 1, hj => by
    have hjl : j < k.more.length := by omega
    obtain ⟨hd, hg⟩ := hk.more _ (List.getElem_mem hjl)
    obtain ⟨o1, o2, o3, o4⟩ := dotOk_iff.1 hd
    obtain ⟨s, hs⟩ := Int.eq_ofNat_of_zero_le o1
    obtain ⟨c, hc⟩ := Int.eq_ofNat_of_zero_le (Int.le_trans (show (0 : Int) ≤ 1 by omega) o3)
    rw [hs] at o1 o2 hg
    rw [hc] at o3 o4 hg
    have hdot : k.more[j] = (⟨(s : Int), (c : Int)⟩ : Dot) := Dot.ext' hs hc
    rw [← moreD_step k.vec k.more j s c hjl hdot, sizeN_with _ _ _ (by omega) (by
      rw [← Bool.not_eq_true]
      simp only [moreD, vecD, Bool.or_eq_true, Bool.and_eq_true, decide_eq_true_eq, List.contains_iff_mem]
      rintro (⟨_, h⟩ | h)
      · omega
      · obtain ⟨i, hi, e⟩ := List.getElem_of_mem h
        rw [List.length_take] at hi
        rw [List.getElem_take] at e
        have := hk.sorted.lt_at (show i < j by omega) hjl
        rw [e, hdot, dlt_irrefl] at this
        cases this) 5 (by omega), size_more k hk j (by omega)]
    push_cast
    omega
theorem size_has (k : Know) (hk : KnowOk k) : sizeN (hasK k) 5 = countK k := by
  rw [← sizeN_congr (S := moreD k.vec k.more k.more.length) 5 (fun s _ c _ => moreD_has k hk s c), size_more k hk _ (Nat.le_refl _), size_vec k.vec hk.vlen hk.vec _ (Nat.le_refl _), List.take_length, countK, if_pos (knowCheck_iff.2 hk)]
  omega

theorem maxAt_one (v : List Int) (s : Int) : maxAt [v] s = max 0 (vecAt v s) := rfl
theorem add_set (k : Know) (s c : Nat) (hc : 1 ≤ c) : addS k ⟨(s : Int), (c : Int)⟩ = formOf (withD (hasK k) s c) := by
  unfold addS
  apply formOf_congr
  intro t ht b hb1 hb2
  rw [Bool.eq_iff_iff]
  have hmx := maxAt_one k.vec t
  simp only [setOf, withD, hasK, Bool.or_eq_true, Bool.and_eq_true, decide_eq_true_eq, List.contains_iff_mem, List.mem_append, List.mem_singleton, Dot.mk.injEq]
  by_cases hm : (⟨(t : Int), (b : Int)⟩ : Dot) ∈ k.more
  · simp [hm, hb1]
  · simp only [hm, false_or, or_false]
    omega
theorem add_ok {k : Know} {d : Dot} (h : knowCheck k = 0) (hd : dotOk d = true) : addErr k d = toldErr (addS k d) ∧ addK k d = toldKn (addS k d) := by
  simp [addErr, addK, h, hd]

end Go.Proofs.Ytmedmfjhpabfdaa

namespace Go.Proofs.Ytmedmfjhpabfdaa
open Go Go.RowKit

theorem join_form (k l : Know) (hk : KnowOk k) (hl : KnowOk l) : joinS k l = formOf (orD (hasK k) (hasK l)) := by
  apply formOf_congr
  intro s hs c hc1 hc2
  have h1 : maxAt [k.vec, l.vec] s = max (max 0 (vecAt k.vec s)) (vecAt l.vec s) := rfl
  have hka := vecAt_bd hk.vec s
  have hlb := vecAt_bd hl.vec s
  rw [Bool.eq_iff_iff]
  simp only [setOf, orD, hasK, Bool.or_eq_true, Bool.and_eq_true, decide_eq_true_eq, List.contains_iff_mem]
  have hL : (⟨(s : Int), (c : Int)⟩ : Dot) ∈ [k.more, l.more].flatten ↔ (⟨(s : Int), (c : Int)⟩ : Dot) ∈ k.more ∨ (⟨(s : Int), (c : Int)⟩ : Dot) ∈ l.more := by simp
  rw [hL]
  by_cases m1 : (⟨(s : Int), (c : Int)⟩ : Dot) ∈ k.more
  · simp [m1, hc1]
  · by_cases m2 : (⟨(s : Int), (c : Int)⟩ : Dot) ∈ l.more
    · simp [m2, hc1]
    · simp only [m1, m2, or_false]
      omega
theorem within_eq {k l : Know} (h : twoErr k l = 0) : withinIs k l = eqD (orD (hasK k) (hasK l)) (hasK l) := by
  obtain ⟨hk, hl⟩ := two_ok h
  have hc : Clean (orD (hasK k) (hasK l)) := by
    intro s c hs
    simp only [orD, Bool.or_eq_true] at hs
    rcases hs with hs | hs
    · exact clean_has hk s c hs
    · exact clean_has hl s c hs
  have hj := join_form k l hk hl
  rw [Bool.eq_iff_iff, eqD_iff, eqWords_same hc (clean_has hl), withinIs, if_pos h]
  constructor
  · intro hw
    split at hw
    · have he := of_decide_eq_true hw
      rw [hj] at he
      exact same_of_form (he.trans (form_has hl).symm)
    · cases hw
  · intro hs
    have he : joinS k l = l := by rw [hj, formOf_congr hs, form_has hl]
    have ht : toldErr (joinS k l) = 0 := by
      rw [he]
      exact if_pos hl.mlen
    rw [if_pos ht, he]
    simp
/-- what Join answers at the law's own two sets. -/
theorem own_two : twoErr ⟨[1], []⟩ ⟨[], [⟨0, 2⟩]⟩ = 0 := by decide
theorem own_join : joinS ⟨[1], []⟩ ⟨[], [⟨0, 2⟩]⟩ = ⟨[2], []⟩ := by
  have hk : KnowOk ⟨[2], []⟩ := knowCheck_iff.1 (by decide)
  rw [← form_has hk]
  apply formOf_congr
  intro s hs c hc1 hc2
  rw [Bool.eq_iff_iff]
  simp only [setOf, hasK, Bool.or_eq_true, Bool.and_eq_true, decide_eq_true_eq, List.contains_iff_mem]
  have h1 : maxAt [[1], []] s = max (max 0 (vecAt [1] s)) (vecAt [] s) := rfl
  have h2 : (⟨(s : Int), (c : Int)⟩ : Dot) ∈ [([] : List Dot), [⟨0, 2⟩]].flatten ↔ s = 0 ∧ c = 2 := by
    simp only [List.flatten_cons, List.flatten_nil, List.append_nil, List.nil_append, List.mem_singleton, Dot.mk.injEq]
    omega
  have h3 : ¬ (⟨(s : Int), (c : Int)⟩ : Dot) ∈ (⟨[2], []⟩ : Know).more := by simp
  have e0 : vecAt [] s = 0 := vecAt_nil s
  rw [h2]
  simp only [h3, or_false]
  by_cases hs0 : s = 0
  · subst hs0
    have e1 : vecAt [1] ((0 : Nat) : Int) = 1 := rfl
    have e2 : vecAt [2] ((0 : Nat) : Int) = 2 := rfl
    omega
  · have e1 : vecAt [1] s = 0 := vecAt_out (by simp; omega)
    have e2 : vecAt [2] s = 0 := vecAt_out (by simp; omega)
    omega
theorem own_err : joinErr ⟨[1], []⟩ ⟨[], [⟨0, 2⟩]⟩ = 0 := by
  rw [joinErr, if_pos own_two, own_join]
  rfl
theorem own_know : joinK ⟨[1], []⟩ ⟨[], [⟨0, 2⟩]⟩ = ⟨[2], []⟩ := by
  rw [joinK, if_pos own_two, own_join]
  rfl

end Go.Proofs.Ytmedmfjhpabfdaa
