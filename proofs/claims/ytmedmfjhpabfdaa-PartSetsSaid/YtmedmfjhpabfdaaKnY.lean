/- Plain law on how many dots a set has, and on a set with a dot more. No program in sight. -/
import Derived.Test.YtmedmfjhpabfdaaKnW
import Derived.Test.YtmedmfjhpabfdaaKnX
import Derived.Test.YtmedmfjhpabfdaaKnT
import Derived.Test.YtmedmfjhpabfdaaKnPl
namespace Go.Proofs.Ytmedmfjhpabfdaa
open Go

theorem countTo_plus (p : Nat → Bool) (m : Nat) : ∀ n, countTo p (m + n) = countTo p m + countTo (fun b => p (m + b)) n
  | 0 => by simp [countTo]
  | n + 1 => by
    rw [← Nat.add_assoc, countTo, countTo_plus p m n, countTo]
    omega
theorem ones_word (S : DSet) (i k : Nat) : ones 64 (wordOf S i k) = countTo (fun b => S i (64 * k + b)) 64 := by
  rw [ones_count 64 _ (wordOf_lt S i k)]
  apply countTo_congr
  intro b hb
  simp only [wordOf, testBit_ofBits, decide_eq_true hb, Bool.true_and]
theorem rowN_count (S : DSet) (i : Nat) : ∀ k, rowN S i k = countTo (S i) (64 * k)
  | 0 => rfl
  | k + 1 => by rw [rowN, rowN_count S i k, ones_word, Nat.mul_succ, countTo_plus]
theorem countTo_with (p : Nat → Bool) (c : Nat) (h : p c = false) : ∀ n, c < n → countTo (fun b => p b || decide (b = c)) n = countTo p n + 1
  | 0, hc => absurd hc (by omega)
  | n + 1, hc => by
    rw [countTo, countTo]
    by_cases e : c = n
    · subst e
      rw [countTo_congr (q := p) (fun b hb => by rw [decide_eq_false (show ¬ b = c by omega), Bool.or_false])]
      simp [h]
    · rw [countTo_with p c h n (by omega), decide_eq_false (show ¬ n = c by omega), Bool.or_false]
      omega
theorem sizeN_congr {S T : DSet} : ∀ n, (∀ s, s < n → ∀ c, c < 1024 → S s c = T s c) → sizeN S n = sizeN T n
  | 0, _ => rfl
  | n + 1, h => by
    rw [sizeN, sizeN, sizeN_congr n (fun s hs => h s (by omega)), rowN_count, rowN_count, countTo_congr (fun c hc => h n (by omega) c hc)]
theorem sizeN_with (S : DSet) (s c : Nat) (hc : c < 1024) (h : S s c = false) : ∀ n, s < n → sizeN (withD S s c) n = sizeN S n + 1
  | 0, hs => absurd hs (by omega)
  | n + 1, hs => by
    rw [sizeN, sizeN]
    by_cases e : s = n
    · subst e
      rw [sizeN_congr (T := S) s (fun t ht d _ => by simp only [withD]; rw [decide_eq_false (show ¬ t = s by omega)]; simp), rowN_count, rowN_count,
        countTo_congr (q := fun b => S s b || decide (b = c)) (fun b _ => by simp [withD]), countTo_with (S s) c h _ (by omega)]
      omega
    · rw [sizeN_with S s c hc h n (by omega), rowN_count, rowN_count, countTo_congr (q := S n) (fun b _ => by simp only [withD]; rw [decide_eq_false (show ¬ n = s by omega)]; simp)]
      omega
theorem size_vec2 (v : List Int) (j : Nat) (hj : j < 5) : ∀ m, m ≤ 1000 → sizeN (vecD2 v j (m + 1)) 5 = sizeN (vecD v j) 5 + m
  | 0, _ => by
    rw [sizeN_congr (T := vecD v j) 5 (fun s _ c _ => by
      have : decide (1 ≤ c ∧ c < 0 + 1) = false := decide_eq_false (by omega)
      simp only [vecD2, this, Bool.and_false, Bool.or_false])]
    simp
  | m + 1, hm => by
    rw [← vecD_step v j (m + 1) (by omega), sizeN_with _ _ _ (by omega) (by
      simp [vecD2, vecD]) 5 hj, size_vec2 v j hj m (by omega)]
    push_cast
    omega
theorem size_vec (v : List Int) (hl : v.length ≤ 5) (hv : ∀ n ∈ v, 0 ≤ n ∧ n ≤ 1000) : ∀ j, j ≤ v.length → sizeN (vecD v j) 5 = (v.take j).sum
  | 0, _ => by
    rw [sizeN_congr (T := fun _ _ => false) 5 (fun s _ c _ => by simp [vecD])]
    rfl
  | j + 1, hj => by
    have hjl : j < v.length := by omega
    obtain ⟨h0, h1⟩ := hv _ (List.getElem_mem hjl)
    obtain ⟨m, hm⟩ := Int.eq_ofNat_of_zero_le h0
    rw [hm] at h1
    rw [sizeN_congr (T := vecD2 v j (m + 1)) 5 (fun s _ c _ => by
      have hv := vecAt_in hjl
      rw [hm] at hv
      rw [Bool.eq_iff_iff]
      simp only [vecD2, vecD, Bool.or_eq_true, Bool.and_eq_true, decide_eq_true_eq]
      by_cases e : s = j
      · subst e; omega
      · omega), size_vec2 v j (by omega) m (by omega), size_vec v hl hv j (by omega), sum_succ v j hjl, hm]
theorem size_more (k : Know) (hk : KnowOk k) : ∀ j, j ≤ k.more.length → sizeN (moreD k.vec k.more j) 5 = sizeN (vecD k.vec k.vec.length) 5 + j
  | 0, _ => by
    rw [sizeN_congr (T := vecD k.vec k.vec.length) 5 (fun s _ c _ => by simp [moreD])]
    simp
  | j + 1, hj => by
    have hjl : j < k.more.length := by omega
    obtain ⟨hd, hg⟩ := hk.more _ (List.getElem_mem hjl)
    obtain ⟨o1, o2, o3, o4⟩ := dotOk_iff.1 hd
    obtain ⟨s, hs⟩ := Int.eq_ofNat_of_zero_le o1
    obtain ⟨c, hc⟩ := Int.eq_ofNat_of_zero_le (Int.le_trans (show (0 : Int) ≤ 1 by omega) o3)
    rw [hs] at o1 o2 hg
    rw [hc] at o3 o4 hg
    have hdot : k.more[j] = (⟨(s : Int), (c : Int)⟩ : Dot) := Dot.ext' hs hc
    rw [← moreD_step k.vec k.more j s c hjl hdot, sizeN_with _ _ _ (by omega) (by
      rw [← Bool.not_eq_true]
      simp only [moreD, vecD, Bool.or_eq_true, Bool.and_eq_true, decide_eq_true_eq, List.contains_iff_mem]
      rintro (⟨_, h⟩ | h)
      · omega
      · obtain ⟨i, hi, e⟩ := List.getElem_of_mem h
        rw [List.length_take] at hi
        rw [List.getElem_take] at e
        have := hk.sorted.lt_at (show i < j by omega) hjl
        rw [e, hdot, dlt_irrefl] at this
        cases this) 5 (by omega), size_more k hk j (by omega)]
    push_cast
    omega
theorem size_has (k : Know) (hk : KnowOk k) : sizeN (hasK k) 5 = countK k := by
  rw [← sizeN_congr (S := moreD k.vec k.more k.more.length) 5 (fun s _ c _ => moreD_has k hk s c), size_more k hk _ (Nat.le_refl _), size_vec k.vec hk.vlen hk.vec _ (Nat.le_refl _), List.take_length, countK, if_pos (knowCheck_iff.2 hk)]
  omega

theorem maxAt_one (v : List Int) (s : Int) : maxAt [v] s = max 0 (vecAt v s) := rfl
theorem add_set (k : Know) (s c : Nat) (hc : 1 ≤ c) : addS k ⟨(s : Int), (c : Int)⟩ = formOf (withD (hasK k) s c) := by
  unfold addS
  apply formOf_congr
  intro t ht b hb1 hb2
  rw [Bool.eq_iff_iff]
  have hmx := maxAt_one k.vec t
  simp only [setOf, withD, hasK, Bool.or_eq_true, Bool.and_eq_true, decide_eq_true_eq, List.contains_iff_mem, List.mem_append, List.mem_singleton, Dot.mk.injEq]
  by_cases hm : (⟨(t : Int), (b : Int)⟩ : Dot) ∈ k.more
  · simp [hm, hb1]
  · simp only [hm, false_or, or_false]
    omega
theorem add_ok {k : Know} {d : Dot} (h : knowCheck k = 0) (hd : dotOk d = true) : addErr k d = toldErr (addS k d) ∧ addK k d = toldKn (addS k d) := by
  simp [addErr, addK, h, hd]

end Go.Proofs.Ytmedmfjhpabfdaa
