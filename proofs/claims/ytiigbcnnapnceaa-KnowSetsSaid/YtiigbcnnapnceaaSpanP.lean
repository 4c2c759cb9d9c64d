/- Plain law on sets of numbers: the spans of a set are one list alone, however they are made. No program, no memory in sight. -/
import Derived.Test.YtiigbcnnapnceaaData
namespace Go.Proofs.Ytiigbcnnapnceaa
open Go

/-- spans in their form, all of them above lo. -/
def Canon : Int → List Span → Prop
  | _, [] => True
  | lo, s :: r => lo < s.fr ∧ s.fr < s.to ∧ Canon s.to r

theorem Canon.mono : ∀ {l : List Span} {lo lo' : Int}, Canon lo l → lo' ≤ lo → Canon lo' l
  | [], _, _, _, _ => trivial
  | s :: r, lo, lo', h, hl => ⟨by have := h.1; omega, h.2⟩

theorem spanIn_cons (s : Span) (r : List Span) (x : Int) : spanIn (s :: r) x = (decide (s.fr ≤ x ∧ x < s.to) || spanIn r x) := by
  rw [spanIn]
  by_cases h : s.fr ≤ x ∧ x < s.to <;> simp [h]

theorem spanIn_one (s : Span) (x : Int) : spanIn [s] x = decide (s.fr ≤ x ∧ x < s.to) := by
  rw [spanIn_cons, spanIn, Bool.or_false]

theorem spanIn_append (l m : List Span) (x : Int) : spanIn (l ++ m) x = (spanIn l x || spanIn m x) := by
  induction l with
  | nil => simp [spanIn]
  | cons s r ih => rw [List.cons_append, spanIn_cons, spanIn_cons, ih, Bool.or_assoc]

theorem Canon.above : ∀ {l : List Span} {lo x : Int}, Canon lo l → spanIn l x = true → lo < x
  | [], _, _, _, h => by simp [spanIn] at h
  | s :: r, lo, x, hc, h => by
    rw [spanIn_cons, Bool.or_eq_true, decide_eq_true_eq] at h
    rcases h with h | h
    · have := hc.1; omega
    · have := Canon.above hc.2.2 h
      have := hc.1; have := hc.2.1; omega

theorem Canon.unique : ∀ {l m : List Span} {lo : Int}, Canon lo l → Canon lo m → (∀ x, spanIn l x = spanIn m x) → l = m
  | [], [], _, _, _, _ => rfl
  | [], t :: q, _, _, hm, h => by
    have := h t.fr
    rw [spanIn_cons] at this
    have h2 := hm.2.1
    simp [spanIn, h2] at this
  | s :: r, [], _, hl, _, h => by
    have := h s.fr
    rw [spanIn_cons] at this
    have h2 := hl.2.1
    simp [spanIn, h2] at this
  | s :: r, t :: q, lo, hl, hm, h => by
    have hin : ∀ (u : Span) (z : List Span) (lo : Int), Canon lo (u :: z) → spanIn (u :: z) u.fr = true := by
      intro u z lo hc
      have := hc.2.1
      rw [spanIn_cons]; simp [this]
    have hlow : ∀ (u : Span) (z : List Span) (lo x : Int), Canon lo (u :: z) → spanIn (u :: z) x = true → u.fr ≤ x := by
      intro u z lo x hc hx
      rw [spanIn_cons, Bool.or_eq_true, decide_eq_true_eq] at hx
      rcases hx with hx | hx
      · exact hx.1
      · have := Canon.above hc.2.2 hx
        have := hc.2.1
        omega
    have hfr : s.fr = t.fr := by
      have h1 := hlow t q lo s.fr hm (by rw [← h]; exact hin s r lo hl)
      have h2 := hlow s r lo t.fr hl (by rw [h]; exact hin t q lo hm)
      omega
    have hend : ∀ (u : Span) (z : List Span) (lo : Int), Canon lo (u :: z) → spanIn (u :: z) u.to = false := by
      intro u z lo hc
      rw [spanIn_cons]
      cases hz : spanIn z u.to with
      | true => have := Canon.above hc.2.2 hz; omega
      | false => simp
    have hto : s.to = t.to := by
      have h1 := hend s r lo hl
      have h2 := hend t q lo hm
      rw [h, spanIn_cons] at h1
      rw [← h, spanIn_cons] at h2
      have h3 := hl.2.1
      have h4 := hm.2.1
      simp only [Bool.or_eq_false_iff, decide_eq_false_iff_not] at h1 h2
      omega
    have hst : s = t := by cases s; cases t; simp_all
    subst hst
    have : r = q := by
      refine Canon.unique hl.2.2 hm.2.2 fun x => ?_
      have hx := h x
      rw [spanIn_cons, spanIn_cons] at hx
      by_cases hxs : s.fr ≤ x ∧ x < s.to
      · have h1 : spanIn r x = false := by
          cases hz : spanIn r x with
          | true => have := Canon.above hl.2.2 hz; omega
          | false => rfl
        have h2 : spanIn q x = false := by
          cases hz : spanIn q x with
          | true => have := Canon.above hm.2.2 hz; omega
          | false => rfl
        rw [h1, h2]
      · simpa [hxs] using hx
    rw [this]

/-! told. -/
theorem toldK_ok (p : Nat → Bool) : ∀ k : Nat, k ≤ 32 → Canon (31 - (k : Int)) (toldK p k) ∧ ∀ x : Int, spanIn (toldK p k) x = (decide (32 - (k : Int) ≤ x ∧ x < 32) && p x.toNat)
  | 0, _ => ⟨trivial, fun x => by
      have : ¬ (32 - ((0 : Nat) : Int) ≤ x ∧ x < 32) := by omega
      simp only [toldK, spanIn, this, decide_false, Bool.false_and]⟩
  | k + 1, hk => by
    obtain ⟨hc, hi⟩ := toldK_ok p k (by omega)
    have hn : ((31 - k : Nat) : Int) = 31 - (k : Int) := by omega
    generalize hN : (31 - k : Nat) = n at *
    have hlo : (31 : Int) - ((k + 1 : Nat) : Int) = n - 1 := by omega
    rw [toldK, hN, hlo]
    have hrange : ∀ x : Int, (decide (32 - ((k + 1 : Nat) : Int) ≤ x ∧ x < 32) && p x.toNat) = ((decide (x = n) && p n) || (decide (32 - (k : Int) ≤ x ∧ x < 32) && p x.toNat)) := by
      intro x
      by_cases hx : x = n
      · subst hx
        have h1 : (32 - ((k + 1 : Nat) : Int) ≤ n ∧ (n : Int) < 32) := by omega
        have h2 : ¬ (32 - (k : Int) ≤ n ∧ (n : Int) < 32) := by omega
        rw [decide_eq_true h1, decide_eq_false h2]; simp
      · have h1 : (32 - ((k + 1 : Nat) : Int) ≤ x ∧ x < 32) ↔ (32 - (k : Int) ≤ x ∧ x < 32) := by omega
        simp only [hx, decide_false, Bool.false_and, Bool.false_or]
        rw [decide_eq_decide.2 h1]
    by_cases hp : p n = true
    · generalize hL : toldK p k = L at *
      cases L with
      | nil =>
        rw [toldStep_nil hp]
        refine ⟨⟨by show (n : Int) - 1 < n; omega, by show (n : Int) < n + 1; omega, trivial⟩, fun x => ?_⟩
        rw [hrange, ← hi, hp, spanIn_one]
        have : ((n : Int) ≤ x ∧ x < n + 1) ↔ x = n := by omega
        simp only [Bool.and_true, spanIn, Bool.or_false]
        rw [decide_eq_decide.2 this]
      | cons s r =>
        by_cases he : s.fr = n + 1
        · rw [toldStep_join (L := s :: r) hp (by simp) he]
          refine ⟨⟨by show (n : Int) - 1 < n; omega, by show (n : Int) < s.to; have := hc.2.1; omega, hc.2.2⟩, fun x => ?_⟩
          rw [hrange, ← hi, hp]
          simp only [List.set_cons_zero, List.getElem_cons_zero]
          rw [spanIn_cons, spanIn_cons, Bool.and_true, ← Bool.or_assoc]
          congr 1
          rw [← Bool.decide_or, decide_eq_decide]
          show ((n : Int) ≤ x ∧ x < s.to) ↔ _
          have := hc.2.1
          omega
        · rw [toldStep_new (L := s :: r) hp (by simp) he]
          refine ⟨⟨by show (n : Int) - 1 < n; omega, by show (n : Int) < n + 1; omega, ?_⟩, fun x => ?_⟩
          · have h1 := hc.1
            exact ⟨by show (n : Int) + 1 < s.fr; omega, hc.2⟩
          · rw [hrange, ← hi, hp, spanIn_append]
            congr 1
            simp only [spanIn_one, Bool.and_true]
            rw [decide_eq_decide]
            show ((n : Int) ≤ x ∧ x < n + 1) ↔ _
            omega
    · rw [toldStep_no hp]
      refine ⟨hc.mono (by omega), fun x => ?_⟩
      rw [hrange, hi]
      simp [hp]

theorem told_canon (p : Nat → Bool) : Canon (-1) (told p) := (toldK_ok p 32 (by omega)).1
theorem told_in (p : Nat → Bool) (x : Int) : spanIn (told p) x = (decide (0 ≤ x ∧ x < 32) && p x.toNat) := (toldK_ok p 32 (by omega)).2 x

/-! Make. -/
theorem Canon.concat : ∀ {l : List Span} {lo : Int} {s : Span}, Canon lo l → lo < s.fr → s.fr < s.to → (∀ t ∈ l, t.to < s.fr) → Canon lo (l ++ [s])
  | [], _, _, _, h1, h2, _ => ⟨h1, h2, trivial⟩
  | t :: r, _, s, hc, _, h2, h3 => ⟨hc.1, hc.2.1, Canon.concat hc.2.2 (h3 t (by simp)) h2 fun u hu => h3 u (by simp [hu])⟩
theorem Canon.split : ∀ {l : List Span} {lo : Int} {s : Span}, Canon lo (l ++ [s]) → Canon lo l ∧ lo < s.fr ∧ s.fr < s.to ∧ ∀ t ∈ l, t.to < s.fr
  | [], _, _, h => ⟨trivial, h.1, h.2.1, by simp⟩
  | t :: r, lo, s, h => by
    obtain ⟨h1, h2, h3, h4⟩ := Canon.split (l := r) h.2.2
    refine ⟨⟨h.1, h.2.1, h1⟩, by have := h.1; have := h.2.1; omega, h3, fun u hu => ?_⟩
    rcases List.mem_cons.1 hu with rfl | hu
    · exact h2
    · exact h4 u hu

theorem mkSpans_ok (p : Int → Bool) : ∀ n : Nat, Canon (-1) (mkSpans p n) ∧ (∀ s ∈ mkSpans p n, s.to ≤ n) ∧ ∀ x : Int, spanIn (mkSpans p n) x = (decide (0 ≤ x ∧ x < n) && p x)
  | 0 => ⟨trivial, by simp [mkSpans], fun x => by
      have : ¬ (0 ≤ x ∧ x < ((0 : Nat) : Int)) := by omega
      simp only [mkSpans, spanIn, this, decide_false, Bool.false_and]⟩
  | n + 1 => by
    obtain ⟨hc, ht, hi⟩ := mkSpans_ok p n
    have hrange : ∀ x : Int, (decide (0 ≤ x ∧ x < ((n + 1 : Nat) : Int)) && p x) = ((decide (0 ≤ x ∧ x < (n : Int)) && p x) || (decide (x = n) && p n)) := by
      intro x
      by_cases hx : x = n
      · subst hx
        have h1 : (0 : Int) ≤ n ∧ (n : Int) < ((n + 1 : Nat) : Int) := by omega
        have h2 : ¬ ((0 : Int) ≤ n ∧ (n : Int) < n) := by omega
        rw [decide_eq_true h1, decide_eq_false h2]; simp
      · have h1 : (0 ≤ x ∧ x < ((n + 1 : Nat) : Int)) ↔ (0 ≤ x ∧ x < (n : Int)) := by omega
        simp only [hx, decide_false, Bool.false_and, Bool.or_false]
        rw [decide_eq_decide.2 h1]
    have new : ∀ L : List Span, Canon (-1) L → (∀ t ∈ L, t.to < (n : Int)) → (∀ x, spanIn L x = (decide (0 ≤ x ∧ x < (n : Int)) && p x)) → p n = true →
        Canon (-1) (L ++ [⟨n, n + 1⟩]) ∧ (∀ s ∈ L ++ [⟨n, n + 1⟩], s.to ≤ ((n + 1 : Nat) : Int)) ∧ ∀ x : Int, spanIn (L ++ [⟨n, n + 1⟩]) x = (decide (0 ≤ x ∧ x < ((n + 1 : Nat) : Int)) && p x) := by
      intro L h1 h2 h3 hp
      refine ⟨Canon.concat h1 (by show (-1 : Int) < n; omega) (by show (n : Int) < n + 1; omega) h2, ?_, fun x => ?_⟩
      · intro s hs
        rcases List.mem_append.1 hs with hs | hs
        · have := h2 s hs; omega
        · simp at hs; subst hs; show (n : Int) + 1 ≤ _; omega
      · rw [hrange, ← h3, hp, spanIn_append]
        congr 1
        simp only [spanIn_one, Bool.and_true]
        rw [decide_eq_decide]
        show ((n : Int) ≤ x ∧ x < n + 1) ↔ _
        omega
    rw [mkSpans]
    generalize mkSpans p n = L at *
    unfold mkStep
    by_cases hp : p n = true
    · rw [if_pos hp]
      rcases List.eq_nil_or_concat L with rfl | ⟨L', s, rfl⟩
      · simpa using new [] trivial (by simp) hi hp
      · simp only [List.concat_eq_append, List.getLast?_append, List.getLast?_singleton, Option.some_or] at *
        obtain ⟨k1, k2, k3, k4⟩ := Canon.split hc
        by_cases he : s.to = n
        · simp only [he, if_true]
          have hset : (L' ++ [s]).set ((L' ++ [s]).length - 1) ⟨s.fr, (n : Int) + 1⟩ = L' ++ [⟨s.fr, (n : Int) + 1⟩] := by
            rw [List.length_append, List.set_append_right _ _ (by simp)]
            simp
          rw [hset]
          refine ⟨Canon.concat k1 k2 (by show s.fr < (n : Int) + 1; omega) k4, ?_, fun x => ?_⟩
          · intro t ht'
            rcases List.mem_append.1 ht' with h | h
            · have := ht t (by simp [h]); omega
            · simp at h; subst h; show (n : Int) + 1 ≤ _; omega
          · rw [hrange, ← hi, hp, spanIn_append, spanIn_append, Bool.or_assoc]
            congr 1
            simp only [spanIn_one, Bool.and_true]
            rw [← Bool.decide_or, decide_eq_decide]
            show (s.fr ≤ x ∧ x < (n : Int) + 1) ↔ _
            omega
        · simp only [he, if_false]
          refine new (L' ++ [s]) hc ?_ hi hp
          intro t ht'
          rcases List.mem_append.1 ht' with h | h
          · have := k4 t h
            have := ht s (by simp)
            omega
          · simp at h; subst h
            have := ht t (by simp)
            omega
    · rw [if_neg hp]
      refine ⟨hc, fun s hs => by have := ht s hs; omega, fun x => ?_⟩
      rw [hrange, hi]
      simp [hp]

theorem mk_told (q : Int → Bool) (p : Nat → Bool) (h : ∀ i : Nat, i < 32 → q i = p i) : mkSpans q 32 = told p := by
  obtain ⟨h1, _, h3⟩ := mkSpans_ok q 32
  refine Canon.unique h1 (told_canon p) fun x => ?_
  rw [h3, told_in]
  by_cases hx : 0 ≤ x ∧ x < 32
  · have hx' : 0 ≤ x ∧ x < ((32 : Nat) : Int) := hx
    have := h x.toNat (by omega)
    rw [Int.toNat_of_nonneg hx.1] at this
    rw [decide_eq_true hx, decide_eq_true hx', this]
  · have hx' : ¬ (0 ≤ x ∧ x < ((32 : Nat) : Int)) := hx
    rw [decide_eq_false hx, decide_eq_false hx', Bool.false_and, Bool.false_and]

theorem told_nil (p : Nat → Bool) : told p = [] ↔ ∀ i, i < 32 → p i = false := by
  constructor
  · intro h i hi
    have := told_in p i
    rw [h] at this
    have hx : (0 : Int) ≤ i ∧ (i : Int) < 32 := by omega
    simp [spanIn, hx] at this
    exact this
  · intro h
    refine Canon.unique (told_canon p) (show Canon (-1) [] from trivial) fun x => ?_
    rw [told_in]
    by_cases hx : 0 ≤ x ∧ x < 32
    · simp [spanIn, hx, h x.toNat (by omega)]
    · simp only [hx, decide_false, Bool.false_and, spanIn]

/-- so for all numbers below. -/
def allTo (p : Nat → Bool) : Nat → Bool
  | 0 => true
  | k + 1 => allTo p k && p k
theorem allTo_iff (p : Nat → Bool) : ∀ n, allTo p n = true ↔ ∀ i, i < n → p i = true
  | 0 => by simp [allTo]
  | n + 1 => by
    rw [allTo, Bool.and_eq_true, allTo_iff p n]
    constructor
    · rintro ⟨h1, h2⟩ i hi
      by_cases h : i = n
      · subst h; exact h2
      · exact h1 i (by omega)
    · intro h
      exact ⟨fun i hi => h i (by omega), h n (by omega)⟩

theorem within_told (a b : Nat → Bool) : decide (told (fun i => a i && !b i) = []) = allTo (fun i => !a i || b i) 32 := by
  rw [Bool.eq_iff_iff, decide_eq_true_eq, told_nil, allTo_iff]
  constructor <;> intro h i hi <;> have := h i hi <;> revert this <;> cases a i <;> cases b i <;> simp

/-! what SpanSays counts. -/
def countTo (p : Nat → Bool) : Nat → Int
  | 0 => 0
  | k + 1 => countTo p k + if p k then 1 else 0
theorem countTo_bd (p : Nat → Bool) : ∀ k : Nat, 0 ≤ countTo p k ∧ countTo p k ≤ k
  | 0 => by simp [countTo]
  | k + 1 => by
    have := countTo_bd p k
    rw [countTo]
    split <;> omega
/-- is there a number below k that is n? -/
def hasTo (p : Nat → Bool) (n : Int) : Nat → Bool
  | 0 => false
  | k + 1 => hasTo p n k || (p k && decide ((k : Int) = n))
theorem hasTo_iff (p : Nat → Bool) (n : Int) : ∀ k : Nat, hasTo p n k = (decide (0 ≤ n ∧ n < k) && p n.toNat)
  | 0 => by
    have : ¬ (0 ≤ n ∧ n < ((0 : Nat) : Int)) := by omega
    rw [hasTo, decide_eq_false this, Bool.false_and]
  | k + 1 => by
    rw [hasTo, hasTo_iff p n k]
    by_cases h : (k : Int) = n
    · subst h
      have h1 : ¬ (0 ≤ (k : Int) ∧ (k : Int) < (k : Int)) := by omega
      have h2 : 0 ≤ (k : Int) ∧ (k : Int) < ((k + 1 : Nat) : Int) := by omega
      rw [decide_eq_false h1, decide_eq_true h2]; simp
    · have h1 : (0 ≤ n ∧ n < ((k + 1 : Nat) : Int)) ↔ (0 ≤ n ∧ n < (k : Int)) := by omega
      by_cases hh : 0 ≤ n ∧ n < (k : Int)
      · rw [decide_eq_true hh, decide_eq_true (h1.2 hh)]; simp [h]
      · rw [decide_eq_false hh, decide_eq_false (fun g => hh (h1.1 g))]; simp [h]

theorem countTo_or (p q : Nat → Bool) (h : ∀ i, ¬ (p i = true ∧ q i = true)) : ∀ k, countTo (fun i => p i || q i) k = countTo p k + countTo q k
  | 0 => by simp [countTo]
  | k + 1 => by
    rw [countTo, countTo, countTo, countTo_or p q h k]
    have := h k
    by_cases hp : p k = true <;> by_cases hq : q k = true
    · exact absurd ⟨hp, hq⟩ this
    · simp [hp, hq]; omega
    · simp [hp, hq]; omega
    · simp [hp, hq]
theorem countTo_congr {p q : Nat → Bool} : ∀ {k : Nat}, (∀ i, i < k → p i = q i) → countTo p k = countTo q k
  | 0, _ => rfl
  | k + 1, h => by rw [countTo, countTo, countTo_congr fun i hi => h i (by omega), h k (by omega)]
theorem countTo_range (a b : Nat) (hab : a ≤ b) : ∀ k : Nat, countTo (fun i => decide ((a : Int) ≤ i ∧ (i : Int) < b)) k = (min (max k a) b : Nat) - (a : Int)
  | 0 => by simp only [countTo]; omega
  | k + 1 => by
    rw [countTo, countTo_range a b hab k]
    by_cases h : (a : Int) ≤ k ∧ (k : Int) < b
    · rw [decide_eq_true h]; simp only [if_true]; omega
    · rw [decide_eq_false h]; simp only [Bool.false_eq_true, if_false]; omega

theorem countTo_zero : ∀ k, countTo (fun _ => false) k = 0
  | 0 => rfl
  | k + 1 => by rw [countTo, countTo_zero k]; simp

theorem count_canon : ∀ {l : List Span} {lo : Int}, Canon lo l → -1 ≤ lo → SpansOk l → countTo (fun i => spanIn l i) 32 = spanSum l
  | [], _, _, _, _ => by simp only [spanIn, countTo_zero, spanSum, List.map_nil, List.sum_nil]
  | s :: r, lo, hc, hlo, hok => by
    have ih := count_canon hc.2.2 (by have := hc.1; have := hc.2.1; omega) fun t ht => hok t (by simp [ht])
    have h0 := hok s (by simp)
    obtain ⟨f, hf⟩ := Int.eq_ofNat_of_zero_le h0.1
    obtain ⟨t, ht⟩ := Int.eq_ofNat_of_zero_le (show 0 ≤ s.to by omega)
    have e : countTo (fun i => spanIn (s :: r) i) 32 = countTo (fun i => decide ((f : Int) ≤ i ∧ (i : Int) < t) || spanIn r i) 32 := by
      refine countTo_congr fun i _ => ?_
      rw [spanIn_cons, hf, ht]
    rw [e, countTo_or _ _ (by
      intro i
      rintro ⟨h1, h2⟩
      have := Canon.above hc.2.2 h2
      rw [decide_eq_true_eq] at h1
      omega), ih, countTo_range f t (by omega) 32]
    simp only [spanSum, List.map_cons, List.sum_cons]
    omega

theorem spanGo_canon : ∀ {l : List Span} {last : Int}, spanGo last l = 0 → Canon last l
  | [], _, _ => trivial
  | s :: r, last, h => by
    rw [spanGo] at h
    by_cases hb : spanBad s = true
    · simp [hb] at h
    · by_cases hl : s.fr ≤ last
      · simp [hb, hl] at h
      · have h2 : spanGo s.to r = 0 := by simpa [hb, hl] using h
        simp [spanBad] at hb
        exact ⟨by omega, by omega, spanGo_canon h2⟩
theorem spanCheck_canon {l : List Span} (h : spanCheck l = 0) : Canon (-1) l := by
  unfold spanCheck at h
  by_cases hl : 16 < l.length
  · simp [hl] at h
  · rw [if_neg hl] at h; exact spanGo_canon h

theorem count_says {l : List Span} (h : spanCheck l = 0) : countTo (fun i => spanIn l i) 32 = spanSum l := count_canon (spanCheck_canon h) (by omega) (spanCheck_ok h).1
theorem has_says {l : List Span} (h : spanCheck l = 0) (n : Int) : hasTo (fun i => spanIn l i) n 32 = spanIn l n := by
  rw [hasTo_iff]
  by_cases hn : 0 ≤ n ∧ n < ((32 : Nat) : Int)
  · rw [decide_eq_true hn, Bool.true_and, Int.toNat_of_nonneg hn.1]
  · rw [decide_eq_false hn, Bool.false_and]
    cases hs : spanIn l n with
    | false => rfl
    | true =>
      exfalso
      have hok := (spanCheck_ok h).1
      have : ∀ m : List Span, SpansOk m → spanIn m n = true → 0 ≤ n ∧ n < 32 := by
        intro m
        induction m with
        | nil => intro _ h; simp [spanIn] at h
        | cons s r ih =>
          intro hm hi
          rw [spanIn_cons, Bool.or_eq_true, decide_eq_true_eq] at hi
          rcases hi with hi | hi
          · have := hm s (by simp); omega
          · exact ih (fun t ht => hm t (by simp [ht])) hi
      exact hn (this l hok hs)

/-- what has gone wrong up to the k-th number. -/
def ofOne (l : List Int) (k : Nat) : Int := if 400 < l.length then 2 else ofGo (l.take k)
theorem ofGo_take (l : List Int) (k : Nat) (hk : k < l.length) : ofGo (l.take (k + 1)) = if ofGo (l.take k) = 0 then (if l[k] < 0 ∨ 32 ≤ l[k] then 1 else 0) else ofGo (l.take k) := by
  rw [List.take_succ_eq_append_getElem hk]
  generalize l.take k = m
  induction m with
  | nil => simp [ofGo]
  | cons n r ih =>
    simp only [List.cons_append, ofGo]
    by_cases h : n < 0 ∨ 32 ≤ n
    · simp [h]
    · simp only [h, if_false]; exact ih
theorem ofOne_step (l : List Int) (k : Nat) (hk : k < l.length) : ofOne l (k + 1) = if ofOne l k = 0 then (if l[k] < 0 ∨ 32 ≤ l[k] then 1 else 0) else ofOne l k := by
  unfold ofOne
  by_cases h : 400 < l.length
  · simp [h]
  · simp only [h, if_false]; exact ofGo_take l k hk
theorem ofOne_end (l : List Int) : ofOne l l.length = ofErr l := by rw [ofOne, List.take_length, ofErr]

end Go.Proofs.Ytiigbcnnapnceaa
