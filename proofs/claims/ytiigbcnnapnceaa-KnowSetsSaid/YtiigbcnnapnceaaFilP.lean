/- Plain law on filters: tables of bits, the boxes told of a table, points. No program, no memory in sight. -/
import Derived.Test.YtiigbcnnapnceaaCubeP
namespace Go.Proofs.Ytiigbcnnapnceaa
open Go

/-! bits -/
theorem bit_run (a b i : Nat) : (2 ^ b - 2 ^ a).testBit i = decide (a ≤ i ∧ i < b) := by
  by_cases h : a ≤ b
  · obtain ⟨c, rfl⟩ := Nat.exists_eq_add_of_le h
    have e : 2 ^ (a + c) - 2 ^ a = 2 ^ a * (2 ^ c - 1) := by rw [Nat.pow_add, Nat.mul_sub, Nat.mul_one]
    rw [e, Nat.testBit_two_pow_mul, Nat.testBit_two_pow_sub_one]
    rw [Bool.eq_iff_iff]
    simp
    omega
  · have e : 2 ^ b - 2 ^ a = 0 := Nat.sub_eq_zero_of_le (Nat.pow_le_pow_right (by omega) (by omega))
    rw [e]
    have : ¬ (a ≤ i ∧ i < b) := by omega
    simp [this]
theorem or32_lt {a b : Nat} (ha : a < 4294967296) (hb : b < 4294967296) : a ||| b < 4294967296 := Nat.or_lt_two_pow (n := 32) ha hb
theorem and32_lt {a b : Nat} (ha : a < 4294967296) : a &&& b < 4294967296 := Nat.lt_of_le_of_lt Nat.and_le_left ha
theorem xor32_lt {a b : Nat} (ha : a < 4294967296) (hb : b < 4294967296) : a ^^^ b < 4294967296 := Nat.xor_lt_two_pow (n := 32) ha hb
theorem high32 {a i : Nat} (ha : a < 4294967296) (hi : 32 ≤ i) : a.testBit i = false :=
  Nat.testBit_lt_two_pow (Nat.lt_of_lt_of_le ha (show 2 ^ 32 ≤ 2 ^ i from Nat.pow_le_pow_right (by omega) hi))
theorem eq32 {a b : Nat} (ha : a < 4294967296) (hb : b < 4294967296) (h : ∀ i, i < 32 → a.testBit i = b.testBit i) : a = b := by
  apply Nat.eq_of_testBit_eq
  intro i
  by_cases hi : i < 32
  · exact h i hi
  · rw [high32 ha (by omega), high32 hb (by omega)]
theorem not32_bit (b i : Nat) (hi : i < 32) (hb : b < 4294967296) : (4294967295 - b).testBit i = !b.testBit i := by
  have := Nat.testBit_two_pow_sub_succ (n := 32) (x := b) hb i
  have e : 2 ^ 32 - (b + 1) = 4294967295 - b := by omega
  rw [e] at this
  rw [this]; simp [hi]

/-! what may be -/
def filterGo : List Box → Int
  | [] => 0
  | b :: r => if cubeCheck b.cube = 0 then (if spanCheck b.spans = 0 then filterGo r else spanCheck b.spans) else cubeCheck b.cube
def filterCheck (f : List Box) : Int := if 40 < f.length then 2 else filterGo f
theorem filterGo_drop (f : List Box) (k : Nat) (hk : k < f.length) : filterGo (f.drop k) = if cubeCheck f[k].cube = 0 then (if spanCheck f[k].spans = 0 then filterGo (f.drop (k + 1)) else spanCheck f[k].spans) else cubeCheck f[k].cube := by
  rw [List.drop_eq_getElem_cons hk, filterGo]
def BoxOk (b : Box) : Prop := cubeCheck b.cube = 0 ∧ spanCheck b.spans = 0
theorem filterGo_ok : ∀ f : List Box, filterGo f = 0 ↔ ∀ b ∈ f, BoxOk b
  | [] => by simp [filterGo]
  | b :: r => by
    rw [filterGo]
    by_cases h1 : cubeCheck b.cube = 0
    · by_cases h2 : spanCheck b.spans = 0
      · rw [if_pos h1, if_pos h2, filterGo_ok r]
        simp [BoxOk, h1, h2]
      · rw [if_pos h1, if_neg h2]
        simp [BoxOk, h2]
    · rw [if_neg h1]
      simp [BoxOk, h1]
theorem filterCheck_ok {f : List Box} (h : filterCheck f = 0) : f.length ≤ 40 ∧ ∀ b ∈ f, BoxOk b := by
  unfold filterCheck at h
  by_cases hl : 40 < f.length
  · simp [hl] at h
  · rw [if_neg hl] at h
    exact ⟨by omega, (filterGo_ok f).1 h⟩
theorem filterCheck_of {f : List Box} (h : f.length ≤ 40) (hb : ∀ b ∈ f, BoxOk b) : filterCheck f = 0 := by
  rw [filterCheck, if_neg (by omega)]
  exact (filterGo_ok f).2 hb
def filterTwo (f g : List Box) : Int := if filterCheck f = 0 then filterCheck g else filterCheck f

/-- are tags in a box's cube? -/
def boxIn (b : Box) (t : Nat) : Bool := cubeIn b.cube.yes.toNat b.cube.no.toNat t
/-- the points of a filter: of tags and a number at 32 times the tags and the number. -/
def pts (f : List Box) (i : Nat) : Bool := f.any fun b => spanIn b.spans (i % 32 : Nat) && boxIn b (i / 32)
theorem pts_take (f : List Box) (k : Nat) (hk : k < f.length) (i : Nat) : pts (f.take (k + 1)) i = (pts (f.take k) i || (spanIn f[k].spans (i % 32 : Nat) && boxIn f[k] (i / 32))) := by
  rw [List.take_succ_eq_append_getElem hk]
  unfold pts
  rw [List.any_append, List.any_cons, List.any_nil, Bool.or_false]

/-! a filter's table -/
def spanBits (l : List Span) : Nat := l.foldl (fun acc s => acc ||| (2 ^ s.to.toNat - 2 ^ s.fr.toNat)) 0
theorem spanBits_take (l : List Span) (k : Nat) (hk : k < l.length) : spanBits (l.take (k + 1)) = spanBits (l.take k) ||| (2 ^ l[k].to.toNat - 2 ^ l[k].fr.toNat) := by
  rw [List.take_succ_eq_append_getElem hk, spanBits, List.foldl_append]
  rfl
theorem spanBits_fold (l : List Span) (h : SpansOk l) : ∀ (a n : Nat), (l.foldl (fun acc s => acc ||| (2 ^ s.to.toNat - 2 ^ s.fr.toNat)) a).testBit n = (a.testBit n || spanIn l n) := by
  induction l with
  | nil => intro a n; simp [spanIn]
  | cons s r ih =>
    intro a n
    rw [List.foldl_cons, ih (fun t ht => h t (by simp [ht])), Nat.testBit_or, bit_run, spanIn_cons, Bool.or_assoc]
    have := h s (by simp)
    congr 2
    rw [decide_eq_decide]
    omega
theorem spanBits_bit (l : List Span) (h : SpansOk l) (n : Nat) : (spanBits l).testBit n = spanIn l n := by
  rw [spanBits, spanBits_fold l h]; simp
theorem pow32_le {t : Nat} (h : t ≤ 32) : 2 ^ t ≤ 4294967296 := Nat.pow_le_pow_right (n := 2) (j := 32) (by omega) h
theorem run32_lt {f t : Nat} (_h : f < t) (ht : t ≤ 32) : 2 ^ t - 2 ^ f < 4294967296 := by
  have := pow32_le ht
  have := Nat.two_pow_pos f
  omega
theorem spanBits_fold_lt (l : List Span) (h : SpansOk l) : ∀ a, a < 4294967296 → (l.foldl (fun acc s => acc ||| (2 ^ s.to.toNat - 2 ^ s.fr.toNat)) a) < 4294967296 := by
  induction l with
  | nil => intro a ha; exact ha
  | cons s r ih =>
    intro a ha
    rw [List.foldl_cons]
    refine ih (fun t ht => h t (by simp [ht])) _ (or32_lt ha ?_)
    have := h s (by simp)
    exact run32_lt (by omega) (by omega)
theorem SpansOk.take {l : List Span} (h : SpansOk l) (k : Nat) : SpansOk (l.take k) := fun s hs => h s (List.mem_of_mem_take hs)
theorem spanBits_lt {l : List Span} (h : SpansOk l) : spanBits l < 4294967296 := spanBits_fold_lt l h 0 (by omega)

/-- of all tags which numbers. -/
def tab (f : List Box) (t : Nat) : Nat := f.foldl (fun acc b => if boxIn b t then acc ||| spanBits b.spans else acc) 0
theorem tab_take (f : List Box) (k : Nat) (hk : k < f.length) (t : Nat) : tab (f.take (k + 1)) t = if boxIn f[k] t then tab (f.take k) t ||| spanBits f[k].spans else tab (f.take k) t := by
  rw [List.take_succ_eq_append_getElem hk, tab, List.foldl_append]
  rfl
theorem tab_fold (f : List Box) (h : ∀ b ∈ f, BoxOk b) (t : Nat) : ∀ (a n : Nat), (f.foldl (fun acc b => if boxIn b t then acc ||| spanBits b.spans else acc) a).testBit n = (a.testBit n || f.any fun b => spanIn b.spans n && boxIn b t) := by
  induction f with
  | nil => intro a n; simp
  | cons b r ih =>
    intro a n
    rw [List.foldl_cons, ih (fun x hx => h x (by simp [hx])), List.any_cons, ← Bool.or_assoc]
    congr 1
    have hb := spanBits_bit b.spans (spanCheck_ok (h b (by simp)).2).1 n
    by_cases hi : boxIn b t = true
    · simp [hi, hb]
    · simp [hi]
theorem tab_bit {f : List Box} (h : ∀ b ∈ f, BoxOk b) (t n : Nat) : (tab f t).testBit n = f.any fun b => spanIn b.spans n && boxIn b t := by
  rw [tab, tab_fold f h]; simp
theorem tab_fold_lt (f : List Box) (h : ∀ b ∈ f, BoxOk b) (t : Nat) : ∀ a, a < 4294967296 → (f.foldl (fun acc b => if boxIn b t then acc ||| spanBits b.spans else acc) a) < 4294967296 := by
  induction f with
  | nil => intro a ha; exact ha
  | cons b r ih =>
    intro a ha
    rw [List.foldl_cons]
    refine ih (fun x hx => h x (by simp [hx])) _ ?_
    split
    · exact or32_lt ha (spanBits_lt (spanCheck_ok (h b (by simp)).2).1)
    · exact ha
theorem tab_lt {f : List Box} (h : ∀ b ∈ f, BoxOk b) (t : Nat) : tab f t < 4294967296 := tab_fold_lt f h t 0 (by omega)
theorem pts_tab {f : List Box} (h : ∀ b ∈ f, BoxOk b) (i : Nat) : pts f i = (tab f (i / 32)).testBit (i % 32) := by
  rw [tab_bit h, pts]

/-! the boxes told of a table -/
/-- v without bit k. -/
def clr (v k : Nat) : Nat := v &&& (15 - 2 ^ k)
def sameAll (T : Nat → Nat) (t : Nat) (d : Nat × Nat) : Bool := allTo (fun o => !cubeIn d.1 d.2 o || T o == T t) 16
def growK (T : Nat → Nat) (t : Nat) : Nat → Nat × Nat
  | 0 => (t, 15 - t)
  | k + 1 => if sameAll T t (clr (growK T t k).1 k, clr (growK T t k).2 k) then (clr (growK T t k).1 k, clr (growK T t k).2 k) else growK T t k
/-- the box of a value of a table. -/
def boxOf (T : Nat → Nat) (t : Nat) : Box := ⟨⟨((growK T t 4).1 : Int), ((growK T t 4).2 : Int)⟩, mkSpans (fun n => (T t).testBit n.toNat) 32⟩
def boxK (T : Nat → Nat) : Nat → (Nat → Bool) × List Box
  | 0 => (fun _ => false, [])
  | k + 1 => if (boxK T k).1 k || T k == 0 then boxK T k else (fun o => (boxK T k).1 o || cubeIn (growK T k 4).1 (growK T k 4).2 o, (boxK T k).2 ++ [boxOf T k])
def mkBoxes (T : Nat → Nat) : List Box := (boxK T 16).2

theorem grow_start : ∀ t, t < 16 → cubeIn t (15 - t) t = true ∧ (∀ o, o < 16 → cubeIn t (15 - t) o = true → o = t) ∧ 15 - t < 16 ∧ t &&& (15 - t) = 0 := by decide +kernel
theorem clr_in : ∀ k, k < 4 → ∀ y, y < 16 → ∀ n, n < 16 → ∀ t, t < 16 → cubeIn y n t = true → cubeIn (clr y k) (clr n k) t = true := by decide +kernel
theorem clr_lt : ∀ k, k < 4 → ∀ y, y < 16 → clr y k < 16 := by decide +kernel
theorem clr_dis : ∀ k, k < 4 → ∀ y, y < 16 → ∀ n, n < 16 → y &&& n = 0 → clr y k &&& clr n k = 0 := by decide +kernel

structure GrowOk (T : Nat → Nat) (t : Nat) (c : Nat × Nat) : Prop where
  y : c.1 < 16
  n : c.2 < 16
  dis : c.1 &&& c.2 = 0
  self : cubeIn c.1 c.2 t = true
  same : ∀ o, o < 16 → cubeIn c.1 c.2 o = true → T o = T t
theorem growK_ok (T : Nat → Nat) (t : Nat) (ht : t < 16) : ∀ k, k ≤ 4 → GrowOk T t (growK T t k)
  | 0, _ => by
    obtain ⟨h1, h2, h3, h4⟩ := grow_start t ht
    exact ⟨ht, h3, h4, h1, fun o ho hc => by rw [h2 o ho hc]⟩
  | k + 1, hk => by
    have g := growK_ok T t ht k (by omega)
    rw [growK]
    by_cases hs : sameAll T t (clr (growK T t k).1 k, clr (growK T t k).2 k) = true
    · rw [if_pos hs]
      refine ⟨clr_lt k (by omega) _ g.y, clr_lt k (by omega) _ g.n, clr_dis k (by omega) _ g.y _ g.n g.dis, clr_in k (by omega) _ g.y _ g.n t ht g.self, fun o ho hc => ?_⟩
      have := (allTo_iff _ 16).1 hs o ho
      simp only [hc, Bool.not_true, Bool.false_or, beq_iff_eq] at this
      exact this
    · rw [if_neg hs]; exact g

theorem canon_len : ∀ {l : List Span} {lo : Int}, Canon lo l → SpansOk l → lo ≤ 32 → 2 * (l.length : Int) ≤ 32 - lo
  | [], lo, _, _, h => by simp; omega
  | s :: r, lo, h, hok, hlo => by
    have h1 := hok s (by simp)
    have ih := canon_len (l := r) (lo := s.to) h.2.2 (fun t ht => hok t (by simp [ht])) h1.2.2
    have := h.1
    have := h.2.1
    simp only [List.length_cons]
    omega
theorem canon_go : ∀ {l : List Span} {lo : Int}, Canon lo l → SpansOk l → spanGo lo l = 0
  | [], _, _, _ => rfl
  | s :: r, lo, h, hok => by
    have h1 := hok s (by simp)
    rw [spanGo]
    have hb : spanBad s = false := by simp [spanBad]; omega
    have hl : ¬ s.fr ≤ lo := by have := h.1; omega
    rw [hb, if_neg (by simp), if_neg hl]
    exact canon_go h.2.2 fun t ht => hok t (by simp [ht])
theorem canon_ok : ∀ {l : List Span} {lo : Int}, Canon lo l → -1 ≤ lo → (∀ s ∈ l, s.to ≤ 32) → SpansOk l
  | [], _, _, _, _ => by intro s h; simp at h
  | s :: r, lo, h, hlo, ht => by
    have h1 := h.1
    have h2 := h.2.1
    intro t hm
    rcases List.mem_cons.1 hm with rfl | hm
    · exact ⟨by omega, by omega, ht _ (by simp)⟩
    · exact canon_ok h.2.2 (by omega) (fun u hu => ht u (by simp [hu])) t hm
theorem mkSpans_check (p : Int → Bool) : spanCheck (mkSpans p 32) = 0 := by
  obtain ⟨h1, h2, _⟩ := mkSpans_ok p 32
  have hok := canon_ok h1 (by omega) (by intro s hs; have := h2 s hs; omega)
  have hl := canon_len h1 hok (by omega)
  rw [spanCheck, if_neg (by omega)]
  exact canon_go h1 hok
theorem mkSpans_in (p : Int → Bool) (n : Nat) (hn : n < 32) : spanIn (mkSpans p 32) n = p n := by
  rw [(mkSpans_ok p 32).2.2 n]
  have : decide ((0 : Int) ≤ n ∧ (n : Int) < (32 : Nat)) = true := by simp; omega
  rw [this, Bool.true_and]

theorem boxOf_ok (T : Nat → Nat) (t : Nat) (ht : t < 16) : BoxOk (boxOf T t) := by
  have g := growK_ok T t ht 4 (by omega)
  have hs : spanCheck (boxOf T t).spans = 0 := by unfold boxOf; exact mkSpans_check (fun n => (T t).testBit n.toNat)
  refine ⟨?_, hs⟩
  have h1 : tagsOk (((growK T t 4).1 : Nat) : Int) = true := tagsOk_iff.2 ⟨by omega, by have := g.y; omega⟩
  have h2 : tagsOk (((growK T t 4).2 : Nat) : Int) = true := tagsOk_iff.2 ⟨by omega, by have := g.n; omega⟩
  rw [boxOf, cubeCheck, if_pos ⟨h1, h2⟩]
  simp only [Int.toNat_natCast]
  rw [if_pos g.dis]
theorem boxOf_in (T : Nat → Nat) (t o : Nat) : boxIn (boxOf T t) o = cubeIn (growK T t 4).1 (growK T t 4).2 o := by
  simp [boxIn, boxOf]

structure BoxesOk (T : Nat → Nat) (k : Nat) (s : (Nat → Bool) × List Box) : Prop where
  len : s.2.length ≤ k
  ok : ∀ b ∈ s.2, BoxOk b
  done : ∀ o, o < 16 → (s.1 o = true ↔ ∃ b ∈ s.2, boxIn b o = true)
  val : ∀ b ∈ s.2, ∀ o, o < 16 → boxIn b o = true → T o ≠ 0 ∧ ∀ n, n < 32 → spanIn b.spans (n : Nat) = (T o).testBit n
  all : ∀ o, o < k → T o ≠ 0 → s.1 o = true
theorem boxK_ok (T : Nat → Nat) : ∀ k, k ≤ 16 → BoxesOk T k (boxK T k)
  | 0, _ => ⟨by simp [boxK], by simp [boxK], by simp [boxK], by simp [boxK], by omega⟩
  | k + 1, hk => by
    have h := boxK_ok T k (by omega)
    rw [boxK]
    by_cases hc : ((boxK T k).1 k || T k == 0) = true
    · rw [if_pos hc]
      refine ⟨Nat.le_succ_of_le h.len, h.ok, h.done, h.val, fun o ho hT => ?_⟩
      by_cases hok : o < k
      · exact h.all o hok hT
      · obtain rfl : o = k := by omega
        simp only [Bool.or_eq_true, beq_iff_eq] at hc
        exact hc.resolve_right hT
    · rw [if_neg hc]
      simp only [Bool.or_eq_true, beq_iff_eq, not_or] at hc
      have g := growK_ok T k (by omega) 4 (by omega)
      refine ⟨by simp; exact h.len, ?_, ?_, ?_, ?_⟩
      · intro b hb
        rcases List.mem_append.1 hb with hb | hb
        · exact h.ok b hb
        · rw [List.mem_singleton.1 hb]; exact boxOf_ok T k (by omega)
      · intro o ho
        have := h.done o ho
        simp only [Bool.or_eq_true, this, List.mem_append, List.mem_singleton]
        constructor
        · rintro (⟨b, hb, hi⟩ | hi)
          · exact ⟨b, .inl hb, hi⟩
          · exact ⟨_, .inr rfl, by rw [boxOf_in]; exact hi⟩
        · rintro ⟨b, hb | rfl, hi⟩
          · exact .inl ⟨b, hb, hi⟩
          · exact .inr (by rw [boxOf_in] at hi; exact hi)
      · intro b hb o ho hi
        rcases List.mem_append.1 hb with hb | hb
        · exact h.val b hb o ho hi
        · obtain rfl := List.mem_singleton.1 hb
          rw [boxOf_in] at hi
          have e := g.same o ho hi
          rw [e]
          refine ⟨hc.2, fun n hn => ?_⟩
          unfold boxOf
          simp only
          rw [mkSpans_in _ n hn, Int.toNat_natCast]
      · intro o ho hT
        by_cases hok : o < k
        · simp [h.all o hok hT]
        · obtain rfl : o = k := by omega
          simp [g.self]

theorem mkBoxes_len (T : Nat → Nat) : (mkBoxes T).length ≤ 16 := (boxK_ok T 16 (by omega)).len
theorem mkBoxes_ok (T : Nat → Nat) : ∀ b ∈ mkBoxes T, BoxOk b := (boxK_ok T 16 (by omega)).ok
theorem mkBoxes_check (T : Nat → Nat) : filterCheck (mkBoxes T) = 0 := filterCheck_of (by have := mkBoxes_len T; omega) (mkBoxes_ok T)
theorem mkBoxes_pts (T : Nat → Nat) (i : Nat) (hi : i < 512) : pts (mkBoxes T) i = (T (i / 32)).testBit (i % 32) := by
  have h := boxK_ok T 16 (by omega)
  have ho : i / 32 < 16 := by omega
  have hn : i % 32 < 32 := by omega
  rw [Bool.eq_iff_iff]
  simp only [pts, List.any_eq_true, Bool.and_eq_true]
  constructor
  · rintro ⟨b, hb, h1, h2⟩
    rw [← (h.val b hb _ ho h2).2 _ hn]; exact h1
  · intro ht
    have hT : T (i / 32) ≠ 0 := by
      intro e; rw [e] at ht; simp at ht
    obtain ⟨b, hb, h2⟩ := (h.done _ ho).1 (h.all _ ho hT)
    exact ⟨b, hb, by rw [(h.val b hb _ ho h2).2 _ hn]; exact ht, h2⟩
theorem mkBoxes_nil (T : Nat → Nat) : mkBoxes T = [] ↔ ∀ o, o < 16 → T o = 0 := by
  have h := boxK_ok T 16 (by omega)
  constructor
  · intro e o ho
    apply Classical.byContradiction
    intro hT
    obtain ⟨b, hb, _⟩ := (h.done o ho).1 (h.all o ho hT)
    rw [show (boxK T 16).2 = [] from e] at hb
    simp at hb
  · intro hz
    apply List.eq_nil_iff_forall_not_mem.2
    have : ∀ k, k ≤ 16 → (boxK T k).2 = [] := by
      intro k
      induction k with
      | zero => intro _; rfl
      | succ k ih =>
        intro hk
        rw [boxK, if_pos (by simp [hz k (by omega)])]
        exact ih (by omega)
    intro b hb
    rw [mkBoxes, this 16 (by omega)] at hb
    simp at hb

/-- what an operation on bits answers. -/
def filterOp (d : Nat → Nat → Nat) (f g : List Box) : List Box := if filterTwo f g = 0 then mkBoxes (fun t => d (tab f t) (tab g t)) else []

/-! how many -/
/-- the ones of a number below 2 to the n. -/
def popTo (v : Nat) (n : Nat) : Int := countTo (fun i => v.testBit i) n
theorem low_out (v : Nat) (hv : v ≠ 0) : ∃ k, v.testBit k = true ∧ ∀ i, (v &&& (v - 1)).testBit i = (v.testBit i && !decide (i = k)) := by
  induction v using Nat.strongRecOn with
  | _ v ih =>
    by_cases ho : v % 2 = 1
    · refine ⟨0, by simp [Nat.testBit_zero, ho], fun i => ?_⟩
      cases i with
      | zero => simp [Nat.testBit_zero, ho]; omega
      | succ i =>
        rw [Nat.testBit_and, Nat.testBit_succ, Nat.testBit_succ, show (v - 1) / 2 = v / 2 by omega]
        simp
    · obtain ⟨m, rfl⟩ : ∃ m, v = 2 * m := ⟨v / 2, by omega⟩
      obtain ⟨k, hk, h⟩ := ih m (by omega) (by omega)
      refine ⟨k + 1, by rw [Nat.testBit_succ, show 2 * m / 2 = m by omega]; exact hk, fun i => ?_⟩
      cases i with
      | zero => simp [Nat.testBit_zero]
      | succ i =>
        rw [Nat.testBit_and, Nat.testBit_succ, Nat.testBit_succ, show (2 * m - 1) / 2 = m - 1 by omega, show 2 * m / 2 = m by omega, ← Nat.testBit_and, h i]
        simp
theorem countTo_out (p : Nat → Bool) (k : Nat) : ∀ n, k < n → p k = true → countTo (fun i => p i && !decide (i = k)) n + 1 = countTo p n
  | 0, h, _ => by omega
  | n + 1, h, hp => by
    rw [countTo, countTo]
    by_cases hk : k = n
    · subst hk
      have := countTo_congr (p := fun i => p i && !decide (i = k)) (q := p) (k := k) (fun i hi => by simp; omega)
      rw [this]; simp [hp]
    · have := countTo_out p k n (by omega) hp
      have : ¬ n = k := fun e => hk e.symm
      simp only [this, decide_false, Bool.not_false, Bool.and_true]
      omega
theorem popTo_low (v : Nat) (hv : v ≠ 0) (h : v < 4294967296) : popTo (v &&& (v - 1)) 32 + 1 = popTo v 32 := by
  obtain ⟨k, hk, h'⟩ := low_out v hv
  have hk32 : k < 32 := by
    apply Classical.byContradiction
    intro hn
    rw [high32 h (by omega)] at hk
    cases hk
  unfold popTo
  rw [countTo_congr (fun i _ => h' i)]
  exact countTo_out _ k 32 hk32 hk
theorem popTo_bd (v n : Nat) : 0 ≤ popTo v n ∧ popTo v n ≤ n := countTo_bd _ _
theorem popTo_zero (n : Nat) : popTo 0 n = 0 := by unfold popTo; rw [countTo_congr (q := fun _ => false) (by simp)]; exact countTo_zero n
theorem countTo_add (p : Nat → Bool) (a : Nat) : ∀ b, countTo p (a + b) = countTo p a + countTo (fun i => p (a + i)) b
  | 0 => by simp [countTo]
  | b + 1 => by
    rw [← Nat.add_assoc, countTo, countTo, countTo_add p a b]
    omega
/-- the ones of a table's first k values. -/
def popSum (T : Nat → Nat) : Nat → Int
  | 0 => 0
  | k + 1 => popSum T k + popTo (T k) 32
theorem popSum_bd (T : Nat → Nat) : ∀ k : Nat, 0 ≤ popSum T k ∧ popSum T k ≤ 32 * k
  | 0 => by simp [popSum]
  | k + 1 => by
    have := popSum_bd T k
    have := popTo_bd (T k) 32
    rw [popSum]
    omega
theorem popSum_pts (T : Nat → Nat) (p : Nat → Bool) : ∀ k, (∀ i, i < 32 * k → p i = (T (i / 32)).testBit (i % 32)) → countTo p (32 * k) = popSum T k
  | 0, _ => rfl
  | k + 1, h => by
    rw [show 32 * (k + 1) = 32 * k + 32 by omega, countTo_add, popSum, popSum_pts T p k (fun i hi => h i (by omega))]
    congr 1
    unfold popTo
    apply countTo_congr
    intro i hi
    rw [h _ (by omega), show (32 * k + i) / 32 = k by omega, show (32 * k + i) % 32 = i by omega]
def filterCount (f : List Box) : Int := if filterCheck f = 0 then popSum (tab f) 16 else 0

end Go.Proofs.Ytiigbcnnapnceaa
