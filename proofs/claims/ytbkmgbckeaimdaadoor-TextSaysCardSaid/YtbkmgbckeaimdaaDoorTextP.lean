/- Plain law on texts: what a sentence reads as, what a text says, and that the one is the other's way back. No program, no memory in sight. -/
import Derived.Test.YtbkmgbckeaimdaaDoorFormP
import Derived.Lib.AtoiAll
import Derived.Lib.Atoi
import Derived.Lib.ItoaNum
namespace Go.Proofs.YtbkmgbckeaimdaaDoor
open Go

/-- a number as text. -/
def decL (n : Int) : List UInt8 := Lib.decDigits n.toNat
def nodeText (vals : List (List UInt8)) (n : Node) : List UInt8 :=
  if n.kind = 1 then [42]
  else if n.kind = 2 then 35 :: decL n.a
  else if n.kind = 3 then 91 :: (decL n.a ++ 44 :: (decL n.b ++ [41]))
  else if n.kind = 4 then 33 :: vals.getD n.a.toNat []
  else if n.kind = 5 then 40 :: (vals.getD n.a.toNat [] ++ 38 :: (vals.getD n.b.toNat [] ++ [41]))
  else 40 :: (vals.getD n.a.toNat [] ++ 124 :: (vals.getD n.b.toNat [] ++ [41]))
def textL (l : List Node) : List (List UInt8) := l.foldl (fun vals n => vals ++ [nodeText vals n]) []
def textAt (l : List Node) (i : Nat) : List UInt8 := (textL l).getD i []
theorem textL_len (l : List Node) : (textL l).length = l.length := by
  have : ∀ (l : List Node) (a : List (List UInt8)), (l.foldl (fun vals n => vals ++ [nodeText vals n]) a).length = a.length + l.length := by
    intro l
    induction l with
    | nil => intro a; rfl
    | cons n r ih => intro a; rw [List.foldl_cons, ih]; simp; omega
  rw [textL, this]; simp
theorem textL_snoc (l : List Node) (n : Node) : textL (l ++ [n]) = textL l ++ [nodeText (textL l) n] := by
  rw [textL, List.foldl_append]; rfl
theorem textAt_append (l m : List Node) (i : Nat) (hi : i < l.length) : textAt (l ++ m) i = textAt l i := by
  have key : ∀ (r : List Node), textAt (l ++ r.reverse) i = textAt l i := by
    intro r
    induction r with
    | nil => simp
    | cons n r ih =>
      rw [← ih, List.reverse_cons, ← List.append_assoc]
      unfold textAt
      rw [textL_snoc, List.getD_eq_getElem?_getD, List.getD_eq_getElem?_getD, List.getElem?_append_left (by rw [textL_len]; simp; omega)]
  have := key m.reverse
  rwa [List.reverse_reverse] at this
theorem textAt_last (l : List Node) (n : Node) : textAt (l ++ [n]) l.length = nodeText (textL l) n := by
  unfold textAt
  rw [textL_snoc, List.getD_eq_getElem?_getD, List.getElem?_append_right (by rw [textL_len]; omega), textL_len, Nat.sub_self]; rfl
theorem textAt_node (l : List Node) (k : Nat) (hk : k < l.length) : textAt l k = nodeText (textL (l.take k)) l[k] := by
  have h := textAt_append (l.take (k + 1)) (l.drop (k + 1)) k (by simp; omega)
  rw [List.take_append_drop] at h
  rw [h, List.take_succ_eq_append_getElem hk]
  have e : (l.take k).length = k := by simp; omega
  have := textAt_last (l.take k) l[k]
  rw [e] at this
  exact this
theorem textL_take (l : List Node) (k i : Nat) (hk : k ≤ l.length) (hi : i < k) : (textL (l.take k)).getD i [] = textAt l i := by
  have h := textAt_append (l.take k) (l.drop k) i (by simp; omega)
  rw [List.take_append_drop] at h
  exact h.symm
/-- a node's text by those of the nodes that it names. -/
theorem textAt_cases {l : List Node} {k : Nat} (hk : k < l.length) (h : nodeErr k l[k] = 0) :
    (l[k].kind = 1 ∧ textAt l k = [42]) ∨
    (∃ a : Nat, l[k].kind = 2 ∧ l[k].a = a ∧ a ≤ 3 ∧ textAt l k = 35 :: Lib.decDigits a) ∨
    (∃ a b : Nat, l[k].kind = 3 ∧ l[k].a = a ∧ l[k].b = b ∧ b ≤ 32 ∧ a < b ∧ textAt l k = 91 :: (Lib.decDigits a ++ 44 :: (Lib.decDigits b ++ [41]))) ∨
    (∃ a : Nat, l[k].kind = 4 ∧ l[k].a = a ∧ a < k ∧ textAt l k = 33 :: textAt l a) ∨
    (∃ a b : Nat, l[k].kind = 5 ∧ l[k].a = a ∧ l[k].b = b ∧ a < k ∧ b < k ∧ textAt l k = 40 :: (textAt l a ++ 38 :: (textAt l b ++ [41]))) ∨
    (∃ a b : Nat, l[k].kind = 6 ∧ l[k].a = a ∧ l[k].b = b ∧ a < k ∧ b < k ∧ textAt l k = 40 :: (textAt l a ++ 124 :: (textAt l b ++ [41]))) := by
  have ht := textAt_node l k hk
  have hg : ∀ i : Nat, i < k → (textL (l.take k)).getD i [] = textAt l i := fun i hi => textL_take l k i (by omega) hi
  generalize l[k] = n at *
  obtain ⟨kind, a, b⟩ := n
  rcases nodeErr_cases h with hq | ⟨hq, ha0, ha1⟩ | ⟨hq, ha0, hb1, ha2⟩ | ⟨hq, ha0, ha1⟩ | ⟨hq, ha0, ha1, hb0, hb1⟩ <;> simp only at *
  · subst hq
    exact .inl ⟨rfl, ht⟩
  · subst hq
    obtain ⟨a, rfl⟩ := Int.eq_ofNat_of_zero_le ha0
    exact .inr (.inl ⟨a, rfl, rfl, by omega, ht⟩)
  · subst hq
    obtain ⟨a, rfl⟩ := Int.eq_ofNat_of_zero_le ha0
    obtain ⟨b, rfl⟩ := Int.eq_ofNat_of_zero_le (show 0 ≤ b by omega)
    exact .inr (.inr (.inl ⟨a, b, rfl, rfl, rfl, by omega, by omega, ht⟩))
  · subst hq
    obtain ⟨a, rfl⟩ := Int.eq_ofNat_of_zero_le ha0
    exact .inr (.inr (.inr (.inl ⟨a, rfl, rfl, by omega, by rw [ht, ← hg a (by omega)]; rfl⟩)))
  · obtain ⟨a, rfl⟩ := Int.eq_ofNat_of_zero_le ha0
    obtain ⟨b, rfl⟩ := Int.eq_ofNat_of_zero_le hb0
    rcases hq with rfl | rfl
    · exact .inr (.inr (.inr (.inr (.inl ⟨a, b, rfl, rfl, rfl, by omega, by omega, by rw [ht, ← hg a (by omega), ← hg b (by omega)]; rfl⟩))))
    · exact .inr (.inr (.inr (.inr (.inr ⟨a, b, rfl, rfl, rfl, by omega, by omega, by rw [ht, ← hg a (by omega), ← hg b (by omega)]; rfl⟩))))

/-! reading -/
def dig (c : UInt8) : Bool := decide (48 ≤ c.toNat) && decide (c.toNat ≤ 57)
def digs (t : List UInt8) : List UInt8 := t.takeWhile dig
def numOk (d : List UInt8) : Bool := decide (d.length = 1) || (decide (d.length = 2) && decide (d.head? ≠ some 48))
def numVal (d : List UInt8) : Int := (((Lib.decFrom 0 d).getD 0 : Nat) : Int)
def numP (t : List UInt8) : Option (Int × List UInt8) := if numOk (digs t) then some (numVal (digs t), t.drop (digs t).length) else none
def eat (c : UInt8) : List UInt8 → Option (List UInt8)
  | [] => none
  | x :: t => if x = c then some t else none
def opP : List UInt8 → Option (Int × List UInt8)
  | [] => none
  | x :: t => if x = 38 then some (5, t) else if x = 124 then some (6, t) else none
def parse : Nat → List UInt8 → List Node → Option (List Node × List UInt8)
  | 0, _, _ => none
  | _ + 1, [], _ => none
  | f + 1, c :: t, L =>
    if c = 42 then some (L ++ [⟨1, 0, 0⟩], t)
    else if c = 35 then (numP t).map fun p => (L ++ [⟨2, p.1, 0⟩], p.2)
    else if c = 91 then (numP t).bind fun p => (eat 44 p.2).bind fun t2 => (numP t2).bind fun q => (eat 41 q.2).map fun t4 => (L ++ [⟨3, p.1, q.1⟩], t4)
    else if c = 33 then (parse f t L).map fun p => (p.1 ++ [⟨4, (p.1.length : Int) - 1, 0⟩], p.2)
    else if c = 40 then (parse f t L).bind fun p => (opP p.2).bind fun k => (parse f k.2 p.1).bind fun q => (eat 41 q.2).map fun t4 => (q.1 ++ [⟨k.1, (p.1.length : Int) - 1, (q.1.length : Int) - 1⟩], t4)
    else none
/-- what a text says, and what is wrong with it. -/
def readL (s : List UInt8) : List Node := match parse (s.length + 1) s [] with | some (l, []) => if formCheck l = 0 then l else [] | _ => []
def readErr (s : List UInt8) : Int := if 400 < s.length then 2 else match parse (s.length + 1) s [] with | some (l, []) => formCheck l | _ => 9
/-- what text.Read hands back. -/
def readN (s : List UInt8) : List Node := if readErr s = 0 then readL s else []
theorem readErr_long {t : List UInt8} (h : 400 < t.length) : readErr t = 2 := by unfold readErr; rw [if_pos h]
theorem readN_no {t : List UInt8} {e : Int} (h : readErr t = e) (he : e ≠ 0) : readN t = [] := by unfold readN; rw [if_neg (by rw [h]; exact he)]
theorem read_of {t : List UInt8} {M : List Node} (hl : ¬ 400 < t.length) (h : parse (t.length + 1) t [] = some (M, [])) : readErr t = formCheck M ∧ readN t = if formCheck M = 0 then M else [] := by
  have h1 : readErr t = formCheck M := by unfold readErr; rw [if_neg hl, h]
  refine ⟨h1, ?_⟩
  unfold readN readL
  rw [h1, h]
  by_cases h0 : formCheck M = 0
  · simp [h0]
  · simp [h0]
theorem read_rest {t : List UInt8} {M : List Node} {c : UInt8} {r : List UInt8} (hl : ¬ 400 < t.length) (h : parse (t.length + 1) t [] = some (M, c :: r)) : readErr t = 9 := by unfold readErr; rw [if_neg hl, h]
theorem read_none {t : List UInt8} (hl : ¬ 400 < t.length) (h : parse (t.length + 1) t [] = none) : readErr t = 9 := by unfold readErr; rw [if_neg hl, h]

theorem numP_len {t t1 : List UInt8} {a : Int} (h : numP t = some (a, t1)) : t1.length ≤ t.length := by
  unfold numP at h
  split at h
  · injection h with h; injection h with h1 h2; rw [← h2, List.length_drop]; omega
  · cases h
theorem eat_len {c : UInt8} {t t1 : List UInt8} (h : eat c t = some t1) : t = c :: t1 := by
  cases t with
  | nil => cases h
  | cons x t => simp only [eat] at h; split at h <;> simp_all
theorem opP_len {t t1 : List UInt8} {k : Int} (h : opP t = some (k, t1)) : (k = 5 ∧ t = 38 :: t1) ∨ (k = 6 ∧ t = 124 :: t1) := by
  cases t with
  | nil => cases h
  | cons x t =>
    simp only [opP] at h
    split at h
    · injection h with h; injection h with h1 h2; subst h1 h2; exact .inl ⟨rfl, by rw [‹x = 38›]⟩
    · split at h
      · injection h with h; injection h with h1 h2; subst h1 h2; exact .inr ⟨rfl, by rw [‹x = 124›]⟩
      · cases h
theorem parse_len : ∀ (f : Nat) (t : List UInt8) (L M : List Node) (t1 : List UInt8), parse f t L = some (M, t1) → t1.length < t.length ∧ L.length < M.length ∧ M.length - L.length ≤ t.length - t1.length := by
  intro f
  induction f with
  | zero => intro t L M t1 h; cases h
  | succ f ih =>
    intro t L M t1 h
    cases t with
    | nil => cases h
    | cons c t =>
      rw [parse] at h
      split at h
      · injection h with h; injection h with h1 h2; subst h1 h2; simp
      split at h
      · simp only [Option.map_eq_some_iff] at h
        obtain ⟨⟨a, t1'⟩, hn, h⟩ := h; injection h with h1 h2; subst h1 h2
        have := numP_len hn; simp; omega
      split at h
      · simp only [Option.bind_eq_some_iff, Option.map_eq_some_iff] at h
        obtain ⟨⟨a, t2⟩, hn, t3, he, ⟨b, t4⟩, hm, t5, hf, h⟩ := h; injection h with h1 h2; subst h1 h2
        have := numP_len hn; have := numP_len hm; have := congrArg List.length (eat_len he); have := congrArg List.length (eat_len hf)
        simp at *; omega
      split at h
      · simp only [Option.map_eq_some_iff] at h
        obtain ⟨⟨M', t2⟩, hn, h⟩ := h; injection h with h1 h2; subst h1 h2
        have := ih _ _ _ _ hn; simp at *; omega
      split at h
      · simp only [Option.bind_eq_some_iff, Option.map_eq_some_iff] at h
        obtain ⟨⟨M', t2⟩, hn, ⟨k, t3⟩, hk, ⟨M2, t4⟩, hm, t5, hf, h⟩ := h; injection h with h1 h2; subst h1 h2
        have h1 := ih _ _ _ _ hn; have h2 := ih _ _ _ _ hm; have h3 := congrArg List.length (eat_len hf)
        have h4 : t2.length = t3.length + 1 := by rcases opP_len hk with ⟨_, h⟩ | ⟨_, h⟩ <;> simp only at h <;> rw [h] <;> rfl
        simp at *; omega
      · cases h

def NoDig (r : List UInt8) : Prop := ∀ c, r.head? = some c → dig c = false
theorem digs_app {d r : List UInt8} (hd : d.all dig = true) (hr : NoDig r) : digs (d ++ r) = d := by
  induction d with
  | nil =>
    cases r with
    | nil => rfl
    | cons c r => simp [digs, hr c rfl]
  | cons c d ih =>
    simp only [List.all_cons, Bool.and_eq_true] at hd
    have := ih hd.2
    unfold digs at this ⊢
    rw [List.cons_append, List.takeWhile_cons, if_pos hd.1, this]
theorem NoDig.cons {c : UInt8} {r : List UInt8} (h : dig c = false) : NoDig (c :: r) := by
  intro x hx
  simp at hx
  rw [← hx]; exact h

/-! numbers of one or two digits, by the library's own words -/
theorem dd1 (m : Nat) (h : m < 10) : Lib.decDigits m = [UInt8.ofNat (48 + m)] := by rw [Lib.decDigits, dif_pos h]
theorem dd2 (m : Nat) (h : ¬ m < 10) (h2 : m < 100) : Lib.decDigits m = [UInt8.ofNat (48 + m / 10), UInt8.ofNat (48 + m % 10)] := by rw [Lib.decDigits, dif_neg h, dd1 _ (by omega)]; rfl
theorem dig_nat {c : UInt8} (h : dig c = true) : ∃ i : Fin 10, c = UInt8.ofNat (48 + i.1) := by
  simp only [dig, Bool.and_eq_true, decide_eq_true_eq] at h
  refine ⟨⟨c.toNat - 48, by omega⟩, UInt8.toNat_inj.1 ?_⟩
  simp only [UInt8.toNat_ofNat']
  omega
theorem num_one : ∀ i : Fin 10, Lib.atoiAll [UInt8.ofNat (48 + i.1)] = .ok ((i.1 : Nat) : Int) ∧ numVal [UInt8.ofNat (48 + i.1)] = ((i.1 : Nat) : Int) ∧ numOk [UInt8.ofNat (48 + i.1)] = true := by decide +kernel
theorem num_two : ∀ i j : Fin 10, Lib.atoiAll [UInt8.ofNat (48 + i.1), UInt8.ofNat (48 + j.1)] = .ok ((10 * i.1 + j.1 : Nat) : Int) ∧ numVal [UInt8.ofNat (48 + i.1), UInt8.ofNat (48 + j.1)] = ((10 * i.1 + j.1 : Nat) : Int) ∧ numOk [UInt8.ofNat (48 + i.1), UInt8.ofNat (48 + j.1)] = decide (i.1 ≠ 0) := by decide +kernel
theorem num_len {d : List UInt8} (h : d.length ≤ 2) (hd : d.all dig = true) : d = [] ∨ (∃ i : Fin 10, d = [UInt8.ofNat (48 + i.1)]) ∨ ∃ i j : Fin 10, d = [UInt8.ofNat (48 + i.1), UInt8.ofNat (48 + j.1)] := by
  match d, h, hd with
  | [], _, _ => exact .inl rfl
  | [a], _, hd =>
    obtain ⟨i, rfl⟩ := dig_nat (by simpa using hd)
    exact .inr (.inl ⟨i, rfl⟩)
  | [a, b], _, hd =>
    simp only [List.all_cons, List.all_nil, Bool.and_true, Bool.and_eq_true] at hd
    obtain ⟨i, rfl⟩ := dig_nat hd.1
    obtain ⟨j, rfl⟩ := dig_nat hd.2
    exact .inr (.inr ⟨i, j, rfl⟩)
theorem atoi_good {d : List UInt8} (h : numOk d = true) (hd : d.all dig = true) : ∃ n : Nat, Lib.atoiAll d = .ok (n : Int) ∧ numVal d = n ∧ n < 100 ∧ Lib.decDigits n = d ∧ d.length ≤ 2 := by
  have hl : d.length ≤ 2 := by
    unfold numOk at h
    simp only [Bool.or_eq_true, Bool.and_eq_true, decide_eq_true_eq] at h
    omega
  rcases num_len hl hd with rfl | ⟨i, rfl⟩ | ⟨i, j, rfl⟩
  · cases h
  · have h1 := num_one i
    exact ⟨i.1, h1.1, h1.2.1, by have := i.2; omega, dd1 _ i.2, hl⟩
  · have h1 := num_two i j
    rw [h1.2.2, decide_eq_true_eq] at h
    have hi := i.2; have hj := j.2
    refine ⟨10 * i.1 + j.1, h1.1, h1.2.1, by omega, ?_, hl⟩
    rw [dd2 _ (by omega) (by omega), show (10 * i.1 + j.1) / 10 = i.1 by omega, show (10 * i.1 + j.1) % 10 = j.1 by omega]
theorem atoi_bad {d : List UInt8} {v : Int} (h : numOk d = false) (hd : d.all dig = true) (ha : Lib.atoiAll d = .ok v) (hl : d.length ≤ 2) : ∃ n : Nat, v = n ∧ n < 100 ∧ Lib.decDigits n ≠ d := by
  rcases num_len hl hd with rfl | ⟨i, rfl⟩ | ⟨i, j, rfl⟩
  · cases ha
  · rw [(num_one i).2.2] at h; cases h
  · have h1 := num_two i j
    rw [h1.1] at ha
    injection ha with ha
    rw [h1.2.2, decide_eq_false_iff_not, Decidable.not_not] at h
    have hi := i.2; have hj := j.2
    refine ⟨10 * i.1 + j.1, ha.symm, by omega, ?_⟩
    rw [h, show 10 * 0 + j.1 = j.1 by omega, dd1 _ hj]
    simp

/-! showing: what the program keeps of each node's text, and the sizes that the document keeps. -/
def capT (t : List UInt8) : List UInt8 := if 400 < t.length then t.take 401 else t
def capL (l : List Node) : List (List UInt8) := l.foldl (fun vals n => vals ++ [capT (nodeText vals n)]) []
def capAt (l : List Node) (i : Nat) : List UInt8 := (capL l).getD i []
theorem capL_len (l : List Node) : (capL l).length = l.length := by
  have : ∀ (l : List Node) (a : List (List UInt8)), (l.foldl (fun vals n => vals ++ [capT (nodeText vals n)]) a).length = a.length + l.length := by
    intro l
    induction l with
    | nil => intro a; rfl
    | cons n r ih => intro a; rw [List.foldl_cons, ih]; simp; omega
  rw [capL, this]; simp
theorem capL_snoc (l : List Node) (n : Node) : capL (l ++ [n]) = capL l ++ [capT (nodeText (capL l) n)] := by
  rw [capL, List.foldl_append]; rfl
/-- what is kept: the text itself, or 401 bytes. -/
def Kept (k t : List UInt8) : Prop := (t.length ≤ 400 ∧ k = t) ∨ (400 < t.length ∧ k.length = 401)
theorem Kept.cap {k t : List UInt8} (h : Kept k t) : Kept (capT k) t := by
  unfold capT
  rcases h with ⟨h1, rfl⟩ | ⟨h1, h2⟩
  · rw [if_neg (by omega)]; exact .inl ⟨h1, rfl⟩
  · rw [if_pos (by omega)]; exact .inr ⟨h1, by simp [h2]⟩
theorem cap_of {k t : List UInt8} (h : (t.length ≤ 400 → k = t) ∧ (400 < t.length → 400 < k.length)) : Kept (capT k) t := by
  by_cases ht : t.length ≤ 400
  · rw [h.1 ht]; exact .inl ⟨ht, by unfold capT; rw [if_neg (by omega)]⟩
  · have := h.2 (by omega)
    exact .inr ⟨by omega, by unfold capT; rw [if_pos this]; simp; omega⟩
theorem nodeText_kept {V W : List (List UInt8)} {n : Node} (h : ∀ i, Kept (V.getD i []) (W.getD i [])) : Kept (capT (nodeText V n)) (nodeText W n) := by
  refine cap_of ?_
  have ha := h n.a.toNat
  have hb := h n.b.toNat
  unfold nodeText
  split
  · exact ⟨fun _ => rfl, fun h => h⟩
  split
  · exact ⟨fun _ => rfl, fun h => h⟩
  split
  · exact ⟨fun _ => rfl, fun h => h⟩
  generalize V.getD n.a.toNat [] = va at *
  generalize V.getD n.b.toNat [] = vb at *
  generalize W.getD n.a.toNat [] = wa at *
  generalize W.getD n.b.toNat [] = wb at *
  split
  · constructor
    · intro ht; rcases ha with ⟨_, rfl⟩ | ⟨h1, _⟩
      · rfl
      · simp at ht; omega
    · intro ht; rcases ha with ⟨_, rfl⟩ | ⟨_, h2⟩
      · exact ht
      · simp; omega
  split
  all_goals
    constructor
    · intro ht
      simp only [List.length_cons, List.length_append, List.length_nil] at ht
      rcases ha with ⟨_, rfl⟩ | ⟨h1, _⟩ <;> rcases hb with ⟨_, rfl⟩ | ⟨h2, _⟩ <;> first | rfl | omega
    · intro ht
      simp only [List.length_cons, List.length_append, List.length_nil] at ht ⊢
      rcases ha with ⟨_, rfl⟩ | ⟨_, h1⟩ <;> rcases hb with ⟨_, rfl⟩ | ⟨_, h2⟩ <;> omega
theorem cap_kept (l : List Node) : ∀ i, Kept ((capL l).getD i []) ((textL l).getD i []) := by
  have key : ∀ (r : List Node) (i : Nat), Kept ((capL r.reverse).getD i []) ((textL r.reverse).getD i []) := by
    intro r
    induction r with
    | nil => intro i; exact .inl ⟨by simp [textL], by simp [capL, textL]⟩
    | cons n r ih =>
      intro i
      rw [List.reverse_cons, capL_snoc, textL_snoc]
      have hn := nodeText_kept (n := n) ih
      have e1 := capL_len r.reverse
      have e2 := textL_len r.reverse
      rw [List.getD_eq_getElem?_getD, List.getD_eq_getElem?_getD]
      by_cases hi : i < r.reverse.length
      · rw [List.getElem?_append_left (by omega), List.getElem?_append_left (by omega), ← List.getD_eq_getElem?_getD, ← List.getD_eq_getElem?_getD]
        exact ih i
      · rw [List.getElem?_append_right (by omega), List.getElem?_append_right (by omega), e1, e2]
        cases i - r.reverse.length with
        | zero => exact hn
        | succ k => exact .inl ⟨by simp, by simp⟩
  have := key l.reverse
  rwa [List.reverse_reverse] at this

end Go.Proofs.YtbkmgbckeaimdaaDoor
