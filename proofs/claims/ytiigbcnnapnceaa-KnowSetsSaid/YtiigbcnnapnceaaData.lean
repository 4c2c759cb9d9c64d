/- The data of the program as plain Lean values, and how each reads in memory. No program in sight. -/
import Derived.Test.YtiigbcnnapnceaaRep
namespace Go.Proofs.Ytiigbcnnapnceaa
open Go Go.RowKit

structure Span where
  fr : Int
  to : Int
deriving DecidableEq, Inhabited
structure Cube where
  yes : Int
  no : Int
deriving DecidableEq, Inhabited
structure Point where
  tags : Int
  num : Int
deriving DecidableEq, Inhabited
structure Box where
  cube : Cube
  spans : List Span
deriving DecidableEq, Inhabited
structure Node where
  kind : Int
  a : Int
  b : Int
deriving DecidableEq, Inhabited
structure Dot where
  site : Int
  count : Int
deriving DecidableEq, Inhabited
structure Know where
  vec : List Int
  more : List Dot
deriving DecidableEq, Inhabited
structure Part where
  filter : List Box
  know : Know
deriving DecidableEq, Inhabited

abbrev RSpan : World → List Value → Span → Prop := RPair Span.fr Span.to
abbrev RDot : World → List Value → Dot → Prop := RPair Dot.site Dot.count
abbrev RNode : World → List Value → Node → Prop := RTrip Node.kind Node.a Node.b
abbrev SlSpans (B : Nat) := Sl B 101 RSpan 2
abbrev IsSpans (B : Nat) := IsSl B 101 RSpan 2
abbrev IsDots (B : Nat) := IsSl B 74 RDot 2
abbrev IsInts (B : Nat) := IsSl B 3 RInt 1
abbrev IsNodes (B : Nat) := IsSl B 95 RNode 3

/-! span. -/
def spanBad (s : Span) : Bool := decide (s.fr < 0) || decide (32 < s.to) || decide (s.to ≤ s.fr)
/-- what Check finds behind a span that ends at last. -/
def spanGo : Int → List Span → Int
  | _, [] => 0
  | last, s :: r => if spanBad s then 1 else if s.fr ≤ last then 3 else spanGo s.to r
def spanCheck (l : List Span) : Int := if 16 < l.length then 2 else spanGo (-1) l
/-- where the span ahead of the k-th ends. -/
def lastTo (l : List Span) (k : Nat) : Int := if k = 0 then -1 else (l[k - 1]?.map Span.to).getD 0

theorem spanGo_drop (l : List Span) (k : Nat) (hk : k < l.length) : spanGo (lastTo l k) (l.drop k) = if l[k].fr < 0 ∨ 32 < l[k].to ∨ l[k].to ≤ l[k].fr then 1 else if l[k].fr ≤ lastTo l k then 3 else spanGo (lastTo l (k + 1)) (l.drop (k + 1)) := by
  rw [List.drop_eq_getElem_cons hk, spanGo]
  have : lastTo l (k + 1) = l[k].to := by simp [lastTo, hk]
  rw [this]
  simp [spanBad, or_assoc]

def spanIn : List Span → Int → Bool
  | [], _ => false
  | s :: r, n => if s.fr ≤ n ∧ n < s.to then true else spanIn r n

theorem spanIn_drop (l : List Span) (n : Int) (k : Nat) (hk : k < l.length) : spanIn (l.drop k) n = if l[k].fr ≤ n ∧ n < l[k].to then true else spanIn (l.drop (k + 1)) n := by
  rw [List.drop_eq_getElem_cons hk, spanIn]

/-- the spans of the numbers up to n for which it is so, as Make lays them. -/
def mkStep (p : Int → Bool) (out : List Span) (n : Int) : List Span :=
  if p n then
    match out.getLast? with
    | some s => if s.to = n then out.set (out.length - 1) ⟨s.fr, n + 1⟩ else out ++ [⟨n, n + 1⟩]
    | none => [⟨n, n + 1⟩]
  else out
def mkSpans (p : Int → Bool) : Nat → List Span
  | 0 => []
  | n + 1 => mkStep p (mkSpans p n) n

theorem mkStep_len (p : Int → Bool) (out : List Span) (n : Int) : (mkStep p out n).length ≤ out.length + 1 := by
  unfold mkStep
  split
  · split
    · split
      · simp
      · simp
    · simp
  · omega
theorem mkSpans_len (p : Int → Bool) : ∀ n, (mkSpans p n).length ≤ n
  | 0 => by simp [mkSpans]
  | n + 1 => by
    rw [mkSpans]
    have := mkStep_len p (mkSpans p n) n
    have := mkSpans_len p n
    omega

def spanTwo (a b : List Span) : Int := if spanCheck a = 0 then spanCheck b else spanCheck a
/-- what Join, Meet and Less answer. -/
def spanOp (f : Bool → Bool → Bool) (a b : List Span) : List Span := if spanTwo a b = 0 then mkSpans (fun n => f (spanIn a n) (spanIn b n)) 32 else []

/-- spans whose numbers may be. -/
def SpansOk (l : List Span) : Prop := ∀ s ∈ l, 0 ≤ s.fr ∧ s.fr < s.to ∧ s.to ≤ 32
theorem spanGo_ok : ∀ (l : List Span) (last : Int), spanGo last l = 0 → SpansOk l
  | [], _, _ => by intro s h; simp at h
  | s :: r, last, h => by
    rw [spanGo] at h
    by_cases hb : spanBad s = true
    · simp [hb] at h
    · by_cases hl : s.fr ≤ last
      · simp [hb, hl] at h
      · have h2 : spanGo s.to r = 0 := by simpa [hb, hl] using h
        intro t ht
        rcases List.mem_cons.1 ht with rfl | ht
        · simp [spanBad] at hb
          omega
        · exact spanGo_ok r _ h2 t ht
theorem spanCheck_ok {l : List Span} (h : spanCheck l = 0) : SpansOk l ∧ l.length ≤ 16 := by
  unfold spanCheck at h
  by_cases hl : 16 < l.length
  · simp [hl] at h
  · rw [if_neg hl] at h
    exact ⟨spanGo_ok l _ h, by omega⟩
theorem spanIn_take (l : List Span) (n : Int) (k : Nat) (hk : k < l.length) : spanIn (l.take (k + 1)) n = (spanIn (l.take k) n || decide (l[k].fr ≤ n ∧ n < l[k].to)) := by
  rw [List.take_succ_eq_append_getElem hk]
  generalize l.take k = m
  induction m with
  | nil => by_cases h : l[k].fr ≤ n ∧ n < l[k].to <;> simp [spanIn, h]
  | cons s r ih =>
    simp only [List.cons_append, spanIn]
    by_cases h : s.fr ≤ n ∧ n < s.to
    · simp [h]
    · simp only [h, if_false]; exact ih

/-- a set as spans, from behind. -/
def toldStep (p : Nat → Bool) (out : List Span) (n : Nat) : List Span :=
  if p n then
    match out with
    | s :: r => if s.fr = n + 1 then ⟨n, s.to⟩ :: r else ⟨n, n + 1⟩ :: s :: r
    | [] => [⟨n, n + 1⟩]
  else out
def toldK (p : Nat → Bool) : Nat → List Span
  | 0 => []
  | k + 1 => toldStep p (toldK p k) (31 - k)
def told (p : Nat → Bool) : List Span := toldK p 32
theorem toldK_len (p : Nat → Bool) : ∀ k, (toldK p k).length ≤ k
  | 0 => by simp [toldK]
  | k + 1 => by
    have := toldK_len p k
    rw [toldK]
    unfold toldStep
    split
    · split
      · rename_i h
        rw [h] at this
        split
        · simp at this ⊢; omega
        · simp at this ⊢; omega
      · simp
    · omega

theorem toldStep_no {p : Nat → Bool} {L : List Span} {n : Nat} (h : ¬ p n = true) : toldStep p L n = L := by simp [toldStep, h]
theorem toldStep_nil {p : Nat → Bool} {n : Nat} (h : p n = true) : toldStep p [] n = [⟨n, n + 1⟩] := by simp [toldStep, h]
theorem toldStep_join {p : Nat → Bool} {L : List Span} {n : Nat} (h : p n = true) (hl : 0 < L.length) (e : L[0].fr = n + 1) : toldStep p L n = L.set 0 ⟨n, L[0].to⟩ := by
  cases L with
  | nil => simp at hl
  | cons s r => simp at e; simp [toldStep, h, e]
theorem toldStep_new {p : Nat → Bool} {L : List Span} {n : Nat} (h : p n = true) (hl : 0 < L.length) (e : ¬ L[0].fr = n + 1) : toldStep p L n = [⟨n, n + 1⟩] ++ L := by
  cases L with
  | nil => simp at hl
  | cons s r => simp at e; simp [toldStep, h, e]

def spanSum (l : List Span) : Int := (l.map fun s => s.to - s.fr).sum
theorem spanSum_take (l : List Span) (k : Nat) (hk : k < l.length) : spanSum (l.take (k + 1)) = spanSum (l.take k) + (l[k].to - l[k].fr) := by
  rw [List.take_succ_eq_append_getElem hk]
  generalize l.take k = m
  simp [spanSum]
theorem spanSum_bd (l : List Span) (h : SpansOk l) : ∀ k, k ≤ l.length → 0 ≤ spanSum (l.take k) ∧ spanSum (l.take k) ≤ 32 * k
  | 0, _ => by simp [spanSum]
  | k + 1, hk => by
    have ih := spanSum_bd l h k (by omega)
    rw [spanSum_take l k (by omega)]
    have := h _ (List.getElem_mem (show k < l.length by omega))
    omega

def ofGo : List Int → Int
  | [] => 0
  | n :: r => if n < 0 ∨ 32 ≤ n then 1 else ofGo r
theorem ofGo_drop (l : List Int) (k : Nat) (hk : k < l.length) : ofGo (l.drop k) = if l[k] < 0 ∨ 32 ≤ l[k] then 1 else ofGo (l.drop (k + 1)) := by
  rw [List.drop_eq_getElem_cons hk, ofGo]
def ofErr (l : List Int) : Int := if 400 < l.length then 2 else ofGo l
/-- is a number named? -/
def hasIn (l : List Int) (i : Nat) : Bool := l.any fun x => x == (i : Int)
theorem hasIn_take (l : List Int) (k : Nat) (hk : k < l.length) (i : Nat) : hasIn (l.take (k + 1)) i = (hasIn (l.take k) i || (l[k] == (i : Int))) := by
  rw [List.take_succ_eq_append_getElem hk]
  generalize l.take k = m
  simp [hasIn]

def ofSpans (l : List Int) : List Span := if ofErr l = 0 then mkSpans (fun n => hasIn l n.toNat) 32 else []
def spanCount (l : List Span) : Int := if spanCheck l = 0 then spanSum l else 0

end Go.Proofs.Ytiigbcnnapnceaa
