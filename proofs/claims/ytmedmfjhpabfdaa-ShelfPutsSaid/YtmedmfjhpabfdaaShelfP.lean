/- Plain law on stores of versions: what may be, in which order, what takes whose place. No program in sight. -/
import Derived.Test.YtmedmfjhpabfdaaBase
import Derived.Test.YtmedmfjhpabfdaaJoinKnPl
import Derived.Lib.Bytealg
import Derived.Lib.Strings
namespace Go.Proofs.Ytmedmfjhpabfdaa
open Go Go.RowKit

structure Version where
  id : ByteArray
  dot : Dot
  pt : Point
  body : Int
  past : Know

def byteOk (b : UInt8) : Bool := !(decide ((b.toNat : Int) < 97) || decide ((122 : Int) < (b.toNat : Int)))
def idOk (s : ByteArray) : Bool := (!s.toList.isEmpty && decide (s.size ≤ 8)) && s.data.toList.all byteOk
def sEq (a b : ByteArray) : Bool := a.toList == b.toList
theorem sEq_iff {a b : ByteArray} : sEq a b = true ↔ a = b := by
  unfold sEq
  rw [beq_iff_eq, Lib.toList_data, Lib.toList_data]
  constructor
  · intro h
    obtain ⟨⟨x⟩⟩ := a
    obtain ⟨⟨y⟩⟩ := b
    simp at h
    rw [h]
  · intro h; rw [h]
def bodyOk (n : Int) : Bool := decide (0 ≤ n) && decide (n ≤ 1000000)
def verErr (v : Version) : Int := if idOk v.id = true then (if (dotOk v.dot && (pointOk v.pt && bodyOk v.body)) = true then (if knowCheck v.past = 0 then (if inK v.past v.dot = true then 3 else 0) else knowCheck v.past) else 1) else 3
structure VerOk (v : Version) : Prop where
  id : idOk v.id = true
  dot : dotOk v.dot = true
  pt : pointOk v.pt = true
  body : bodyOk v.body = true
  k : KnowOk v.past
  new : inK v.past v.dot = false
theorem knowCheck_ne {k : Know} (h : knowCheck k = 0) : KnowOk k := knowCheck_iff.1 h
theorem verErr_iff {v : Version} : verErr v = 0 ↔ VerOk v := by
  unfold verErr
  by_cases h1 : idOk v.id = true
  · rw [if_pos h1]
    by_cases h2 : (dotOk v.dot && (pointOk v.pt && bodyOk v.body)) = true
    · rw [if_pos h2]
      simp only [Bool.and_eq_true] at h2
      by_cases h3 : knowCheck v.past = 0
      · rw [if_pos h3]
        by_cases h4 : inK v.past v.dot = true
        · rw [if_pos h4]
          exact ⟨fun h => (by cases h), fun h => by rw [h.new] at h4; cases h4⟩
        · rw [if_neg h4]
          exact ⟨fun _ => ⟨h1, h2.1, h2.2.1, h2.2.2, knowCheck_iff.1 h3, by simpa using h4⟩, fun _ => rfl⟩
      · rw [if_neg h3]
        exact ⟨fun h => absurd h h3, fun h => absurd (knowCheck_iff.2 h.k) h3⟩
    · rw [if_neg h2]
      exact ⟨fun h => (by cases h), fun h => absurd (by rw [h.dot, h.pt, h.body]; rfl) h2⟩
  · rw [if_neg h1]
    exact ⟨fun h => (by cases h), fun h => absurd h.id h1⟩

/-! the order. -/
def cmpS (a b : ByteArray) : Int := Lib.compareBytes a.data.toList b.data.toList
theorem cmp_zero : ∀ x y : List UInt8, Lib.compareBytes x y = 0 ↔ x = y
  | [], [] => by simp [Lib.compareBytes]
  | [], _ :: _ => by simp [Lib.compareBytes]
  | _ :: _, [] => by simp [Lib.compareBytes]
  | a :: x, b :: y => by
    rw [Lib.compareBytes]
    by_cases h1 : a < b
    · rw [if_pos h1]
      constructor
      · intro h; cases h
      · intro h; injection h with h _; subst h; exact absurd h1 (UInt8.lt_irrefl _)
    · rw [if_neg h1]
      by_cases h2 : b < a
      · rw [if_pos h2]
        constructor
        · intro h; cases h
        · intro h; injection h with h _; subst h; exact absurd h2 (UInt8.lt_irrefl _)
      · rw [if_neg h2, cmp_zero x y]
        have hab : a = b := by
          apply UInt8.toNat_inj.1
          have h3 : ¬ a.toNat < b.toNat := h1
          have h4 : ¬ b.toNat < a.toNat := h2
          omega
        simp [hab]
theorem cmp_neg : ∀ x y : List UInt8, Lib.compareBytes x y < 0 ↔ Op.bytesLess x y = true
  | [], [] => by simp [Lib.compareBytes, Op.bytesLess]
  | [], _ :: _ => by simp [Lib.compareBytes, Op.bytesLess]
  | _ :: _, [] => by simp [Lib.compareBytes, Op.bytesLess]
  | a :: x, b :: y => by
    rw [Lib.compareBytes, Op.bytesLess]
    by_cases h1 : a < b
    · rw [if_pos h1]; simp [h1]
    · rw [if_neg h1]
      by_cases h2 : b < a
      · rw [if_pos h2]
        have hne : (a == b) = false := by
          rw [beq_eq_false_iff_ne]
          rintro rfl
          exact UInt8.lt_irrefl _ h2
        simp [h1, hne]
      · rw [if_neg h2, cmp_neg x y]
        have hab : a = b := by
          apply UInt8.toNat_inj.1
          have h3 : ¬ a.toNat < b.toNat := h1
          have h4 : ¬ b.toNat < a.toNat := h2
          omega
        simp [hab]
def verCmp (a b : Version) : Int := if cmpS a.id b.id ≠ 0 then cmpS a.id b.id else if a.dot.site ≠ b.dot.site then a.dot.site - b.dot.site else a.dot.count - b.dot.count
def verLt (a b : Version) : Bool := if sEq a.id b.id = true then (if a.dot.site = b.dot.site then decide (a.dot.count < b.dot.count) else decide (a.dot.site < b.dot.site)) else Op.bytesLess a.id.toList b.id.toList
theorem verCmp_lt {a b : Version} : verCmp a b < 0 ↔ verLt a b = true := by
  unfold verCmp verLt
  by_cases h : a.id = b.id
  · have h0 : cmpS a.id b.id = 0 := (cmp_zero _ _).2 (by rw [h])
    rw [if_neg (by simp [h0]), if_pos (sEq_iff.2 h)]
    by_cases hs : a.dot.site = b.dot.site
    · rw [if_neg (by simp [hs]), if_pos hs, decide_eq_true_eq]; omega
    · rw [if_pos hs, if_neg hs, decide_eq_true_eq]; omega
  · have h0 : cmpS a.id b.id ≠ 0 := fun e => h (sEq_iff.1 (by unfold sEq; rw [beq_iff_eq, Lib.toList_data, Lib.toList_data]; exact (cmp_zero _ _).1 e))
    rw [if_pos h0, if_neg (fun e => h (sEq_iff.1 e))]
    unfold cmpS
    rw [cmp_neg, Lib.toList_data, Lib.toList_data]
theorem verCmp_zero {a b : Version} : verCmp a b = 0 ↔ a.id = b.id ∧ a.dot = b.dot := by
  unfold verCmp
  by_cases h : a.id = b.id
  · have h0 : cmpS a.id b.id = 0 := (cmp_zero _ _).2 (by rw [h])
    rw [if_neg (by simp [h0])]
    by_cases hs : a.dot.site = b.dot.site
    · rw [if_neg (by simp [hs])]
      exact ⟨fun e => ⟨h, Dot.ext' hs (by omega)⟩, fun e => by rw [e.2]; omega⟩
    · rw [if_pos hs]
      exact ⟨fun e => by omega, fun e => absurd (by rw [e.2]) hs⟩
  · have h0 : cmpS a.id b.id ≠ 0 := fun e => h (sEq_iff.1 (by unfold sEq; rw [beq_iff_eq, Lib.toList_data, Lib.toList_data]; exact (cmp_zero _ _).1 e))
    rw [if_pos h0]
    exact ⟨fun e => absurd e h0, fun e => absurd e.1 h⟩

def over (a b : Version) : Bool := sEq a.id b.id && inK a.past b.dot
def behind (prev : Option Version) (v : Version) : Bool := match prev with | none => false | some u => !verLt u v
def shelfGo : Option Version → List Version → Int
  | _, [] => 0
  | prev, v :: r => if verErr v = 0 then (if behind prev v = true then 3 else shelfGo (some v) r) else verErr v
def shelfOver (l : List Version) : Bool := l.any fun v => l.any fun w => over w v
def shelfCheck (l : List Version) : Int := if 60 < l.length then 2 else if shelfGo none l = 0 then (if shelfOver l = true then 6 else 0) else shelfGo none l
/-- the version ahead of the k-th. -/
def prevV (l : List Version) (k : Nat) : Option Version := if k = 0 then none else l[k - 1]?
theorem shelfGo_drop (l : List Version) (k : Nat) (hk : k < l.length) : shelfGo (prevV l k) (l.drop k) = if verErr l[k] = 0 then (if behind (prevV l k) l[k] = true then 3 else shelfGo (prevV l (k + 1)) (l.drop (k + 1))) else verErr l[k] := by
  rw [List.drop_eq_getElem_cons hk, shelfGo]
  have : prevV l (k + 1) = some l[k] := by simp [prevV, hk]
  rw [this]
theorem shelfGo_all : ∀ (l : List Version) (prev : Option Version), shelfGo prev l = 0 → ∀ v ∈ l, VerOk v
  | [], _, _ => by simp
  | v :: r, prev, h => by
    rw [shelfGo] at h
    by_cases h1 : verErr v = 0
    · rw [if_pos h1] at h
      by_cases h2 : behind prev v = true
      · rw [if_pos h2] at h; cases h
      · rw [if_neg h2] at h
        intro u hu
        rcases List.mem_cons.1 hu with rfl | hu
        · exact verErr_iff.1 h1
        · exact shelfGo_all r _ h u hu
    · rw [if_neg h1] at h; exact absurd h h1
structure ShelfOk (l : List Version) : Prop where
  len : l.length ≤ 60
  all : ∀ v ∈ l, VerOk v
  go : shelfGo none l = 0
  new : shelfOver l = false
theorem shelfCheck_ok {l : List Version} (h : shelfCheck l = 0) : ShelfOk l := by
  unfold shelfCheck at h
  by_cases h1 : 60 < l.length
  · rw [if_pos h1] at h; cases h
  · rw [if_neg h1] at h
    by_cases h2 : shelfGo none l = 0
    · rw [if_pos h2] at h
      by_cases h3 : shelfOver l = true
      · rw [if_pos h3] at h; cases h
      · exact ⟨by omega, shelfGo_all l none h2, h2, by simpa using h3⟩
    · rw [if_neg h2] at h; exact absurd h h2
end Go.Proofs.Ytmedmfjhpabfdaa
