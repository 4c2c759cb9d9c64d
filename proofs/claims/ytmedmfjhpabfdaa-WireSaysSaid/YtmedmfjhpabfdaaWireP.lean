/- Plain law on batches: what may be, when two are the same. No program in sight. -/
import Derived.Test.YtmedmfjhpabfdaaShelfP
import Derived.Test.YtmedmfjhpabfdaaPartP
import Derived.Test.YtmedmfjhpabfdaaFewQ
import Derived.Test.YtmedmfjhpabfdaaKnE
import Derived.Test.YtmedmfjhpabfdaaKnJ
import Derived.Test.YtmedmfjhpabfdaaKnV
import Derived.Test.YtmedmfjhpabfdaaKnW
import Derived.Test.YtmedmfjhpabfdaaKnU
import Derived.Test.YtmedmfjhpabfdaaKnT
import Derived.Test.YtmedmfjhpabfdaaKnPl
import Derived.Test.YtmedmfjhpabfdaaBase
import Derived.ChangeKeysEq
namespace Go.Proofs.Ytmedmfjhpabfdaa
open Go Go.RowKit

structure Gone where
  id : ByteArray
  past : Know
structure Batch where
  site : Int
  stamp : Int
  vers : List Version
  gone : List Gone
  parts : List Part

/-- the first fault of a list. -/
def firstErr {α : Type} (f : α → Int) : List α → Int
  | [] => 0
  | x :: r => if f x = 0 then firstErr f r else f x
theorem firstErr_drop {α : Type} (f : α → Int) (l : List α) (k : Nat) (hk : k < l.length) : firstErr f (l.drop k) = if f l[k] = 0 then firstErr f (l.drop (k + 1)) else f l[k] := by
  rw [List.drop_eq_getElem_cons hk, firstErr]
theorem firstErr_ok {α : Type} (f : α → Int) : ∀ l : List α, firstErr f l = 0 ↔ ∀ x ∈ l, f x = 0
  | [] => by simp [firstErr]
  | x :: r => by
    rw [firstErr]
    by_cases h : f x = 0
    · rw [if_pos h, firstErr_ok f r]
      simp [h]
    · rw [if_neg h]
      exact ⟨fun e => absurd e h, fun e => absurd (e x (by simp)) h⟩
def goneErr (g : Gone) : Int := if idOk g.id = true then knowCheck g.past else 3
structure GoneOk (g : Gone) : Prop where
  id : idOk g.id = true
  k : KnowOk g.past
theorem goneErr_iff {g : Gone} : goneErr g = 0 ↔ GoneOk g := by
  unfold goneErr
  by_cases h : idOk g.id = true
  · rw [if_pos h, knowCheck_iff]
    exact ⟨fun e => ⟨h, e⟩, fun e => e.k⟩
  · rw [if_neg h]
    exact ⟨fun e => (by cases e), fun e => absurd e.id h⟩
def batchRest (b : Batch) : Int := if firstErr verErr b.vers = 0 then (if firstErr goneErr b.gone = 0 then partsCheck b.parts else firstErr goneErr b.gone) else firstErr verErr b.vers
def batchTail (b : Batch) : Int := if b.vers.length ≤ 60 ∧ b.gone.length ≤ 60 then batchRest b else 2
/-- the fault of a batch, as the site and the document have it. -/
def batchErr (b : Batch) : Int := if 0 ≤ b.site ∧ b.site ≤ 4 ∧ 0 ≤ b.stamp then batchTail b else 1
/-- the fault of a batch that goes over the wire. -/
def wireErr (b : Batch) : Int := if 0 ≤ b.site ∧ b.site ≤ 4 ∧ 0 ≤ b.stamp ∧ b.stamp ≤ 1000000 then batchTail b else 1
structure TailOk (b : Batch) : Prop where
  lv : b.vers.length ≤ 60
  lg : b.gone.length ≤ 60
  vers : ∀ v ∈ b.vers, VerOk v
  gone : ∀ g ∈ b.gone, GoneOk g
  lp : b.parts.length ≤ 30
  parts : ∀ p ∈ b.parts, PartOk p
theorem batchTail_ok {b : Batch} (h : batchTail b = 0) : TailOk b := by
  unfold batchTail at h
  by_cases h0 : b.vers.length ≤ 60 ∧ b.gone.length ≤ 60
  · rw [if_pos h0] at h
    unfold batchRest at h
    by_cases h1 : firstErr verErr b.vers = 0
    · rw [if_pos h1] at h
      by_cases h2 : firstErr goneErr b.gone = 0
      · rw [if_pos h2] at h
        obtain ⟨h3, h4⟩ := partsCheck_ok h
        exact ⟨h0.1, h0.2, fun v hv => verErr_iff.1 ((firstErr_ok _ _).1 h1 v hv), fun v hv => goneErr_iff.1 ((firstErr_ok _ _).1 h2 v hv), h3, h4⟩
      · rw [if_neg h2] at h; exact absurd h h2
    · rw [if_neg h1] at h; exact absurd h h1
  · rw [if_neg h0] at h; cases h
structure WireOk (b : Batch) : Prop extends TailOk b where
  s0 : 0 ≤ b.site
  s4 : b.site ≤ 4
  t0 : 0 ≤ b.stamp
  t1 : b.stamp ≤ 1000000
theorem wireErr_ok {b : Batch} (h : wireErr b = 0) : WireOk b := by
  unfold wireErr at h
  by_cases h0 : 0 ≤ b.site ∧ b.site ≤ 4 ∧ 0 ≤ b.stamp ∧ b.stamp ≤ 1000000
  · rw [if_pos h0] at h
    exact ⟨batchTail_ok h, h0.1, h0.2.1, h0.2.2.1, h0.2.2.2⟩
  · rw [if_neg h0] at h; cases h
/-- what the laws ask: the document's fault, or that the stamp is too large. -/
def wantErr (b : Batch) : Int := if 1000000 < b.stamp ∧ 0 ≤ b.site ∧ b.site < 5 then 1 else batchErr b
theorem want_wire (b : Batch) : wantErr b = wireErr b := by
  unfold wantErr wireErr batchErr
  by_cases h1 : 1000000 < b.stamp ∧ 0 ≤ b.site ∧ b.site < 5
  · rw [if_pos h1, if_neg (by omega)]
  · rw [if_neg h1]
    by_cases h2 : 0 ≤ b.site ∧ b.site ≤ 4 ∧ 0 ≤ b.stamp
    · rw [if_pos h2, if_pos (by omega)]
    · rw [if_neg h2, if_neg (by omega)]

/-! when two are the same. -/
/-- as long, and each as the other one's. -/
def sameL {α : Type} (p : α → α → Bool) : List α → List α → Bool
  | [], [] => true
  | [], _ :: _ => false
  | _ :: _, [] => false
  | x :: r, y :: s => p x y && sameL p r s
theorem sameL_len {α : Type} (p : α → α → Bool) : ∀ l m : List α, sameL p l m = true → l.length = m.length
  | [], [] => fun _ => rfl
  | [], _ :: _ => by intro h; cases h
  | _ :: _, [] => by intro h; cases h
  | x :: r, y :: s => by
    intro h
    rw [sameL, Bool.and_eq_true] at h
    simp [sameL_len p r s h.2]
theorem sameL_ne {α : Type} (p : α → α → Bool) (l m : List α) (h : l.length ≠ m.length) : sameL p l m = false := by
  cases hs : sameL p l m
  · rfl
  · exact absurd (sameL_len p l m hs) h
theorem sameL_drop {α : Type} (p : α → α → Bool) (l m : List α) (k : Nat) (h : k < l.length) (h2 : k < m.length) : sameL p (l.drop k) (m.drop k) = (p l[k] m[k] && sameL p (l.drop (k + 1)) (m.drop (k + 1))) := by
  rw [List.drop_eq_getElem_cons h, List.drop_eq_getElem_cons h2, sameL]
theorem sameL_end {α : Type} (p : α → α → Bool) (l m : List α) (h : l.length = m.length) : sameL p (l.drop l.length) (m.drop l.length) = true := by
  rw [List.drop_length, h, List.drop_length]; rfl
def sameDot (a b : Dot) : Bool := decide (a.site = b.site) && decide (a.count = b.count)
def samePt (a b : Point) : Bool := decide (a.tags = b.tags) && decide (a.num = b.num)
def sameVer (v w : Version) : Bool := sEq v.id w.id && sameDot v.dot w.dot && samePt v.pt w.pt && decide (v.body = w.body) && decide (v.past = w.past)
def sameGone (g h : Gone) : Bool := sEq g.id h.id && decide (g.past = h.past)
/-- the same, field by field, but for the parts. -/
def sameB (a b : Batch) : Bool := decide (a.site = b.site) && decide (a.stamp = b.stamp) && sameL sameVer a.vers b.vers && sameL sameGone a.gone b.gone
end Go.Proofs.Ytmedmfjhpabfdaa
