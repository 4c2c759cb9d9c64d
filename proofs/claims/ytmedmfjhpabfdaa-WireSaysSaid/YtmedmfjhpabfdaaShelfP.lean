/- Plain law on stores of versions: what may be, in which order, what takes whose place. No program in sight. -/
import Derived.Test.YtmedmfjhpabfdaaBase
import Derived.Test.YtmedmfjhpabfdaaKnPl
import Derived.Test.YtmedmfjhpabfdaaPartP
import Derived.Lib.Bytealg
import Derived.Lib.Strings
namespace Go.Proofs.Ytmedmfjhpabfdaa
open Go Go.RowKit

structure Version where
  id : ByteArray
  dot : Dot
  pt : Point
  body : Int
  past : Know

def byteOk (b : UInt8) : Bool := !(decide ((b.toNat : Int) < 97) || decide ((122 : Int) < (b.toNat : Int)))
def idOk (s : ByteArray) : Bool := (!s.toList.isEmpty && decide (s.size ≤ 8)) && s.data.toList.all byteOk
def sEq (a b : ByteArray) : Bool := a.toList == b.toList
def bodyOk (n : Int) : Bool := decide (0 ≤ n) && decide (n ≤ 1000000)
def verErr (v : Version) : Int := if idOk v.id = true then (if (dotOk v.dot && (pointOk v.pt && bodyOk v.body)) = true then (if knowCheck v.past = 0 then (if inK v.past v.dot = true then 3 else 0) else knowCheck v.past) else 1) else 3
structure VerOk (v : Version) : Prop where
  id : idOk v.id = true
  dot : dotOk v.dot = true
  pt : pointOk v.pt = true
  body : bodyOk v.body = true
  k : KnowOk v.past
  new : inK v.past v.dot = false
theorem knowCheck_ne {k : Know} (h : knowCheck k = 0) : KnowOk k := knowCheck_iff.1 h
theorem verErr_iff {v : Version} : verErr v = 0 ↔ VerOk v := by
  unfold verErr
  by_cases h1 : idOk v.id = true
  · rw [if_pos h1]
    by_cases h2 : (dotOk v.dot && (pointOk v.pt && bodyOk v.body)) = true
    · rw [if_pos h2]
      simp only [Bool.and_eq_true] at h2
      by_cases h3 : knowCheck v.past = 0
      · rw [if_pos h3]
        by_cases h4 : inK v.past v.dot = true
        · rw [if_pos h4]
          exact ⟨fun h => (by cases h), fun h => by rw [h.new] at h4; cases h4⟩
        · rw [if_neg h4]
          exact ⟨fun _ => ⟨h1, h2.1, h2.2.1, h2.2.2, knowCheck_iff.1 h3, by simpa using h4⟩, fun _ => rfl⟩
      · rw [if_neg h3]
        exact ⟨fun h => absurd h h3, fun h => absurd (knowCheck_iff.2 h.k) h3⟩
    · rw [if_neg h2]
      exact ⟨fun h => (by cases h), fun h => absurd (by rw [h.dot, h.pt, h.body]; rfl) h2⟩
  · rw [if_neg h1]
    exact ⟨fun h => (by cases h), fun h => absurd h.id h1⟩

def verLt (a b : Version) : Bool := if sEq a.id b.id = true then (if a.dot.site = b.dot.site then decide (a.dot.count < b.dot.count) else decide (a.dot.site < b.dot.site)) else Op.bytesLess a.id.toList b.id.toList
def over (a b : Version) : Bool := sEq a.id b.id && inK a.past b.dot
def behind (prev : Option Version) (v : Version) : Bool := match prev with | none => false | some u => !verLt u v
end Go.Proofs.Ytmedmfjhpabfdaa
