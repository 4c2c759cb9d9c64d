/- Several texts in one: data, readings, plain laws, walks. No condition. -/
import Derived.Test.YtngbfdogiciahaaGreatKnI
import Derived.Test.YtngbfdogiciahaaGreatBase
import Derived.Lib.Bytealg
import Derived.Lib.Strings
namespace Go.Proofs.YtngbfdogiciahaaGreat
open Go Go.RowKit
theorem clean_has {k : Know} (hk : KnowOk k) : Clean (hasK k) := by
 intro s c h
 simp only [hasK, Bool.or_eq_true, Bool.and_eq_true, decide_eq_true_eq, List.contains_iff_mem] at h
 obtain ⟨h1, h2 | h2⟩ := h
 ·have hb := vecAt_bd hk.vec s
  refine ⟨?_, h1, by omega⟩
  apply Nat.lt_of_not_le
  intro hn
  rw [vecAt_out (by have := hk.vlen; omega)] at h2
  omega
 ·obtain ⟨o1, o2, o3, o4⟩ := dotOk_iff.1 (hk.more _ h2).1
  simp only at o1 o2 o3 o4
  omega
def eqD (S T : DSet) : Bool := allTo (fun i => allTo (fun k => ((wordOf S i k : Nat) : Int) == ((wordOf T i k : Nat) : Int)) 16) 5
theorem eqD_iff (S T : DSet) : eqD S T = true ↔ EqWords S T := by
 unfold eqD EqWords
 rw [allTo_iff]
 constructor
 ·intro h s hs k hk
  have h1 := (allTo_iff _ _).1 (h s hs) k hk
  rw [beq_iff_eq] at h1
  omega
 ·intro h s hs
  refine (allTo_iff _ _).2 fun k hk => ?_
  rw [beq_iff_eq, h s hs k hk]
theorem inK_has (k : Know) (s c : Nat) (hc : 1 ≤ c) : inK k ⟨(s : Int), (c : Int)⟩ = hasK k s c := by
 simp only [inK, hasK, decide_eq_true hc, Bool.true_and]
end Go.Proofs.YtngbfdogiciahaaGreat
namespace Go.Proofs.YtngbfdogiciahaaGreat
open Go Go.RowKit
def partsGo : List Part → Int
 | [] => 0
 | p :: r => if filterCheck p.filter = 0 then (if knowCheck p.know = 0 then partsGo r else knowCheck p.know) else filterCheck p.filter
def partsCheck (l : List Part) : Int := if 30 < l.length then 2 else partsGo l
theorem partsGo_drop (l : List Part) (k : Nat) (hk : k < l.length) : partsGo (l.drop k) = if filterCheck l[k].filter = 0 then (if knowCheck l[k].know = 0 then partsGo (l.drop (k + 1)) else knowCheck l[k].know) else filterCheck l[k].filter := by
 rw [List.drop_eq_getElem_cons hk, partsGo]
structure PartOk (p : Part) : Prop where
 f : filterCheck p.filter = 0
 k : KnowOk p.know
theorem partsGo_ok : ∀ l : List Part, partsGo l = 0 ↔ ∀ p ∈ l, PartOk p
 | [] => by simp [partsGo]
 | p :: r => by
  rw [partsGo]
  by_cases h1 : filterCheck p.filter = 0
  ·rw [if_pos h1]
   by_cases h2 : knowCheck p.know = 0
   ·rw [if_pos h2, partsGo_ok r]
    simp only [List.mem_cons, forall_eq_or_imp]
    exact ⟨fun h => ⟨⟨h1, knowCheck_iff.1 h2⟩, h⟩, fun h => h.2⟩
   ·rw [if_neg h2]
    exact ⟨fun h => absurd h h2, fun h => absurd (knowCheck_iff.2 (h p (by simp)).k) h2⟩
  ·rw [if_neg h1]
   exact ⟨fun h => absurd h h1, fun h => absurd (h p (by simp)).f h1⟩
theorem partsCheck_ok {l : List Part} (h : partsCheck l = 0) : l.length ≤ 30 ∧ ∀ p ∈ l, PartOk p := by
 unfold partsCheck at h
 by_cases hl : 30 < l.length
 ·rw [if_pos hl] at h; cases h
 ·rw [if_neg hl] at h
  exact ⟨by omega, (partsGo_ok l).1 h⟩
theorem partsCheck_of {l : List Part} (h : l.length ≤ 30) (hp : ∀ p ∈ l, PartOk p) : partsCheck l = 0 := by
 rw [partsCheck, if_neg (by omega), (partsGo_ok l).2 hp]
def partIn (p : Point) (d : Dot) (x : Part) : Bool := filterIn x.filter p && inK x.know d
def partsIn (l : List Part) (p : Point) (d : Dot) : Bool := l.any (partIn p d)
structure RP where
 P : Nat → Bool
 K : DSet
def meanOf (x : Part) : RP := ⟨pts x.filter, hasK x.know⟩
theorem any_takeR {α : Type} (q : α → Bool) (f : List α) (k : Nat) (hk : k < f.length) : (f.take (k + 1)).any q = ((f.take k).any q || q f[k]) := by
 rw [List.take_succ_eq_append_getElem hk, List.any_append]; simp
def partsTwo (a b : List Part) : Int := if partsCheck a = 0 then partsCheck b else partsCheck a
theorem maxFold_iff (s c : Nat) : ∀ (vs : List (List Int)) (m : Int), (c : Int) ≤ vs.foldl (fun m l => max m (vecAt l s)) m ↔ (c : Int) ≤ m ∨ ∃ v ∈ vs, (c : Int) ≤ vecAt v s
 | [], m => by simp
 | v :: r, m => by
  rw [List.foldl_cons, maxFold_iff s c r]
  simp only [List.mem_cons, exists_eq_or_imp]
  constructor
  ·rintro (h | h)
   ·by_cases h1 : (c : Int) ≤ m
    ·exact .inl h1
    ·exact .inr (.inl (by omega))
   ·exact .inr (.inr h)
  ·rintro (h | h | h)
   ·exact .inl (by omega)
   ·exact .inl (by omega)
   ·exact .inr h
theorem maxAt_iff (s c : Nat) (hc : 1 ≤ c) (vs : List (List Int)) : (c : Int) ≤ maxAt vs s ↔ ∃ v ∈ vs, (c : Int) ≤ vecAt v s := by
 rw [maxAt, maxFold_iff]
 exact ⟨fun h => h.resolve_left (by omega), .inr⟩
theorem setOf_union {α : Type} (f : α → Know) (l : List α) (s c : Nat) (hc : 1 ≤ c) : setOf (l.map fun x => (f x).vec) (l.flatMap fun x => (f x).more) s c = l.any fun x => hasK (f x) s c := by
 rw [Bool.eq_iff_iff]
 simp only [setOf, hasK, List.any_eq_true, Bool.and_eq_true, Bool.or_eq_true, decide_eq_true_eq, List.contains_iff_mem, maxAt_iff s c hc, List.mem_map, List.mem_flatMap]
 constructor
 ·rintro ⟨_, ⟨v, ⟨x, hx, rfl⟩, h⟩ | ⟨x, hx, h⟩⟩
  ·exact ⟨x, hx, hc, .inl h⟩
  ·exact ⟨x, hx, hc, .inr h⟩
 ·rintro ⟨x, hx, _, h | h⟩
  ·exact ⟨hc, .inl ⟨_, ⟨x, hx, rfl⟩, h⟩⟩
  ·exact ⟨hc, .inr ⟨x, hx, h⟩⟩
theorem allTo_congr {p q : Nat → Bool} : ∀ n, (∀ i, i < n → p i = q i) → allTo p n = allTo q n
 | n, h => by
  rw [Bool.eq_iff_iff, allTo_iff, allTo_iff]
  exact ⟨fun g i hi => by rw [← h i hi]; exact g i hi, fun g i hi => by rw [h i hi]; exact g i hi⟩
end Go.Proofs.YtngbfdogiciahaaGreat
namespace Go.Proofs.YtngbfdogiciahaaGreat
open Go Go.RowKit
structure Version where
 id : ByteArray
 dot : Dot
 pt : Point
 body : Int
 past : Know
def byteOk (b : UInt8) : Bool := !(decide ((b.toNat : Int) < 97) || decide ((122 : Int) < (b.toNat : Int)))
def idOk (s : ByteArray) : Bool := (!s.toList.isEmpty && decide (s.size ≤ 8)) && s.data.toList.all byteOk
def sEq (a b : ByteArray) : Bool := a.toList == b.toList
theorem sEq_iff {a b : ByteArray} : sEq a b = true ↔ a = b := by
 unfold sEq
 rw [beq_iff_eq, Lib.toList_data, Lib.toList_data]
 constructor
 ·intro h
  obtain ⟨⟨x⟩⟩ := a
  obtain ⟨⟨y⟩⟩ := b
  simp at h
  rw [h]
 ·intro h; rw [h]
def bodyOk (n : Int) : Bool := decide (0 ≤ n) && decide (n ≤ 1000000)
def verErr (v : Version) : Int := if idOk v.id = true then (if (dotOk v.dot && (pointOk v.pt && bodyOk v.body)) = true then (if knowCheck v.past = 0 then (if inK v.past v.dot = true then 3 else 0) else knowCheck v.past) else 1) else 3
structure VerOk (v : Version) : Prop where
 id : idOk v.id = true
 dot : dotOk v.dot = true
 pt : pointOk v.pt = true
 body : bodyOk v.body = true
 k : KnowOk v.past
 new : inK v.past v.dot = false
theorem knowCheck_ne {k : Know} (h : knowCheck k = 0) : KnowOk k := knowCheck_iff.1 h
theorem verErr_iff {v : Version} : verErr v = 0 ↔ VerOk v := by
 unfold verErr
 by_cases h1 : idOk v.id = true
 ·rw [if_pos h1]
  by_cases h2 : (dotOk v.dot && (pointOk v.pt && bodyOk v.body)) = true
  ·rw [if_pos h2]
   simp only [Bool.and_eq_true] at h2
   by_cases h3 : knowCheck v.past = 0
   ·rw [if_pos h3]
    by_cases h4 : inK v.past v.dot = true
    ·rw [if_pos h4]
     exact ⟨fun h => (by cases h), fun h => by rw [h.new] at h4; cases h4⟩
    ·rw [if_neg h4]
     exact ⟨fun _ => ⟨h1, h2.1, h2.2.1, h2.2.2, knowCheck_iff.1 h3, by simpa using h4⟩, fun _ => rfl⟩
   ·rw [if_neg h3]
    exact ⟨fun h => absurd h h3, fun h => absurd (knowCheck_iff.2 h.k) h3⟩
  ·rw [if_neg h2]
   exact ⟨fun h => (by cases h), fun h => absurd (by rw [h.dot, h.pt, h.body]; rfl) h2⟩
 ·rw [if_neg h1]
  exact ⟨fun h => (by cases h), fun h => absurd h.id h1⟩
def cmpS (a b : ByteArray) : Int := Lib.compareBytes a.data.toList b.data.toList
theorem cmp_zero : ∀ x y : List UInt8, Lib.compareBytes x y = 0 ↔ x = y
 | [], [] => by simp [Lib.compareBytes]
 | [], _ :: _ => by simp [Lib.compareBytes]
 | _ :: _, [] => by simp [Lib.compareBytes]
 | a :: x, b :: y => by
  rw [Lib.compareBytes]
  by_cases h1 : a < b
  ·rw [if_pos h1]
   constructor
   ·intro h; cases h
   ·intro h; injection h with h _; subst h; exact absurd h1 (UInt8.lt_irrefl _)
  ·rw [if_neg h1]
   by_cases h2 : b < a
   ·rw [if_pos h2]
    constructor
    ·intro h; cases h
    ·intro h; injection h with h _; subst h; exact absurd h2 (UInt8.lt_irrefl _)
   ·rw [if_neg h2, cmp_zero x y]
    have hab : a = b := by
     apply UInt8.toNat_inj.1
     have h3 : ¬ a.toNat < b.toNat := h1
     have h4 : ¬ b.toNat < a.toNat := h2
     omega
    simp [hab]
theorem cmp_neg : ∀ x y : List UInt8, Lib.compareBytes x y < 0 ↔ Op.bytesLess x y = true
 | [], [] => by simp [Lib.compareBytes, Op.bytesLess]
 | [], _ :: _ => by simp [Lib.compareBytes, Op.bytesLess]
 | _ :: _, [] => by simp [Lib.compareBytes, Op.bytesLess]
 | a :: x, b :: y => by
  rw [Lib.compareBytes, Op.bytesLess]
  by_cases h1 : a < b
  ·rw [if_pos h1]; simp [h1]
  ·rw [if_neg h1]
   by_cases h2 : b < a
   ·rw [if_pos h2]
    have hne : (a == b) = false := by
     rw [beq_eq_false_iff_ne]
     rintro rfl
     exact UInt8.lt_irrefl _ h2
    simp [h1, hne]
   ·rw [if_neg h2, cmp_neg x y]
    have hab : a = b := by
     apply UInt8.toNat_inj.1
     have h3 : ¬ a.toNat < b.toNat := h1
     have h4 : ¬ b.toNat < a.toNat := h2
     omega
    simp [hab]
def verCmp (a b : Version) : Int := if cmpS a.id b.id ≠ 0 then cmpS a.id b.id else if a.dot.site ≠ b.dot.site then a.dot.site - b.dot.site else a.dot.count - b.dot.count
def verLt (a b : Version) : Bool := if sEq a.id b.id = true then (if a.dot.site = b.dot.site then decide (a.dot.count < b.dot.count) else decide (a.dot.site < b.dot.site)) else Op.bytesLess a.id.toList b.id.toList
theorem verCmp_lt {a b : Version} : verCmp a b < 0 ↔ verLt a b = true := by
 unfold verCmp verLt
 by_cases h : a.id = b.id
 ·have h0 : cmpS a.id b.id = 0 := (cmp_zero _ _).2 (by rw [h])
  rw [if_neg (by simp [h0]), if_pos (sEq_iff.2 h)]
  by_cases hs : a.dot.site = b.dot.site
  ·rw [if_neg (by simp [hs]), if_pos hs, decide_eq_true_eq]; omega
  ·rw [if_pos hs, if_neg hs, decide_eq_true_eq]; omega
 ·have h0 : cmpS a.id b.id ≠ 0 := fun e => h (sEq_iff.1 (by unfold sEq; rw [beq_iff_eq, Lib.toList_data, Lib.toList_data]; exact (cmp_zero _ _).1 e))
  rw [if_pos h0, if_neg (fun e => h (sEq_iff.1 e))]
  unfold cmpS
  rw [cmp_neg, Lib.toList_data, Lib.toList_data]
theorem verCmp_zero {a b : Version} : verCmp a b = 0 ↔ a.id = b.id ∧ a.dot = b.dot := by
 unfold verCmp
 by_cases h : a.id = b.id
 ·have h0 : cmpS a.id b.id = 0 := (cmp_zero _ _).2 (by rw [h])
  rw [if_neg (by simp [h0])]
  by_cases hs : a.dot.site = b.dot.site
  ·rw [if_neg (by simp [hs])]
   exact ⟨fun e => ⟨h, Dot.ext' hs (by omega)⟩, fun e => by rw [e.2]; omega⟩
  ·rw [if_pos hs]
   exact ⟨fun e => by omega, fun e => absurd (by rw [e.2]) hs⟩
 ·have h0 : cmpS a.id b.id ≠ 0 := fun e => h (sEq_iff.1 (by unfold sEq; rw [beq_iff_eq, Lib.toList_data, Lib.toList_data]; exact (cmp_zero _ _).1 e))
  rw [if_pos h0]
  exact ⟨fun e => absurd e h0, fun e => absurd e.1 h⟩
def over (a b : Version) : Bool := sEq a.id b.id && inK a.past b.dot
def behind (prev : Option Version) (v : Version) : Bool := match prev with | none => false | some u => !verLt u v
def shelfGo : Option Version → List Version → Int
 | _, [] => 0
 | prev, v :: r => if verErr v = 0 then (if behind prev v = true then 3 else shelfGo (some v) r) else verErr v
def shelfOver (l : List Version) : Bool := l.any fun v => l.any fun w => over w v
def shelfCheck (l : List Version) : Int := if 60 < l.length then 2 else if shelfGo none l = 0 then (if shelfOver l = true then 6 else 0) else shelfGo none l
def prevV (l : List Version) (k : Nat) : Option Version := if k = 0 then none else l[k - 1]?
theorem shelfGo_drop (l : List Version) (k : Nat) (hk : k < l.length) : shelfGo (prevV l k) (l.drop k) = if verErr l[k] = 0 then (if behind (prevV l k) l[k] = true then 3 else shelfGo (prevV l (k + 1)) (l.drop (k + 1))) else verErr l[k] := by
 rw [List.drop_eq_getElem_cons hk, shelfGo]
 have : prevV l (k + 1) = some l[k] := by simp [prevV, hk]
 rw [this]
theorem shelfGo_all : ∀ (l : List Version) (prev : Option Version), shelfGo prev l = 0 → ∀ v ∈ l, VerOk v
 | [], _, _ => by simp
 | v :: r, prev, h => by
  rw [shelfGo] at h
  by_cases h1 : verErr v = 0
  ·rw [if_pos h1] at h
   by_cases h2 : behind prev v = true
   ·rw [if_pos h2] at h; cases h
   ·rw [if_neg h2] at h
    intro u hu
    rcases List.mem_cons.1 hu with rfl | hu
    ·exact verErr_iff.1 h1
    ·exact shelfGo_all r _ h u hu
  ·rw [if_neg h1] at h; exact absurd h h1
structure ShelfOk (l : List Version) : Prop where
 len : l.length ≤ 60
 all : ∀ v ∈ l, VerOk v
 go : shelfGo none l = 0
 new : shelfOver l = false
theorem shelfCheck_ok {l : List Version} (h : shelfCheck l = 0) : ShelfOk l := by
 unfold shelfCheck at h
 by_cases h1 : 60 < l.length
 ·rw [if_pos h1] at h; cases h
 ·rw [if_neg h1] at h
  by_cases h2 : shelfGo none l = 0
  ·rw [if_pos h2] at h
   by_cases h3 : shelfOver l = true
   ·rw [if_pos h3] at h; cases h
   ·exact ⟨by omega, shelfGo_all l none h2, h2, by simpa using h3⟩
  ·rw [if_neg h2] at h; exact absurd h h2
theorem shelfCheck_of {l : List Version} (h : ShelfOk l) : shelfCheck l = 0 := by
 rw [shelfCheck, if_neg (by have := h.len; omega), if_pos h.go, h.new]; rfl
def getL (l : List Version) (id : ByteArray) : List Version := l.filter fun v => sEq v.id id
def pastVecs (l : List Version) : List (List Int) := l.map fun v => v.past.vec
def pastDots (l : List Version) : List Dot := l.flatMap fun v => v.past.more ++ [v.dot]
def pastS (l : List Version) : Know := formOf (setOf (pastVecs l) (pastDots l))
def refPast (l : List Version) : DSet := fun s c => l.any fun v => hasK v.past s c || (decide (s = v.dot.site.toNat) && decide (c = v.dot.count.toNat))
theorem getL_yes (l : List Version) (id : ByteArray) (k : Nat) (hk : k < l.length) (h : sEq l[k].id id = true) : getL (l.take (k + 1)) id = getL (l.take k) id ++ [l[k]] := by
 unfold getL
 rw [List.take_succ_eq_append_getElem hk, List.filter_append]
 simp [h]
theorem getL_no (l : List Version) (id : ByteArray) (k : Nat) (hk : k < l.length) (h : sEq l[k].id id = false) : getL (l.take (k + 1)) id = getL (l.take k) id := by
 unfold getL
 rw [List.take_succ_eq_append_getElem hk, List.filter_append]
 simp [h]
theorem past_form {l : List Version} (h : ∀ v ∈ l, VerOk v) : pastS l = formOf (refPast l) := by
 apply formOf_congr
 intro s hs c hc hc2
 have h1 := setOf_union (fun v : Version => (⟨v.past.vec, v.past.more ++ [v.dot]⟩ : Know)) l s c hc
 unfold pastVecs pastDots
 rw [h1]
 unfold refPast
 rw [Bool.eq_iff_iff, List.any_eq_true, List.any_eq_true]
 have key : ∀ x ∈ l, hasK ⟨x.past.vec, x.past.more ++ [x.dot]⟩ s c = (hasK x.past s c || (decide (s = x.dot.site.toNat) && decide (c = x.dot.count.toNat))) := by
  intro x hx
  have hd := dotOk_iff.1 (h x hx).dot
  have he : (⟨(s : Int), (c : Int)⟩ : Dot) = x.dot ↔ s = x.dot.site.toNat ∧ c = x.dot.count.toNat := by
   constructor
   ·intro e; rw [← e]; simp
   ·rintro ⟨e1, e2⟩
    exact Dot.ext' (by show (s : Int) = x.dot.site; omega) (by show (c : Int) = x.dot.count; omega)
  rw [Bool.eq_iff_iff]
  simp only [hasK, Bool.and_eq_true, Bool.or_eq_true, decide_eq_true_eq, List.contains_iff_mem, List.mem_append, List.mem_singleton, he]
  constructor
  ·rintro ⟨a, b | b | b⟩
   ·exact .inl ⟨a, .inl b⟩
   ·exact .inl ⟨a, .inr b⟩
   ·exact .inr b
  ·rintro (⟨a, b | b⟩ | b)
   ·exact ⟨a, .inl b⟩
   ·exact ⟨a, .inr (.inl b)⟩
   ·exact ⟨hc, .inr (.inr b)⟩
 constructor
 ·rintro ⟨x, hx, h2⟩
  exact ⟨x, hx, (key x hx) ▸ h2⟩
 ·rintro ⟨x, hx, h2⟩
  exact ⟨x, hx, (key x hx).trans h2⟩
end Go.Proofs.YtngbfdogiciahaaGreat
