/- Plain law on putting a version to a store, and dropping from it. No program in sight. -/
import Derived.Test.YtngbfdogiciahaaGreatSrtP
import Derived.Test.YtngbfdogiciahaaGreatJoinKnZ
namespace Go.Proofs.YtngbfdogiciahaaGreat
open Go Go.RowKit
theorem bl_irr : ∀ x : List UInt8, Op.bytesLess x x = false
 | [] => rfl
 | a :: x => by
  have h : ¬ a < a := UInt8.lt_irrefl a
  rw [Op.bytesLess]
  simp [h, bl_irr x]
theorem bl_cons (a b : UInt8) (x y : List UInt8) : Op.bytesLess (a :: x) (b :: y) = true ↔ a < b ∨ (a = b ∧ Op.bytesLess x y = true) := by
 rw [Op.bytesLess]
 by_cases h1 : a < b
 ·simp [h1]
 ·by_cases h2 : a = b
  ·subst h2; simp
  ·have h3 : (a == b) = false := by rw [beq_eq_false_iff_ne]; exact h2
   simp [h1, h2]
theorem bl_trans : ∀ x y z : List UInt8, Op.bytesLess x y = true → Op.bytesLess y z = true → Op.bytesLess x z = true
 | [], [], _, h, _ => by simp [Op.bytesLess] at h
 | [], _ :: _, [], _, h => by simp [Op.bytesLess] at h
 | [], _ :: _, _ :: _, _, _ => by simp [Op.bytesLess]
 | _ :: _, [], _, h, _ => by simp [Op.bytesLess] at h
 | _ :: _, _ :: _, [], _, h => by simp [Op.bytesLess] at h
 | a :: x, b :: y, c :: z, h, k => by
  rw [bl_cons] at h k ⊢
  rcases h with h | ⟨rfl, h⟩
  ·rcases k with k | ⟨rfl, k⟩
   ·left
    have h' : a.toNat < b.toNat := h
    have k' : b.toNat < c.toNat := k
    show a.toNat < c.toNat
    omega
   ·exact .inl h
  ·rcases k with k | ⟨rfl, k⟩
   ·exact .inl k
   ·exact .inr ⟨rfl, bl_trans x y z h k⟩
theorem bl_tri : ∀ x y : List UInt8, Op.bytesLess x y = false → Op.bytesLess y x = false → x = y
 | [], [], _, _ => rfl
 | [], _ :: _, h, _ => by simp [Op.bytesLess] at h
 | _ :: _, [], _, h => by simp [Op.bytesLess] at h
 | a :: x, b :: y, h, k => by
  have h' := mt (bl_cons a b x y).2 (by simp [h])
  have k' := mt (bl_cons b a y x).2 (by simp [k])
  have e : a = b := by
   apply UInt8.toNat_inj.1
   have h3 : ¬ a.toNat < b.toNat := fun q => h' (.inl q)
   have h4 : ¬ b.toNat < a.toNat := fun q => k' (.inl q)
   omega
  subst e
  have h5 : Op.bytesLess x y = false := by
   cases q : Op.bytesLess x y
   ·rfl
   ·exact absurd (.inr ⟨rfl, q⟩) h'
  have h6 : Op.bytesLess y x = false := by
   cases q : Op.bytesLess y x
   ·rfl
   ·exact absurd (.inr ⟨rfl, q⟩) k'
  rw [bl_tri x y h5 h6]
theorem toL_inj {a b : ByteArray} (h : a.toList = b.toList) : a = b := sEq_iff.1 (by unfold sEq; rw [beq_iff_eq]; exact h)
theorem verLt_iff {a b : Version} : verLt a b = true ↔ Op.bytesLess a.id.toList b.id.toList = true ∨ (a.id = b.id ∧ (a.dot.site < b.dot.site ∨ (a.dot.site = b.dot.site ∧ a.dot.count < b.dot.count))) := by
 unfold verLt
 by_cases h : a.id = b.id
 ·rw [if_pos (sEq_iff.2 h)]
  have e : Op.bytesLess a.id.toList b.id.toList = false := by rw [h]; exact bl_irr _
  by_cases hs : a.dot.site = b.dot.site
  ·rw [if_pos hs]
   simp [h, hs, bl_irr]
  ·rw [if_neg hs]
   simp [h, hs, bl_irr]
 ·rw [if_neg (fun q => h (sEq_iff.1 q))]
  simp [h]
theorem verLt_irr (a : Version) : verLt a a = false := by
 cases h : verLt a a
 ·rfl
 ·rw [verLt_iff, bl_irr] at h
  rcases h with h | ⟨_, h | h⟩
  ·cases h
  ·omega
  ·omega
theorem verLt_trans {a b c : Version} (h : verLt a b = true) (k : verLt b c = true) : verLt a c = true := by
 rw [verLt_iff] at h k ⊢
 rcases h with h | ⟨e, h⟩
 ·rcases k with k | ⟨f, k⟩
  ·exact .inl (bl_trans _ _ _ h k)
  ·exact .inl (by rw [← f]; exact h)
 ·rcases k with k | ⟨f, k⟩
  ·exact .inl (by rw [e]; exact k)
  ·exact .inr ⟨e.trans f, by omega⟩
theorem verLt_asymm {a b : Version} (h : verLt a b = true) : verLt b a = false := by
 cases k : verLt b a
 ·rfl
 ·rw [← verLt_trans h k]; exact verLt_irr a
theorem verLt_tri {a b : Version} (h : verLt a b = false) (k : verLt b a = false) : a.id = b.id ∧ a.dot = b.dot := by
 have h' := mt (verLt_iff (a := a) (b := b)).2 (by simp [h])
 have k' := mt (verLt_iff (a := b) (b := a)).2 (by simp [k])
 have e : a.id = b.id := toL_inj (bl_tri _ _ (by
  cases q : Op.bytesLess a.id.toList b.id.toList
  ·rfl
  ·exact absurd (.inl q) h') (by
  cases q : Op.bytesLess b.id.toList a.id.toList
  ·rfl
  ·exact absurd (.inl q) k'))
 have h2 : ¬ (a.dot.site < b.dot.site ∨ (a.dot.site = b.dot.site ∧ a.dot.count < b.dot.count)) := fun q => h' (.inr ⟨e, q⟩)
 have k2 : ¬ (b.dot.site < a.dot.site ∨ (b.dot.site = a.dot.site ∧ b.dot.count < a.dot.count)) := fun q => k' (.inr ⟨e.symm, q⟩)
 exact ⟨e, Dot.ext' (by omega) (by omega)⟩
theorem verLt_key {a b c : Version} (h1 : a.id = b.id) (h2 : a.dot = b.dot) : verLt a c = verLt b c := by
 rw [Bool.eq_iff_iff, verLt_iff, verLt_iff, h1, h2]
theorem verLt_key' {a b c : Version} (h1 : a.id = b.id) (h2 : a.dot = b.dot) : verLt c a = verLt c b := by
 rw [Bool.eq_iff_iff, verLt_iff, verLt_iff, h1, h2]
def Inc (l : List Version) : Prop := l.Pairwise fun x y => verLt x y = true
theorem shelfGo_inc : ∀ (l : List Version) (prev : Option Version), shelfGo prev l = 0 → Inc l ∧ ∀ u, prev = some u → ∀ v ∈ l, verLt u v = true
 | [], _, _ => ⟨List.Pairwise.nil, fun _ _ _ h => by cases h⟩
 | v :: r, prev, h => by
  rw [shelfGo] at h
  by_cases h1 : verErr v = 0
  ·rw [if_pos h1] at h
   by_cases h2 : behind prev v = true
   ·rw [if_pos h2] at h; cases h
   ·rw [if_neg h2] at h
    obtain ⟨a, b⟩ := shelfGo_inc r (some v) h
    refine ⟨List.pairwise_cons.2 ⟨b v rfl, a⟩, ?_⟩
    rintro u rfl w hw
    have h3 : verLt u v = true := by simpa [behind] using h2
    rcases List.mem_cons.1 hw with rfl | hw
    ·exact h3
    ·exact verLt_trans h3 (b v rfl w hw)
  ·rw [if_neg h1] at h; exact absurd h h1
theorem ShelfOk.inc {l : List Version} (h : ShelfOk l) : Inc l := (shelfGo_inc l none h.go).1
theorem inc_shelfGo : ∀ (l : List Version) (prev : Option Version), Inc l → (∀ v ∈ l, VerOk v) → (∀ u, prev = some u → ∀ v ∈ l, verLt u v = true) → shelfGo prev l = 0
 | [], _, _, _, _ => rfl
 | v :: r, prev, h, ho, hp => by
  rw [shelfGo, if_pos (verErr_iff.2 (ho v (by simp)))]
  have h2 : ¬ behind prev v = true := by
   cases prev with
   | none => simp [behind]
   | some u => simp [behind, hp u rfl v (by simp)]
  rw [if_neg h2]
  obtain ⟨a, b⟩ := List.pairwise_cons.1 h
  exact inc_shelfGo r (some v) b (fun w hw => ho w (by simp [hw])) (by rintro u h w hw; injection h with h; subst h; exact a w hw)
theorem Inc.srt {l : List Version} (h : Inc l) : Srt verLt l := h.imp fun h => verLt_asymm h
theorem Inc.filter {l : List Version} (h : Inc l) (p : Version → Bool) : Inc (l.filter p) := List.Pairwise.filter p h
def pos (l : List Version) (v : Version) : Nat := l.findIdx fun w => !verLt w v
theorem pos_le (l : List Version) (v : Version) : pos l v ≤ l.length := List.findIdx_le_length
theorem pos_ahead {l : List Version} {v : Version} {k : Nat} (h : k < l.length) (hk : k < pos l v) : verLt l[k] v = true := by
 have := List.not_of_lt_findIdx hk
 simpa using this
theorem pos_not {l : List Version} {v : Version} (h : pos l v < l.length) : verLt l[pos l v] v = false := by
 have := List.findIdx_getElem (w := h)
 simp only [Bool.not_eq_true'] at this
 exact this
theorem pos_behind {l : List Version} {v : Version} (hi : Inc l) {k : Nat} (h : k < l.length) (hk : pos l v ≤ k) : verLt l[k] v = false := by
 have h0 := pos_not (l := l) (v := v) (by omega)
 rcases Nat.lt_or_ge (pos l v) k with g | g
 ·cases h1 : verLt l[k] v
  ·rfl
  ·have h2 := List.pairwise_iff_getElem.1 hi (pos l v) k (by omega) h g
   rw [verLt_trans h2 h1] at h0; cases h0
 ·have : pos l v = k := by omega
  subst this; exact h0
theorem pos_eq {l : List Version} {v : Version} (hi : Inc l) {n : Nat} (hn : n ≤ l.length) (h1 : ∀ k (h : k < l.length), k < n → verLt l[k] v = true) (h2 : ∀ k (h : k < l.length), n ≤ k → verLt l[k] v = false) : n = pos l v := by
 have hp := pos_le l v
 rcases Nat.lt_trichotomy n (pos l v) with g | g | g
 ·have a := pos_ahead (l := l) (v := v) (k := n) (by omega) g
  rw [h2 n (by omega) (Nat.le_refl _)] at a; cases a
 ·exact g
 ·have a := pos_behind hi (v := v) (k := pos l v) (by omega) (Nat.le_refl _)
  rw [h1 (pos l v) (by omega) g] at a; cases a
def sameKey (l : List Version) (v : Version) : Bool := l.any fun w => verCmp w v == 0
theorem key_none {l : List Version} {v : Version} (hi : Inc l) (h : pos l v < l.length → verCmp (l[pos l v]?.getD v) v ≠ 0) : sameKey l v = false := by
 unfold sameKey
 rw [List.any_eq_false]
 intro w hw he
 obtain ⟨k, hk, rfl⟩ := List.getElem_of_mem hw
 have he' : verCmp l[k] v = 0 := by simpa using he
 obtain ⟨e1, e2⟩ := verCmp_zero.1 he'
 have hlt : verLt l[k] v = false := by rw [verLt_key e1 e2]; exact verLt_irr v
 have hge : pos l v ≤ k := by
  rcases Nat.lt_or_ge k (pos l v) with g | g
  ·rw [pos_ahead hk g] at hlt; cases hlt
  ·exact g
 rcases Nat.lt_or_ge (pos l v) k with g | g
 ·have h2 := List.pairwise_iff_getElem.1 hi (pos l v) k (by omega) hk g
  rw [verLt_key' e1 e2] at h2
  rw [pos_not (by omega)] at h2; cases h2
 ·have : pos l v = k := by omega
  have h3 := h (by omega)
  rw [this, List.getElem?_eq_getElem hk] at h3
  exact h3 he'
theorem key_some {l : List Version} {v : Version} (h : pos l v < l.length) (he : verCmp l[pos l v] v = 0) : sameKey l v = true := by
 unfold sameKey
 rw [List.any_eq_true]
 exact ⟨_, List.getElem_mem h, by simp [he]⟩
def putAny (l : List Version) (v : Version) : Bool := sameKey l v || l.any fun w => over w v
def insV (l : List Version) (v : Version) : List Version := l.take (pos l v) ++ v :: l.drop (pos l v)
def putL (l : List Version) (v : Version) : List Version := (insV l v).filter fun w => !over v w
def putErr (l : List Version) (v : Version) : Int := if shelfCheck l = 0 then (if verErr v = 0 then (if putAny l v = true then 0 else if 60 < (putL l v).length then 2 else 0) else verErr v) else shelfCheck l
def putOut (l : List Version) (v : Version) : List Version := if shelfCheck l = 0 then (if verErr v = 0 then (if putAny l v = true then l else if 60 < (putL l v).length then [] else putL l v) else []) else []
theorem put_large {l : List Version} {v : Version} (h0 : shelfCheck l = 0) (hv : verErr v = 0) (ha : putAny l v = false) (hn : 60 < (putL l v).length) : putErr l v = 2 ∧ putOut l v = [] := by
 unfold putErr putOut; simp [h0, hv, ha, hn]
theorem put_fits {l : List Version} {v : Version} (h0 : shelfCheck l = 0) (hv : verErr v = 0) (ha : putAny l v = false) (hn : ¬ 60 < (putL l v).length) : putErr l v = 0 ∧ putOut l v = putL l v := by
 unfold putErr putOut; simp [h0, hv, ha, hn]
theorem insV_len (l : List Version) (v : Version) : (insV l v).length = l.length + 1 := by
 unfold insV
 rw [List.length_append, List.length_cons, List.length_take, List.length_drop]
 have := pos_le l v
 omega
theorem insV_perm (l : List Version) (v : Version) : (insV l v).Perm (v :: l) := by
 unfold insV
 refine List.perm_middle.trans ?_
 rw [List.take_append_drop]
theorem insV_inc {l : List Version} {v : Version} (hi : Inc l) (h : sameKey l v = false) : Inc (insV l v) := by
 unfold insV
 have hs : Inc (l.take (pos l v) ++ l.drop (pos l v)) := by rw [List.take_append_drop]; exact hi
 obtain ⟨a, b, c⟩ := List.pairwise_append.1 hs
 have h1 : ∀ x ∈ l.take (pos l v), verLt x v = true := by
  intro x hx
  obtain ⟨k, hk, rfl⟩ := List.getElem_of_mem hx
  rw [List.length_take] at hk
  rw [List.getElem_take]
  exact pos_ahead (by omega) (by omega)
 have h2 : ∀ x ∈ l.drop (pos l v), verLt v x = true := by
  intro x hx
  obtain ⟨k, hk, rfl⟩ := List.getElem_of_mem hx
  rw [List.length_drop] at hk
  rw [List.getElem_drop]
  have h3 := pos_behind hi (v := v) (k := pos l v + k) (by omega) (by omega)
  cases h4 : verLt v l[pos l v + k]
  ·have h5 : sameKey l v = true := by
    unfold sameKey
    rw [List.any_eq_true]
    exact ⟨_, List.getElem_mem (by omega : pos l v + k < l.length), by rw [beq_iff_eq]; exact verCmp_zero.2 (verLt_tri h3 h4)⟩
   rw [h] at h5; cases h5
  ·rfl
 refine List.pairwise_append.2 ⟨a, List.pairwise_cons.2 ⟨h2, b⟩, ?_⟩
 intro x hx y hy
 rcases List.mem_cons.1 hy with rfl | hy
 ·exact h1 x hx
 ·exact c x hx y hy
theorem over_self {v : Version} (h : VerOk v) : over v v = false := by unfold over; rw [h.new, Bool.and_false]
theorem putL_mem {l : List Version} {v w : Version} (h : w ∈ putL l v) : w = v ∨ (w ∈ l ∧ over v w = false) := by
 unfold putL at h
 obtain ⟨h1, h2⟩ := List.mem_filter.1 h
 rcases List.mem_cons.1 ((insV_perm l v).mem_iff.1 h1) with e | e
 ·exact .inl e
 ·exact .inr ⟨e, by simpa using h2⟩
theorem mem_putL {l : List Version} {v : Version} (hv : VerOk v) : v ∈ putL l v := by
 unfold putL
 exact List.mem_filter.2 ⟨(insV_perm l v).mem_iff.2 (by simp), by simp [over_self hv]⟩
theorem mem_putL' {l : List Version} {v w : Version} (h : w ∈ l) (hn : over v w = false) : w ∈ putL l v := by
 unfold putL
 exact List.mem_filter.2 ⟨(insV_perm l v).mem_iff.2 (by simp [h]), by simp [hn]⟩
theorem over_none {l : List Version} (h : shelfOver l = false) {u w : Version} (hu : u ∈ l) (hw : w ∈ l) : over u w = false := by
 unfold shelfOver at h
 rw [List.any_eq_false] at h
 have h1 := h w hw
 simp only [Bool.not_eq_true] at h1
 rw [List.any_eq_false] at h1
 simpa using h1 u hu
theorem none_over {l : List Version} (h : ∀ u ∈ l, ∀ w ∈ l, over u w = false) : shelfOver l = false := by
 unfold shelfOver
 rw [List.any_eq_false]
 intro w hw
 simp only [Bool.not_eq_true]
 rw [List.any_eq_false]
 intro u hu
 simp [h u hu w hw]
theorem ShelfOk.filter {l : List Version} (h : ShelfOk l) (p : Version → Bool) : ShelfOk (l.filter p) where
 len := Nat.le_trans (List.length_filter_le _ _) h.len
 all v hv := h.all v (List.mem_filter.1 hv).1
 go := inc_shelfGo _ none (h.inc.filter p) (fun v hv => h.all v (List.mem_filter.1 hv).1) (fun _ h => by cases h)
 new := none_over fun u hu w hw => over_none h.new (List.mem_filter.1 hu).1 (List.mem_filter.1 hw).1
theorem putL_ok {l : List Version} {v : Version} (h : ShelfOk l) (hv : VerOk v) (ha : putAny l v = false) (hn : (putL l v).length ≤ 60) : ShelfOk (putL l v) := by
 unfold putAny at ha
 rw [Bool.or_eq_false_iff] at ha
 have hall : ∀ w ∈ putL l v, VerOk w := by
  intro w hw
  rcases putL_mem hw with rfl | ⟨hw, _⟩
  ·exact hv
  ·exact h.all w hw
 refine ⟨hn, hall, inc_shelfGo _ none ((insV_inc h.inc ha.1).filter _) hall (fun _ h => by cases h), none_over ?_⟩
 intro u hu w hw
 rcases putL_mem hu with e | ⟨hu, _⟩
 ·rw [e]
  exact (by simpa using (List.mem_filter.1 hw).2)
 ·rcases putL_mem hw with e | ⟨hw, _⟩
  ·rw [e]
   have := List.any_eq_false.1 ha.2 u hu
   simpa using this
  ·exact over_none h.new hu hw
theorem putOut_ok {l : List Version} {v : Version} (h : putErr l v = 0) : ShelfOk l ∧ VerOk v ∧ ShelfOk (putOut l v) ∧ putOut l v = if putAny l v = true then l else putL l v := by
 unfold putErr at h
 unfold putOut
 by_cases h1 : shelfCheck l = 0
 ·rw [if_pos h1] at h ⊢
  by_cases h2 : verErr v = 0
  ·rw [if_pos h2] at h ⊢
   have a := shelfCheck_ok h1
   have b := verErr_iff.1 h2
   cases h3 : putAny l v
   ·rw [h3] at h
    rw [if_neg (by simp)] at h ⊢
    by_cases h4 : 60 < (putL l v).length
    ·rw [if_pos h4] at h; cases h
    ·rw [if_neg h4]
     exact ⟨a, b, putL_ok a b h3 (by omega), rfl⟩
   ·exact ⟨a, b, a, rfl⟩
  ·rw [if_neg h2] at h; exact absurd h h2
 ·rw [if_neg h1] at h; exact absurd h h1
def dropP (g : Gone) (v : Version) : Bool := sEq v.id g.id && inK g.past v.dot
def dropL (l : List Version) (g : Gone) : List Version := l.filter fun v => !dropP g v
def dropErr (l : List Version) (g : Gone) : Int := if shelfCheck l = 0 then goneErr g else shelfCheck l
def dropOut (l : List Version) (g : Gone) : List Version := if shelfCheck l = 0 then (if goneErr g = 0 then dropL l g else []) else []
end Go.Proofs.YtngbfdogiciahaaGreat
