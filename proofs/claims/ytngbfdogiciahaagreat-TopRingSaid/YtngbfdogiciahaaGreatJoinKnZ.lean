/- Several texts in one: data, readings, plain laws, walks. No condition. -/
import Derived.Test.YtngbfdogiciahaaGreatJoinKnW
import Derived.Test.YtngbfdogiciahaaGreatJoinKnG
import Derived.Test.YtngbfdogiciahaaGreatBase
import Derived.ChangeKeysEq
import Derived.Test.YtngbfdogiciahaaGreatJoinKnU
import Derived.Test.YtngbfdogiciahaaGreatJoinKnPl
import Derived.Test.YtngbfdogiciahaaGreatFewC
import Derived.Test.YtngbfdogiciahaaGreatFewB
namespace Go.Proofs.YtngbfdogiciahaaGreat
open Go Go.RowKit
theorem join_form (k l : Know) (hk : KnowOk k) (hl : KnowOk l) : joinS k l = formOf (orD (hasK k) (hasK l)) := by
 apply formOf_congr
 intro s hs c hc1 hc2
 have h1 : maxAt [k.vec, l.vec] s = max (max 0 (vecAt k.vec s)) (vecAt l.vec s) := rfl
 have hka := vecAt_bd hk.vec s
 have hlb := vecAt_bd hl.vec s
 rw [Bool.eq_iff_iff]
 simp only [setOf, orD, hasK, Bool.or_eq_true, Bool.and_eq_true, decide_eq_true_eq, List.contains_iff_mem]
 have hL : (⟨(s : Int), (c : Int)⟩ : Dot) ∈ [k.more, l.more].flatten ↔ (⟨(s : Int), (c : Int)⟩ : Dot) ∈ k.more ∨ (⟨(s : Int), (c : Int)⟩ : Dot) ∈ l.more := by simp
 rw [hL]
 by_cases m1 : (⟨(s : Int), (c : Int)⟩ : Dot) ∈ k.more
 ·simp [m1, hc1]
 ·by_cases m2 : (⟨(s : Int), (c : Int)⟩ : Dot) ∈ l.more
  ·simp [m2, hc1]
  ·simp only [m1, m2, or_false]
   omega
theorem within_eq {k l : Know} (h : twoErr k l = 0) : withinIs k l = eqD (orD (hasK k) (hasK l)) (hasK l) := by
 obtain ⟨hk, hl⟩ := two_ok h
 have hc : Clean (orD (hasK k) (hasK l)) := by
  intro s c hs
  simp only [orD, Bool.or_eq_true] at hs
  rcases hs with hs | hs
  ·exact clean_has hk s c hs
  ·exact clean_has hl s c hs
 have hj := join_form k l hk hl
 rw [Bool.eq_iff_iff, eqD_iff, eqWords_same hc (clean_has hl), withinIs, if_pos h]
 constructor
 ·intro hw
  split at hw
  ·have he := of_decide_eq_true hw
   rw [hj] at he
   exact same_of_form (he.trans (form_has hl).symm)
  ·cases hw
 ·intro hs
  have he : joinS k l = l := by rw [hj, formOf_congr hs, form_has hl]
  have ht : toldErr (joinS k l) = 0 := by
   rw [he]
   exact if_pos hl.mlen
  rw [if_pos ht, he]
  simp
end Go.Proofs.YtngbfdogiciahaaGreat
namespace Go.Proofs.YtngbfdogiciahaaGreat
open Go Go.RowKit
structure Says (p : Part) (x : RP) : Prop where
 ok : PartOk p
 P : ∀ j, j < 512 → pts p.filter j = x.P j
 K : x.K = hasK p.know
theorem says_mean {p : Part} (h : PartOk p) : Says p (meanOf p) := ⟨h, fun _ _ => rfl, rfl⟩
theorem countTo_noneQ (q : Nat → Bool) : ∀ n, (countTo q n == 0) = allTo (fun i => q i == false) n
 | 0 => rfl
 | n + 1 => by
  have ih := countTo_noneQ q n
  have hb := countTo_bd q n
  rw [countTo, allTo, ← ih]
  cases h : q n
  ·simp
  ·simp; omega
theorem sizeN_none (S : DSet) : (sizeN S 5 == 0) = eqD S (fun _ _ => false) := by
 rw [Bool.eq_iff_iff, eqD_iff, eqWords_iff, beq_iff_eq]
 have h1 : ∀ i, rowN S i 16 = countTo (S i) 1024 := fun i => rowN_count S i 16
 have key : ∀ n, sizeN S n = 0 ↔ ∀ s, s < n → ∀ c, c < 1024 → S s c = false := by
  intro n
  induction n with
  | zero => simp [sizeN]
  | succ n ih =>
   have hb := sizeN_bd S n
   have hr := rowN_bd S n 16
   have hc := countTo_noneQ (S n) 1024
   rw [sizeN]
   constructor
   ·intro h s hs c hc1
    by_cases e : s = n
    ·subst e
     have h0 : countTo (S s) 1024 = 0 := by rw [← h1]; omega
     rw [h0] at hc
     have h3 := (allTo_iff _ _).1 hc.symm c hc1
     simpa using h3
    ·exact ih.1 (by omega) s (by omega) c hc1
   ·intro h
    have h2 := ih.2 fun s hs => h s (by omega)
    have h3 : allTo (fun i => S n i == false) 1024 = true := (allTo_iff _ _).2 fun c hc1 => by rw [h n (by omega) c hc1]; rfl
    rw [h3, beq_iff_eq] at hc
    rw [h1, h2, hc]; rfl
 rw [key 5]
theorem none_says {p : Part} {x : RP} (h : Says p x) : noneP p = noneR x := by
 have e1 : (filterCount p.filter == 0) = allTo (fun i => x.P i == false) 512 := by
  rw [count_pts h.ok.f, countTo_noneQ]
  exact allTo_congr 512 fun i hi => by rw [h.P i hi]
 have e2 : (countK p.know == 0) = eqD x.K (fun _ _ => false) := by rw [← size_has p.know h.ok.k, sizeN_none, h.K]
 unfold noneP noneR
 rw [e1, e2]
theorem under_says {p q : Part} {x y : RP} (h : Says p x) (g : Says q y) : underP p q = underR x y := by
 have h2 : filterTwo p.filter q.filter = 0 := by rw [filterTwo, if_pos h.ok.f, g.ok.f]
 have k2 : twoErr p.know q.know = 0 := by rw [twoErr, if_pos (knowCheck_iff.2 h.ok.k), knowCheck_iff.2 g.ok.k]
 have e1 : filterNone less32 p.filter q.filter = allTo (fun i => (x.P i && y.P i) == x.P i) 512 := by
  rw [filterNone_says bits_less h2]
  refine allTo_congr 512 fun i hi => ?_
  rw [h.P i hi, g.P i hi]
  cases x.P i <;> cases y.P i <;> rfl
 have e2 : withinIs p.know q.know = eqD (andD x.K y.K) x.K := by
  rw [within_eq k2, h.K, g.K, Bool.eq_iff_iff, eqD_iff, eqD_iff, eqWords_iff, eqWords_iff]
  constructor
  ·intro e s hs c hc
   have := e s hs c hc
   simp only [orD, andD] at this ⊢
   cases h1 : hasK p.know s c <;> cases h3 : hasK q.know s c <;> simp_all
  ·intro e s hs c hc
   have := e s hs c hc
   simp only [orD, andD] at this ⊢
   cases h1 : hasK p.know s c <;> cases h3 : hasK q.know s c <;> simp_all
 unfold underP underR
 rw [e1, e2, Bool.and_comm]
section
variable {α β : Type} (nP : α → Bool) (uP : α → α → Bool) (nR : β → Bool) (uR : β → β → Bool) (H : α → β → Prop)
end
structure SayOk (l : List Part) (want : List RP) : Prop where
 len : l.length = want.length
 at_ : ∀ (i : Nat) (p : Part) (x : RP), l[i]? = some p → want[i]? = some x → p.filter.length ≤ 16 ∧ filterCheck p.filter = 0 ∧ (∀ j, j < 512 → pts p.filter j = x.P j) ∧ formOf x.K = p.know ∧ p.know.more.length ≤ 60
theorem plainF_says {f : List Box} (h : filterCheck f = 0) : (plainF f).length ≤ 16 ∧ filterCheck (plainF f) = 0 ∧ ∀ j, j < 512 → pts (plainF f) j = pts f j :=
 ⟨mkBoxes_len _, mkBoxes_check _, fun j hj => by unfold plainF; rw [mkBoxes_pts _ j hj, pts_tab (filterCheck_ok h).2]⟩
theorem SayOk.nil : SayOk [] [] := ⟨rfl, by intro i p x h; simp at h⟩
end Go.Proofs.YtngbfdogiciahaaGreat
namespace Go.Proofs.YtngbfdogiciahaaGreat
open Go Go.RowKit
structure Gone where
 id : ByteArray
 past : Know
structure Batch where
 site : Int
 stamp : Int
 vers : List Version
 gone : List Gone
 parts : List Part
def firstErr {α : Type} (f : α → Int) : List α → Int
 | [] => 0
 | x :: r => if f x = 0 then firstErr f r else f x
theorem firstErr_drop {α : Type} (f : α → Int) (l : List α) (k : Nat) (hk : k < l.length) : firstErr f (l.drop k) = if f l[k] = 0 then firstErr f (l.drop (k + 1)) else f l[k] := by
 rw [List.drop_eq_getElem_cons hk, firstErr]
theorem firstErr_ok {α : Type} (f : α → Int) : ∀ l : List α, firstErr f l = 0 ↔ ∀ x ∈ l, f x = 0
 | [] => by simp [firstErr]
 | x :: r => by
  rw [firstErr]
  by_cases h : f x = 0
  ·rw [if_pos h, firstErr_ok f r]
   simp [h]
  ·rw [if_neg h]
   exact ⟨fun e => absurd e h, fun e => absurd (e x (by simp)) h⟩
def goneErr (g : Gone) : Int := if idOk g.id = true then knowCheck g.past else 3
structure GoneOk (g : Gone) : Prop where
 id : idOk g.id = true
 k : KnowOk g.past
theorem goneErr_iff {g : Gone} : goneErr g = 0 ↔ GoneOk g := by
 unfold goneErr
 by_cases h : idOk g.id = true
 ·rw [if_pos h, knowCheck_iff]
  exact ⟨fun e => ⟨h, e⟩, fun e => e.k⟩
 ·rw [if_neg h]
  exact ⟨fun e => (by cases e), fun e => absurd e.id h⟩
def batchRest (b : Batch) : Int := if firstErr verErr b.vers = 0 then (if firstErr goneErr b.gone = 0 then partsCheck b.parts else firstErr goneErr b.gone) else firstErr verErr b.vers
def batchTail (b : Batch) : Int := if b.vers.length ≤ 60 ∧ b.gone.length ≤ 60 then batchRest b else 2
def batchErr (b : Batch) : Int := if 0 ≤ b.site ∧ b.site ≤ 4 ∧ 0 ≤ b.stamp then batchTail b else 1
def wireErr (b : Batch) : Int := if 0 ≤ b.site ∧ b.site ≤ 4 ∧ 0 ≤ b.stamp ∧ b.stamp ≤ 1000000 then batchTail b else 1
structure TailOk (b : Batch) : Prop where
 lv : b.vers.length ≤ 60
 lg : b.gone.length ≤ 60
 vers : ∀ v ∈ b.vers, VerOk v
 gone : ∀ g ∈ b.gone, GoneOk g
 lp : b.parts.length ≤ 30
 parts : ∀ p ∈ b.parts, PartOk p
theorem batchTail_ok {b : Batch} (h : batchTail b = 0) : TailOk b := by
 unfold batchTail at h
 by_cases h0 : b.vers.length ≤ 60 ∧ b.gone.length ≤ 60
 ·rw [if_pos h0] at h
  unfold batchRest at h
  by_cases h1 : firstErr verErr b.vers = 0
  ·rw [if_pos h1] at h
   by_cases h2 : firstErr goneErr b.gone = 0
   ·rw [if_pos h2] at h
    obtain ⟨h3, h4⟩ := partsCheck_ok h
    exact ⟨h0.1, h0.2, fun v hv => verErr_iff.1 ((firstErr_ok _ _).1 h1 v hv), fun v hv => goneErr_iff.1 ((firstErr_ok _ _).1 h2 v hv), h3, h4⟩
   ·rw [if_neg h2] at h; exact absurd h h2
  ·rw [if_neg h1] at h; exact absurd h h1
 ·rw [if_neg h0] at h; cases h
structure WireOk (b : Batch) : Prop extends TailOk b where
 s0 : 0 ≤ b.site
 s4 : b.site ≤ 4
 t0 : 0 ≤ b.stamp
 t1 : b.stamp ≤ 1000000
theorem wireErr_ok {b : Batch} (h : wireErr b = 0) : WireOk b := by
 unfold wireErr at h
 by_cases h0 : 0 ≤ b.site ∧ b.site ≤ 4 ∧ 0 ≤ b.stamp ∧ b.stamp ≤ 1000000
 ·rw [if_pos h0] at h
  exact ⟨batchTail_ok h, h0.1, h0.2.1, h0.2.2.1, h0.2.2.2⟩
 ·rw [if_neg h0] at h; cases h
end Go.Proofs.YtngbfdogiciahaaGreat
