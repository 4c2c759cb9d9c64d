/- Plain law on a site: what it keeps, and what each of its calls leaves and answers. No program in sight. -/
import Derived.Test.YtngbfdogiciahaaGreatPutP
import Derived.Test.YtngbfdogiciahaaGreatJoinKnZ
import Derived.Test.YtngbfdogiciahaaGreatShelfI
import Derived.Test.YtngbfdogiciahaaGreatJoinShelfF
namespace Go.Proofs.YtngbfdogiciahaaGreat
open Go Go.RowKit
structure SiteS where
 me : Int
 made : Int
 stamp : Int
 filter : List Box
 shelf : List Version
 parts : List Part
structure AskS where
 site : Int
 stamp : Int
 filter : List Box
 parts : List Part
structure SiteOk (s : SiteS) : Prop where
 me0 : 0 ≤ s.me
 me4 : s.me ≤ 4
 made0 : 0 ≤ s.made
 made1 : s.made ≤ 1000
 stamp0 : 0 ≤ s.stamp
 filter : filterCheck s.filter = 0
 shelf : ShelfOk s.shelf
 lp : s.parts.length ≤ 29
 parts : ∀ x ∈ s.parts, PartOk x
def siteErr (me : Int) (f : List Box) : Int := if 0 ≤ me ∧ me ≤ 4 then filterCheck f else 1
def siteNew (me : Int) (f : List Box) : SiteS := ⟨me, 0, 0, plainF f, [], []⟩
def ownV (me made : Int) : List Int := if made = 0 then [] else List.replicate me.toNat 0 ++ [made]
def ownP (s : SiteS) : Part := ⟨everyF, ⟨ownV s.me s.made, []⟩⟩
def knownP (s : SiteS) : List Part := fewOut (ownP s :: s.parts)
def madeV (s : SiteS) (id : ByteArray) (p : Point) (body : Int) : Version := ⟨id, ⟨s.me, s.made + 1⟩, p, body, pastKn s.shelf id⟩
def makeErr (s : SiteS) (id : ByteArray) (p : Point) (body : Int) : Int :=
 if idOk id = true then (if (pointOk p && bodyOk body) = true then (if s.made = 1000 then 2 else if pastErr s.shelf id = 0 then putErr s.shelf (madeV s id p body) else pastErr s.shelf id) else 1) else 3
def makeDot (s : SiteS) (id : ByteArray) (p : Point) (body : Int) : Dot := if makeErr s id p body = 0 then ⟨s.me, s.made + 1⟩ else ⟨0, 0⟩
def makeS (s : SiteS) (id : ByteArray) (p : Point) (body : Int) : SiteS := if makeErr s id p body = 0 then { s with shelf := putOut s.shelf (madeV s id p body), made := s.made + 1 } else s
def wantKeep (me : Int) (f : List Box) (v : Version) : Bool := decide (v.dot.site = me) || filterIn f v.pt
def wantS (s : SiteS) (f : List Box) : SiteS := if filterCheck f = 0 then { s with filter := plainF f, stamp := s.stamp + 1, shelf := s.shelf.filter (wantKeep s.me f), parts := narrowO s.parts f } else s
def askS (s : SiteS) : AskS := ⟨s.me, s.stamp, s.filter, knownP s⟩
def giveErr (a : AskS) : Int := if 0 ≤ a.site ∧ a.site ≤ 4 ∧ 0 ≤ a.stamp then (if filterCheck a.filter = 0 then partsCheck a.parts else filterCheck a.filter) else 1
def giveV (s : SiteS) (a : AskS) : List Version := s.shelf.filter fun v => filterIn a.filter v.pt && !partsIn a.parts v.pt v.dot
def goneOf (v : Version) : Gone := ⟨v.id, v.past⟩
def giveG (s : SiteS) (a : AskS) : List Gone := (s.shelf.filter fun v => !filterIn a.filter v.pt).map goneOf
def giveB (s : SiteS) (a : AskS) : Batch := if giveErr a = 0 then ⟨a.site, a.stamp, giveV s a, giveG s a, narrowO (knownP s) a.filter⟩ else ⟨0, 0, [], [], []⟩
def putsErr : List Version → List Version → Int
 | _, [] => 0
 | l, v :: r => if putErr l v = 0 then putsErr (putOut l v) r else putErr l v
def putsOut : List Version → List Version → List Version
 | l, [] => l
 | l, v :: r => putsOut (putOut l v) r
def dropsErr : List Version → List Gone → Int
 | _, [] => 0
 | l, g :: r => if dropErr l g = 0 then dropsErr (dropOut l g) r else dropErr l g
def dropsOut : List Version → List Gone → List Version
 | l, [] => l
 | l, g :: r => dropsOut (dropOut l g) r
def takeTail (s : SiteS) (b : Batch) : Int :=
 if putsErr s.shelf b.vers = 0 then (if dropsErr (putsOut s.shelf b.vers) b.gone = 0 then (if joinPE s.parts b.parts = 0 then (if (joinP s.parts b.parts).length = 30 then 2 else 0) else joinPE s.parts b.parts) else dropsErr (putsOut s.shelf b.vers) b.gone) else putsErr s.shelf b.vers
def takeErr (s : SiteS) (b : Batch) : Int := if batchErr b = 0 then (if b.site = s.me then (if b.stamp = s.stamp then takeTail s b else 6) else 1) else batchErr b
def takeS (s : SiteS) (b : Batch) : SiteS := if takeErr s b = 0 then { s with shelf := dropsOut (putsOut s.shelf b.vers) b.gone, parts := joinP s.parts b.parts } else s
theorem everyF_ok : filterCheck everyF = 0 := by decide +kernel
theorem ownK_ok {me made : Int} (h4 : me ≤ 4) (m0 : 0 ≤ made) (m1 : made ≤ 1000) : KnowOk ⟨ownV me made, []⟩ := by
 have hc : (ownV me made).length ≤ 5 ∧ (∀ n ∈ ownV me made, 0 ≤ n ∧ n ≤ 1000) ∧ (ownV me made).getLast? ≠ some 0 := by
  unfold ownV
  by_cases h : made = 0
  ·rw [if_pos h]; simp
  ·rw [if_neg h]
   refine ⟨by simp; omega, fun n hn => ?_, ?_⟩
   ·rcases List.mem_append.1 hn with hn | hn
    ·rw [List.eq_of_mem_replicate hn]; omega
    ·rw [List.mem_singleton.1 hn]; omega
   ·simp [h]
 exact ⟨hc.1, Nat.zero_le _, hc.2.1, hc.2.2, by simp [SortedD], fun d hd => by cases hd⟩
theorem ownP_ok {s : SiteS} (h : SiteOk s) : PartOk (ownP s) := ⟨everyF_ok, ownK_ok h.me4 h.made0 h.made1⟩
theorem few_okP {l : List Part} (h : ∀ x ∈ l, PartOk x) : (fewOut l).length ≤ l.length ∧ ∀ x ∈ fewOut l, PartOk x := by
 refine ⟨by unfold fewOut; rw [List.length_map]; exact fewL_len l, fun x hx => ?_⟩
 obtain ⟨y, hy, rfl⟩ := List.mem_map.1 hx
 have hy2 := h y (fewL_mem hy)
 exact ⟨(plainF_says hy2.f).2.1, hy2.k⟩
theorem known_ok {s : SiteS} (h : SiteOk s) : (knownP s).length ≤ 30 ∧ ∀ x ∈ knownP s, PartOk x := by
 have hh : ∀ x ∈ ownP s :: s.parts, PartOk x := by
  intro x hx
  rcases List.mem_cons.1 hx with rfl | hx
  ·exact ownP_ok h
  ·exact h.parts x hx
 obtain ⟨a, b⟩ := few_okP hh
 refine ⟨?_, b⟩
 have := h.lp
 simp only [List.length_cons] at a
 unfold knownP
 omega
theorem narrow_okP {l : List Part} {f : List Box} (h : ∀ x ∈ l, PartOk x) (hl : l.length ≤ 30) (hf : filterCheck f = 0) : narrowE l f = 0 ∧ narrowO l f = fewOut (l.map (narrowP f)) ∧ (narrowO l f).length ≤ l.length ∧ ∀ x ∈ narrowO l f, PartOk x := by
 have e1 : narrowE l f = 0 := by unfold narrowE; rw [if_pos (partsCheck_of hl h), hf]
 have e2 : narrowO l f = fewOut (l.map (narrowP f)) := by unfold narrowO; rw [if_pos e1]
 have hh : ∀ x ∈ l.map (narrowP f), PartOk x := by
  intro x hx
  obtain ⟨y, hy, rfl⟩ := List.mem_map.1 hx
  exact narrowP_ok (h y hy) hf
 obtain ⟨a, b⟩ := few_okP hh
 rw [List.length_map] at a
 exact ⟨e1, e2, by rw [e2]; exact a, by rw [e2]; exact b⟩
theorem siteNew_ok {me : Int} {f : List Box} (h : siteErr me f = 0) : SiteOk (siteNew me f) := by
 unfold siteErr at h
 by_cases hm : 0 ≤ me ∧ me ≤ 4
 ·rw [if_pos hm] at h
  exact ⟨hm.1, hm.2, Int.le_refl _, Int.le_trans (Int.le_refl 0) (by decide), Int.le_refl _, (plainF_says h).2.1, ⟨Nat.zero_le _, (fun v hv => by cases hv), rfl, rfl⟩, Nat.zero_le _, fun v hv => by cases hv⟩
 ·rw [if_neg hm] at h; cases h
theorem makeS_ok {s : SiteS} (h : SiteOk s) (id : ByteArray) (p : Point) (body : Int) : SiteOk (makeS s id p body) := by
 unfold makeS
 by_cases he : makeErr s id p body = 0
 ·rw [if_pos he]
  unfold makeErr at he
  by_cases h1 : idOk id = true
  ·rw [if_pos h1] at he
   by_cases h2 : (pointOk p && bodyOk body) = true
   ·rw [if_pos h2] at he
    by_cases h3 : s.made = 1000
    ·rw [if_pos h3] at he; cases he
    ·rw [if_neg h3] at he
     by_cases h4 : pastErr s.shelf id = 0
     ·rw [if_pos h4] at he
      have a := putOut_ok he
      have m0 := h.made0
      have m1 := h.made1
      exact ⟨h.me0, h.me4, by show 0 ≤ s.made + 1; omega, by show s.made + 1 ≤ 1000; omega, h.stamp0, h.filter, a.2.2.1, h.lp, h.parts⟩
     ·rw [if_neg h4] at he; exact absurd he h4
   ·rw [if_neg h2] at he; cases he
  ·rw [if_neg h1] at he; cases he
 ·rw [if_neg he]; exact h
theorem wantS_ok {s : SiteS} (h : SiteOk s) (f : List Box) : SiteOk (wantS s f) := by
 unfold wantS
 by_cases hf : filterCheck f = 0
 ·rw [if_pos hf]
  obtain ⟨_, _, a, b⟩ := narrow_okP h.parts (Nat.le_trans h.lp (by decide)) hf
  have t0 := h.stamp0
  exact ⟨h.me0, h.me4, h.made0, h.made1, by show 0 ≤ s.stamp + 1; omega, (plainF_says hf).2.1, h.shelf.filter _, Nat.le_trans a h.lp, b⟩
 ·rw [if_neg hf]; exact h
theorem putsOut_ok : ∀ (vs : List Version) (l : List Version), ShelfOk l → putsErr l vs = 0 → ShelfOk (putsOut l vs)
 | [], _, h, _ => h
 | v :: r, l, h, he => by
  rw [putsErr] at he
  by_cases h1 : putErr l v = 0
  ·rw [if_pos h1] at he
   exact putsOut_ok r (putOut l v) (putOut_ok h1).2.2.1 he
  ·rw [if_neg h1] at he; exact absurd he h1
theorem dropOut_ok {l : List Version} {g : Gone} (h : ShelfOk l) (he : dropErr l g = 0) : ShelfOk (dropOut l g) ∧ dropOut l g = dropL l g := by
 have h0 := shelfCheck_of h
 unfold dropErr at he
 rw [if_pos h0] at he
 have e : dropOut l g = dropL l g := by unfold dropOut; rw [if_pos h0, if_pos he]
 exact ⟨by rw [e]; exact h.filter _, e⟩
theorem dropsOut_ok : ∀ (gs : List Gone) (l : List Version), ShelfOk l → dropsErr l gs = 0 → ShelfOk (dropsOut l gs)
 | [], _, h, _ => h
 | g :: r, l, h, he => by
  rw [dropsErr] at he
  by_cases h1 : dropErr l g = 0
  ·rw [if_pos h1] at he
   exact dropsOut_ok r (dropOut l g) (dropOut_ok h h1).1 he
  ·rw [if_neg h1] at he; exact absurd he h1
theorem takeTail_ok {s : SiteS} {b : Batch} (h : takeTail s b = 0) : putsErr s.shelf b.vers = 0 ∧ dropsErr (putsOut s.shelf b.vers) b.gone = 0 ∧ joinPE s.parts b.parts = 0 ∧ (joinP s.parts b.parts).length ≠ 30 := by
 unfold takeTail at h
 by_cases h1 : putsErr s.shelf b.vers = 0
 ·rw [if_pos h1] at h
  by_cases h2 : dropsErr (putsOut s.shelf b.vers) b.gone = 0
  ·rw [if_pos h2] at h
   by_cases h3 : joinPE s.parts b.parts = 0
   ·rw [if_pos h3] at h
    by_cases h4 : (joinP s.parts b.parts).length = 30
    ·rw [if_pos h4] at h; cases h
    ·exact ⟨h1, h2, h3, h4⟩
   ·rw [if_neg h3] at h; exact absurd h h3
  ·rw [if_neg h2] at h; exact absurd h h2
 ·rw [if_neg h1] at h; exact absurd h h1
theorem joinP_ok {a b : List Part} (h : joinPE a b = 0) : (∀ x ∈ a, PartOk x) ∧ (∀ x ∈ b, PartOk x) ∧ joinP a b = fewOut (a ++ b) ∧ (joinP a b).length ≤ 30 ∧ ∀ x ∈ joinP a b, PartOk x := by
 have e : joinP a b = fewOut (a ++ b) := by unfold joinP; rw [if_pos h]
 unfold joinPE at h
 by_cases h1 : partsTwo a b = 0
 ·rw [if_pos h1] at h
  have hab : partsCheck a = 0 ∧ partsCheck b = 0 := by
   unfold partsTwo at h1
   by_cases h2 : partsCheck a = 0
   ·rw [if_pos h2] at h1; exact ⟨h2, h1⟩
   ·rw [if_neg h2] at h1; exact absurd h1 h2
  by_cases h3 : 30 < (fewOut (a ++ b)).length
  ·rw [if_pos h3] at h; cases h
  ·have ha := (partsCheck_ok hab.1).2
   have hb := (partsCheck_ok hab.2).2
   have := few_okP (l := a ++ b) (fun x hx => (List.mem_append.1 hx).elim (ha x) (hb x))
   exact ⟨ha, hb, e, by rw [e]; omega, by rw [e]; exact this.2⟩
 ·rw [if_neg h1] at h; exact absurd h h1
theorem takeS_ok {s : SiteS} (h : SiteOk s) (b : Batch) : SiteOk (takeS s b) := by
 unfold takeS
 by_cases he : takeErr s b = 0
 ·rw [if_pos he]
  unfold takeErr at he
  by_cases h1 : batchErr b = 0
  ·rw [if_pos h1] at he
   by_cases h2 : b.site = s.me
   ·rw [if_pos h2] at he
    by_cases h3 : b.stamp = s.stamp
    ·rw [if_pos h3] at he
     obtain ⟨a1, a2, a3, a4⟩ := takeTail_ok he
     obtain ⟨_, _, _, b1, b2⟩ := joinP_ok a3
     exact ⟨h.me0, h.me4, h.made0, h.made1, h.stamp0, h.filter, dropsOut_ok _ _ (putsOut_ok _ _ h.shelf a1) a2, by show (joinP s.parts b.parts).length ≤ 29; omega, b2⟩
    ·rw [if_neg h3] at he; cases he
   ·rw [if_neg h2] at he; cases he
  ·rw [if_neg h1] at he; exact absurd he h1
 ·rw [if_neg he]; exact h
end Go.Proofs.YtngbfdogiciahaaGreat
