/- Plain law on sites that ask each other: which errors there may be, and that all have the same in the end. No program in sight. -/
import Derived.Test.YtngbfdogiciahaaGreatTopC
namespace Go.Proofs.YtngbfdogiciahaaGreat
open Go Go.RowKit
section
variable {M : Int → Int} {H : List Version} {s : SiteS}
theorem putErr_or {l : List Version} {v : Version} (hl : ShelfOk l) (hv : VerOk v) : putErr l v = 0 ∨ putErr l v = 2 := by
 unfold putErr
 rw [if_pos (shelfCheck_of hl), if_pos (verErr_iff.2 hv)]
 split
 ·exact .inl rfl
 ·split
  ·exact .inr rfl
  ·exact .inl rfl
theorem putsErr_or : ∀ (vs l : List Version), ShelfOk l → (∀ v ∈ vs, VerOk v) → putsErr l vs = 0 ∨ putsErr l vs = 2
 | [], _, _, _ => .inl rfl
 | v :: r, l, hl, hv => by
  rw [putsErr]
  by_cases h1 : putErr l v = 0
  ·rw [if_pos h1]
   exact putsErr_or r _ (putOut_ok h1).2.2.1 (fun w hw => hv w (by simp [hw]))
  ·rw [if_neg h1]
   exact putErr_or hl (hv v (by simp))
theorem dropsErr_no : ∀ (gs : List Gone) (l : List Version), ShelfOk l → (∀ g ∈ gs, GoneOk g) → dropsErr l gs = 0
 | [], _, _, _ => rfl
 | g :: r, l, hl, hg => by
  have h1 : dropErr l g = 0 := by unfold dropErr; rw [if_pos (shelfCheck_of hl)]; exact goneErr_iff.2 (hg g (by simp))
  rw [dropsErr, if_pos h1]
  exact dropsErr_no r _ (dropOut_ok hl h1).1 (fun x hx => hg x (by simp [hx]))
theorem takeErr_or {b : Batch} (hs : SiteOk s) (hb : batchErr b = 0) (hm : b.site = s.me) (ht : b.stamp = s.stamp) : takeErr s b = 0 ∨ takeErr s b = 2 := by
 obtain ⟨hbt, _⟩ := batchErr_ok hb
 unfold takeErr
 rw [if_pos hb, if_pos hm, if_pos ht]
 unfold takeTail
 by_cases h1 : putsErr s.shelf b.vers = 0
 ·rw [if_pos h1, if_pos (dropsErr_no _ _ (putsOut_ok _ _ hs.shelf h1) hbt.gone)]
  by_cases h2 : joinPE s.parts b.parts = 0
  ·rw [if_pos h2]
   split
   ·exact .inr rfl
   ·exact .inl rfl
  ·rw [if_neg h2]
   unfold joinPE partsTwo at h2 ⊢
   rw [if_pos (partsCheck_of (Nat.le_trans hs.lp (by decide)) hs.parts), if_pos (partsCheck_of hbt.lp hbt.parts)] at h2 ⊢
   split
   ·exact .inr rfl
   ·exact .inl rfl
 ·rw [if_neg h1]
  exact putsErr_or _ _ hs.shelf hbt.vers
theorem makeErr_or (hH : Hist M H) (hs : SInv M H s) {id : ByteArray} {p : Point} {body : Int} (hi : idOk id = true) (hp : pointOk p = true) (hb : bodyOk body = true) : makeErr s id p body = 0 ∨ makeErr s id p body = 2 := by
 have h0 := shelfCheck_of hs.ok.shelf
 unfold makeErr
 rw [if_pos hi, if_pos (by rw [hp, hb]; rfl)]
 by_cases h3 : s.made = 1000
 ·rw [if_pos h3]; exact .inr rfl
 ·rw [if_neg h3]
  have he : pastErr s.shelf id = toldErr (pastS (getL s.shelf id)) := by unfold pastErr; rw [if_pos h0]
  by_cases h4 : pastErr s.shelf id = 0
  ·rw [if_pos h4]
   refine putErr_or hs.ok.shelf ?_
   have e1 : toldErr (pastS (getL s.shelf id)) = 0 := he ▸ h4
   have e2 : pastKn s.shelf id = formOf (refPast (getL s.shelf id)) := by
    unfold pastKn; rw [if_pos h0, told_zero e1]
    exact past_form fun v hv => hs.ok.shelf.all v (List.mem_filter.1 hv).1
   have e3 : (pastS (getL s.shelf id)).more.length ≤ 60 := by
    unfold toldErr at e1
    by_cases hh : (pastS (getL s.shelf id)).more.length ≤ 60
    ·exact hh
    ·rw [if_neg hh] at e1; cases e1
   have m0 := hs.ok.made0
   have m1 := hs.ok.made1
   have hd : dotOk (⟨s.me, s.made + 1⟩ : Dot) = true := dotOk_iff.2 ⟨hs.ok.me0, hs.ok.me4, by show 1 ≤ s.made + 1; omega, by show s.made + 1 ≤ 1000; omega⟩
   refine ⟨hi, hd, hp, hb, ?_, ?_⟩
   ·show KnowOk (pastKn s.shelf id)
    rw [e2]
    refine formOf_ok _ ?_
    rw [← past_form (l := getL s.shelf id) fun v hv => hs.ok.shelf.all v (List.mem_filter.1 hv).1]
    exact e3
   ·show inK (pastKn s.shelf id) ⟨s.me, s.made + 1⟩ = false
    cases hq : inK (pastKn s.shelf id) ⟨s.me, s.made + 1⟩
    ·rfl
    ·obtain ⟨x, hx, _, h⟩ := (past_has hs.ok.shelf.all hs.ok.shelf h4 hd).1 hq
     have hn := new_dot hs id p body
     rcases h with h | h
     ·exact absurd (hH.past x (hs.sub x hx) _ hd h) hn
     ·have := hH.ex x (hs.sub x hx)
      rw [h] at this
      exact absurd this hn
  ·rw [if_neg h4, he]
   exact toldErr_or _
theorem top_above (hH : Hist M H) : ∀ (n : Nat) (v : Version), v ∈ H → (H.filter fun x => over x v).length ≤ n → NM H v → ∃ u ∈ H, over u v = true ∧ ¬ NM H u
 | 0, v, hv, hn, h => by
  obtain ⟨u, hu, ho⟩ := h
  have : u ∈ H.filter fun x => over x v := List.mem_filter.2 ⟨hu, ho⟩
  have h0 := List.eq_nil_of_length_eq_zero (Nat.le_zero.1 hn)
  rw [h0] at this
  cases this
 | n + 1, v, hv, hn, h => by
  obtain ⟨u, hu, ho⟩ := h
  by_cases hq : NM H u
  ·have hlt : (H.filter fun x => over x u).length < (H.filter fun x => over x v).length := by
    have hsub : (H.filter fun x => over x u) = (H.filter fun x => over x v).filter fun x => over x u := by
     rw [List.filter_filter]
     apply List.filter_congr
     intro x hx
     cases hxu : over x u
     ·rfl
     ·rw [hH.trans x hx u hu v hv hxu ho]; rfl
    rw [hsub]
    have hex : ∃ x ∈ (H.filter fun x => over x v), ¬ over x u = true := ⟨u, List.mem_filter.2 ⟨hu, ho⟩, by rw [over_self (hH.ok u hu)]; simp⟩
    exact List.length_filter_lt_length_iff_exists.2 hex
   obtain ⟨x, hx, h1, h2⟩ := top_above hH n u hu (by omega) hq
   exact ⟨x, hx, hH.trans x hx u hu v hv h1 ho, h2⟩
  ·exact ⟨u, hu, ho, hq⟩
def FullH (H : List Version) (s : SiteS) : Prop := ∀ v ∈ H, HasOr H s v
theorem NM.top (hH : Hist M H) {v : Version} (hv : v ∈ H) (h : NM H v) : ∃ u ∈ H, over u v = true ∧ ¬ NM H u := top_above hH _ v hv (Nat.le_refl _) h
theorem own_has (hH : Hist M H) (hs : SInv M H s) {v : Version} (hv : v ∈ H) (hm : v.dot.site = s.me) : HasOr H s v := by
 have hvo := hH.ok v hv
 refine hs.snd v hv ?_
 unfold kn
 have he := hH.ex v hv
 unfold Ex at he
 rw [hm, hs.made] at he
 rw [cov_known hvo.pt hvo.dot hs.ok, decide_eq_true hm, decide_eq_true he]
 rfl
theorem full_shelf (hH : Hist M H) (hs : SInv M H s) (hf : FullH H s) {v : Version} (hv : v ∈ H) : v ∈ s.shelf ↔ ¬ NM H v := by
 constructor
 ·intro h hn
  obtain ⟨u, hu, ho, hq⟩ := hn.top hH hv
  have hus := (hf u hu).resolve_right hq
  rw [over_none hs.ok.shelf.new hus h] at ho
  cases ho
 ·intro h
  exact (hf v hv).resolve_right h
theorem inc_ext {a b : List Version} (ha : Inc a) (hb : Inc b) (h : ∀ v, v ∈ a ↔ v ∈ b) : a = b := by
 have nd : ∀ {l : List Version}, Inc l → l.Nodup := fun hl => hl.imp fun {x y} hxy e => by rw [e, verLt_irr] at hxy; cases hxy
 have hp : a.Perm b := (List.perm_ext_iff_of_nodup (nd ha) (nd hb)).2 h
 refine srt_eq hp ha.srt hb.srt ?_
 intro x hx y hy h1 h2
 obtain ⟨i, hi', rfl⟩ := List.getElem_of_mem hx
 obtain ⟨k, hk', rfl⟩ := List.getElem_of_mem hy
 rcases Nat.lt_trichotomy i k with g | g | g
 ·rw [List.pairwise_iff_getElem.1 ha i k hi' hk' g] at h1; cases h1
 ·subst g; rfl
 ·rw [List.pairwise_iff_getElem.1 ha k i hk' hi' g] at h2; cases h2
theorem asked_has {g a : SiteS} (hH : Hist M H) (hg : SInv M H g) (ha : SInv M H a) (he : takeErr a (giveB g (askS a)) = 0) {v : Version} (hv : v ∈ H) (hh : HasOr H g v) (hf : filterIn a.filter v.pt = true) : HasOr H (takeS a (giveB g (askS a))) v := by
 have hI := askI_new ha
 have hB := batI_give hH hg hI
 obtain ⟨_, hst, hve⟩ := sinv_take hH ha hB
 rcases hh with h | h
 ·cases hq : partsIn (askS a).parts v.pt v.dot
  ·refine hve he v ?_
   have e : giveB g (askS a) = ⟨(askS a).site, (askS a).stamp, giveV g (askS a), giveG g (askS a), narrowO (knownP g) (askS a).filter⟩ := by unfold giveB; rw [if_pos hI.ok]
   rw [e]
   refine List.mem_filter.2 ⟨h, ?_⟩
   rw [hq, show filterIn (askS a).filter v.pt = true from hf]; rfl
  ·exact hst.has v hv (hI.snd rfl v hv hq)
 ·exact .inr h
def wantedL (l : List Version) (f : List Box) (me : Int) : List Version := l.filter fun v => filterIn f v.pt || decide (v.dot.site = me)
theorem asked_wanted {g a : SiteS} (hH : Hist M H) (hg : SInv M H g) (ha : SInv M H a) (hfull : FullH H g) (he : takeErr a (giveB g (askS a)) = 0) : (takeS a (giveB g (askS a))).shelf = wantedL g.shelf a.filter a.me := by
 have hI := askI_new ha
 have hB := batI_give hH hg hI
 obtain ⟨hs', hst, _⟩ := sinv_take hH ha hB
 have hsh : (takeS a (giveB g (askS a))).shelf = dropsOut (putsOut a.shelf (giveB g (askS a)).vers) (giveB g (askS a)).gone := by unfold takeS; rw [if_pos he]
 have hgone : (giveB g (askS a)).gone = giveG g (askS a) := by unfold giveB; rw [if_pos hI.ok]
 have hmem : ∀ w, w ∈ (takeS a (giveB g (askS a))).shelf → ∀ x ∈ giveG g (askS a), dropP x w = false := by
  intro w hw x hx
  rw [hsh] at hw
  unfold takeErr at he
  rw [if_pos hB.ok, if_pos hB.me] at he
  have ht : (giveB g (askS a)).stamp = a.stamp := by unfold giveB; rw [if_pos hI.ok]; rfl
  rw [if_pos ht] at he
  obtain ⟨a1, a2, _, _⟩ := takeTail_ok he
  have := ((drops_mem _ _ (putsOut_ok _ _ ha.ok.shelf a1) a2 w).1 hw).2
  rw [hgone] at this
  exact this x hx
 have hin : ∀ v ∈ H, ¬ NM H v → filterIn a.filter v.pt = true → v ∈ (takeS a (giveB g (askS a))).shelf := fun v hv hn hf => (asked_has hH hg ha he hv (hfull v hv) hf).resolve_right hn
 have hown : ∀ v ∈ H, ¬ NM H v → v.dot.site = a.me → v ∈ (takeS a (giveB g (askS a))).shelf := fun v hv hn hm => (hst.has v hv (own_has hH ha hv hm)).resolve_right hn
 refine inc_ext hs'.ok.shelf.inc (hg.ok.shelf.inc.filter _) fun v => ?_
 unfold wantedL
 rw [List.mem_filter, Bool.or_eq_true, decide_eq_true_eq]
 constructor
 ·intro hv
  have hvH := hs'.sub v hv
  have hn : ¬ NM H v := by
   intro hn
   obtain ⟨u, hu, ho, hq⟩ := hn.top hH hvH
   cases hf : filterIn a.filter u.pt
   ·have hug := (hfull u hu).resolve_right hq
    have := hmem v hv (goneOf u) (List.mem_map.2 ⟨u, List.mem_filter.2 ⟨hug, by rw [show filterIn (askS a).filter u.pt = false from hf]; rfl⟩, rfl⟩)
    rw [drop_goneOf, ho] at this
    cases this
   ·rw [over_none hs'.ok.shelf.new (hin u hu hq hf) hv] at ho
    cases ho
  refine ⟨(full_shelf hH hg hfull hvH).2 hn, ?_⟩
  have := hs'.fil v hv
  rw [hst.filter, hst.me] at this
  exact this
 ·rintro ⟨hv, hc⟩
  have hvH := hg.sub v hv
  have hn := (full_shelf hH hg hfull hvH).1 hv
  rcases hc with hc | hc
  ·exact hin v hvH hn hc
  ·exact hown v hvH hn hc
end
end Go.Proofs.YtngbfdogiciahaaGreat
