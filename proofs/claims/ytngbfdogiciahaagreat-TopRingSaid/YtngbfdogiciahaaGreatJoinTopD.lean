/- Several texts in one: data, readings, plain laws, walks. No condition. -/
import Derived.Test.YtngbfdogiciahaaGreatTopC
import Derived.Test.YtngbfdogiciahaaGreatSiteG
namespace Go.Proofs.YtngbfdogiciahaaGreat
open Go Go.RowKit
section
variable {M : Int → Int} {H : List Version} {s : SiteS}
theorem putErr_or {l : List Version} {v : Version} (hl : ShelfOk l) (hv : VerOk v) : putErr l v = 0 ∨ putErr l v = 2 := by
 unfold putErr
 rw [if_pos (shelfCheck_of hl), if_pos (verErr_iff.2 hv)]
 split
 ·exact .inl rfl
 ·split
  ·exact .inr rfl
  ·exact .inl rfl
theorem putsErr_or : ∀ (vs l : List Version), ShelfOk l → (∀ v ∈ vs, VerOk v) → putsErr l vs = 0 ∨ putsErr l vs = 2
 | [], _, _, _ => .inl rfl
 | v :: r, l, hl, hv => by
  rw [putsErr]
  by_cases h1 : putErr l v = 0
  ·rw [if_pos h1]
   exact putsErr_or r _ (putOut_ok h1).2.2.1 (fun w hw => hv w (by simp [hw]))
  ·rw [if_neg h1]
   exact putErr_or hl (hv v (by simp))
theorem dropsErr_no : ∀ (gs : List Gone) (l : List Version), ShelfOk l → (∀ g ∈ gs, GoneOk g) → dropsErr l gs = 0
 | [], _, _, _ => rfl
 | g :: r, l, hl, hg => by
  have h1 : dropErr l g = 0 := by unfold dropErr; rw [if_pos (shelfCheck_of hl)]; exact goneErr_iff.2 (hg g (by simp))
  rw [dropsErr, if_pos h1]
  exact dropsErr_no r _ (dropOut_ok hl h1).1 (fun x hx => hg x (by simp [hx]))
theorem takeErr_or {b : Batch} (hs : SiteOk s) (hb : batchErr b = 0) (hm : b.site = s.me) (ht : b.stamp = s.stamp) : takeErr s b = 0 ∨ takeErr s b = 2 := by
 obtain ⟨hbt, _⟩ := batchErr_ok hb
 unfold takeErr
 rw [if_pos hb, if_pos hm, if_pos ht]
 unfold takeTail
 by_cases h1 : putsErr s.shelf b.vers = 0
 ·rw [if_pos h1, if_pos (dropsErr_no _ _ (putsOut_ok _ _ hs.shelf h1) hbt.gone)]
  by_cases h2 : joinPE s.parts b.parts = 0
  ·rw [if_pos h2]
   split
   ·exact .inr rfl
   ·exact .inl rfl
  ·rw [if_neg h2]
   unfold joinPE partsTwo at h2 ⊢
   rw [if_pos (partsCheck_of (Nat.le_trans hs.lp (by decide)) hs.parts), if_pos (partsCheck_of hbt.lp hbt.parts)] at h2 ⊢
   split
   ·exact .inr rfl
   ·exact .inl rfl
 ·rw [if_neg h1]
  exact putsErr_or _ _ hs.shelf hbt.vers
theorem makeErr_or (hH : Hist M H) (hs : SInv M H s) {id : ByteArray} {p : Point} {body : Int} (hi : idOk id = true) (hp : pointOk p = true) (hb : bodyOk body = true) : makeErr s id p body = 0 ∨ makeErr s id p body = 2 := by
 have h0 := shelfCheck_of hs.ok.shelf
 unfold makeErr
 rw [if_pos hi, if_pos (by rw [hp, hb]; rfl)]
 by_cases h3 : s.made = 1000
 ·rw [if_pos h3]; exact .inr rfl
 ·rw [if_neg h3]
  have he : pastErr s.shelf id = toldErr (pastS (getL s.shelf id)) := by unfold pastErr; rw [if_pos h0]
  by_cases h4 : pastErr s.shelf id = 0
  ·rw [if_pos h4]
   refine putErr_or hs.ok.shelf ?_
   have e1 : toldErr (pastS (getL s.shelf id)) = 0 := he ▸ h4
   have e2 : pastKn s.shelf id = formOf (refPast (getL s.shelf id)) := by
    unfold pastKn; rw [if_pos h0, told_zero e1]
    exact past_form fun v hv => hs.ok.shelf.all v (List.mem_filter.1 hv).1
   have e3 : (pastS (getL s.shelf id)).more.length ≤ 60 := by
    unfold toldErr at e1
    by_cases hh : (pastS (getL s.shelf id)).more.length ≤ 60
    ·exact hh
    ·rw [if_neg hh] at e1; cases e1
   have m0 := hs.ok.made0
   have m1 := hs.ok.made1
   have hd : dotOk (⟨s.me, s.made + 1⟩ : Dot) = true := dotOk_iff.2 ⟨hs.ok.me0, hs.ok.me4, by show 1 ≤ s.made + 1; omega, by show s.made + 1 ≤ 1000; omega⟩
   refine ⟨hi, hd, hp, hb, ?_, ?_⟩
   ·show KnowOk (pastKn s.shelf id)
    rw [e2]
    refine formOf_ok _ ?_
    rw [← past_form (l := getL s.shelf id) fun v hv => hs.ok.shelf.all v (List.mem_filter.1 hv).1]
    exact e3
   ·show inK (pastKn s.shelf id) ⟨s.me, s.made + 1⟩ = false
    cases hq : inK (pastKn s.shelf id) ⟨s.me, s.made + 1⟩
    ·rfl
    ·obtain ⟨x, hx, _, h⟩ := (past_has hs.ok.shelf.all hs.ok.shelf h4 hd).1 hq
     have hn := new_dot hs id p body
     rcases h with h | h
     ·exact absurd (hH.past x (hs.sub x hx) _ hd h) hn
     ·have := hH.ex x (hs.sub x hx)
      rw [h] at this
      exact absurd this hn
  ·rw [if_neg h4, he]
   exact toldErr_or _
theorem top_above (hH : Hist M H) : ∀ (n : Nat) (v : Version), v ∈ H → (H.filter fun x => over x v).length ≤ n → NM H v → ∃ u ∈ H, over u v = true ∧ ¬ NM H u
 | 0, v, hv, hn, h => by
  obtain ⟨u, hu, ho⟩ := h
  have : u ∈ H.filter fun x => over x v := List.mem_filter.2 ⟨hu, ho⟩
  have h0 := List.eq_nil_of_length_eq_zero (Nat.le_zero.1 hn)
  rw [h0] at this
  cases this
 | n + 1, v, hv, hn, h => by
  obtain ⟨u, hu, ho⟩ := h
  by_cases hq : NM H u
  ·have hlt : (H.filter fun x => over x u).length < (H.filter fun x => over x v).length := by
    have hsub : (H.filter fun x => over x u) = (H.filter fun x => over x v).filter fun x => over x u := by
     rw [List.filter_filter]
     apply List.filter_congr
     intro x hx
     cases hxu : over x u
     ·rfl
     ·rw [hH.trans x hx u hu v hv hxu ho]; rfl
    rw [hsub]
    have hex : ∃ x ∈ (H.filter fun x => over x v), ¬ over x u = true := ⟨u, List.mem_filter.2 ⟨hu, ho⟩, by rw [over_self (hH.ok u hu)]; simp⟩
    exact List.length_filter_lt_length_iff_exists.2 hex
   obtain ⟨x, hx, h1, h2⟩ := top_above hH n u hu (by omega) hq
   exact ⟨x, hx, hH.trans x hx u hu v hv h1 ho, h2⟩
  ·exact ⟨u, hu, ho, hq⟩
def FullH (H : List Version) (s : SiteS) : Prop := ∀ v ∈ H, HasOr H s v
theorem NM.top (hH : Hist M H) {v : Version} (hv : v ∈ H) (h : NM H v) : ∃ u ∈ H, over u v = true ∧ ¬ NM H u := top_above hH _ v hv (Nat.le_refl _) h
theorem own_has (hH : Hist M H) (hs : SInv M H s) {v : Version} (hv : v ∈ H) (hm : v.dot.site = s.me) : HasOr H s v := by
 have hvo := hH.ok v hv
 refine hs.snd v hv ?_
 unfold kn
 have he := hH.ex v hv
 unfold Ex at he
 rw [hm, hs.made] at he
 rw [cov_known hvo.pt hvo.dot hs.ok, decide_eq_true hm, decide_eq_true he]
 rfl
theorem full_shelf (hH : Hist M H) (hs : SInv M H s) (hf : FullH H s) {v : Version} (hv : v ∈ H) : v ∈ s.shelf ↔ ¬ NM H v := by
 constructor
 ·intro h hn
  obtain ⟨u, hu, ho, hq⟩ := hn.top hH hv
  have hus := (hf u hu).resolve_right hq
  rw [over_none hs.ok.shelf.new hus h] at ho
  cases ho
 ·intro h
  exact (hf v hv).resolve_right h
theorem inc_ext {a b : List Version} (ha : Inc a) (hb : Inc b) (h : ∀ v, v ∈ a ↔ v ∈ b) : a = b := by
 have nd : ∀ {l : List Version}, Inc l → l.Nodup := fun hl => hl.imp fun {x y} hxy e => by rw [e, verLt_irr] at hxy; cases hxy
 have hp : a.Perm b := (List.perm_ext_iff_of_nodup (nd ha) (nd hb)).2 h
 refine srt_eq hp ha.srt hb.srt ?_
 intro x hx y hy h1 h2
 obtain ⟨i, hi', rfl⟩ := List.getElem_of_mem hx
 obtain ⟨k, hk', rfl⟩ := List.getElem_of_mem hy
 rcases Nat.lt_trichotomy i k with g | g | g
 ·rw [List.pairwise_iff_getElem.1 ha i k hi' hk' g] at h1; cases h1
 ·subst g; rfl
 ·rw [List.pairwise_iff_getElem.1 ha k i hk' hi' g] at h2; cases h2
theorem asked_has {g a : SiteS} (hH : Hist M H) (hg : SInv M H g) (ha : SInv M H a) (he : takeErr a (giveB g (askS a)) = 0) {v : Version} (hv : v ∈ H) (hh : HasOr H g v) (hf : filterIn a.filter v.pt = true) : HasOr H (takeS a (giveB g (askS a))) v := by
 have hI := askI_new ha
 have hB := batI_give hH hg hI
 obtain ⟨_, hst, hve⟩ := sinv_take hH ha hB
 rcases hh with h | h
 ·cases hq : partsIn (askS a).parts v.pt v.dot
  ·refine hve he v ?_
   have e : giveB g (askS a) = ⟨(askS a).site, (askS a).stamp, giveV g (askS a), giveG g (askS a), narrowO (knownP g) (askS a).filter⟩ := by unfold giveB; rw [if_pos hI.ok]
   rw [e]
   refine List.mem_filter.2 ⟨h, ?_⟩
   rw [hq, show filterIn (askS a).filter v.pt = true from hf]; rfl
  ·exact hst.has v hv (hI.snd rfl v hv hq)
 ·exact .inr h
end
end Go.Proofs.YtngbfdogiciahaaGreat
namespace Go.Proofs.YtngbfdogiciahaaGreat
open Go Go.RowKit
def RBoxes (B : Nat) (w : World) (cs : List Value) (l : List Box) : Prop := ∃ v, cs = [v] ∧ IsBoxes B w v l
theorem RBoxes.mono {B : Nat} {ts : List TypeId} (h1 : 137 ∉ ts) (h2 : 142 ∉ ts) : Mono B ts (RBoxes B) := by
 rintro w w' cs l x ⟨v, rfl, hv⟩
 exact ⟨v, rfl, hv.chg (RBox.mono h1) h2 x⟩
theorem RBoxes.monoE {B : Nat} : Mono B [] (RBoxes B) := RBoxes.mono (by simp) (by simp)
theorem RBoxes.oneC {B : Nat} : OneC (RBoxes B) := by
 rintro w cs l ⟨v, rfl, A, c, rfl, _⟩ u hu
 simp at hu
 subst hu; rfl
abbrev SlFils (B : Nat) := Sl B 30 (RBoxes B) 1
theorem ei_fils : ElemInfo Tryz.prog 22 30 1 24 := ElemInfo.mk_ (z := .slice none 0 0) Tryz.underlying22 (by kernel_rfl) rfl (by decide)
theorem Sl.fil {B : Nat} {w : World} {A : Option Addr} {l : List (List Box)} (h : SlFils B w A l) {i : Nat} (hi : i < l.length) : ∃ b off Af cf, A = some ⟨b, off, none⟩ ∧ b < w.heap.size ∧ w.cell? ⟨b, off + i, none⟩ = some (.slice Af l[i].length cf) ∧ l[i].length ≤ cf ∧ cf ≤ maxLen ∧ SlBoxes B w Af l[i] := by
 obtain ⟨b, off, cs, hA, hb, _, hc, hR⟩ := h.at_ hi
 obtain ⟨v, rfl, Af, cf, rfl, h1, h2, h3⟩ := hR
 have := hc 0 _ rfl
 rw [Nat.mul_one, Nat.add_zero] at this
 exact ⟨b, off, Af, cf, hA, hb, this, h1, h2, h3⟩
def RPtr (_ : World) (cs : List Value) (r : Nat) : Prop := cs = [.pointer (some ⟨r, 0, none⟩)]
theorem RPtr.mono {B : Nat} {ts : List TypeId} : Mono B ts RPtr := fun _ _ _ _ _ h => h
theorem RPtr.oneC : OneC RPtr := by
 rintro w cs x rfl u hu
 simp at hu; subst hu; rfl
abbrev SlPtrs (B : Nat) := Sl B 59 RPtr 1
theorem ei_ptrs : ElemInfo Tryz.prog 54 59 1 8 := ElemInfo.mk_ (z := .pointer none) Tryz.underlying54 (by kernel_rfl) rfl (by decide)
structure Sites (B : Nat) (w : World) (rs : List Nat) (L : List SiteS) : Prop where
 len : rs.length = L.length
 inj : ∀ (i j r : Nat), rs[i]? = some r → rs[j]? = some r → i = j
 at_ : ∀ (i r : Nat) (s : SiteS), rs[i]? = some r → L[i]? = some s → B ≤ r ∧ IsSite B w r s
theorem Sites.ext {B : Nat} {w w' : World} {rs : List Nat} {L : List SiteS} (h : Sites B w rs L) (x : Ext w w') : Sites B w' rs L := ⟨h.len, h.inj, fun i r s a b => ⟨(h.at_ i r s a b).1, (h.at_ i r s a b).2.ext x⟩⟩
theorem Sites.set {B : Nat} {w w' : World} {rs : List Nat} {L : List SiteS} (h : Sites B w rs L) {i r : Nat} {s s' : SiteS} (hr : rs[i]? = some r) (hs : L[i]? = some s) (x : Fr r w w') (hn : IsSite B w' r s') : Sites B w' rs (L.set i s') := by
 have hi := h.at_ i r s hr hs
 refine ⟨by rw [List.length_set]; exact h.len, h.inj, fun j q t hq ht => ?_⟩
 by_cases e : j = i
 ·subst e
  rw [hr] at hq
  injection hq with hq
  subst hq
  rw [List.getElem?_set_self (by rw [← h.len]; exact (List.getElem?_eq_some_iff.1 hr).1)] at ht
  injection ht with ht
  subst ht
  exact ⟨hi.1, hn⟩
 ·rw [List.getElem?_set_ne (fun e' => e e'.symm)] at ht
  have hj := h.at_ j q t hq ht
  exact ⟨hj.1, hj.2.other x hi.2.ty hi.1 (fun e' => e (h.inj j i r (e' ▸ hq) hr))⟩
theorem Fr.chgS {B : Nat} {w w' : World} {r : Nat} {s : SiteS} (x : Fr r w w') (h : IsSite B w r s) (hB : B ≤ r) : Chg B [159] w w' := x.chg h.ty hB
theorem top_begun (B : Nat) (w : World) (hB : B ≤ w.heap.size) : Calls Tryz.prog 8 #[] w fun e w' => e = .returned (.bool true) ∧ Ext w w' := by
 go_enter Tryz.func8, Tryz.ntmps8
 go_wp2_with fail
 refine (filter_Every B _ hB).mono ?_
 rintro e w1 ⟨v1, rfl, hv1, hx1⟩
 obtain ⟨E, hE⟩ : ∃ E, E = everyF := ⟨_, rfl⟩
 rw [← hE] at hv1
 obtain ⟨A1, c1, rfl, h1, h2, hv1⟩ := hv1
 have hc : filterCount E = 512 := by rw [hE]; decide +kernel
 have hk : filterCheck E = 0 := by rw [hE]; exact every_check
 clear hE
 go_wp2_with fail
 refine (filter_Count B A1 c1 E _ (Nat.le_trans h1 h2) hv1).mono ?_
 rintro e w2 ⟨rfl, hx2⟩
 rw [hc, hk]
 go_wp2_with fail
 go_ret
 exact ⟨rfl, hx1.trans hx2⟩
set_option maxRecDepth 100000 in
theorem clone_fils (B : Nat) (A : Option Addr) (c : Nat) (l : List (List Box)) (w : World) (hB : B ≤ w.heap.size) (hl : l.length ≤ 1000000) (h : Sl B 30 (RBoxes B) 1 w A l) :
  Calls Tryz.prog 11 #[.slice A l.length c] w fun e w' => ∃ v, e = .returned v ∧ Own (RBoxes B) 1 30 w' w.heap.size v l ∧ Ext w w' := by
 cases A with
 | none =>
  obtain rfl : l = [] := Sl.none_nil h
  have he : ∀ w : World, (binOp .eql 22 (.slice none 0 c) (.slice none 0 0)).run Tryz.prog w = .ok (.bool true) w := fun _ => rfl
  go_enter Tryz.func11, Tryz.ntmps11
  go_wp2_with fail
  go_ret
  exact ⟨_, rfl, Own.nil, Ext.refl _⟩
 | some a =>
  have he : ∀ w : World, (binOp .eql 22 (.slice (some a) l.length c) (.slice none 0 0)).run Tryz.prog w = .ok (.bool false) w := fun _ => rfl
  have hx0 := (Ext.refl w).alloc (.cells #[] 30)
  go_enter Tryz.func11, Tryz.ntmps11
  go_wp2_with (at_builtin; refine wpList_app (ys := l) (B := B) rfl _ _ rfl ei_fils rfl (Own.empty (Nat.le_refl _)) hB hx0.size rfl (h.ext RBoxes.monoE hx0) RBoxes.oneC (RBoxes.mono (by decide) (by decide)) ?_ ?_ ?_)
  ·simp [maxLen]; omega
  ·simp; omega
  ·intro v w2 ho hc hb _
   have hx := hx0.below hb (Nat.le_refl _)
   clear hc hb
   go_wp2_with fail
   go_ret
   exact ⟨_, rfl, ho, hx⟩
def freshL (G : List (List Box)) : List SiteS := G.mapIdx fun i f => siteNew (i : Int) f
theorem freshL_take {G : List (List Box)} {k : Nat} (hk : k < G.length) : freshL (G.take (k + 1)) = freshL (G.take k) ++ [siteNew (k : Int) G[k]] := by
 unfold freshL
 rw [List.take_succ_eq_append_getElem hk, List.mapIdx_concat, List.length_take, Nat.min_eq_left (by omega)]
theorem freshL_len (G : List (List Box)) : (freshL G).length = G.length := List.length_mapIdx
theorem IsSite.chgP {B : Nat} {w w' : World} {r : Nat} {s : SiteS} (h : IsSite B w r s) (x : Chg B [59] w w') : IsSite B w' r s := by
 obtain ⟨Af, cf, Ax, cx, Ap, cp, h⟩ := h
 have ht := h.blk.ty
 refine ⟨Af, cf, Ax, cx, Ap, cp, ?_, h.sf.chg (RBox.mono (by decide)) (by decide) x, h.sx.chg (RVer.mono (by decide) (by decide)) (by decide) x, h.sp.chg (RPart.mono (by decide) (by decide) (by decide) (by decide)) (by decide) x⟩
 exact h.blk.chg x (by decide)
theorem Sites.chgP {B : Nat} {w w' : World} {rs : List Nat} {L : List SiteS} (h : Sites B w rs L) (x : Chg B [59] w w') : Sites B w' rs L := ⟨h.len, h.inj, fun i r s a b => ⟨(h.at_ i r s a b).1, (h.at_ i r s a b).2.chgP x⟩⟩
theorem Sites.push {B : Nat} {w : World} {rs : List Nat} {L : List SiteS} (h : Sites B w rs L) {r : Nat} {s : SiteS} (hn : r ∉ rs) (hB : B ≤ r) (hs : IsSite B w r s) : Sites B w (rs ++ [r]) (L ++ [s]) := by
 have hl := h.len
 have hc : ∀ (i q : Nat), (rs ++ [r])[i]? = some q → (i < rs.length ∧ rs[i]? = some q) ∨ (i = rs.length ∧ q = r) := by
  intro i q hq
  rcases Nat.lt_or_ge i rs.length with g | g
  ·rw [List.getElem?_append_left g] at hq
   exact .inl ⟨g, hq⟩
  ·rw [List.getElem?_append_right g] at hq
   obtain ⟨g2, g3⟩ := List.getElem?_eq_some_iff.1 hq
   have g4 : i - rs.length = 0 := by simp at g2; omega
   exact .inr ⟨by omega, by simp only [g4, List.getElem_cons_zero] at g3; exact g3.symm⟩
 refine ⟨by simp [hl], fun i j q hi hj => ?_, fun i q t hi hj => ?_⟩
 ·rcases hc i q hi with ⟨_, a⟩ | ⟨a, b⟩ <;> rcases hc j q hj with ⟨_, c⟩ | ⟨c, d⟩
  ·exact h.inj i j q a c
  ·exact absurd (List.mem_of_getElem? a) (d ▸ hn)
  ·exact absurd (List.mem_of_getElem? c) (b ▸ hn)
  ·omega
 ·rcases hc i q hi with ⟨a, b⟩ | ⟨a, b⟩
  ·rw [List.getElem?_append_left (by omega)] at hj
   exact h.at_ i q t b hj
  ·rw [List.getElem?_append_right (by omega), show i - L.length = 0 by omega] at hj
   simp at hj
   subst hj
   exact ⟨by omega, b ▸ hs⟩
set_option maxRecDepth 100000 in
set_option maxHeartbeats 1000000 in
theorem top_sites (B : Nat) (A : Option Addr) (c : Nat) (l : List (List Box)) (w : World) (hB : B ≤ w.heap.size) (hl : l.length ≤ 3) (hok : ∀ f ∈ l, filterCheck f = 0) (h : SlFils B w A l) :
  Calls Tryz.prog 24 #[.slice A l.length c] w fun e w' => ∃ v rs, e = .returned (.tuple #[v, .bool true]) ∧ IsSl B 59 RPtr 1 w' v rs ∧ Sites B w' rs (freshL (l ++ [everyF])) ∧ Ext w w' := by
 have HOK := hid (show ∀ f ∈ l ++ [everyF], filterCheck f = 0 from fun f hf => (List.mem_append.1 hf).elim (hok f) fun h => by rw [List.mem_singleton.1 h]; exact every_check)
 have HL := hid hl
 clear hok hl
 go_enter Tryz.func24, Tryz.ntmps24
 go_wp2_with fail
 refine (clone_fils B A c l w hB (by have := HL.out; omega) h).mono ?_
 rintro e w1 ⟨v1, rfl, ho, hx⟩
 obtain ⟨A1, c1, rfl, o1, o2⟩ := ho.len
 have H12 := hid (And.intro o1 o2)
 clear o1 o2
 go_wp2_with fail
 refine (filter_Every B _ (Nat.le_trans hB hx.size)).mono ?_
 rintro e w2 ⟨v2, rfl, ⟨A2, c2, rfl, h1, h2, hv2⟩, hx2⟩
 obtain ⟨x, hxe⟩ : ∃ x, x = everyF := ⟨_, rfl⟩
 rw [← hxe] at h1 hv2 HOK ⊢
 have HX := hid hxe
 clear hxe
 have H34 := hid (And.intro h1 h2)
 clear h1 h2
 have hxa := hx2.trans ((Ext.refl w2).alloc (.cells #[.slice A2 x.length c2] 30))
 have hone : SlFils B (w2.alloc (.cells #[.slice A2 x.length c2] 30)) (some ⟨w2.heap.size, 0, none⟩) [x] := Sl.one (R := RBoxes B) (B := B) (cs := [.slice A2 x.length c2]) rfl rfl ⟨_, rfl, A2, c2, rfl, H34.out.1, H34.out.2, hv2.ext RBox.monoE ((Ext.refl _).alloc _)⟩
 replace ho := ho.ext RBoxes.monoE hxa
 replace hx := hx.trans hxa
 clear hxa hx2 hv2
 go_wp2_with (at_builtin; refine wpList_app (ys := [x]) rfl _ _ rfl ei_fils rfl ho hB hx.size rfl hone RBoxes.oneC (RBoxes.mono (by decide) (by decide)) ?_ ?_ ?_)
 ·have := HL.out; simp [maxLen]; omega
 ·have := HL.out; simp; omega
 ·intro v3 w3 ho3 hc3 hb3 _
  replace hx := hx.below hb3 (Nat.le_refl _)
  clear hc3 hb3 ho hone
  obtain ⟨G, hG⟩ : ∃ G, G = l ++ [x] := ⟨_, rfl⟩
  have HG4 := hid (show G.length ≤ 4 by rw [hG]; have := HL.out; simp; omega)
  rw [← hG] at ho3 HOK
  have HG := hid (show G = l ++ [everyF] by rw [hG, HX.out])
  clear hG
  obtain ⟨A3, c3, rfl, o3, o4⟩ := ho3.len
  have hs3 : SlFils B w3 A3 G := ho3.sl B
  clear o3 o4 ho3
  go_wp2_with fail
  go_loopw [4, 15] (fun o i wr => ∃ (k : Nat) (rs : List Nat), k ≤ G.length ∧ i = .int .i64 k ∧ Own RPtr 1 59 wr w3.heap.size o rs ∧ Sites B wr rs (freshL (G.take k)) ∧ Ext w3 wr) (fun _ i _ => G.length - (intOf i).toNat)
  case atStart => exact ⟨0, [], Nat.zero_le _, rfl, Own.nil, ⟨rfl, by simp, by simp⟩, Ext.refl _⟩
  case round =>
   obtain ⟨k, rs, hk, rfl, ho, hss, hx3⟩ := hrel
   have hw1 : wrap64 ((k : Int) + 1) = ((k + 1 : Nat) : Int) := by have := HG4.out; unfold wrap64; omega
   by_cases hlt : k < G.length
   ·obtain ⟨b, off, Af, cf, rfl, hbl, g0, g1, g2, hf⟩ := (hs3.ext RBoxes.monoE hx3).fil hlt
    have H0 := hid (HOK.out _ (List.getElem_mem hlt))
    have HSU := hid (freshL_take hlt)
    go_wp2_with fail
    refine (site_New B (k : Int) Af cf G[k] wr (Nat.le_trans hB (Nat.le_trans hx.size hx3.size)) (Nat.le_trans g1 g2) hf).mono ?_
    rintro e w4 ⟨hr, hx4⟩
    have he : siteErr (k : Int) G[k] = 0 := by
     unfold siteErr
     rw [if_pos (by have := HG4.out; omega)]
     exact H0.out
    obtain ⟨r, hrw, rfl, hsr⟩ : ∃ r, wr.heap.size ≤ r ∧ e = .returned (.tuple #[.pointer (some ⟨r, 0, none⟩), .int .i64 0]) ∧ IsSite B w4 r (siteNew (k : Int) G[k]) := by
     rcases hr with ⟨hr, _⟩ | ⟨_, hr⟩
     ·exact absurd he hr
     ·exact hr
    have hn : r ∉ rs := by
     intro hm
     obtain ⟨i, hi, hri⟩ := List.getElem_of_mem hm
     have hl := hss.len
     have := (hss.at_ i r _ (List.getElem?_eq_some_iff.2 ⟨hi, hri⟩) (List.getElem?_eq_getElem (by omega))).2.lt
     omega
    replace hss := (hss.ext hx4).push hn (Nat.le_trans hB (Nat.le_trans hx.size (Nat.le_trans hx3.size hrw))) hsr
    rw [← HSU.out] at hss
    replace ho := ho.ext (B := B) RPtr.mono hx4
    replace hx3 := hx3.trans hx4
    have hlen : rs.length ≤ 3 := by
     have h5 := hss.len
     rw [freshL_len, List.length_take] at h5
     have := HG4.out
     simp at h5
     omega
    have HLEN := hid hlen
    clear hr he hsr hrw hn hx4 hlen g0 g1 g2 hf
    have hxa := (Ext.refl w4).alloc (.cells #[.pointer (some ⟨r, 0, none⟩)] 59)
    have hone : SlPtrs B (w4.alloc (.cells #[.pointer (some ⟨r, 0, none⟩)] 59)) (some ⟨w4.heap.size, 0, none⟩) [r] := Sl.one (R := RPtr) (B := B) (cs := [.pointer (some ⟨r, 0, none⟩)]) rfl rfl rfl
    go_wp2_with (at_builtin; refine wpList_app (ys := [r]) rfl _ _ rfl ei_ptrs rfl (ho.ext (B := B) RPtr.mono hxa) (Nat.le_trans hB hx.size) (hx3.trans hxa).size rfl hone RPtr.oneC RPtr.mono ?_ ?_ ?_)
    ·have := HLEN.out; simp [maxLen]; omega
    ·have := HLEN.out; simp; omega
    ·intro v5 w5 ho5 hc5 hb5 _
     replace hx3 := (hx3.trans hxa).below hb5 (Nat.le_refl _)
     replace hss := (hss.ext hxa).chgP hc5
     clear hc5 hb5 hxa hone ho
     go_wp2_with fail
     go_roundw
     case rel => exact ⟨k + 1, rs ++ [r], by omega, by rw [hw1], ho5, hss, hx3⟩
     case measure => rw [hw1]; simp only [intOf, Int.toNat_natCast]; omega
   ·obtain rfl : k = G.length := by omega
    rw [List.take_length] at hss
    go_wp2_with fail
    go_ret2
    exact ⟨_, rs, rfl, ho.isSl B, HG.out ▸ hss, hx.trans hx3⟩
end Go.Proofs.YtngbfdogiciahaaGreat
