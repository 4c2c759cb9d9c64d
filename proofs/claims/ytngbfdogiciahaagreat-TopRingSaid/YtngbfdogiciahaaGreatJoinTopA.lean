/- Several texts in one: data, readings, plain laws, walks. No condition. -/
import Derived.Test.YtngbfdogiciahaaGreatJoinSiteP
namespace Go.Proofs.YtngbfdogiciahaaGreat
open Go Go.RowKit
theorem part_nums {p : Point} {d : Dot} (hp : pointOk p = true) (hd : dotOk d = true) : ∃ i s c : Nat, i < 512 ∧ s < 5 ∧ c < 1024 ∧ 1 ≤ c ∧ i = (32 * p.tags + p.num).toNat ∧ d = ⟨(s : Int), (c : Int)⟩ := by
 obtain ⟨h1, h2, h3, h4⟩ := pointOk_iff.1 hp
 obtain ⟨g1, g2, g3, g4⟩ := dotOk_iff.1 hd
 obtain ⟨s, hs⟩ := Int.eq_ofNat_of_zero_le g1
 obtain ⟨c, hc⟩ := Int.eq_ofNat_of_zero_le (show 0 ≤ d.count by omega)
 exact ⟨_, s, c, by omega, by omega, by omega, by omega, rfl, Dot.ext' hs hc⟩
theorem partIn_mean {p : Point} {d : Dot} (x : Part) (hp : pointOk p = true) {s c : Nat} (hc : 1 ≤ c) (hd : d = ⟨(s : Int), (c : Int)⟩) : partIn p d x = ((meanOf x).P (32 * p.tags + p.num).toNat && (meanOf x).K s c) := by
 subst hd
 unfold partIn meanOf
 rw [filterIn_pts x.filter hp, inK_has x.know s c hc]
theorem cov_under {p : Point} {d : Dot} (hp : pointOk p = true) (hd : dotOk d = true) {x y : Part} (hx : PartOk x) (hy : PartOk y) (h : underP x y = true) (hc : partIn p d x = true) : partIn p d y = true := by
 obtain ⟨i, s, c, h1, h2, h3, h4, h5, h6⟩ := part_nums hp hd
 rw [under_says (says_mean hx) (says_mean hy)] at h
 rw [partIn_mean x hp h4 h6] at hc
 rw [partIn_mean y hp h4 h6]
 rw [← h5] at hc ⊢
 unfold underR at h
 rw [Bool.and_eq_true, eqD_iff, eqWords_iff, allTo_iff] at h
 rw [Bool.and_eq_true] at hc ⊢
 have a := h.1 s h2 c h3
 have b := h.2 i h1
 simp only [andD] at a
 rw [hc.2] at a
 rw [hc.1] at b
 simp at a b
 exact ⟨b, a⟩
theorem cov_none {p : Point} {d : Dot} (hp : pointOk p = true) (hd : dotOk d = true) {x : Part} (hx : PartOk x) (h : noneP x = true) : partIn p d x = false := by
 obtain ⟨i, s, c, h1, h2, h3, h4, h5, h6⟩ := part_nums hp hd
 rw [none_says (says_mean hx)] at h
 rw [partIn_mean x hp h4 h6, ← h5]
 unfold noneR at h
 rw [Bool.or_eq_true, eqD_iff, eqWords_iff, allTo_iff] at h
 rcases h with h | h
 ·have := h i h1
  simp at this
  rw [this]; rfl
 ·rw [h s h2 c h3, Bool.and_false]
theorem cov_step {p : Point} {d : Dot} (hp : pointOk p = true) (hd : dotOk d = true) {out : List Part} {x : Part} (ho : ∀ y ∈ out, PartOk y) (hx : PartOk x) : (fewStep out x).any (partIn p d) = (out.any (partIn p d) || partIn p d x) := by
 unfold fewStep
 by_cases h : (noneP x || out.any (underP x)) = true
 ·rw [if_pos h]
  rw [Bool.or_eq_true] at h
  rcases h with h | h
  ·rw [cov_none hp hd hx h, Bool.or_false]
  ·cases hq : partIn p d x
   ·rw [Bool.or_false]
   ·rw [Bool.or_true]
    obtain ⟨y, hy, hu⟩ := List.any_eq_true.1 h
    exact List.any_eq_true.2 ⟨y, hy, cov_under hp hd hx (ho y hy) hu hq⟩
 ·rw [if_neg h, List.any_append]
  simp only [List.any_cons, List.any_nil, Bool.or_false]
  cases hq : partIn p d x
  ·rw [Bool.or_false, Bool.or_false, Bool.eq_iff_iff, List.any_eq_true, List.any_eq_true]
   constructor
   ·rintro ⟨y, hy, hc⟩
    exact ⟨y, (List.mem_filter.1 hy).1, hc⟩
   ·rintro ⟨y, hy, hc⟩
    refine ⟨y, List.mem_filter.2 ⟨hy, ?_⟩, hc⟩
    cases hu : underP y x
    ·rfl
    ·rw [cov_under hp hd (ho y hy) hx hu hc] at hq; cases hq
  ·rw [Bool.or_true, Bool.or_true]
theorem fewStep_ok {out : List Part} {x : Part} (ho : ∀ y ∈ out, PartOk y) (hx : PartOk x) : ∀ y ∈ fewStep out x, PartOk y := by
 intro y hy
 unfold fewStep at hy
 split at hy
 ·exact ho y hy
 ·rcases List.mem_append.1 hy with hy | hy
  ·exact ho y (List.mem_filter.1 hy).1
  ·rw [List.mem_singleton.1 hy]; exact hx
theorem cov_fold {p : Point} {d : Dot} (hp : pointOk p = true) (hd : dotOk d = true) : ∀ (l out : List Part), (∀ y ∈ out, PartOk y) → (∀ y ∈ l, PartOk y) → (l.foldl fewStep out).any (partIn p d) = (out.any (partIn p d) || l.any (partIn p d))
 | [], out, _, _ => by simp
 | x :: r, out, ho, hl => by
  rw [List.foldl_cons, cov_fold hp hd r _ (fewStep_ok ho (hl x (by simp))) (fun y hy => hl y (by simp [hy])), cov_step hp hd ho (hl x (by simp)), List.any_cons, Bool.or_assoc]
theorem partIn_plain {p : Point} {d : Dot} (hp : pointOk p = true) {x : Part} (hx : PartOk x) : partIn p d (plainP x) = partIn p d x := by
 unfold partIn plainP
 have hi := pointOk_iff.1 hp
 rw [filterIn_pts _ hp, filterIn_pts _ hp, (plainF_says hx.f).2.2 _ (by omega)]
theorem filterIn_plain {f : List Box} {p : Point} (hp : pointOk p = true) (hf : filterCheck f = 0) : filterIn (plainF f) p = filterIn f p := by
 have hi := pointOk_iff.1 hp
 rw [filterIn_pts _ hp, filterIn_pts _ hp, (plainF_says hf).2.2 _ (by omega)]
theorem filterIn_every {p : Point} (hp : pointOk p = true) : filterIn everyF p = true := by
 have hi := pointOk_iff.1 hp
 rw [filterIn_pts _ hp, every_pts _ (by omega)]
theorem cov_few {p : Point} {d : Dot} (hp : pointOk p = true) (hd : dotOk d = true) {l : List Part} (h : ∀ x ∈ l, PartOk x) : partsIn (fewOut l) p d = partsIn l p d := by
 unfold partsIn fewOut
 rw [List.any_map]
 have e : (fewL l).any (partIn p d ∘ plainP) = (fewL l).any (partIn p d) := by
  rw [Bool.eq_iff_iff, List.any_eq_true, List.any_eq_true]
  constructor
  ·rintro ⟨y, hy, hc⟩
   exact ⟨y, hy, by rw [← partIn_plain hp (h y (fewL_mem hy))]; exact hc⟩
  ·rintro ⟨y, hy, hc⟩
   exact ⟨y, hy, by simp only [Function.comp]; rw [partIn_plain hp (h y (fewL_mem hy))]; exact hc⟩
 rw [e]
 unfold fewL
 rw [cov_fold hp hd l [] (by simp) h]
 simp
theorem cov_narrow {p : Point} {d : Dot} (hp : pointOk p = true) (hd : dotOk d = true) {l : List Part} {f : List Box} (h : ∀ x ∈ l, PartOk x) (hl : l.length ≤ 30) (hf : filterCheck f = 0) : partsIn (narrowO l f) p d = (filterIn f p && partsIn l p d) := by
 rw [(narrow_okP h hl hf).2.1, cov_few hp hd (by
  intro x hx
  obtain ⟨y, hy, rfl⟩ := List.mem_map.1 hx
  exact narrowP_ok (h y hy) hf)]
 unfold partsIn
 rw [List.any_map]
 have hi := pointOk_iff.1 hp
 have e : ∀ x ∈ l, partIn p d (narrowP f x) = (filterIn f p && partIn p d x) := by
  intro x hx
  unfold partIn narrowP
  rw [filterIn_pts _ hp, filterIn_pts _ hp, filterIn_pts _ hp, (meetF_ok (h x hx).f hf).2 _ (by omega)]
  cases pts f (32 * p.tags + p.num).toNat <;> simp
 rw [Bool.eq_iff_iff, List.any_eq_true, Bool.and_eq_true, List.any_eq_true]
 constructor
 ·rintro ⟨x, hx, hc⟩
  simp only [Function.comp] at hc
  rw [e x hx, Bool.and_eq_true] at hc
  exact ⟨hc.1, x, hx, hc.2⟩
 ·rintro ⟨h1, x, hx, hc⟩
  exact ⟨x, hx, by simp only [Function.comp]; rw [e x hx, h1, hc]; rfl⟩
theorem cov_join {p : Point} {d : Dot} (hp : pointOk p = true) (hd : dotOk d = true) {a b : List Part} (h : joinPE a b = 0) : partsIn (joinP a b) p d = (partsIn a p d || partsIn b p d) := by
 obtain ⟨ha, hb, e, _, _⟩ := joinP_ok h
 rw [e, cov_few hp hd (fun x hx => (List.mem_append.1 hx).elim (ha x) (hb x))]
 unfold partsIn
 rw [List.any_append]
theorem inK_own {me made : Int} (h0 : 0 ≤ me) {d : Dot} (hd : dotOk d = true) : inK ⟨ownV me made, []⟩ d = (decide (d.site = me) && decide (d.count ≤ made)) := by
 obtain ⟨g1, g2, g3, g4⟩ := dotOk_iff.1 hd
 unfold inK vecAt ownV
 by_cases h : made = 0
 ·rw [if_pos h, h]
  simp
  intro h5
  omega
 ·rw [if_neg h]
  simp only [List.contains_nil, Bool.or_false]
  rcases Nat.lt_trichotomy d.site.toNat me.toNat with g | g | g
  ·have e1 : (List.replicate me.toNat (0 : Int) ++ [made]).getD d.site.toNat 0 = 0 := by
    simp [List.getD, List.getElem?_append_left (show d.site.toNat < (List.replicate me.toNat (0 : Int)).length by simpa using g), g]
   rw [e1, decide_eq_false (show ¬ d.count ≤ 0 by omega), decide_eq_false (show ¬ d.site = me by omega)]; rfl
  ·have e1 : (List.replicate me.toNat (0 : Int) ++ [made]).getD d.site.toNat 0 = made := by
    rw [g]; simp [List.getD]
   rw [e1, decide_eq_true (show d.site = me by omega), Bool.true_and]
  ·have e1 : (List.replicate me.toNat (0 : Int) ++ [made]).getD d.site.toNat 0 = 0 := by
    rw [List.getD, List.getElem?_eq_none (by simp; omega)]; rfl
   rw [e1, decide_eq_false (show ¬ d.count ≤ 0 by omega), decide_eq_false (show ¬ d.site = me by omega)]; rfl
theorem cov_known {p : Point} {d : Dot} (hp : pointOk p = true) (hd : dotOk d = true) {s : SiteS} (h : SiteOk s) : partsIn (knownP s) p d = ((decide (d.site = s.me) && decide (d.count ≤ s.made)) || partsIn s.parts p d) := by
 unfold knownP
 rw [cov_few hp hd (fun x hx => (List.mem_cons.1 hx).elim (fun e => by rw [e]; exact ownP_ok h) (h.parts x))]
 unfold partsIn
 rw [List.any_cons]
 unfold partIn ownP
 rw [filterIn_every hp, Bool.true_and, inK_own h.me0 hd]
end Go.Proofs.YtngbfdogiciahaaGreat
namespace Go.Proofs.YtngbfdogiciahaaGreat
open Go Go.RowKit
def Ex (M : Int → Int) (d : Dot) : Prop := d.count ≤ M d.site
def NM (H : List Version) (v : Version) : Prop := ∃ u ∈ H, over u v = true
structure Hist (M : Int → Int) (H : List Version) : Prop where
 ok : ∀ v ∈ H, VerOk v
 ex : ∀ v ∈ H, Ex M v.dot
 uniq : ∀ u ∈ H, ∀ v ∈ H, u.dot = v.dot → u = v
 past : ∀ v ∈ H, ∀ d, dotOk d = true → inK v.past d = true → Ex M d
 trans : ∀ u ∈ H, ∀ v ∈ H, ∀ w ∈ H, over u v = true → over v w = true → over u w = true
def kn (s : SiteS) (v : Version) : Bool := partsIn (knownP s) v.pt v.dot
def HasOr (H : List Version) (s : SiteS) (v : Version) : Prop := v ∈ s.shelf ∨ NM H v
structure SInv (M : Int → Int) (H : List Version) (s : SiteS) : Prop where
 ok : SiteOk s
 made : M s.me = s.made
 sub : ∀ v ∈ s.shelf, v ∈ H
 snd : ∀ v ∈ H, kn s v = true → HasOr H s v
 ex : ∀ p d, pointOk p = true → dotOk d = true → partsIn (knownP s) p d = true → Ex M d
 fil : ∀ v ∈ s.shelf, filterIn s.filter v.pt = true ∨ v.dot.site = s.me
theorem over_split {u v : Version} (h : over u v = true) : u.id = v.id ∧ inK u.past v.dot = true := by
 unfold over at h
 rw [Bool.and_eq_true, sEq_iff] at h
 exact h
theorem over_mk {u v : Version} (h : u.id = v.id) (k : inK u.past v.dot = true) : over u v = true := by
 unfold over
 rw [Bool.and_eq_true, sEq_iff]
 exact ⟨h, k⟩
theorem put_stays {M : Int → Int} {H l : List Version} {v : Version} (hH : Hist M H) (hl : ∀ w ∈ l, w ∈ H) (hv : v ∈ H) (he : putErr l v = 0) :
  (∀ w ∈ putOut l v, w = v ∨ w ∈ l) ∧ (∀ w ∈ l, w ∈ putOut l v ∨ NM H w) ∧ (v ∈ putOut l v ∨ NM H v) := by
 obtain ⟨_, hvo, _, e⟩ := putOut_ok he
 rw [e]
 cases ha : putAny l v
 ·rw [if_neg (by simp)]
  refine ⟨fun w hw => (putL_mem hw).imp id (fun h => h.1), fun w hw => ?_, .inl (mem_putL hvo)⟩
  cases ho : over v w
  ·exact .inl (mem_putL' hw ho)
  ·exact .inr ⟨v, hv, ho⟩
 ·rw [if_pos rfl]
  refine ⟨fun w hw => .inr hw, fun w hw => .inl hw, ?_⟩
  unfold putAny at ha
  rw [Bool.or_eq_true] at ha
  rcases ha with ha | ha
  ·unfold sameKey at ha
   obtain ⟨w, hw, hk⟩ := List.any_eq_true.1 ha
   have := hH.uniq w (hl w hw) v hv (verCmp_zero.1 (by simpa using hk)).2
   rw [← this]; exact .inl hw
  ·obtain ⟨w, hw, hk⟩ := List.any_eq_true.1 ha
   exact .inr ⟨w, hl w hw, hk⟩
theorem puts_stays {M : Int → Int} {H : List Version} (hH : Hist M H) : ∀ (vs l : List Version), (∀ w ∈ l, w ∈ H) → (∀ w ∈ vs, w ∈ H) → putsErr l vs = 0 →
  (∀ w ∈ putsOut l vs, w ∈ vs ∨ w ∈ l) ∧ (∀ w ∈ l, w ∈ putsOut l vs ∨ NM H w) ∧ (∀ w ∈ vs, w ∈ putsOut l vs ∨ NM H w)
 | [], l, _, _, _ => ⟨fun w hw => .inr hw, fun w hw => .inl hw, fun w hw => by cases hw⟩
 | v :: r, l, hl, hv, he => by
  rw [putsErr] at he
  by_cases h1 : putErr l v = 0
  ·rw [if_pos h1] at he
   obtain ⟨a1, a2, a3⟩ := put_stays hH hl (hv v (by simp)) h1
   have hl2 : ∀ w ∈ putOut l v, w ∈ H := fun w hw => (a1 w hw).elim (fun e => by rw [e]; exact hv v (by simp)) (hl w)
   obtain ⟨b1, b2, b3⟩ := puts_stays hH r (putOut l v) hl2 (fun w hw => hv w (by simp [hw])) he
   refine ⟨fun w hw => ?_, fun w hw => ?_, fun w hw => ?_⟩
   ·rcases b1 w hw with h | h
    ·exact .inl (by simp [h])
    ·rcases a1 w h with h | h
     ·exact .inl (by simp [h])
     ·exact .inr h
   ·rcases a2 w hw with h | h
    ·exact b2 w h
    ·exact .inr h
   ·rcases List.mem_cons.1 hw with h | h
    ·rw [h]
     rcases a3 with h | h
     ·exact b2 v h
     ·exact .inr h
    ·exact b3 w h
  ·rw [if_neg h1] at he; exact absurd he h1
theorem drops_mem : ∀ (gs : List Gone) (l : List Version), ShelfOk l → dropsErr l gs = 0 → ∀ w, w ∈ dropsOut l gs ↔ (w ∈ l ∧ ∀ g ∈ gs, dropP g w = false)
 | [], l, _, _, w => by simp [dropsOut]
 | g :: r, l, hl, he, w => by
  rw [dropsErr] at he
  by_cases h1 : dropErr l g = 0
  ·rw [if_pos h1] at he
   obtain ⟨a, b⟩ := dropOut_ok hl h1
   rw [dropsOut, drops_mem r _ a he w, b]
   unfold dropL
   rw [List.mem_filter]
   constructor
   ·rintro ⟨⟨h2, h3⟩, h4⟩
    refine ⟨h2, fun g' hg' => ?_⟩
    rcases List.mem_cons.1 hg' with e | e
    ·rw [e]; simpa using h3
    ·exact h4 g' e
   ·rintro ⟨h2, h3⟩
    exact ⟨⟨h2, by simp [h3 g (by simp)]⟩, fun g' hg' => h3 g' (by simp [hg'])⟩
  ·rw [if_neg h1] at he; exact absurd he h1
theorem drop_goneOf (u w : Version) : dropP (goneOf u) w = over u w := by
 unfold dropP over goneOf
 show (sEq w.id u.id && inK u.past w.dot) = (sEq u.id w.id && inK u.past w.dot)
 congr 1
 rw [Bool.eq_iff_iff, sEq_iff, sEq_iff]
 exact ⟨fun h => h.symm, fun h => h.symm⟩
theorem past_has {l : List Version} (hl : ∀ v ∈ l, VerOk v) {id : ByteArray} (hs : ShelfOk l) (he : pastErr l id = 0) {d : Dot} (hd : dotOk d = true) : inK (pastKn l id) d = true ↔ ∃ v ∈ l, v.id = id ∧ (inK v.past d = true ∨ v.dot = d) := by
 have h0 := shelfCheck_of hs
 have e1 : toldErr (pastS (getL l id)) = 0 := by unfold pastErr at he; rw [if_pos h0] at he; exact he
 have e2 : pastKn l id = pastS (getL l id) := by unfold pastKn; rw [if_pos h0]; exact told_zero e1
 have hg : ∀ v ∈ getL l id, VerOk v := fun v hv => hl v (List.mem_filter.1 hv).1
 obtain ⟨g1, g2, g3, g4⟩ := dotOk_iff.1 hd
 obtain ⟨s, hs1⟩ := Int.eq_ofNat_of_zero_le g1
 obtain ⟨c, hc1⟩ := Int.eq_ofNat_of_zero_le (show 0 ≤ d.count by omega)
 have ed : d = ⟨(s : Int), (c : Int)⟩ := Dot.ext' hs1 hc1
 rw [e2, past_form hg, ed, inK_has _ s c (by omega), formOf_has (refPast (getL l id)) s (by omega) c (by omega) (by omega)]
 unfold refPast
 rw [List.any_eq_true]
 constructor
 ·rintro ⟨v, hv, h⟩
  obtain ⟨m1, m2⟩ := List.mem_filter.1 hv
  refine ⟨v, m1, sEq_iff.1 m2, ?_⟩
  rw [Bool.or_eq_true, Bool.and_eq_true, decide_eq_true_eq, decide_eq_true_eq] at h
  rcases h with h | ⟨h1, h2⟩
  ·left; rw [inK_has _ s c (by omega)]; exact h
  ·right
   obtain ⟨k1, k2, k3, k4⟩ := dotOk_iff.1 (hl v m1).dot
   exact Dot.ext' (by show v.dot.site = (s : Int); omega) (by show v.dot.count = (c : Int); omega)
 ·rintro ⟨v, hv, hi, h⟩
  refine ⟨v, List.mem_filter.2 ⟨hv, sEq_iff.2 hi⟩, ?_⟩
  rw [Bool.or_eq_true, Bool.and_eq_true, decide_eq_true_eq, decide_eq_true_eq]
  rcases h with h | h
  ·left; rw [inK_has _ s c (by omega)] at h; exact h
  ·right; rw [h]; exact ⟨by simp, by simp⟩
end Go.Proofs.YtngbfdogiciahaaGreat
