/- Plain law on sites that ask each other: every call keeps what is known to hold. No program in sight. -/
import Derived.Test.YtngbfdogiciahaaGreatJoinTopA
namespace Go.Proofs.YtngbfdogiciahaaGreat
open Go Go.RowKit
theorem verOk_made {s : SiteS} {id : ByteArray} {p : Point} {body : Int} (h : makeErr s id p body = 0) : idOk id = true ∧ pointOk p = true ∧ s.made ≠ 1000 ∧ pastErr s.shelf id = 0 ∧ putErr s.shelf (madeV s id p body) = 0 := by
 unfold makeErr at h
 by_cases h1 : idOk id = true
 ·rw [if_pos h1] at h
  by_cases h2 : (pointOk p && bodyOk body) = true
  ·rw [if_pos h2] at h
   by_cases h3 : s.made = 1000
   ·rw [if_pos h3] at h; cases h
   ·rw [if_neg h3] at h
    by_cases h4 : pastErr s.shelf id = 0
    ·rw [if_pos h4] at h
     rw [Bool.and_eq_true] at h2
     exact ⟨h1, h2.1, h3, h4, h⟩
    ·rw [if_neg h4] at h; exact absurd h h4
  ·rw [if_neg h2] at h; cases h
 ·rw [if_neg h1] at h; cases h
theorem NM.mono {H : List Version} {v w : Version} (h : NM H w) : NM (H ++ [v]) w := by
 obtain ⟨u, hu, ho⟩ := h
 exact ⟨u, List.mem_append_left _ hu, ho⟩
theorem HasOr.mono {H : List Version} {s : SiteS} {v w : Version} (h : HasOr H s w) : HasOr (H ++ [v]) s w := h.imp id NM.mono
def upM (M : Int → Int) (i n : Int) : Int → Int := fun j => if j = i then n else M j
section
variable {M : Int → Int} {H : List Version} {s : SiteS}
theorem Ex.up {i : Int} (d : Dot) (h : Ex M d) : Ex (upM M i (M i + 1)) d := by
 unfold Ex upM at *
 split
 ·rename_i e; rw [e] at h; omega
 ·exact h
theorem new_dot (hs : SInv M H s) (id : ByteArray) (p : Point) (body : Int) : ¬ Ex M (madeV s id p body).dot := by
 show ¬ (s.made + 1 ≤ M s.me)
 rw [hs.made]; omega
theorem hist_make (hH : Hist M H) (hs : SInv M H s) {id : ByteArray} {p : Point} {body : Int} (he : makeErr s id p body = 0) : Hist (upM M s.me (M s.me + 1)) (H ++ [madeV s id p body]) := by
 obtain ⟨_, _, _, h4, h5⟩ := verOk_made he
 have hvo := (putOut_ok h5).2.1
 have hnew := new_dot hs id p body
 have hso := hs.ok.shelf
 obtain ⟨v, hv⟩ : ∃ v, v = madeV s id p body := ⟨_, rfl⟩
 have hvp : v.past = pastKn s.shelf id := by rw [hv]; rfl
 have hvi : v.id = id := by rw [hv]; rfl
 have hvd : v.dot = ⟨s.me, s.made + 1⟩ := by rw [hv]; rfl
 rw [← hv] at hvo hnew ⊢
 have hpast : ∀ d, dotOk d = true → inK v.past d = true → ∃ x ∈ s.shelf, x.id = id ∧ (inK x.past d = true ∨ x.dot = d) := by
  intro d hd h
  rw [hvp] at h
  exact (past_has hso.all hso h4 hd).1 h
 have hpastE : ∀ d, dotOk d = true → inK v.past d = true → Ex M d := by
  intro d hd h
  obtain ⟨x, hx, _, h1 | h1⟩ := hpast d hd h
  ·exact hH.past x (hs.sub x hx) d hd h1
  ·rw [← h1]; exact hH.ex x (hs.sub x hx)
 have hno : ∀ u ∈ H, over u v = false := by
  intro u hu
  cases ho : over u v
  ·rfl
  ·exact absurd (hH.past u hu v.dot hvo.dot (over_split ho).2) hnew
 have hvv := over_self hvo
 refine ⟨?_, ?_, ?_, ?_, ?_⟩
 ·intro u hu
  rcases List.mem_append.1 hu with h | h
  ·exact hH.ok u h
  ·rw [List.mem_singleton.1 h]; exact hvo
 ·intro u hu
  rcases List.mem_append.1 hu with h | h
  ·exact Ex.up _ (hH.ex u h)
  ·rw [List.mem_singleton.1 h, hvd]
   unfold Ex upM
   rw [if_pos rfl, hs.made]
   exact Int.le_refl _
 ·intro u hu w hw e
  rcases List.mem_append.1 hu with h | h
  ·rcases List.mem_append.1 hw with k | k
   ·exact hH.uniq u h w k e
   ·rw [List.mem_singleton.1 k] at e
    exact absurd (e ▸ hH.ex u h) hnew
  ·rcases List.mem_append.1 hw with k | k
   ·rw [List.mem_singleton.1 h] at e
    exact absurd (e ▸ hH.ex w k) hnew
   ·rw [List.mem_singleton.1 h, List.mem_singleton.1 k]
 ·intro u hu d hd h
  rcases List.mem_append.1 hu with k | k
  ·exact Ex.up _ (hH.past u k d hd h)
  ·rw [List.mem_singleton.1 k] at h
   exact Ex.up _ (hpastE d hd h)
 ·intro u hu x hx w hw h1 h2
  have hxo : x ∈ H := by
   rcases List.mem_append.1 hx with k | k
   ·exact k
   ·rw [List.mem_singleton.1 k] at h1
    rcases List.mem_append.1 hu with g | g
    ·rw [hno u g] at h1; cases h1
    ·rw [List.mem_singleton.1 g, hvv] at h1; cases h1
  have hwo : w ∈ H := by
   rcases List.mem_append.1 hw with k | k
   ·exact k
   ·rw [List.mem_singleton.1 k, hno x hxo] at h2; cases h2
  rcases List.mem_append.1 hu with g | g
  ·exact hH.trans u g x hxo w hwo h1 h2
  ·rw [List.mem_singleton.1 g] at h1 ⊢
   obtain ⟨i1, k1⟩ := over_split h1
   obtain ⟨i2, k2⟩ := over_split h2
   have hxd := (hH.ok x hxo).dot
   have hwd := (hH.ok w hwo).dot
   obtain ⟨y, hy, hyi, hc⟩ := hpast x.dot hxd k1
   have hyw : inK y.past w.dot = true := by
    rcases hc with hc | hc
    ·have o1 : over y x = true := over_mk (by rw [hyi, ← hvi, i1]) hc
     exact (over_split (hH.trans y (hs.sub y hy) x hxo w hwo o1 h2)).2
    ·rw [hH.uniq y (hs.sub y hy) x hxo hc]; exact k2
   refine over_mk (i1.trans i2) ?_
   rw [hvp]
   exact (past_has hso.all hso h4 hwd).2 ⟨y, hy, hyi, .inl hyw⟩
theorem made_field {id : ByteArray} {p : Point} {body : Int} (he : makeErr s id p body = 0) : makeS s id p body = { s with shelf := putOut s.shelf (madeV s id p body), made := s.made + 1 } := by unfold makeS; rw [if_pos he]
theorem sinv_make (hH : Hist M H) (hs : SInv M H s) {id : ByteArray} {p : Point} {body : Int} (he : makeErr s id p body = 0) : SInv (upM M s.me (M s.me + 1)) (H ++ [madeV s id p body]) (makeS s id p body) ∧ ∀ w ∈ H, HasOr H s w → HasOr (H ++ [madeV s id p body]) (makeS s id p body) w := by
 obtain ⟨_, _, _, _, h5⟩ := verOk_made he
 have hH2 := hist_make hH hs he
 have hok2 := makeS_ok hs.ok id p body
 have hnew := new_dot hs id p body
 rw [made_field he] at hok2 ⊢
 obtain ⟨v, hv⟩ : ∃ v, v = madeV s id p body := ⟨_, rfl⟩
 have hvd : v.dot = ⟨s.me, s.made + 1⟩ := by rw [hv]; rfl
 rw [← hv] at h5 hH2 hok2 hnew ⊢
 obtain ⟨a1, a2, a3⟩ := put_stays hH2 (l := s.shelf) (v := v) (fun w hw => List.mem_append_left _ (hs.sub w hw)) (by simp) h5
 have hhas : ∀ w ∈ H, HasOr H s w → HasOr (H ++ [v]) { s with shelf := putOut s.shelf v, made := s.made + 1 } w := by
  intro w _ h
  rcases h with h | h
  ·exact a2 w h
  ·exact .inr h.mono
 refine ⟨⟨hok2, ?_, ?_, ?_, ?_, ?_⟩, hhas⟩
 ·show upM M s.me (M s.me + 1) s.me = s.made + 1
  unfold upM; rw [if_pos rfl, hs.made]
 ·intro w hw
  rcases a1 w hw with h | h
  ·rw [h]; simp
  ·exact List.mem_append_left _ (hs.sub w h)
 ·intro w hw hk
  rcases List.mem_append.1 hw with h | h
  ·refine hhas w h (hs.snd w h ?_)
   have hvo := hH.ok w h
   unfold kn at hk ⊢
   rw [cov_known hvo.pt hvo.dot hok2, Bool.or_eq_true, Bool.and_eq_true, decide_eq_true_eq, decide_eq_true_eq] at hk
   rw [cov_known hvo.pt hvo.dot hs.ok, Bool.or_eq_true, Bool.and_eq_true, decide_eq_true_eq, decide_eq_true_eq]
   rcases hk with ⟨k1, _⟩ | k
   ·left
    refine ⟨k1, ?_⟩
    have := hH.ex w h
    unfold Ex at this
    rw [show w.dot.site = s.me from k1, hs.made] at this
    exact this
   ·exact .inr k
  ·rw [List.mem_singleton.1 h]; exact a3
 ·intro q d hq hd hk
  rw [cov_known hq hd hok2, Bool.or_eq_true, Bool.and_eq_true, decide_eq_true_eq, decide_eq_true_eq] at hk
  rcases hk with ⟨k1, k2⟩ | k
  ·unfold Ex upM
   rw [if_pos k1, hs.made]; exact k2
  ·exact Ex.up _ (hs.ex q d hq hd (by rw [cov_known hq hd hs.ok, show partsIn s.parts q d = true from k, Bool.or_true]))
 ·intro w hw
  rcases a1 w hw with h | h
  ·right; rw [h, hvd]
  ·exact hs.fil w h
theorem sinv_other (hs : SInv M H s) {id : ByteArray} {p : Point} {body : Int} (he : makeErr s id p body = 0) {t : SiteS} (ht : SInv M H t) (hne : t.me ≠ s.me) : SInv (upM M s.me (M s.me + 1)) (H ++ [madeV s id p body]) t := by
 have hnew := new_dot hs id p body
 refine ⟨ht.ok, ?_, fun v hv => List.mem_append_left _ (ht.sub v hv), ?_, fun q d hq hd hk => Ex.up _ (ht.ex q d hq hd hk), ht.fil⟩
 ·unfold upM; rw [if_neg hne, ht.made]
 ·intro w hw hk
  rcases List.mem_append.1 hw with h | h
  ·exact (ht.snd w h hk).mono
  ·rw [List.mem_singleton.1 h] at hk
   have hvo := (putOut_ok (verOk_made he).2.2.2.2).2.1
   exact absurd (ht.ex _ _ hvo.pt hvo.dot hk) hnew
theorem sinv_want (hH : Hist M H) (hs : SInv M H s) (f : List Box) : SInv M H (wantS s f) ∧ ((wantS s f).me = s.me ∧ (wantS s f).stamp ≥ s.stamp ∧ (filterCheck f = 0 → (wantS s f).stamp = s.stamp + 1)) := by
 have hok := wantS_ok hs.ok f
 unfold wantS at hok ⊢
 by_cases hf : filterCheck f = 0
 ·rw [if_pos hf] at hok ⊢
  refine ⟨⟨hok, hs.made, fun v hv => hs.sub v (List.mem_filter.1 hv).1, ?_, ?_, ?_⟩, rfl, ?_, fun _ => rfl⟩
  ·intro v hv hk
   have hvo := hH.ok v hv
   unfold kn at hk
   rw [cov_known hvo.pt hvo.dot hok, Bool.or_eq_true] at hk
   have hk0 : kn s v = true ∧ wantKeep s.me f v = true := by
    unfold kn wantKeep
    rw [cov_known hvo.pt hvo.dot hs.ok, Bool.or_eq_true, Bool.or_eq_true]
    rcases hk with k | k
    ·rw [Bool.and_eq_true] at k
     exact ⟨.inl (by rw [Bool.and_eq_true]; exact k), .inl k.1⟩
    ·rw [show partsIn (narrowO s.parts f) v.pt v.dot = _ from cov_narrow hvo.pt hvo.dot hs.ok.parts (Nat.le_trans hs.ok.lp (by decide)) hf, Bool.and_eq_true] at k
     exact ⟨.inr k.2, .inr k.1⟩
   rcases hs.snd v hv hk0.1 with h | h
   ·exact .inl (List.mem_filter.2 ⟨h, hk0.2⟩)
   ·exact .inr h
  ·intro p d hp hd hk
   rw [cov_known hp hd hok] at hk
   refine hs.ex p d hp hd ?_
   rw [cov_known hp hd hs.ok]
   rw [Bool.or_eq_true] at hk ⊢
   rcases hk with k | k
   ·exact .inl k
   ·rw [show partsIn (narrowO s.parts f) p d = _ from cov_narrow hp hd hs.ok.parts (Nat.le_trans hs.ok.lp (by decide)) hf, Bool.and_eq_true] at k
    exact .inr k.2
  ·intro v hv
   have h2 := (List.mem_filter.1 hv).2
   unfold wantKeep at h2
   rw [Bool.or_eq_true, decide_eq_true_eq] at h2
   have hvo := hs.ok.shelf.all v (List.mem_filter.1 hv).1
   rcases h2 with h2 | h2
   ·exact .inr h2
   ·left
    show filterIn (plainF f) v.pt = true
    rw [filterIn_plain hvo.pt hf]; exact h2
  ·show s.stamp + 1 ≥ s.stamp; omega
 ·rw [if_neg hf]
  exact ⟨hs, rfl, Int.le_refl _, fun e => absurd e hf⟩
structure AskI (M : Int → Int) (H : List Version) (s : SiteS) (a : AskS) : Prop where
 ok : giveErr a = 0
 me : a.site = s.me
 le : a.stamp ≤ s.stamp
 ex : ∀ p d, pointOk p = true → dotOk d = true → partsIn a.parts p d = true → Ex M d
 fil : a.stamp = s.stamp → a.filter = s.filter
 snd : a.stamp = s.stamp → ∀ v ∈ H, partsIn a.parts v.pt v.dot = true → HasOr H s v
structure BatI (M : Int → Int) (H : List Version) (s : SiteS) (b : Batch) : Prop where
 ok : batchErr b = 0
 me : b.site = s.me
 le : b.stamp ≤ s.stamp
 ex : ∀ p d, pointOk p = true → dotOk d = true → partsIn b.parts p d = true → Ex M d
 sub : ∀ v ∈ b.vers, v ∈ H
 gone : ∀ g ∈ b.gone, ∃ u ∈ H, g = goneOf u
 fil : b.stamp = s.stamp → ∀ v ∈ b.vers, filterIn s.filter v.pt = true
 snd : b.stamp = s.stamp → ∀ v ∈ H, partsIn b.parts v.pt v.dot = true → v ∈ b.vers ∨ HasOr H s v
theorem batchErr_of {b : Batch} (h : TailOk b) (s0 : 0 ≤ b.site) (s4 : b.site ≤ 4) (t0 : 0 ≤ b.stamp) : batchErr b = 0 := by
 unfold batchErr
 rw [if_pos ⟨s0, s4, t0⟩]
 unfold batchTail
 rw [if_pos ⟨h.lv, h.lg⟩]
 unfold batchRest
 rw [if_pos ((firstErr_ok _ _).2 fun v hv => verErr_iff.2 (h.vers v hv)), if_pos ((firstErr_ok _ _).2 fun g hg => goneErr_iff.2 (h.gone g hg))]
 exact partsCheck_of h.lp h.parts
theorem batchErr_ok {b : Batch} (h : batchErr b = 0) : TailOk b ∧ 0 ≤ b.site ∧ b.site ≤ 4 ∧ 0 ≤ b.stamp := by
 unfold batchErr at h
 by_cases h0 : 0 ≤ b.site ∧ b.site ≤ 4 ∧ 0 ≤ b.stamp
 ·rw [if_pos h0] at h
  exact ⟨batchTail_ok h, h0⟩
 ·rw [if_neg h0] at h; cases h
theorem giveErr_ok {a : AskS} (h : giveErr a = 0) : 0 ≤ a.site ∧ a.site ≤ 4 ∧ 0 ≤ a.stamp ∧ filterCheck a.filter = 0 ∧ partsCheck a.parts = 0 := by
 unfold giveErr at h
 by_cases h0 : 0 ≤ a.site ∧ a.site ≤ 4 ∧ 0 ≤ a.stamp
 ·rw [if_pos h0] at h
  by_cases h1 : filterCheck a.filter = 0
  ·rw [if_pos h1] at h
   exact ⟨h0.1, h0.2.1, h0.2.2, h1, h⟩
  ·rw [if_neg h1] at h; exact absurd h h1
 ·rw [if_neg h0] at h; cases h
theorem ask_err (h : SiteOk s) : giveErr (askS s) = 0 := by
 have hk := known_ok h
 unfold giveErr askS
 rw [if_pos ⟨h.me0, h.me4, h.stamp0⟩, if_pos h.filter]
 exact partsCheck_of hk.1 hk.2
theorem askI_new (hs : SInv M H s) : AskI M H s (askS s) :=
 ⟨ask_err hs.ok, rfl, Int.le_refl _, hs.ex, fun _ => rfl, fun _ v hv hk => hs.snd v hv hk⟩
theorem batI_give {g : SiteS} {a : AskS} (hH : Hist M H) (hg : SInv M H g) (ha : AskI M H s a) : BatI M H s (giveB g a) := by
 obtain ⟨s0, s4, t0, hf, hp⟩ := giveErr_ok ha.ok
 have hk := known_ok hg.ok
 obtain ⟨n1, n2, n3, n4⟩ := narrow_okP hk.2 hk.1 hf
 have hgs := hg.ok.shelf
 have e : giveB g a = ⟨a.site, a.stamp, giveV g a, giveG g a, narrowO (knownP g) a.filter⟩ := by unfold giveB; rw [if_pos ha.ok]
 have hcov : ∀ p d, pointOk p = true → dotOk d = true → partsIn (narrowO (knownP g) a.filter) p d = (filterIn a.filter p && partsIn (knownP g) p d) := fun p d hp hd => cov_narrow hp hd hk.2 hk.1 hf
 rw [e]
 refine ⟨batchErr_of ⟨?_, ?_, ?_, ?_, ?_, n4⟩ s0 s4 t0, ha.me, ha.le, ?_, ?_, ?_, ?_, ?_⟩
 ·exact Nat.le_trans (List.length_filter_le _ _) hgs.len
 ·show (giveG g a).length ≤ 60
  unfold giveG
  rw [List.length_map]
  exact Nat.le_trans (List.length_filter_le _ _) hgs.len
 ·exact fun v hv => hgs.all v (List.mem_filter.1 hv).1
 ·intro x hx
  obtain ⟨v, hv, rfl⟩ := List.mem_map.1 hx
  have := hgs.all v (List.mem_filter.1 hv).1
  exact ⟨this.id, this.k⟩
 ·exact Nat.le_trans n3 hk.1
 ·intro p d hp hd h
  rw [show partsIn (narrowO (knownP g) a.filter) p d = _ from hcov p d hp hd, Bool.and_eq_true] at h
  exact hg.ex p d hp hd h.2
 ·exact fun v hv => hg.sub v (List.mem_filter.1 hv).1
 ·intro x hx
  obtain ⟨v, hv, rfl⟩ := List.mem_map.1 hx
  exact ⟨v, hg.sub v (List.mem_filter.1 hv).1, rfl⟩
 ·intro ht v hv
  have := (List.mem_filter.1 hv).2
  rw [Bool.and_eq_true] at this
  rw [← ha.fil ht]; exact this.1
 ·intro ht v hv h
  have hvo := hH.ok v hv
  rw [show partsIn (narrowO (knownP g) a.filter) v.pt v.dot = _ from hcov _ _ hvo.pt hvo.dot, Bool.and_eq_true] at h
  rcases hg.snd v hv h.2 with h1 | h1
  ·cases hq : partsIn a.parts v.pt v.dot
   ·exact .inl (List.mem_filter.2 ⟨h1, by rw [h.1, hq]; rfl⟩)
   ·exact .inr (ha.snd ht v hv hq)
  ·exact .inr (.inr h1)
structure Stays (H : List Version) (s t : SiteS) : Prop where
 me : t.me = s.me
 stamp : t.stamp = s.stamp
 filter : t.filter = s.filter
 has : ∀ v ∈ H, HasOr H s v → HasOr H t v
theorem Stays.refl (H : List Version) (s : SiteS) : Stays H s s := ⟨rfl, rfl, rfl, fun _ _ h => h⟩
theorem AskI.grow {a : AskS} {i : Int} {v : Version} (h : AskI M H s a) (hv : VerOk v) (hn : ¬ Ex M v.dot) : AskI (upM M i (M i + 1)) (H ++ [v]) s a := by
 refine ⟨h.ok, h.me, h.le, fun p d hp hd q => Ex.up _ (h.ex p d hp hd q), h.fil, fun e w hw q => ?_⟩
 rcases List.mem_append.1 hw with k | k
 ·exact (h.snd e w k q).mono
 ·rw [List.mem_singleton.1 k] at q
  exact absurd (h.ex _ _ hv.pt hv.dot q) hn
theorem BatI.grow {b : Batch} {i : Int} {v : Version} (h : BatI M H s b) (hv : VerOk v) (hn : ¬ Ex M v.dot) : BatI (upM M i (M i + 1)) (H ++ [v]) s b := by
 refine ⟨h.ok, h.me, h.le, fun p d hp hd q => Ex.up _ (h.ex p d hp hd q), fun w hw => List.mem_append_left _ (h.sub w hw), fun g hg => ?_, h.fil, fun e w hw q => ?_⟩
 ·obtain ⟨u, hu, e⟩ := h.gone g hg
  exact ⟨u, List.mem_append_left _ hu, e⟩
 ·rcases List.mem_append.1 hw with k | k
  ·exact (h.snd e w k q).imp id HasOr.mono
  ·rw [List.mem_singleton.1 k] at q
   exact absurd (h.ex _ _ hv.pt hv.dot q) hn
theorem sinv_take {b : Batch} (hH : Hist M H) (hs : SInv M H s) (hb : BatI M H s b) : SInv M H (takeS s b) ∧ Stays H s (takeS s b) ∧ (takeErr s b = 0 → ∀ v ∈ b.vers, HasOr H (takeS s b) v) := by
 have hok := takeS_ok hs.ok b
 unfold takeS at hok ⊢
 by_cases he : takeErr s b = 0
 ·rw [if_pos he] at hok ⊢
  unfold takeErr at he
  rw [if_pos hb.ok, if_pos hb.me] at he
  by_cases ht : b.stamp = s.stamp
  ·rw [if_pos ht] at he
   obtain ⟨a1, a2, a3, a4⟩ := takeTail_ok he
   obtain ⟨b1, b2, b3⟩ := puts_stays hH b.vers s.shelf hs.sub hb.sub a1
   have hpo := putsOut_ok b.vers s.shelf hs.ok.shelf a1
   have hd := drops_mem b.gone _ hpo a2
   have hkeep : ∀ w ∈ putsOut s.shelf b.vers, w ∈ dropsOut (putsOut s.shelf b.vers) b.gone ∨ NM H w := by
    intro w hw
    by_cases hq : ∀ g ∈ b.gone, dropP g w = false
    ·exact .inl ((hd w).2 ⟨hw, hq⟩)
    ·obtain ⟨g, hg⟩ := Classical.not_forall.1 hq
     obtain ⟨hg1, hg2⟩ := Classical.not_imp.1 hg
     obtain ⟨u, hu, rfl⟩ := hb.gone g hg1
     rw [drop_goneOf] at hg2
     exact .inr ⟨u, hu, by simpa using hg2⟩
   have hstay : ∀ w, HasOr H s w → w ∈ dropsOut (putsOut s.shelf b.vers) b.gone ∨ NM H w := by
    rintro w (h | h)
    ·rcases b2 w h with h | h
     ·exact hkeep w h
     ·exact .inr h
    ·exact .inr h
   have hvers : ∀ v ∈ b.vers, v ∈ dropsOut (putsOut s.shelf b.vers) b.gone ∨ NM H v := by
    intro v hv
    rcases b3 v hv with h | h
    ·exact hkeep v h
    ·exact .inr h
   refine ⟨⟨hok, hs.made, ?_, ?_, ?_, ?_⟩, ⟨rfl, rfl, rfl, fun w _ h => hstay w h⟩, fun _ v hv => hvers v hv⟩
   ·intro w hw
    rcases b1 w ((hd w).1 hw).1 with h | h
    ·exact hb.sub w h
    ·exact hs.sub w h
   ·intro w hw hk
    have hwo := hH.ok w hw
    unfold kn at hk
    rw [cov_known hwo.pt hwo.dot hok, show partsIn (joinP s.parts b.parts) w.pt w.dot = _ from cov_join hwo.pt hwo.dot a3, ← Bool.or_assoc, Bool.or_eq_true] at hk
    rcases hk with k | k
    ·exact hstay w (hs.snd w hw (by unfold kn; rw [cov_known hwo.pt hwo.dot hs.ok]; exact k))
    ·rcases hb.snd ht w hw k with h | h
     ·exact hvers w h
     ·exact hstay w h
   ·intro p d hp hd hk
    rw [cov_known hp hd hok, show partsIn (joinP s.parts b.parts) p d = _ from cov_join hp hd a3, ← Bool.or_assoc, Bool.or_eq_true] at hk
    rcases hk with k | k
    ·exact hs.ex p d hp hd (by rw [cov_known hp hd hs.ok]; exact k)
    ·exact hb.ex p d hp hd k
   ·intro w hw
    rcases b1 w ((hd w).1 hw).1 with h | h
    ·exact .inl (hb.fil ht w h)
    ·exact hs.fil w h
  ·rw [if_neg ht] at he; cases he
 ·rw [if_neg he]
  exact ⟨hs, Stays.refl H s, fun e => absurd e he⟩
end
end Go.Proofs.YtngbfdogiciahaaGreat
