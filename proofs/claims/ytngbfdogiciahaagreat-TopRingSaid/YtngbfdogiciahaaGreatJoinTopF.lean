/- Several texts in one: data, readings, plain laws, walks. No condition. -/
import Derived.Test.YtngbfdogiciahaaGreatJoinTopD
import Derived.Test.YtngbfdogiciahaaGreatWireS
import Derived.Test.YtngbfdogiciahaaGreatWireJ
import Derived.OrdersHeld
import Derived.Deep.Quiet
namespace Go.Proofs.YtngbfdogiciahaaGreat
open Go Go.RowKit
theorem Sl.oldR {α : Type} {B B' : Nat} {e : TypeId} {R R' : World → List Value → α → Prop} {sz : Nat} {w : World} {A : Option Addr} {l : List α} (m : ∀ cs x, R w cs x → R' w cs x) (h : Sl B e R sz w A l) (hB : B ≤ B') : Sl B' e R' sz w A l := by
 intro i y hy
 obtain ⟨b, off, cs, hA, hb, hk, hl, hc, hR⟩ := h i y hy
 exact ⟨b, off, cs, hA, hb, hk.imp (fun h => by omega) id, hl, hc, m _ _ hR⟩
theorem IsSl.oldR {α : Type} {B B' : Nat} {e : TypeId} {R R' : World → List Value → α → Prop} {sz : Nat} {w : World} {v : Value} {l : List α} (m : ∀ cs x, R w cs x → R' w cs x) (h : IsSl B e R sz w v l) (hB : B ≤ B') : IsSl B' e R' sz w v l := by
 obtain ⟨A, c, hv, h1, h2, hs⟩ := h
 exact ⟨A, c, hv, h1, h2, hs.oldR m hB⟩
section
variable {B B' : Nat} {w : World} {cs : List Value}
theorem RBox.old {x : Box} (hB : B ≤ B') (h : RBox B w cs x) : RBox B' w cs x := by
 obtain ⟨v, e, hv⟩ := h
 exact ⟨v, e, hv.oldR (fun _ _ h => h) hB⟩
theorem RVer.old {x : Version} (hB : B ≤ B') (h : RVer B w cs x) : RVer B' w cs x := by
 obtain ⟨a, m, e, ha, hm, hz⟩ := h
 exact ⟨a, m, e, ha.oldR (fun _ _ h => h) hB, hm.oldR (fun _ _ h => h) hB, hz⟩
theorem RGone.old {x : Gone} (hB : B ≤ B') (h : RGone B w cs x) : RGone B' w cs x := by
 obtain ⟨a, m, e, ha, hm, hz⟩ := h
 exact ⟨a, m, e, ha.oldR (fun _ _ h => h) hB, hm.oldR (fun _ _ h => h) hB, hz⟩
theorem RPart.old {x : Part} (hB : B ≤ B') (h : RPart B w cs x) : RPart B' w cs x := by
 obtain ⟨f, v, m, e, hf, hv, hm⟩ := h
 exact ⟨f, v, m, e, hf.oldR (fun _ _ h => h.old hB) hB, hv.oldR (fun _ _ h => h) hB, hm.oldR (fun _ _ h => h) hB⟩
end
theorem InB.old {B B' : Nat} {w : World} {Ax : Option Addr} {cx : Nat} {Ag : Option Addr} {cg : Nat} {Ap : Option Addr} {cp : Nat} {b : Batch} (h : InB B w Ax cx Ag cg Ap cp b) (hB : B ≤ B') : InB B' w Ax cx Ag cg Ap cp b :=
 ⟨h.lx, h.lg, h.lp, h.sx.oldR (fun _ _ h => h.old hB) hB, h.sg.oldR (fun _ _ h => h.old hB) hB, h.sp.oldR (fun _ _ h => h.old hB) hB⟩
theorem InB.chgBt {B : Nat} {w w' : World} {Ax : Option Addr} {cx : Nat} {Ag : Option Addr} {cg : Nat} {Ap : Option Addr} {cp : Nat} {b : Batch} (h : InB B w Ax cx Ag cg Ap cp b) (x : Chg B [90] w w') : InB B w' Ax cx Ag cg Ap cp b :=
 ⟨h.lx, h.lg, h.lp, h.sx.chg (RVer.mono (by decide) (by decide)) (by decide) x, h.sg.chg (RGone.mono (by decide) (by decide)) (by decide) x, h.sp.chg (RPart.mono (by decide) (by decide) (by decide) (by decide)) (by decide) x⟩
theorem wire_of_batch {b : Batch} (h : batchErr b = 0) (ht : b.stamp ≤ 1000000) : wireErr b = 0 := by
 unfold batchErr at h
 by_cases h0 : 0 ≤ b.site ∧ b.site ≤ 4 ∧ 0 ≤ b.stamp
 ·rw [if_pos h0] at h
  unfold wireErr
  rw [if_pos ⟨h0.1, h0.2.1, h0.2.2, ht⟩]
  exact h
 ·rw [if_neg h0] at h; cases h
set_option maxRecDepth 100000 in
set_option maxHeartbeats 4000000 in
theorem top_asked (B : Nat) (rt rf : Nat) (t f : SiteS) (w : World) (hB : B ≤ w.heap.size) (hBt : B ≤ rt) (ht : SiteOk t) (hf : SiteOk f) (hst : IsSite B w rt t) (hsf : IsSite B w rf f) (hg : giveErr (askS t) = 0) (hw : wireErr (giveB f (askS t)) = 0) :
  Calls Tryz.prog 26 #[.pointer (some ⟨rt, 0, none⟩), .pointer (some ⟨rf, 0, none⟩)] w fun e w' => e = .returned (.tuple #[.bool (takeErr t (giveB f (askS t)) == 0), .bool (takeErr t (giveB f (askS t)) == 2)]) ∧ IsSite B w' rt (takeS t (giveB f (askS t))) ∧ Fr rt w w' := by
 obtain ⟨b, hb⟩ : ∃ b, b = giveB f (askS t) := ⟨_, rfl⟩
 rw [← hb] at hw ⊢
 have HBD := hid hb
 have HW := hid hw
 have HG := hid hg
 have HB := hid hB
 have HBT := hid hBt
 have HT := hid ht
 have HF := hid hf
 have HST := hid hst
 have HSF := hid hsf
 clear hb hw hg hB hBt ht hf hst hsf
 go_enter Tryz.func26, Tryz.ntmps26
 go_wp2_with fail
 refine (site_Ask B rt t w HB.out HT.out HST.out).mono ?_
 rintro e w1 ⟨A1, c1, A2, c2, rfl, hi, hx⟩
 have HI := hid hi
 clear hi
 go_wp2_with fail
 refine (site_Give B rf f (askS t) A1 c1 A2 c2 w1 (Nat.le_trans HB.out hx.size) HF.out (HSF.out.ext hx) HI.out).mono ?_
 rintro e w2 ⟨A3, c3, A4, c4, A5, c5, rfl, hi, hx2⟩
 rw [← HBD.out] at hi ⊢
 rw [HG.out]
 replace hx := hx.trans hx2
 have HN := hid (show w.heap.size ≤ w2.heap.size from hx.size)
 have hb6 := Blk.new w2 90 #[.int .i64 0, .int .i64 0, .slice none 0 0, .slice none 0 0, .slice none 0 0]
 have hxa := (Ext.refl w2).alloc (.cells #[.int .i64 0, .int .i64 0, .slice none 0 0, .slice none 0 0, .slice none 0 0] 90)
 replace hi := hi.ext hxa
 replace hx := hx.trans hxa
 clear hx2 hxa HI
 go_wp2_with ((with_reducible refine wpList_storeRow (o := ⟨none, _, _, _, _, _⟩) ri_batch _ _ rfl rfl rfl rfl hb6 rfl rfl (by simp [Value.oneCell']) ?_); intro w9 hx9 hb9 hs9 ho9; have y0 := hb9.cell (i := 0) (u := .int .i64 b.site) rfl; have y1 := hb9.cell (i := 1) (u := .int .i64 b.stamp) rfl; have y2 := hb9.cell (i := 2) (u := .slice A3 b.vers.length c3) rfl; have y3 := hb9.cell (i := 3) (u := .slice A4 b.gone.length c4) rfl; have y4 := hb9.cell (i := 4) (u := .slice A5 b.parts.length c5) rfl)
 have hc9 := chg_row hb6 hx9 ho9 (Nat.le_trans HB.out HN.out)
 replace hx := hx.below hx9 HN.out
 replace hi := hi.chgBt hc9
 obtain ⟨r6, hr6⟩ : ∃ r6, r6 = w2.heap.size := ⟨_, rfl⟩
 rw [← hr6] at hb9 HN ⊢
 clear hb6 hx9 hs9 ho9 hc9 hr6
 refine (wire_Pack B b A3 c3 A4 c4 A5 c5 w9 (Nat.le_trans HB.out hx.size) hi).mono ?_
 rintro e w10 ⟨rfl, hx10⟩
 replace hi := hi.ext hx10
 replace hb9 := hb9.ext hx10
 replace hx := hx.trans hx10
 clear y0 y1 y2 y3 y4 hx10
 by_cases hl : (packB b).length ≤ 20000
 ·have HU := hid (unpack_full HW.out hl)
  have HL := hid hl
  rw [show packErr b = 0 by unfold packErr; rw [if_pos HW.out, if_pos hl], show packOut b = bstr (packB b) by unfold packOut packErr; rw [if_pos HW.out, if_pos hl]; rfl]
  clear hl hi
  go_wp2_with fail
  refine (wire_Unpack (packB b) (Nat.le_trans HL.out (by decide)) w10).mono ?_
  rw [HU.out.1, HU.out.2]
  rintro e w11 ⟨v, rfl, ⟨⟨A3, c3, A4, c4, A5, c5, rfl, hi⟩, _⟩, hx11⟩
  replace hi := hi.old (Nat.zero_le B)
  replace hb9 := hb9.ext hx11
  replace hx := hx.trans hx11
  clear hx11
  go_wp2_with ((with_reducible refine wpList_storeRow (o := ⟨none, _, _, _, _, _⟩) ri_batch _ _ rfl rfl rfl rfl hb9 rfl rfl (by simp [Value.oneCell']) ?_); intro w12 hx12 hb12 hs12 ho12; have y0 := hb12.cell (i := 0) (u := .int .i64 b.site) rfl; have y1 := hb12.cell (i := 1) (u := .int .i64 b.stamp) rfl; have y2 := hb12.cell (i := 2) (u := .slice A3 b.vers.length c3) rfl; have y3 := hb12.cell (i := 3) (u := .slice A4 b.gone.length c4) rfl; have y4 := hb12.cell (i := 4) (u := .slice A5 b.parts.length c5) rfl)
  have hc12 := chg_row hb9 hx12 ho12 (Nat.le_trans HB.out HN.out)
  replace hx := hx.below hx12 HN.out
  replace hi := hi.chgBt hc12
  clear hb9 hx12 hs12 ho12 hc12
  refine (site_Take B rt t b A3 c3 A4 c4 A5 c5 _ (Nat.le_trans HB.out hx.size) HBT.out HT.out (HST.out.ext hx) hi).mono ?_
  rintro e w20 ⟨rfl, hs20, hf20⟩
  have hfin := (Fr.of_ext hx).trans hf20
  clear hi hx hf20 y0 y1 y2 y3 y4
  go_wp2_with fail
  go_ret2
  exact ⟨rfl, hs20, hfin⟩
 ·rw [show packErr b = 2 by unfold packErr; rw [if_pos HW.out, if_neg hl]]
  clear hl
  have y0 := hb9.cell (i := 0) (u := .int .i64 b.site) rfl; have y1 := hb9.cell (i := 1) (u := .int .i64 b.stamp) rfl; have y2 := hb9.cell (i := 2) (u := .slice A3 b.vers.length c3) rfl; have y3 := hb9.cell (i := 3) (u := .slice A4 b.gone.length c4) rfl; have y4 := hb9.cell (i := 4) (u := .slice A5 b.parts.length c5) rfl
  go_wp2_with fail
  refine (site_Take B rt t b A3 c3 A4 c4 A5 c5 _ (Nat.le_trans HB.out hx.size) HBT.out HT.out (HST.out.ext hx) hi).mono ?_
  rintro e w20 ⟨rfl, hs20, hf20⟩
  have hfin := (Fr.of_ext hx).trans hf20
  clear hi hx hf20 y0 y1 y2 y3 y4
  go_wp2_with fail
  go_ret2
  exact ⟨rfl, hs20, hfin⟩
end Go.Proofs.YtngbfdogiciahaaGreat
namespace Go.Proofs.YtngbfdogiciahaaGreat
open Go Go.RowKit
structure TopJ (Fok : Nat → List Box → Prop) (k : Int) (M : Int → Int) (H : List Version) (L : List SiteS) : Prop where
 hist : Hist M H
 home : ∀ v ∈ H, ∃ i : Nat, i < L.length ∧ v.dot.site = (i : Int)
 inv : ∀ (i : Nat) (s : SiteS), L[i]? = some s → SInv M H s ∧ s.me = (i : Int) ∧ s.stamp ≤ k ∧ Fok i s.filter
def TopI (Fok : Nat → List Box → Prop) (k : Int) (L : List SiteS) : Prop := ∃ M H, TopJ Fok k M H L
section
variable {Fok : Nat → List Box → Prop} {k : Int} {M : Int → Int} {H : List Version} {L : List SiteS}
theorem TopJ.mono {k' : Int} (h : TopJ Fok k M H L) (hk : k ≤ k') : TopJ Fok k' M H L := ⟨h.hist, h.home, fun i s hs => let ⟨a, b, c, d⟩ := h.inv i s hs; ⟨a, b, Int.le_trans c hk, d⟩⟩
theorem TopI.mono {k' : Int} (h : TopI Fok k L) (hk : k ≤ k') : TopI Fok k' L := let ⟨M, H, h⟩ := h; ⟨M, H, h.mono hk⟩
theorem sinv_new {me : Int} {f : List Box} (h : siteErr me f = 0) : SInv (fun _ => 0) [] (siteNew me f) := by
 have hok := siteNew_ok h
 refine ⟨hok, rfl, fun v hv => (by cases hv), fun v hv => (by cases hv), fun p d hp hd hk => ?_, fun v hv => (by cases hv)⟩
 rw [cov_known hp hd hok] at hk
 rw [Bool.or_eq_true, Bool.and_eq_true] at hk
 rcases hk with ⟨_, hk⟩ | hk
 ·show d.count ≤ (0 : Int)
  exact of_decide_eq_true hk
 ·cases hk
theorem freshL_get {G : List (List Box)} {i : Nat} {s : SiteS} (h : (freshL G)[i]? = some s) : ∃ f, G[i]? = some f ∧ s = siteNew (i : Int) f := by
 unfold freshL at h
 rw [List.getElem?_mapIdx] at h
 cases hg : G[i]? with
 | none => rw [hg] at h; cases h
 | some f => rw [hg] at h; injection h with h; exact ⟨f, rfl, h.symm⟩
theorem topI_new {G : List (List Box)} (hl : G.length ≤ 4) (hok : ∀ f ∈ G, filterCheck f = 0) (hF : ∀ (i : Nat) (f : List Box), G[i]? = some f → Fok i (plainF f)) : TopI Fok 0 (freshL G) := by
 refine ⟨fun _ => 0, [], ⟨⟨by simp, by simp, by simp, by simp, by simp⟩, fun v hv => (by cases hv), fun i s hs => ?_⟩⟩
 obtain ⟨f, hf, rfl⟩ := freshL_get hs
 have hi := (List.getElem?_eq_some_iff.1 hf).1
 have he : siteErr (i : Int) f = 0 := by
  unfold siteErr
  rw [if_pos (by omega)]
  exact hok f (List.mem_of_getElem? hf)
 exact ⟨sinv_new he, rfl, Int.le_refl _, hF i f hf⟩
theorem set_get {L : List SiteS} {i : Nat} {s s' : SiteS} (hs : L[i]? = some s) {j : Nat} {t : SiteS} (h : (L.set i s')[j]? = some t) : (j = i ∧ t = s') ∨ (j ≠ i ∧ L[j]? = some t) := by
 by_cases e : j = i
 ·subst e
  rw [List.getElem?_set_self (List.getElem?_eq_some_iff.1 hs).1] at h
  injection h with h
  exact .inl ⟨rfl, h.symm⟩
 ·rw [List.getElem?_set_ne (fun g => e g.symm)] at h
  exact .inr ⟨e, h⟩
theorem set_same {L : List SiteS} {i : Nat} {s : SiteS} (hs : L[i]? = some s) : L.set i s = L := by
 obtain ⟨hi, he⟩ := List.getElem?_eq_some_iff.1 hs
 rw [← he]; exact List.set_getElem_self hi
theorem makeS_stays (s : SiteS) (id : ByteArray) (p : Point) (body : Int) : (makeS s id p body).me = s.me ∧ (makeS s id p body).stamp = s.stamp ∧ (makeS s id p body).filter = s.filter := by
 unfold makeS
 split
 ·exact ⟨rfl, rfl, rfl⟩
 ·exact ⟨rfl, rfl, rfl⟩
theorem topI_make (h : TopI Fok k L) {i : Nat} {s : SiteS} (hs : L[i]? = some s) (id : ByteArray) (p : Point) (body : Int) (hi : idOk id = true) (hp : pointOk p = true) (hb : bodyOk body = true) : TopI Fok k (L.set i (makeS s id p body)) ∧ (makeErr s id p body = 0 ∨ makeErr s id p body = 2) := by
 obtain ⟨M, H, h⟩ := h
 obtain ⟨a1, a2, a3, a4⟩ := h.inv i s hs
 refine ⟨?_, makeErr_or h.hist a1 hi hp hb⟩
 by_cases he : makeErr s id p body = 0
 ·have hL := (List.getElem?_eq_some_iff.1 hs).1
  obtain ⟨st1, st2, st3⟩ := makeS_stays s id p body
  refine ⟨_, _, ⟨hist_make h.hist a1 he, fun v hv => ?_, fun j t ht => ?_⟩⟩
  ·rw [List.length_set]
   rcases List.mem_append.1 hv with g | g
   ·exact h.home v g
   ·rw [List.mem_singleton.1 g]
    exact ⟨i, hL, a2⟩
  ·rcases set_get hs ht with ⟨rfl, rfl⟩ | ⟨hne, ht⟩
   ·exact ⟨(sinv_make h.hist a1 he).1, st1.trans a2, by rw [st2]; exact a3, by rw [st3]; exact a4⟩
   ·obtain ⟨b1, b2, b3, b4⟩ := h.inv j t ht
    exact ⟨sinv_other a1 he b1 (by rw [b2, a2]; omega), b2, b3, b4⟩
 ·rw [show makeS s id p body = s by unfold makeS; rw [if_neg he], set_same hs]
  exact ⟨M, H, h⟩
theorem wantS_stays {s : SiteS} {f : List Box} (h : filterCheck f = 0) : (wantS s f).filter = plainF f := by
 unfold wantS; rw [if_pos h]
theorem topI_want (h : TopI Fok k L) {i : Nat} {s : SiteS} (hs : L[i]? = some s) {f : List Box} (hf : filterCheck f = 0) (hF : Fok i (plainF f)) : TopI Fok (k + 1) (L.set i (wantS s f)) := by
 obtain ⟨M, H, h⟩ := h
 refine ⟨M, H, ⟨h.hist, fun v hv => by rw [List.length_set]; exact h.home v hv, fun j t ht => ?_⟩⟩
 rcases set_get hs ht with ⟨rfl, rfl⟩ | ⟨_, ht⟩
 ·obtain ⟨a1, a2, a3, a4⟩ := h.inv j s hs
  obtain ⟨b1, b2, _, b4⟩ := sinv_want h.hist a1 f
  have := b4 hf
  exact ⟨b1, b2.trans a2, by omega, by rw [wantS_stays hf]; exact hF⟩
 ·obtain ⟨b1, b2, b3, b4⟩ := h.inv j t ht
  exact ⟨b1, b2, by omega, b4⟩
theorem TopJ.asked (h : TopJ Fok k M H L) {i j : Nat} {t f : SiteS} (ht : L[i]? = some t) (hf : L[j]? = some f) : TopJ Fok k M H (L.set i (takeS t (giveB f (askS t)))) ∧ Stays H t (takeS t (giveB f (askS t))) := by
 obtain ⟨a1, a2, a3, a4⟩ := h.inv i t ht
 obtain ⟨b1, _⟩ := h.inv j f hf
 have hb := batI_give h.hist b1 (askI_new a1)
 obtain ⟨c1, c2, _⟩ := sinv_take h.hist a1 hb
 refine ⟨⟨h.hist, fun v hv => by rw [List.length_set]; exact h.home v hv, fun q u hu => ?_⟩, c2⟩
 rcases set_get ht hu with ⟨rfl, rfl⟩ | ⟨_, hu⟩
 ·exact ⟨c1, c2.me.trans a2, by rw [c2.stamp]; exact a3, by rw [c2.filter]; exact a4⟩
 ·exact h.inv q u hu
theorem topJ_ask (h : TopJ Fok k M H L) (hk : k ≤ 1000000) {i j : Nat} {t f : SiteS} (ht : L[i]? = some t) (hf : L[j]? = some f) : SiteOk t ∧ SiteOk f ∧ giveErr (askS t) = 0 ∧ wireErr (giveB f (askS t)) = 0 ∧ (takeErr t (giveB f (askS t)) = 0 ∨ takeErr t (giveB f (askS t)) = 2) := by
 obtain ⟨a1, a2, a3, a4⟩ := h.inv i t ht
 obtain ⟨b1, _⟩ := h.inv j f hf
 have hb := batI_give h.hist b1 (askI_new a1)
 have hst : (giveB f (askS t)).stamp = t.stamp := by unfold giveB; rw [if_pos (ask_err a1.ok)]; rfl
 exact ⟨a1.ok, b1.ok, ask_err a1.ok, wire_of_batch hb.ok (by rw [hst]; omega), takeErr_or a1.ok hb.ok hb.me hst⟩
end
end Go.Proofs.YtngbfdogiciahaaGreat
namespace Go.Proofs.YtngbfdogiciahaaGreat
open Go
section
variable {P : Program} {ops : Array Oper} {Q : Exit → Act → World → Prop} {md : Region.Mode} {S : World → Prop}
def Alike (ops : Array Oper) (o : Oper) (a a' : Act) : Prop := execOp a'.eval o = execOp a.eval o ∧ Region.wanted o (yielded ops a'.tmps) = Region.wanted o (yielded ops a.tmps)
theorem Alike.put {o q : Oper} (hs : ∀ cs b, o.op ≠ .select cs b) {a : Act} {v u : Value} (h : o.apart ops q = true) : Alike ops o a (a.put q.dst u) ∧ (a.put o.dst v).put q.dst u = (a.put q.dst u).put o.dst v := by
 obtain ⟨_, h2, h3⟩ := Oper.apart_spec h
 exact ⟨⟨execOp_put o hs a q.dst u h3, wanted_put o a q.dst u h3⟩, (Act.put_comm a v u h2)⟩
theorem op_swap {j : Nat} {o q : Oper} {v : Value} (hj : ops[j]? = some q) (hap : o.apart ops q = true) (hso : ∀ cs b, o.op ≠ .select cs b) (hsq : ∀ cs b, q.op ≠ .select cs b)
  (hQ : ∀ c a w, Q (.panic c) (a.put o.dst v) w → Q (.panic c) a w) {K : Act → World → Prop} {a : Act} {w : World}
  (h : wpOp P ops Q j K (a.put o.dst v) w) : wpOp P ops Q j (fun a' w' => Alike ops o a a' ∧ K (a'.put o.dst v) w') a w := by
 have hc : ∀ u, (a.put q.dst u).put o.dst v = (a.put o.dst v).put q.dst u := fun u => (Act.put_comm a v u (Oper.apart_spec hap).2.1).symm ▸ rfl
 have ha : ∀ u, Alike ops o a (a.put q.dst u) := fun u => (Alike.put (v := v) hso hap).1
 have e1 := execOp_put q hsq a o.dst v (Oper.apart_spec hap).1
 have e2 := wanted_put q a o.dst v (Oper.apart_spec hap).1
 unfold wpOp at h ⊢
 simp only [hj, e2] at h ⊢
 by_cases hw : Region.wanted q (yielded ops a.tmps) = true
 ·rw [if_pos hw] at h ⊢
  rcases h with h | ⟨h, hl⟩
  ·refine .inl ?_
   unfold Oper.wp at h ⊢
   rw [e1] at h
   revert h
   cases (execOp a.eval q).run P w with
   | halt x w' =>
    intro h
    cases x <;> simp only [Oper.upon] at h ⊢
    exact hQ _ _ _ h
   | ok n w' =>
    intro h
    cases n <;> simp only [Oper.upon] at h ⊢
    case value u => exact ⟨ha u, by rw [hc]; exact h⟩
    case skip => exact ⟨ha _, by rw [hc]; exact h⟩
    case defer d =>
     refine ⟨(Alike.put (a := { a with defers := d :: a.defers }) (v := v) hso hap).1, ?_⟩
     rw [Act.put_defers] at h
     rw [← Act.put_comm { a with defers := d :: a.defers } v undef (Oper.apart_spec hap).2.1]
     exact h
    case enter f args =>
     refine Calls.mono h fun e w'' he => ?_
     cases e with
     | returned u => exact ⟨ha u, by rw [hc]; exact he⟩
     | panicked c => exact hQ _ _ _ he
     | outgrown => exact he
    case row row args => exact Rows.mono h fun u w'' he => ⟨ha u, by rw [hc]; exact he⟩
  ·refine .inr ⟨?_, hl⟩
   unfold Oper.asks at h ⊢
   rw [e1] at h
   exact h
 ·rw [if_neg hw] at h ⊢
  exact ⟨ha _, by rw [hc]; exact h⟩
def YieldsC (P : Program) (ops : Array Oper) (S : World → Prop) (o : Oper) (v : Value) (a : Act) : Prop :=
 (Region.wanted o (yielded ops a.tmps) = true ∧ ∀ w, S w → o.quietAt P a (fun w' => w' = w) w v) ∨ (Region.wanted o (yielded ops a.tmps) = false ∧ v = undef)
theorem YieldsC.alike {o : Oper} {v : Value} {a a' : Act} (h : YieldsC P ops S o v a) (x : Alike ops o a a') : YieldsC P ops S o v a' := by
 unfold YieldsC Oper.quietAt at *
 rw [x.1, x.2]
 exact h
theorem YieldsC.op {i : Nat} {o : Oper} {v : Value} {a : Act} (hi : ops[i]? = some o) (h : YieldsC P ops S o v a) {K : Act → World → Prop} {w : World} (hS : S w) (hK : K (a.put o.dst v) w) : wpOp P ops Q i K a w := by
 unfold wpOp
 simp only [hi]
 rcases h with ⟨hw, hv⟩ | ⟨hw, rfl⟩
 ·rw [if_pos hw]
  exact .inl (Oper.wp_of_quiet (C := fun w' => w' = w) (K := fun a' => a' = a.put o.dst v) rfl (fun a' w' e1 e2 => by rw [e1, e2]; exact hK) ⟨v, fun w' e => by rw [e]; exact hv w hS, rfl⟩)
 ·rw [if_neg (by rw [hw]; simp)]
  exact hK
theorem wpAnyC_first {i : Nat} {o : Oper} {v : Value} (hi : ops[i]? = some o) (hsel : ∀ (j : Nat) (q : Oper) cs b, ops[j]? = some q → q.op ≠ .select cs b) (hQ : ∀ c a w, Q (.panic c) (a.put o.dst v) w → Q (.panic c) a w) :
  ∀ (n : Nat) (listed : Array Bool) (a : Act) (w : World), (∀ j q, ops[j]? = some q → j ≠ i → listed.getD j true = false → (∀ e ∈ q.after, Region.binds md e = true → e.on ≠ i) → o.apart ops q = true) →
   i ∈ Region.ready md ops listed → YieldsC P ops S o v a → S w → wpAnyH P md ops Q S n (listed.setIfInBounds i true) (a.put o.dst v) w → wpAnyH P md ops Q S (n + 1) listed a w
 | n, listed, a, w, hfree, hr, hy, hS, H => by
  refine ⟨fun h => (by rw [h] at hr; cases hr), fun j hj => ?_⟩
  by_cases hji : j = i
  ·subst hji
   exact hy.op hi hS ⟨hS, H⟩
  ·have hj' := ready_mono hj hji
   match n, H with
   | 0, H => rw [H.1] at hj'; cases hj'
   | n + 1, H =>
    obtain ⟨hun, q, hq, hall⟩ := mem_ready.1 hj
    have hnot : ∀ e ∈ q.after, Region.binds md e = true → e.on ≠ i := by
     intro e he hb heq
     have h1 := hall e he hb
     have h0 := (mem_ready.1 hr).1
     rw [heq] at h1
     rcases Nat.lt_or_ge i listed.size with g | g
     ·simp [g] at h0 h1; rw [h0] at h1; cases h1
     ·simp [Array.getElem?_eq_none g] at h1
    have h2 := op_swap hq (hfree j q hq hji hun hnot) (fun cs b => hsel i o cs b hi) (fun cs b => hsel j q cs b hq) hQ (H.2 j hj')
    refine wpOp_mono (fun a' w' h3 => ⟨h3.2.1, wpAnyC_first hi hsel hQ n (listed.setIfInBounds j true) a' w' ?_ (ready_mono hr (Ne.symm hji)) (hy.alike h3.1) h3.2.1 ?_⟩) h2
    ·intro k qk hk hki hu hno
     refine hfree k qk hk hki ?_ hno
     by_cases e : j = k
     ·subst e; exact hun
     ·rwa [getD_set_ne true e] at hu
    ·rw [Array.setIfInBounds_comm _ _ hji]
     exact h3.2.2
theorem wpAnyC_call {i : Nat} {dst : Option Tmp} {f : FuncId} {xs : Array Operand} {ts : Array TypeId} {ty : TypeId} {pos : String} {af : Array Edge} {args : Array Value} {v : Value} {fuel : Nat} {listed : Array Bool} {a : Act} {w : World}
  (hcall : ∀ (av : Array Value) (w : World), (callFunc f av).run P w = .ok (.enter f av) w)
  (hi : ops[i]? = some ⟨dst, .call ⟨.value (.func f), xs, ts⟩, ty, pos, af, none⟩) (hs : Region.noSelect ops = true) (hf : Region.free md ops listed i = true) (hr : (Region.ready md ops listed).contains i = true)
  (hQ : ∀ c a w, Q (.panic c) (a.put dst v) w → Q (.panic c) a w) (ha : (xs.toList.map a.eval).toArray = args) (hc : ∀ w, S w → Calls P f args w (fun e w' => e = .returned v ∧ w' = w)) (hS : S w)
  (h : wpAnyH P md ops Q S fuel (listed.setIfInBounds i true) (a.put dst v) w) : wpAnyH P md ops Q S (fuel + 1) listed a w := by
 refine wpAnyC_first hi (Region.noSelect_spec hs) hQ fuel listed a w (Region.free_spec hi hf) (by simpa using hr) (.inl ⟨rfl, fun w' hw' => ?_⟩) hS h
 have he : (execOp a.eval ⟨dst, .call ⟨.value (.func f), xs, ts⟩, ty, pos, af, none⟩).run P w' = .ok (.enter f args) w' := by
  subst ha
  unfold execOp
  simp [resolve, invoke, Act.eval, hcall, go_sem]
  rw [← Array.toList_map]
 unfold Oper.quietAt
 rw [he]
 exact ⟨rfl, hc w' hw'⟩
end
end Go.Proofs.YtngbfdogiciahaaGreat
