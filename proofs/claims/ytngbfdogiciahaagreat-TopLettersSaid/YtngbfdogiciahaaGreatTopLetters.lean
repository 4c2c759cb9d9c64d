/- THE LAW TopLetters: whatever is made and wanted, and however letters are lost, doubled and late: once one who wants all has asked everybody, and everybody has asked him, by letters that come, each has just what he has of what it wants, and of what it made. The conditions are the statement's own. -/
import Derived.Test.YtngbfdogiciahaaGreatShort
import Derived.Test.YtngbfdogiciahaaGreatRows
import Derived.Test.YtngbfdogiciahaaGreatJoinTopM
import Derived.Test.YtngbfdogiciahaaGreatJoinShelfF
namespace Go.Proofs.YtngbfdogiciahaaGreat
open Go Go.RowKit
theorem RBoxes.old {B B' : Nat} {w : World} {cs : List Value} {l : List Box} (hB : B ≤ B') (h : RBoxes B w cs l) : RBoxes B' w cs l := by
 obtain ⟨v, e, hv⟩ := h
 exact ⟨v, e, hv.oldR (fun _ _ h => h.old hB) hB⟩
theorem nm2_get {k : Nat} (h : k < 2) : (#[.string ⟨#[97]⟩, .string ⟨#[98]⟩] : Array Value)[k]? = some (.string (nm k)) := by
 obtain rfl | rfl : k = 0 ∨ k = 1 := by omega
 all_goals rfl
def ptL (x : Int) : Point := ⟨(wN x 16 : Nat), (wN (IntKind.i64.wrap (x.tdiv 2)) 32 : Nat)⟩
theorem ptL_ok (x : Int) : pointOk (ptL x) = true := by
 have h1 := show wN x 16 < 16 from wN_lt x (m := 16) (by decide)
 have h2 := show wN (IntKind.i64.wrap (x.tdiv 2)) 32 < 32 from wN_lt _ (m := 32) (by decide)
 exact pointOk_iff.2 ⟨show (0 : Int) ≤ ((wN x 16 : Nat) : Int) by omega, show ((wN x 16 : Nat) : Int) ≤ 15 by omega, show (0 : Int) ≤ ((wN (IntKind.i64.wrap (x.tdiv 2)) 32 : Nat) : Int) by omega, show ((wN (IntKind.i64.wrap (x.tdiv 2)) 32 : Nat) : Int) ≤ 31 by omega⟩
theorem Own.ty3 {α : Type} {R : World → List Value → α → Prop} {sz g c : Nat} {e : TypeId} {w : World} {base : Nat} {l : List α} (h : Own R sz e w base (.slice (some ⟨g, 0, none⟩) 3 c) l) : tyAt w g = some e := by
 rcases h.at_ with ⟨hv, _⟩ | ⟨g', c', hv, _, _, ht, _⟩
 ·cases hv
 ·injection hv with hv _ _
  injection hv with hv
  injection hv with hv _
  subst hv
  exact ht
theorem IsTown.siteTy {B : Nat} {w : World} {rT r i : Nat} {rs : List Nat} {L : List SiteS} {W : List LetS} {s : SiteS} (h : IsTown B w rT rs L W) (hr : rs[i]? = some r) (hs : L[i]? = some s) : tyAt w r = some 159 := by
 obtain ⟨As, cs, v, ht⟩ := h
 exact (ht.sites.at_ i r s hr hs).2.ty
theorem IsTown.ge {B : Nat} {w : World} {rT r i : Nat} {rs : List Nat} {L : List SiteS} {W : List LetS} {s : SiteS} (h : IsTown B w rT rs L W) (hr : rs[i]? = some r) (hs : L[i]? = some s) : B ≤ r := by
 obtain ⟨As, cs, v, ht⟩ := h
 exact (ht.sites.at_ i r s hr hs).1
theorem IsTown.slt {B : Nat} {w : World} {rT r i : Nat} {rs : List Nat} {L : List SiteS} {W : List LetS} {s : SiteS} (h : IsTown B w rT rs L W) (hr : rs[i]? = some r) (hs : L[i]? = some s) : r < w.heap.size := by
 obtain ⟨As, cs, v, ht⟩ := h
 exact (ht.sites.at_ i r s hr hs).2.lt
theorem IsTown.chgF {B : Nat} {w w' : World} {rT : Nat} {rs : List Nat} {L : List SiteS} {W : List LetS} (h : IsTown B w rT rs L W) (x : Chg B [30] w w') : IsTown B w' rT rs L W := by
 obtain ⟨As, cs, v, h⟩ := h
 refine ⟨As, cs, v, h.hB, h.blk.chg x (by decide), h.cap, h.sp.chg RPtr.mono (by decide) x, ⟨h.sites.len, h.sites.inj, fun i r s a b => ⟨(h.sites.at_ i r s a b).1, ?_⟩⟩, h.way.chgW (RLet.mono (by decide)) x (by decide)⟩
 obtain ⟨Af, cf, Ax, cx, Ap, cp, q⟩ := (h.sites.at_ i r s a b).2
 exact ⟨Af, cf, Ax, cx, Ap, cp, q.blk.chg x (by decide), q.sf.chg (RBox.mono (by decide)) (by decide) x, q.sx.chg (RVer.mono (by decide) (by decide)) (by decide) x, q.sp.chg (RPart.mono (by decide) (by decide) (by decide) (by decide)) (by decide) x⟩
def wayLen (w : World) (rT : Nat) : Nat := match w.cell? ⟨rT, 1, none⟩ with | some (.slice _ n _) => n | _ => 0
theorem IsTown.wayLen {B : Nat} {w : World} {rT : Nat} {rs : List Nat} {L : List SiteS} {W : List LetS} (h : IsTown B w rT rs L W) : wayLen w rT = W.length := by
 obtain ⟨As, cs, v, h⟩ := h
 obtain ⟨A, c, rfl, _, _⟩ := h.way.len
 unfold Go.Proofs.YtngbfdogiciahaaGreat.wayLen
 rw [h.blk.cell (i := 1) (u := .slice A W.length c) rfl]
structure LetInv (Fok : Nat → List Box → Prop) (k : Int) (L : List SiteS) (W : List LetS) (N : List (List Box)) : Prop where
 len : L.length = 4
 town : TownI Fok k L W
 wl : W.length ≤ 60
 nl : N.length = 3
 nf : ∀ (i : Nat) (f : List Box), N[i]? = some f → filterCheck f = 0 ∧ ∀ s, L[i]? = some s → s.filter = plainF f
section
variable {k : Int} {L : List SiteS} {W : List LetS} {N : List (List Box)} {i : Nat} {s : SiteS} {Fok : Nat → List Box → Prop}
theorem LetInv.mono {k' : Int} (h : LetInv Fok k L W N) (hk : k ≤ k') : LetInv Fok k' L W N := ⟨h.len, h.town.mono hk, h.wl, h.nl, h.nf⟩
theorem nf_set {s' : SiteS} (h : ∀ (i : Nat) (f : List Box), N[i]? = some f → filterCheck f = 0 ∧ ∀ s, L[i]? = some s → s.filter = plainF f) (hs : L[i]? = some s) (hf : s'.filter = s.filter) : ∀ (j : Nat) (f : List Box), N[j]? = some f → filterCheck f = 0 ∧ ∀ t, (L.set i s')[j]? = some t → t.filter = plainF f := by
 intro j f hj
 refine ⟨(h j f hj).1, fun t ht => ?_⟩
 rcases set_get hs ht with ⟨rfl, rfl⟩ | ⟨_, ht⟩
 ·rw [hf]; exact (h j f hj).2 s hs
 ·exact (h j f hj).2 t ht
theorem LetInv.make (h : LetInv Fok k L W N) (hs : L[i]? = some s) (id : ByteArray) (p : Point) (body : Int) (hi : idOk id = true) (hp : pointOk p = true) (hb : bodyOk body = true) : LetInv Fok k (L.set i (makeS s id p body)) W N ∧ (makeErr s id p body = 0 ∨ makeErr s id p body = 2) := by
 obtain ⟨a, b⟩ := townI_make h.town hs id p body hi hp hb
 exact ⟨⟨by rw [List.length_set]; exact h.len, a, h.wl, h.nl, nf_set h.nf hs (makeS_stays s id p body).2.2⟩, b⟩
theorem LetInv.send (h : LetInv Fok k L W N) (hs : L[i]? = some s) {tw : Nat} (ht : tw < 4) : LetInv Fok k L (sendW W i tw s) N := by
 unfold sendW
 by_cases he : sendE W.length i tw = 0
 ·rw [if_pos he]
  refine ⟨h.len, townI_send h.town hs (by rw [h.len]; exact ht), ?_, h.nl, h.nf⟩
  unfold sendE at he
  split at he
  ·cases he
  ·split at he
   ·cases he
   ·simp; omega
 ·rw [if_neg he]; exact h
theorem LetInv.give (h : LetInv Fok k L W N) {tw : Nat} {a : AskS} (hx : .ask tw a ∈ W) {g : SiteS} (hg : L[tw]? = some g) : LetInv Fok k L (bringW W a g) N := by
 unfold bringW
 by_cases h60 : 60 ≤ W.length
 ·rw [if_pos h60]; exact h
 ·rw [if_neg h60]
  exact ⟨h.len, (townI_give h.town hx hg).2.2, by simp; omega, h.nl, h.nf⟩
theorem LetInv.take (h : LetInv Fok k L W N) {tw : Nat} {b : Batch} (hx : .bat tw b ∈ W) (hs : L[tw]? = some s) : LetInv Fok k (L.set tw (takeS s b)) W N := by
 refine ⟨by rw [List.length_set]; exact h.len, townI_take h.town hx hs, h.wl, h.nl, nf_set h.nf hs ?_⟩
 unfold takeS
 split <;> rfl
theorem LetInv.lose (h : LetInv Fok k L W N) (j : Nat) : LetInv Fok k L (W.eraseIdx j) N :=
 ⟨h.len, townI_sub h.town (fun _ hx => List.mem_of_mem_eraseIdx hx), Nat.le_trans (List.length_eraseIdx_le _ _) h.wl, h.nl, h.nf⟩
end
theorem LetInv.want {k : Int} {L : List SiteS} {W : List LetS} {N : List (List Box)} {i : Nat} {s : SiteS} {f : List Box} (h : LetInv (fun i f => i = 3 → AllF f) k L W N) (hs : L[i]? = some s) (hi : i < 3) (hf : filterCheck f = 0) : LetInv (fun i f => i = 3 → AllF f) (k + 1) (L.set i (wantS s f)) W (N.set i f) := by
 refine ⟨by rw [List.length_set]; exact h.len, townI_want h.town hs hf (fun e => by omega), h.wl, by rw [List.length_set]; exact h.nl, fun j g hj => ?_⟩
 by_cases e : j = i
 ·subst e
  rw [List.getElem?_set_self (by rw [h.nl]; exact hi)] at hj
  injection hj with hj
  subst hj
  refine ⟨hf, fun t ht => ?_⟩
  rw [List.getElem?_set_self (List.getElem?_eq_some_iff.1 hs).1] at ht
  injection ht with ht
  subst ht
  exact wantS_stays hf
 ·rw [List.getElem?_set_ne (fun g => e g.symm)] at hj
  refine ⟨(h.nf j g hj).1, fun t ht => ?_⟩
  rw [List.getElem?_set_ne (fun g => e g.symm)] at ht
  exact (h.nf j g hj).2 t ht
theorem letInv_new {F : List (List Box)} (h3 : F.length = 3) (hok : ∀ f ∈ F, filterCheck f = 0) : LetInv (fun i f => i = 3 → AllF f) 0 (freshL (F ++ [everyF])) [] F := by
 have hT : TopI (fun i f => i = 3 → AllF f) 0 (freshL (F ++ [everyF])) := by
  refine topI_new (by simp [h3]) (fun f hf => (List.mem_append.1 hf).elim (hok f) fun h => by rw [List.mem_singleton.1 h]; exact everyF_ok) fun i f hf hi => ?_
  rw [hi, List.getElem?_append_right (by rw [h3]; exact Nat.le_refl _), h3] at hf
  simp at hf
  rw [← hf]
  exact allF_every
 obtain ⟨M, H, hT⟩ := hT
 refine ⟨by rw [freshL_len]; simp [h3], ⟨M, H, hT, fun x hx => by cases hx⟩, Nat.zero_le _, h3, fun i f hf => ⟨hok f (List.mem_of_getElem? hf), fun s hs => ?_⟩⟩
 obtain ⟨g, hg, rfl⟩ := freshL_get hs
 rw [List.getElem?_append_left (List.getElem?_eq_some_iff.1 hf).1, hf] at hg
 injection hg with hg
 subst hg
 rfl
set_option maxRecDepth 100000 in
set_option maxHeartbeats 40000000 in
theorem law_TopLetters (A : Option Addr) (c : Nat) (fs0 : List (List Box)) (Al : Option Addr) (cl : Nat) (l : List (List Int)) (w : World) (hlc : fs0.length ≤ c) (hlc2 : l.length ≤ cl) (hf0 : SlFils w.heap.size w A fs0) (hl0 : SlVecs w.heap.size w Al l) :
  Calls Tryz.prog 3 #[.slice A fs0.length c, .slice Al l.length cl] w fun e w' => e = .returned (.bool true) ∧ Ext w w' := by
 have hm0 : 0 ≤ min (l.length : Int) 40 := by omega
 have hm1 : min (l.length : Int) 40 ≤ (cl : Int) := by omega
 have HL0 := hid hl0
 have HF0 := hid hf0
 have HLC := hid hlc
 clear hlc hlc2 hf0 hl0
 go_enter Tryz.func3, Tryz.ntmps3
 go_wp2_with fail
 refine (top_begun w.heap.size w (Nat.le_refl _)).mono ?_
 rintro e w1 ⟨rfl, hx⟩
 go_wp2_with fail
 refine (top_filters w.heap.size A c fs0 w1 hx.size HLC.out (HF0.out.ext RBoxes.monoE hx)).mono ?_
 rintro e w2 ⟨v2, F, rfl, ⟨Af, cf, rfl, f1, f2, hsf⟩, hF3, hFok, hx2⟩
 have HF3 := hid hF3
 have HFOK := hid hFok
 replace hx := hx.trans hx2
 obtain ⟨B, hBd⟩ : ∃ B, B = w2.heap.size := ⟨_, rfl⟩
 have HB2 := hid (show w2.heap.size ≤ B by rw [hBd]; exact Nat.le_refl _)
 have HB3 := hid (show B ≤ w2.heap.size by rw [hBd]; exact Nat.le_refl _)
 have HBB := hid (show w.heap.size ≤ B by rw [hBd]; exact hx.size)
 have HX02 := hid hx
 have HSF := hid (show SlFils B w2 Af F from hsf.oldR (fun _ _ h => h.old HBB.out) HBB.out)
 clear hx2 hF3 hFok f1 f2 hsf hx hBd
 go_wp2_with fail
 refine (clone_fils B Af cf F w2 HB3.out (by have := HF3.out; omega) HSF.out).mono ?_
 rintro e w3 ⟨v3, rfl, ho3, hx⟩
 obtain ⟨A3, c3, rfl, _, _⟩ := ho3.len
 go_wp2_with fail
 refine (filter_Every B w3 (Nat.le_trans HB3.out hx.size)).mono ?_
 rintro e w4 ⟨v4, rfl, ⟨A4, c4, rfl, h1, h2, hv4⟩, hx4⟩
 obtain ⟨x, hxe⟩ : ∃ x, x = everyF := ⟨_, rfl⟩
 rw [← hxe] at h1 hv4 ⊢
 have HX := hid hxe
 clear hxe
 have H34 := hid (And.intro h1 h2)
 clear h1 h2
 have hxa := hx4.trans ((Ext.refl w4).alloc (.cells #[.slice A4 x.length c4] 30))
 have hone : SlFils B (w4.alloc (.cells #[.slice A4 x.length c4] 30)) (some ⟨w4.heap.size, 0, none⟩) [x] := Sl.one (R := RBoxes B) (B := B) (cs := [.slice A4 x.length c4]) rfl rfl ⟨_, rfl, A4, c4, rfl, H34.out.1, H34.out.2, hv4.ext RBox.monoE ((Ext.refl _).alloc _)⟩
 replace ho3 := ho3.ext RBoxes.monoE hxa
 replace hx := hx.trans hxa
 clear hxa hx4 hv4
 go_wp2_with (at_builtin; refine wpList_app (ys := [x]) rfl _ _ rfl ei_fils rfl ho3 HB3.out hx.size rfl hone RBoxes.oneC (RBoxes.mono (by decide) (by decide)) (by have := HF3.out; simp [maxLen]; omega) (by have := HF3.out; simp; omega) ?_; intro v5 w5 ho5 hc5 hb5 hg5; have hx5 := hx.below hb5 (Nat.le_refl _); obtain ⟨G, hG⟩ : ∃ G, G = F ++ [x] := ⟨_, rfl⟩; rw [← hG] at ho5; have HG4 := hid (show G.length ≤ 5 by rw [hG]; have := HF3.out; simp; omega); have HG := hid (show G = F ++ [everyF] by rw [hG, HX.out]); obtain ⟨A5, c5, rfl, _, _⟩ := ho5.len; clear hG)
 clear hc5 hb5 hg5 ho3 hone hx
 have HGO := hid (show ∀ f ∈ G, filterCheck f = 0 by
  rw [HG.out]
  exact fun f hf => (List.mem_append.1 hf).elim (HFOK.out f) fun h => by rw [List.mem_singleton.1 h]; exact everyF_ok)
 refine (town_New B A5 c5 G w5 (Nat.le_trans HB3.out hx5.size) HG4.out HGO.out (ho5.sl B)).mono ?_
 rintro e w6 ⟨rT, rs, rfl, ht, hx6⟩
 rw [HG.out] at ht
 have hrl : rs.length = 4 := by rw [ht.len, freshL_len]; simp [HF3.out]
 have HRL := hid hrl
 have hx7 := (Ext.refl w6).alloc (.cells #[.pointer (some ⟨rT, 0, none⟩)] 26)
 have hbt := Blk.new w6 26 #[.pointer (some ⟨rT, 0, none⟩)]
 have HX7 := hid ((hx5.trans hx6).trans hx7)
 replace ht := ht.ext hx7
 clear hx5 hx6 hx7 ho5 hrl
 go_wp2_with fail
 obtain ⟨w7, hw7⟩ : ∃ w7, w7 = w6.alloc (.cells #[.pointer (some ⟨rT, 0, none⟩)] 26) := ⟨_, rfl⟩
 obtain ⟨bt, hbtd⟩ : ∃ b, b = w6.heap.size := ⟨_, rfl⟩
 rw [← hw7, ← hbtd]
 rw [← hw7] at ht hbt HX7
 rw [← hbtd] at hbt
 clear hw7 hbtd
 refine (clone_fils B Af cf F w7 (Nat.le_trans HB3.out HX7.out.size) (by have := HF3.out; omega) (HSF.out.ext RBoxes.monoE HX7.out)).mono ?_
 rintro e w8 ⟨v8, rfl, ho8, hx8⟩
 obtain ⟨nb0, hnb0⟩ : ∃ n, n = w7.heap.size := ⟨_, rfl⟩
 rw [← hnb0] at ho8
 have HB0 := hid (show B ≤ nb0 by rw [hnb0]; exact Nat.le_trans HB3.out HX7.out.size)
 obtain ⟨nb, cn, rfl, hnb⟩ : ∃ nb cn, v8 = .slice (some ⟨nb, 0, none⟩) F.length cn ∧ nb0 ≤ nb := by
  rcases ho8.at_ with ⟨_, hnil⟩ | ⟨g, c', hv, hg, _⟩
  ·have := HF3.out; rw [hnil] at this; cases this
  ·exact ⟨g, c', hv, hg⟩
 have HNB := hid hnb
 have hcn : (3 : Int) ≤ (cn : Int) := by
  obtain ⟨A, c', hv, h1, _⟩ := ho8.len
  injection hv with _ _ hv
  have := HF3.out
  omega
 rw [HF3.out] at ho8 ⊢
 have HO8 := hid ho8
 have HT8 := hid (ht.ext hx8)
 have HBT8 := hid (hbt.ext hx8)
 have HX8 := hid (HX7.out.trans hx8)
 have HI8 := hid (letInv_new HF3.out HFOK.out)
 clear ht hbt hx8 ho8 hnb hnb0
 go_wp2_with fail
 obtain ⟨T, hT⟩ : ∃ T, T = l.take 40 := ⟨_, rfl⟩
 have hll2 : T.length = min l.length 40 := by rw [hT, List.length_take]; omega
 rw [show (min (l.length : Int) 40).toNat = T.length by omega, show max (min (l.length : Int) 40) 0 = (T.length : Int) by omega]
 have HSL := hid (show SlVecs w.heap.size w Al T from hT ▸ HL0.out.take 40)
 have HT40 := hid (show T.length ≤ 40 by omega)
 clear hT hll2 hm0 hm1 HL0
 go_loopw [47] (fun i wr => ∃ (k : Nat) (L : List SiteS) (W : List LetS) (N : List (List Box)), k ≤ T.length ∧ i = .int .i64 k ∧ IsTown B wr rT rs L W ∧ Hid (LetInv (fun i f => i = 3 → AllF f) (k : Int) L W N) ∧ Own (RBoxes B) 1 30 wr nb0 (.slice (some ⟨nb, 0, none⟩) 3 cn) N ∧ Blk wr bt 26 #[.pointer (some ⟨rT, 0, none⟩)] ∧ Ext w2 wr) (fun i _ => T.length - (intOf i).toNat)
 case atStart => exact ⟨0, freshL (F ++ [everyF]), [], F, Nat.zero_le _, rfl, HT8.out, HI8, HO8.out, HBT8.out, HX8.out⟩
 case round =>
  clear HT8 HI8 HO8 HBT8 HX8
  obtain ⟨k, L, W, N, hk, rfl, ht, HI, hown, hbt, hx⟩ := hrel
  have HT := hid ht
  have HOWN := hid hown
  have HBT := hid hbt
  have HX2 := hid hx
  have HXW2 := hid (HX02.out.trans hx)
  have hbc := hbt.cell (i := 0) (u := .pointer (some ⟨rT, 0, none⟩)) rfl
  have hblt := hbt.lt
  have hw1 : wrap64 ((k : Int) + 1) = ((k + 1 : Nat) : Int) := by have := HT40.out; unfold wrap64; omega
  by_cases hlt : k < T.length
  ·obtain ⟨bl, ol, u, rfl, hbl, ⟨uv, hue, hvv⟩, hcell⟩ := (HSL.out).cellC (ts := [159]) (by decide) hlt
   obtain ⟨Ac, ccp, rfl, c1, c2, hcs⟩ := hvv
   injection hue with hue _
   subst hue
   have hl0 := hcell wr (.of_ext HXW2.out)
   obtain ⟨cc, hcc⟩ : ∃ cc, cc = T[k] := ⟨_, rfl⟩
   rw [← hcc] at hcs hl0
   have HCS := hid hcs
   have HK := hid (And.intro hlt hk)
   have hbw := Nat.lt_of_lt_of_le hbl HXW2.out.size
   clear hcell hcc c1 c2 hcs hk ht hown hbt hx
   by_cases h3 : cc.length < 3
   ·have hd : decide ((cc.length : Int) < 3) = true := decide_eq_true (by omega)
    clear h3
    go_wp2_with fail
    go_roundw
    case rel => exact ⟨k + 1, L, W, N, HK.out.1, by rw [hw1], HT.out, hid (HI.out.mono (by omega)), HOWN.out, HBT.out, HX2.out⟩
    case measure => rw [hw1]; have := HK.out.1; simp only [intOf, Int.toNat_natCast]; omega
   ·have hd : decide ((cc.length : Int) < 3) = false := decide_eq_false (by omega)
    have hc3 : 3 ≤ cc.length := by omega
    have hb0 : (0 : Int) < (cc.length : Int) := by omega
    have hb1 : (1 : Int) < (cc.length : Int) := by omega
    have hb2 : (2 : Int) < (cc.length : Int) := by omega
    clear h3
    obtain ⟨bc, oc, hA0, hbc2, hc0⟩ := Sl.intC HCS.out (show 0 < cc.length by omega)
    obtain ⟨_, _, hA1, _, hc1⟩ := Sl.intC HCS.out (show 1 < cc.length by omega)
    obtain ⟨_, _, hA2, _, hc2⟩ := Sl.intC HCS.out (show 2 < cc.length by omega)
    rw [hA0] at hA1 hA2
    injection hA1 with hA1
    injection hA1 with hA1 hA1'
    injection hA2 with hA2
    injection hA2 with hA2 hA2'
    subst hA1 hA1' hA2 hA2' hA0
    have HC := hid (fun w' (x : Ext w w') => And.intro (hc0 w' (.of_ext x)) (And.intro (hc1 w' (.of_ext x)) (hc2 w' (.of_ext x))))
    clear hc0 hc1 hc2
    obtain ⟨x0, hx0⟩ : ∃ x, x = cc[0] := ⟨_, rfl⟩
    obtain ⟨x1, hx1⟩ : ∃ x, x = cc[1] := ⟨_, rfl⟩
    obtain ⟨x2, hx2⟩ : ∃ x, x = cc[2] := ⟨_, rfl⟩
    rw [← hx0, ← hx1, ← hx2, Nat.add_zero] at HC
    clear hx0 hx1 hx2
    obtain ⟨pc0, pc1, pc2⟩ := HC.out wr HXW2.out
    have HBW := hid (Nat.le_trans HB3.out HX2.out.size)
    have HEX2 := hid (fun w' (x : Chg B TS wr w') => show Ext w2 w' from ((Chg.of_ext HX2.out).trans x).ext HB2.out)
    have HEX := hid (fun w' (x : Chg B TS wr w') => HX02.out.trans (HEX2.out w' x))
    have HN0 := hid (fun w' (x : Chg B TS wr w') => HOWN.out.chgW (B := B) (RBoxes.mono (by decide) (by decide)) x (by decide))
    go_wp2_with fail
    refine (keep_within x1 4 (by decide) (by decide) wr).mono ?_
    rintro e w1 ⟨rfl, hw1'⟩
    subst hw1'
    have hii := show wN x1 4 < 4 from wN_lt x1 (m := 4) (by decide)
    obtain ⟨ii, hid1⟩ : ∃ a, a = wN x1 4 := ⟨_, rfl⟩
    rw [← hid1] at hii ⊢
    clear hid1
    obtain ⟨ri, hri⟩ : ∃ r, rs[ii]? = some r := ⟨_, List.getElem?_eq_getElem (by rw [HRL.out]; exact hii)⟩
    obtain ⟨si, hsi⟩ : ∃ s, L[ii]? = some s := ⟨_, List.getElem?_eq_getElem (by rw [HI.out.len]; exact hii)⟩
    have HSI := hid (And.intro hri hsi)
    have HRI := hid (show B ≤ ri ∧ ri < w1.heap.size ∧ tyAt w1 ri = some 159 from ⟨HT.out.ge hri hsi, HT.out.slt hri hsi, HT.out.siteTy hri hsi⟩)
    have HOKI := hid (townI_ok HI.out.town hsi).1
    have HFC := hid (fun w' (x : Fr ri w1 w') => show Chg B TS w1 w' from (x.chg HRI.out.2.2 HRI.out.1).more (by simp))
    clear hri hsi
    obtain ⟨wr, hwr⟩ : ∃ wr, wr = w1 := ⟨_, rfl⟩
    subst hwr
    go_wp2_with fail
    refine (keep_within x0 7 (by decide) (by decide) wr).mono ?_
    rintro e w9 ⟨rfl, hw9⟩
    subst hw9
    have hq7 := show wN x0 7 < 7 from wN_lt x0 (m := 7) (by decide)
    obtain ⟨q, hq⟩ : ∃ q, q = wN x0 7 := ⟨_, rfl⟩
    rw [← hq] at hq7 ⊢
    obtain ⟨wr, hwr⟩ : ∃ wr, wr = w9 := ⟨_, rfl⟩
    subst hwr
    clear hq
    obtain hq | rfl | hq | rfl | rfl : (q = 0 ∨ q = 1) ∨ q = 2 ∨ (q = 3 ∨ q = 4) ∨ q = 5 ∨ q = 6 := by omega
    ·obtain rfl | rfl := hq
     all_goals
      have hx2 := show wN x2 2 < 2 from wN_lt x2 (m := 2) (by decide)
      have hx2i : ((wN x2 2 : Nat) : Int) < 2 := by omega
      have HAll := hid (fun w' (x : Chg B TS wr w') => show w'.cell? ⟨bt, 0, none⟩ = some (.pointer (some ⟨rT, 0, none⟩)) ∧ w'.cell? ⟨bc, oc + 2, none⟩ = some (.int .i64 x2) from ⟨(HBT.out.chg x (by decide)).cell rfl, (HC.out w' (HEX.out w' x)).2.2⟩)
      go_wp2_with fail
      have hyn := (Ext.refl wr).drew
      refine wp_region_held_drew (S := fun w' => w'.cell? ⟨bt, 0, none⟩ = some (.pointer (some ⟨rT, 0, none⟩)) ∧ w'.cell? ⟨bc, oc + 2, none⟩ = some (.int .i64 x2)) (by kernel_rfl) (HAll.out _ (Chg.of_ext hyn)) (fun hHeld => ?_)
      obtain ⟨wc, hwc⟩ : ∃ wc, wc = wr.drew := ⟨_, rfl⟩
      rw [← hwc] at hHeld hyn ⊢
      clear hwc
      refine tk 0 ?_ rfl (by kernel_rfl) (fun _ _ _ h => h) (by rfl) ?_ (by assumption) ?_
      rotate_left
      ·intro w' hSw; (try dsimp only at hSw); go_simp <;> with_reducible rfl
      simp only [gq]; try simp only [pq]
      refine tk 1 ?_ rfl (by kernel_rfl) (fun _ _ _ h => h) (by rfl) ?_ (by assumption) ?_
      rotate_left
      ·intro w' hSw; (try dsimp only at hSw); go_simp <;> with_reducible rfl
      simp only [gq]; try simp only [pq]
      refine tk 3 ?_ rfl (by kernel_rfl) (fun _ _ _ h => h) (by rfl) ?_ (by assumption) ?_
      rotate_left
      ·intro w' hSw; (try dsimp only at hSw); go_simp <;> with_reducible rfl
      simp only [gq]; try simp only [pq]
      refine tk 4 ?_ rfl (by kernel_rfl) (fun _ _ _ h => h) (by rfl) ?_ (by assumption) ?_
      rotate_left
      ·intro w' hSw; (try dsimp only at hSw); go_simp <;> with_reducible rfl
      simp only [gq]; try simp only [pq]
      refine tk 5 ?_ rfl (by kernel_rfl) (fun _ _ _ h => h) (by rfl) ?_ (by assumption) ?_
      rotate_left
      ·intro w' hSw; (try dsimp only at hSw); go_simp <;> with_reducible rfl
      simp only [gq]; try simp only [pq]
      refine wpAnyC_call (i := 6) Tryz.call13 rfl (by kernel_rfl) (by kernel_rfl) (by kernel_rfl) (fun _ _ _ h => h) (by rfl) (fun w' _ => keep_within _ 2 (by decide) (by decide) w') (by assumption) ?_
      try simp only [pq]
      refine tk 9 ?_ rfl (by kernel_rfl) (fun _ _ _ h => h) (by rfl) ?_ (by assumption) ?_
      rotate_left
      ·intro w' hSw; (try dsimp only at hSw); go_simp <;> with_reducible rfl
      simp only [gq]; try simp only [pq]
      refine tk 10 ?_ rfl (by kernel_rfl) (fun _ _ _ h => h) (by rfl) ?_ (by assumption) ?_
      rotate_left
      ·intro w' hSw; (try dsimp only at hSw); go_simp <;> with_reducible rfl
      simp only [gq]; try simp only [pq]
      refine tk 11 ?_ rfl (by kernel_rfl) (fun _ _ _ h => h) (by rfl) ?_ (by assumption) ?_
      rotate_left
      ·intro w' hSw; (try dsimp only at hSw); go_simp <;> with_reducible rfl
      simp only [gq]; try simp only [pq]
      refine wpAnyC_call (i := 12) Tryz.call13 rfl (by kernel_rfl) (by kernel_rfl) (by kernel_rfl) (fun _ _ _ h => h) (by rfl) (fun w' _ => keep_within _ 16 (by decide) (by decide) w') (by assumption) ?_
      try simp only [pq]
      refine tk 13 ?_ rfl (by kernel_rfl) (fun _ _ _ h => h) (by rfl) ?_ (by assumption) ?_
      rotate_left
      ·intro w' hSw; (try dsimp only at hSw); go_simp <;> with_reducible rfl
      simp only [gq]; try simp only [pq]
      refine tk 14 ?_ rfl (by kernel_rfl) (fun _ _ _ h => h) (by rfl) ?_ (by assumption) ?_
      rotate_left
      ·intro w' hSw; (try dsimp only at hSw); go_simp <;> with_reducible rfl
      simp only [gq]; try simp only [pq]
      refine tk 15 ?_ rfl (by kernel_rfl) (fun _ _ _ h => h) (by rfl) ?_ (by assumption) ?_
      rotate_left
      ·intro w' hSw; (try dsimp only at hSw); go_simp <;> with_reducible rfl
      simp only [gq]; try simp only [pq]
      refine tk 16 ?_ rfl (by kernel_rfl) (fun _ _ _ h => h) (by rfl) ?_ (by assumption) ?_
      rotate_left
      ·intro w' hSw; (try dsimp only at hSw); go_simp <;> with_reducible rfl
      simp only [gq]; try simp only [pq]
      refine wpAnyC_call (i := 17) Tryz.call13 rfl (by kernel_rfl) (by kernel_rfl) (by kernel_rfl) (fun _ _ _ h => h) (by rfl) (fun w' _ => keep_within _ 32 (by decide) (by decide) w') (by assumption) ?_
      try simp only [pq]
      refine tk 18 ?_ rfl (by kernel_rfl) (fun _ _ _ h => h) (by rfl) ?_ (by assumption) ?_
      rotate_left
      ·intro w' hSw; (try dsimp only at hSw); go_simp <;> with_reducible rfl
      simp only [gq]; try simp only [pq]
      refine wpAnyH_ready (rs := [2, 23]) (by kernel_rfl) (by simp) ?_
      refine AllReadyH.cons rfl (fun K hK => ?_) ?_
      ·simp only [gq]
       go_simp
       have hb2 := Blk.new wc 9 #[.string ⟨#[97]⟩, .string ⟨#[98]⟩]
       have hxa := (Ext.refl wc).alloc (.cells #[.string ⟨#[97]⟩, .string ⟨#[98]⟩] 9)
       have hge2 := hyn.size
       replace hyn := hyn.trans hxa
       obtain ⟨wn, hwn⟩ : ∃ wn, wn = wc.alloc (.cells #[.string ⟨#[97]⟩, .string ⟨#[98]⟩] 9) := ⟨_, rfl⟩
       obtain ⟨b2, hbd⟩ : ∃ b, b = wc.heap.size := ⟨_, rfl⟩
       rw [← hwn] at hb2 hyn
       rw [← hwn, ← hbd]
       rw [← hbd] at hb2 hge2
       clear hxa hwn hbd
       obtain ⟨wc, rfl⟩ : ∃ wc', wc' = wn := ⟨_, rfl⟩
       refine hK.out _ _ (HAll.out _ (Chg.of_ext hyn)) (fun hHeld => ?_)
       clear hK K
       try simp only [pq]
       refine tk 7 ?_ rfl (by kernel_rfl) (fun _ _ _ h => h) (by rfl) ?_ (by assumption) ?_
       rotate_left
       ·intro w' hSw; (try dsimp only at hSw); go_simp <;> with_reducible rfl
       simp only [gq]; try simp only [pq]
       refine wpAnyH_ready (rs := [8, 23]) (by kernel_rfl) (by simp) ?_
       refine AllReadyH.cons rfl (fun K hK => ?_) ?_
       ·simp only [gq]
        have y2 := hb2.cell (nm2_get hx2)
        go_simp
        clear y2 hb2
        refine hK.out _ _ (HAll.out _ (Chg.of_ext hyn)) (fun hHeld => ?_)
        clear hK K
        try simp only [pq]
        refine wpAnyH_ready (rs := [19, 23]) (by kernel_rfl) (by simp) ?_
        refine AllReadyH.cons rfl (fun K hK => ?_) ?_
        ·simp only [gq]
         go_simp
         refine (town_Make B rT rs L W ii ri si (nm (wN x2 2)) (ptL x2) 0 wc (Nat.le_trans HBW.out hyn.size) (HT.out.ext hyn) HSI.out.1 HSI.out.2 HOKI.out (nm_ok _).2).mono ?_
         rintro e wn ⟨rfl, hsn, hfm⟩
         dsimp only
         have hfr := (Fr.of_ext hyn).trans hfm
         clear hyn hfm
         obtain ⟨wc, rfl⟩ : ∃ wc', wc' = wn := ⟨_, rfl⟩
         refine hK.out _ _ (HAll.out _ (HFC.out _ hfr)) (fun hHeld => ?_)
         clear hK K
         try simp only [pq]
         refine tk 20 ?_ rfl (by kernel_rfl) (fun _ _ _ h => h) (by rfl) ?_ (by assumption) ?_
         rotate_left
         ·intro w' hSw; (try dsimp only at hSw); go_simp <;> with_reducible rfl
         simp only [gq]; try simp only [pq]
         refine tk 21 ?_ rfl (by kernel_rfl) (fun _ _ _ h => h) (by rfl) ?_ (by assumption) ?_
         rotate_left
         ·intro w' hSw; (try dsimp only at hSw); go_simp <;> with_reducible rfl
         simp only [gq]; try simp only [pq]
         refine tk 22 ?_ rfl (by kernel_rfl) (fun _ _ _ h => h) (by rfl) ?_ (by assumption) ?_
         rotate_left
         ·intro w' hSw; (try dsimp only at hSw); go_simp <;> with_reducible rfl
         simp only [gq]; try simp only [pq]
         refine wpAnyH_ready (rs := [23]) (by kernel_rfl) (by simp) ?_
         refine AllReadyH.cons rfl (fun K hK => ?_) AllReadyH.nil
         simp only [gq]
         go_simp
         have hb23 := Blk.new wc 35 #[.int .i64 0, .int .i64 0]
         have hxa := (Ext.refl wc).alloc (.cells #[.int .i64 0, .int .i64 0] 35)
         have hge23 := hfr.size
         replace hfr := hfr.trans (Fr.of_ext hxa)
         replace hsn := hsn.ext hxa
         obtain ⟨wn, hwn⟩ : ∃ wn, wn = wc.alloc (.cells #[.int .i64 0, .int .i64 0] 35) := ⟨_, rfl⟩
         obtain ⟨b23, hbd⟩ : ∃ b, b = wc.heap.size := ⟨_, rfl⟩
         rw [← hwn] at hb23 hfr hsn
         rw [← hwn, ← hbd]
         rw [← hbd] at hb23 hge23
         clear hxa hwn hbd
         obtain ⟨wc, rfl⟩ : ∃ wc', wc' = wn := ⟨_, rfl⟩
         refine hK.out _ _ (HAll.out _ (HFC.out _ hfr)) (fun hHeld => ?_)
         clear hK K
         try simp only [pq]
         refine wpAnyH_ready (rs := [24]) (by kernel_rfl) (by simp) ?_
         refine AllReadyH.cons rfl (fun K hK => ?_) AllReadyH.nil
         simp only [gq]
         have y0 := hb23.cell (i := 0) (u := .int .i64 0) rfl
         have y1 := hb23.cell (i := 1) (u := .int .i64 0) rfl
         have z0 := hb23.frozen 0
         have z1 := hb23.frozen 1
         go_simp
         have hz := fr_two hfr hge23 (.int .i64 (makeDot si (nm (wN x2 2)) (ptL x2) 0).site) (.int .i64 (makeDot si (nm (wN x2 2)) (ptL x2) 0).count)
         have hs2 := (isSite_z8 hsn (makeS_ok HOKI.out _ _ _) (z8_two hb23 (Nat.le_trans HBW.out hge23) (.int .i64 (makeDot si (nm (wN x2 2)) (ptL x2) 0).site) (.int .i64 (makeDot si (nm (wN x2 2)) (ptL x2) 0).count)) (by have := HRI.out.2.1; omega))
         clear y0 y1 z0 z1
         obtain ⟨wn, hwn⟩ : ∃ wn, wn = (wc.setCell ⟨b23, 0, none⟩ (.int .i64 (makeDot si (nm (wN x2 2)) (ptL x2) 0).site)).setCell ⟨b23, 1, none⟩ (.int .i64 (makeDot si (nm (wN x2 2)) (ptL x2) 0).count) := ⟨_, rfl⟩
         rw [← hwn] at hz hs2 ⊢
         clear hwn hfr hsn hb23
         refine hK.out _ _ (HAll.out _ (HFC.out _ hz)) (fun hHeld => ?_)
         clear hK K
         try simp only [pq]
         refine tk 25 ?_ rfl (by kernel_rfl) (fun _ _ _ h => h) (by rfl) ?_ (by assumption) ?_
         rotate_left
         ·intro w' hSw; (try dsimp only at hSw); go_simp <;> with_reducible rfl
         simp only [gq]; try simp only [pq]
         refine wpAnyH_done (by kernel_rfl) ?_ _
         clear hHeld HAll
         have HMK := hid (HI.out.make HSI.out.2 (nm (wN x2 2)) (ptL x2) 0 (nm_ok _).1 (ptL_ok _) (by decide))
         obtain ⟨E, hE⟩ : ∃ E, E = makeErr si (nm (wN x2 2)) (ptL x2) 0 := ⟨_, rfl⟩
         have HEE := hid hE
         rw [← hE]
         clear hE
         obtain rfl | rfl : E = 0 ∨ E = 2 := by rw [HEE.out]; exact HMK.out.2
         all_goals
          go_wp2_with fail
          go_roundw
          case rel => exact ⟨k + 1, L.set ii (makeS si (nm (wN x2 2)) (ptL x2) 0), W, N, HK.out.1, by rw [hw1], HT.out.site HSI.out.1 HSI.out.2 hz hs2, hid (HMK.out.1.mono (by omega)), HN0.out _ (HFC.out _ hz), HBT.out.chg (HFC.out _ hz) (by decide), HEX2.out _ (HFC.out _ hz)⟩
          case measure => rw [hw1]; have := HK.out.1; simp only [intOf, Int.toNat_natCast]; omega
        refine AllReadyH.cons rfl (fun K hK => ?_) AllReadyH.nil
        simp only [gq]
        go_simp
        have hb23 := Blk.new wc 35 #[.int .i64 0, .int .i64 0]
        have hxa := (Ext.refl wc).alloc (.cells #[.int .i64 0, .int .i64 0] 35)
        have hge23 := hyn.size
        replace hyn := hyn.trans hxa
        obtain ⟨wn, hwn⟩ : ∃ wn, wn = wc.alloc (.cells #[.int .i64 0, .int .i64 0] 35) := ⟨_, rfl⟩
        obtain ⟨b23, hbd⟩ : ∃ b, b = wc.heap.size := ⟨_, rfl⟩
        rw [← hwn] at hb23 hyn
        rw [← hwn, ← hbd]
        rw [← hbd] at hb23 hge23
        clear hxa hwn hbd
        obtain ⟨wc, rfl⟩ : ∃ wc', wc' = wn := ⟨_, rfl⟩
        refine hK.out _ _ (HAll.out _ (Chg.of_ext hyn)) (fun hHeld => ?_)
        clear hK K
        try simp only [pq]
        refine wpAnyH_ready (rs := [19]) (by kernel_rfl) (by simp) ?_
        refine AllReadyH.cons rfl (fun K hK => ?_) AllReadyH.nil
        simp only [gq]
        go_simp
        refine (town_Make B rT rs L W ii ri si (nm (wN x2 2)) (ptL x2) 0 wc (Nat.le_trans HBW.out hyn.size) (HT.out.ext hyn) HSI.out.1 HSI.out.2 HOKI.out (nm_ok _).2).mono ?_
        rintro e wn ⟨rfl, hsn, hfm⟩
        dsimp only
        have hfr := (Fr.of_ext hyn).trans hfm
        replace hb23 := hfm.blkO hb23 (by have := HRI.out.2.1; omega)
        clear hyn hfm
        obtain ⟨wc, rfl⟩ : ∃ wc', wc' = wn := ⟨_, rfl⟩
        refine hK.out _ _ (HAll.out _ (HFC.out _ hfr)) (fun hHeld => ?_)
        clear hK K
        try simp only [pq]
        refine tk 20 ?_ rfl (by kernel_rfl) (fun _ _ _ h => h) (by rfl) ?_ (by assumption) ?_
        rotate_left
        ·intro w' hSw; (try dsimp only at hSw); go_simp <;> with_reducible rfl
        simp only [gq]; try simp only [pq]
        refine tk 21 ?_ rfl (by kernel_rfl) (fun _ _ _ h => h) (by rfl) ?_ (by assumption) ?_
        rotate_left
        ·intro w' hSw; (try dsimp only at hSw); go_simp <;> with_reducible rfl
        simp only [gq]; try simp only [pq]
        refine tk 22 ?_ rfl (by kernel_rfl) (fun _ _ _ h => h) (by rfl) ?_ (by assumption) ?_
        rotate_left
        ·intro w' hSw; (try dsimp only at hSw); go_simp <;> with_reducible rfl
        simp only [gq]; try simp only [pq]
        refine wpAnyH_ready (rs := [24]) (by kernel_rfl) (by simp) ?_
        refine AllReadyH.cons rfl (fun K hK => ?_) AllReadyH.nil
        simp only [gq]
        have y0 := hb23.cell (i := 0) (u := .int .i64 0) rfl
        have y1 := hb23.cell (i := 1) (u := .int .i64 0) rfl
        have z0 := hb23.frozen 0
        have z1 := hb23.frozen 1
        go_simp
        have hz := fr_two hfr hge23 (.int .i64 (makeDot si (nm (wN x2 2)) (ptL x2) 0).site) (.int .i64 (makeDot si (nm (wN x2 2)) (ptL x2) 0).count)
        have hs2 := (isSite_z8 hsn (makeS_ok HOKI.out _ _ _) (z8_two hb23 (Nat.le_trans HBW.out hge23) (.int .i64 (makeDot si (nm (wN x2 2)) (ptL x2) 0).site) (.int .i64 (makeDot si (nm (wN x2 2)) (ptL x2) 0).count)) (by have := HRI.out.2.1; omega))
        clear y0 y1 z0 z1
        obtain ⟨wn, hwn⟩ : ∃ wn, wn = (wc.setCell ⟨b23, 0, none⟩ (.int .i64 (makeDot si (nm (wN x2 2)) (ptL x2) 0).site)).setCell ⟨b23, 1, none⟩ (.int .i64 (makeDot si (nm (wN x2 2)) (ptL x2) 0).count) := ⟨_, rfl⟩
        rw [← hwn] at hz hs2 ⊢
        clear hwn hfr hsn hb23
        refine hK.out _ _ (HAll.out _ (HFC.out _ hz)) (fun hHeld => ?_)
        clear hK K
        try simp only [pq]
        refine tk 25 ?_ rfl (by kernel_rfl) (fun _ _ _ h => h) (by rfl) ?_ (by assumption) ?_
        rotate_left
        ·intro w' hSw; (try dsimp only at hSw); go_simp <;> with_reducible rfl
        simp only [gq]; try simp only [pq]
        refine wpAnyH_done (by kernel_rfl) ?_ _
        clear hHeld HAll
        have HMK := hid (HI.out.make HSI.out.2 (nm (wN x2 2)) (ptL x2) 0 (nm_ok _).1 (ptL_ok _) (by decide))
        obtain ⟨E, hE⟩ : ∃ E, E = makeErr si (nm (wN x2 2)) (ptL x2) 0 := ⟨_, rfl⟩
        have HEE := hid hE
        rw [← hE]
        clear hE
        obtain rfl | rfl : E = 0 ∨ E = 2 := by rw [HEE.out]; exact HMK.out.2
        all_goals
         go_wp2_with fail
         go_roundw
         case rel => exact ⟨k + 1, L.set ii (makeS si (nm (wN x2 2)) (ptL x2) 0), W, N, HK.out.1, by rw [hw1], HT.out.site HSI.out.1 HSI.out.2 hz hs2, hid (HMK.out.1.mono (by omega)), HN0.out _ (HFC.out _ hz), HBT.out.chg (HFC.out _ hz) (by decide), HEX2.out _ (HFC.out _ hz)⟩
         case measure => rw [hw1]; have := HK.out.1; simp only [intOf, Int.toNat_natCast]; omega
       refine AllReadyH.cons rfl (fun K hK => ?_) AllReadyH.nil
       simp only [gq]
       go_simp
       have hb23 := Blk.new wc 35 #[.int .i64 0, .int .i64 0]
       have hxa := (Ext.refl wc).alloc (.cells #[.int .i64 0, .int .i64 0] 35)
       have hge23 := hyn.size
       replace hyn := hyn.trans hxa
       replace hb2 := hb2.ext hxa
       obtain ⟨wn, hwn⟩ : ∃ wn, wn = wc.alloc (.cells #[.int .i64 0, .int .i64 0] 35) := ⟨_, rfl⟩
       obtain ⟨b23, hbd⟩ : ∃ b, b = wc.heap.size := ⟨_, rfl⟩
       rw [← hwn] at hb23 hyn hb2
       rw [← hwn, ← hbd]
       rw [← hbd] at hb23 hge23
       clear hxa hwn hbd
       obtain ⟨wc, rfl⟩ : ∃ wc', wc' = wn := ⟨_, rfl⟩
       refine hK.out _ _ (HAll.out _ (Chg.of_ext hyn)) (fun hHeld => ?_)
       clear hK K
       try simp only [pq]
       refine wpAnyH_ready (rs := [8]) (by kernel_rfl) (by simp) ?_
       refine AllReadyH.cons rfl (fun K hK => ?_) AllReadyH.nil
       simp only [gq]
       have y2 := hb2.cell (nm2_get hx2)
       go_simp
       clear y2 hb2
       refine hK.out _ _ (HAll.out _ (Chg.of_ext hyn)) (fun hHeld => ?_)
       clear hK K
       try simp only [pq]
       refine wpAnyH_ready (rs := [19]) (by kernel_rfl) (by simp) ?_
       refine AllReadyH.cons rfl (fun K hK => ?_) AllReadyH.nil
       simp only [gq]
       go_simp
       refine (town_Make B rT rs L W ii ri si (nm (wN x2 2)) (ptL x2) 0 wc (Nat.le_trans HBW.out hyn.size) (HT.out.ext hyn) HSI.out.1 HSI.out.2 HOKI.out (nm_ok _).2).mono ?_
       rintro e wn ⟨rfl, hsn, hfm⟩
       dsimp only
       have hfr := (Fr.of_ext hyn).trans hfm
       replace hb23 := hfm.blkO hb23 (by have := HRI.out.2.1; omega)
       clear hyn hfm
       obtain ⟨wc, rfl⟩ : ∃ wc', wc' = wn := ⟨_, rfl⟩
       refine hK.out _ _ (HAll.out _ (HFC.out _ hfr)) (fun hHeld => ?_)
       clear hK K
       try simp only [pq]
       refine tk 20 ?_ rfl (by kernel_rfl) (fun _ _ _ h => h) (by rfl) ?_ (by assumption) ?_
       rotate_left
       ·intro w' hSw; (try dsimp only at hSw); go_simp <;> with_reducible rfl
       simp only [gq]; try simp only [pq]
       refine tk 21 ?_ rfl (by kernel_rfl) (fun _ _ _ h => h) (by rfl) ?_ (by assumption) ?_
       rotate_left
       ·intro w' hSw; (try dsimp only at hSw); go_simp <;> with_reducible rfl
       simp only [gq]; try simp only [pq]
       refine tk 22 ?_ rfl (by kernel_rfl) (fun _ _ _ h => h) (by rfl) ?_ (by assumption) ?_
       rotate_left
       ·intro w' hSw; (try dsimp only at hSw); go_simp <;> with_reducible rfl
       simp only [gq]; try simp only [pq]
       refine wpAnyH_ready (rs := [24]) (by kernel_rfl) (by simp) ?_
       refine AllReadyH.cons rfl (fun K hK => ?_) AllReadyH.nil
       simp only [gq]
       have y0 := hb23.cell (i := 0) (u := .int .i64 0) rfl
       have y1 := hb23.cell (i := 1) (u := .int .i64 0) rfl
       have z0 := hb23.frozen 0
       have z1 := hb23.frozen 1
       go_simp
       have hz := fr_two hfr hge23 (.int .i64 (makeDot si (nm (wN x2 2)) (ptL x2) 0).site) (.int .i64 (makeDot si (nm (wN x2 2)) (ptL x2) 0).count)
       have hs2 := (isSite_z8 hsn (makeS_ok HOKI.out _ _ _) (z8_two hb23 (Nat.le_trans HBW.out hge23) (.int .i64 (makeDot si (nm (wN x2 2)) (ptL x2) 0).site) (.int .i64 (makeDot si (nm (wN x2 2)) (ptL x2) 0).count)) (by have := HRI.out.2.1; omega))
       clear y0 y1 z0 z1
       obtain ⟨wn, hwn⟩ : ∃ wn, wn = (wc.setCell ⟨b23, 0, none⟩ (.int .i64 (makeDot si (nm (wN x2 2)) (ptL x2) 0).site)).setCell ⟨b23, 1, none⟩ (.int .i64 (makeDot si (nm (wN x2 2)) (ptL x2) 0).count) := ⟨_, rfl⟩
       rw [← hwn] at hz hs2 ⊢
       clear hwn hfr hsn hb23
       refine hK.out _ _ (HAll.out _ (HFC.out _ hz)) (fun hHeld => ?_)
       clear hK K
       try simp only [pq]
       refine tk 25 ?_ rfl (by kernel_rfl) (fun _ _ _ h => h) (by rfl) ?_ (by assumption) ?_
       rotate_left
       ·intro w' hSw; (try dsimp only at hSw); go_simp <;> with_reducible rfl
       simp only [gq]; try simp only [pq]
       refine wpAnyH_done (by kernel_rfl) ?_ _
       clear hHeld HAll
       have HMK := hid (HI.out.make HSI.out.2 (nm (wN x2 2)) (ptL x2) 0 (nm_ok _).1 (ptL_ok _) (by decide))
       obtain ⟨E, hE⟩ : ∃ E, E = makeErr si (nm (wN x2 2)) (ptL x2) 0 := ⟨_, rfl⟩
       have HEE := hid hE
       rw [← hE]
       clear hE
       obtain rfl | rfl : E = 0 ∨ E = 2 := by rw [HEE.out]; exact HMK.out.2
       all_goals
        go_wp2_with fail
        go_roundw
        case rel => exact ⟨k + 1, L.set ii (makeS si (nm (wN x2 2)) (ptL x2) 0), W, N, HK.out.1, by rw [hw1], HT.out.site HSI.out.1 HSI.out.2 hz hs2, hid (HMK.out.1.mono (by omega)), HN0.out _ (HFC.out _ hz), HBT.out.chg (HFC.out _ hz) (by decide), HEX2.out _ (HFC.out _ hz)⟩
        case measure => rw [hw1]; have := HK.out.1; simp only [intOf, Int.toNat_natCast]; omega
      refine AllReadyH.cons rfl (fun K hK => ?_) AllReadyH.nil
      simp only [gq]
      go_simp
      have hb23 := Blk.new wc 35 #[.int .i64 0, .int .i64 0]
      have hxa := (Ext.refl wc).alloc (.cells #[.int .i64 0, .int .i64 0] 35)
      have hge23 := hyn.size
      replace hyn := hyn.trans hxa
      obtain ⟨wn, hwn⟩ : ∃ wn, wn = wc.alloc (.cells #[.int .i64 0, .int .i64 0] 35) := ⟨_, rfl⟩
      obtain ⟨b23, hbd⟩ : ∃ b, b = wc.heap.size := ⟨_, rfl⟩
      rw [← hwn] at hb23 hyn
      rw [← hwn, ← hbd]
      rw [← hbd] at hb23 hge23
      clear hxa hwn hbd
      obtain ⟨wc, rfl⟩ : ∃ wc', wc' = wn := ⟨_, rfl⟩
      refine hK.out _ _ (HAll.out _ (Chg.of_ext hyn)) (fun hHeld => ?_)
      clear hK K
      try simp only [pq]
      refine wpAnyH_ready (rs := [2]) (by kernel_rfl) (by simp) ?_
      refine AllReadyH.cons rfl (fun K hK => ?_) AllReadyH.nil
      simp only [gq]
      go_simp
      have hb2 := Blk.new wc 9 #[.string ⟨#[97]⟩, .string ⟨#[98]⟩]
      have hxa := (Ext.refl wc).alloc (.cells #[.string ⟨#[97]⟩, .string ⟨#[98]⟩] 9)
      have hge2 := hyn.size
      replace hyn := hyn.trans hxa
      replace hb23 := hb23.ext hxa
      obtain ⟨wn, hwn⟩ : ∃ wn, wn = wc.alloc (.cells #[.string ⟨#[97]⟩, .string ⟨#[98]⟩] 9) := ⟨_, rfl⟩
      obtain ⟨b2, hbd⟩ : ∃ b, b = wc.heap.size := ⟨_, rfl⟩
      rw [← hwn] at hb2 hyn hb23
      rw [← hwn, ← hbd]
      rw [← hbd] at hb2 hge2
      clear hxa hwn hbd
      obtain ⟨wc, rfl⟩ : ∃ wc', wc' = wn := ⟨_, rfl⟩
      refine hK.out _ _ (HAll.out _ (Chg.of_ext hyn)) (fun hHeld => ?_)
      clear hK K
      try simp only [pq]
      refine tk 7 ?_ rfl (by kernel_rfl) (fun _ _ _ h => h) (by rfl) ?_ (by assumption) ?_
      rotate_left
      ·intro w' hSw; (try dsimp only at hSw); go_simp <;> with_reducible rfl
      simp only [gq]; try simp only [pq]
      refine wpAnyH_ready (rs := [8]) (by kernel_rfl) (by simp) ?_
      refine AllReadyH.cons rfl (fun K hK => ?_) AllReadyH.nil
      simp only [gq]
      have y2 := hb2.cell (nm2_get hx2)
      go_simp
      clear y2 hb2
      refine hK.out _ _ (HAll.out _ (Chg.of_ext hyn)) (fun hHeld => ?_)
      clear hK K
      try simp only [pq]
      refine wpAnyH_ready (rs := [19]) (by kernel_rfl) (by simp) ?_
      refine AllReadyH.cons rfl (fun K hK => ?_) AllReadyH.nil
      simp only [gq]
      go_simp
      refine (town_Make B rT rs L W ii ri si (nm (wN x2 2)) (ptL x2) 0 wc (Nat.le_trans HBW.out hyn.size) (HT.out.ext hyn) HSI.out.1 HSI.out.2 HOKI.out (nm_ok _).2).mono ?_
      rintro e wn ⟨rfl, hsn, hfm⟩
      dsimp only
      have hfr := (Fr.of_ext hyn).trans hfm
      replace hb23 := hfm.blkO hb23 (by have := HRI.out.2.1; omega)
      clear hyn hfm
      obtain ⟨wc, rfl⟩ : ∃ wc', wc' = wn := ⟨_, rfl⟩
      refine hK.out _ _ (HAll.out _ (HFC.out _ hfr)) (fun hHeld => ?_)
      clear hK K
      try simp only [pq]
      refine tk 20 ?_ rfl (by kernel_rfl) (fun _ _ _ h => h) (by rfl) ?_ (by assumption) ?_
      rotate_left
      ·intro w' hSw; (try dsimp only at hSw); go_simp <;> with_reducible rfl
      simp only [gq]; try simp only [pq]
      refine tk 21 ?_ rfl (by kernel_rfl) (fun _ _ _ h => h) (by rfl) ?_ (by assumption) ?_
      rotate_left
      ·intro w' hSw; (try dsimp only at hSw); go_simp <;> with_reducible rfl
      simp only [gq]; try simp only [pq]
      refine tk 22 ?_ rfl (by kernel_rfl) (fun _ _ _ h => h) (by rfl) ?_ (by assumption) ?_
      rotate_left
      ·intro w' hSw; (try dsimp only at hSw); go_simp <;> with_reducible rfl
      simp only [gq]; try simp only [pq]
      refine wpAnyH_ready (rs := [24]) (by kernel_rfl) (by simp) ?_
      refine AllReadyH.cons rfl (fun K hK => ?_) AllReadyH.nil
      simp only [gq]
      have y0 := hb23.cell (i := 0) (u := .int .i64 0) rfl
      have y1 := hb23.cell (i := 1) (u := .int .i64 0) rfl
      have z0 := hb23.frozen 0
      have z1 := hb23.frozen 1
      go_simp
      have hz := fr_two hfr hge23 (.int .i64 (makeDot si (nm (wN x2 2)) (ptL x2) 0).site) (.int .i64 (makeDot si (nm (wN x2 2)) (ptL x2) 0).count)
      have hs2 := (isSite_z8 hsn (makeS_ok HOKI.out _ _ _) (z8_two hb23 (Nat.le_trans HBW.out hge23) (.int .i64 (makeDot si (nm (wN x2 2)) (ptL x2) 0).site) (.int .i64 (makeDot si (nm (wN x2 2)) (ptL x2) 0).count)) (by have := HRI.out.2.1; omega))
      clear y0 y1 z0 z1
      obtain ⟨wn, hwn⟩ : ∃ wn, wn = (wc.setCell ⟨b23, 0, none⟩ (.int .i64 (makeDot si (nm (wN x2 2)) (ptL x2) 0).site)).setCell ⟨b23, 1, none⟩ (.int .i64 (makeDot si (nm (wN x2 2)) (ptL x2) 0).count) := ⟨_, rfl⟩
      rw [← hwn] at hz hs2 ⊢
      clear hwn hfr hsn hb23
      refine hK.out _ _ (HAll.out _ (HFC.out _ hz)) (fun hHeld => ?_)
      clear hK K
      try simp only [pq]
      refine tk 25 ?_ rfl (by kernel_rfl) (fun _ _ _ h => h) (by rfl) ?_ (by assumption) ?_
      rotate_left
      ·intro w' hSw; (try dsimp only at hSw); go_simp <;> with_reducible rfl
      simp only [gq]; try simp only [pq]
      refine wpAnyH_done (by kernel_rfl) ?_ _
      clear hHeld HAll
      have HMK := hid (HI.out.make HSI.out.2 (nm (wN x2 2)) (ptL x2) 0 (nm_ok _).1 (ptL_ok _) (by decide))
      obtain ⟨E, hE⟩ : ∃ E, E = makeErr si (nm (wN x2 2)) (ptL x2) 0 := ⟨_, rfl⟩
      have HEE := hid hE
      rw [← hE]
      clear hE
      obtain rfl | rfl : E = 0 ∨ E = 2 := by rw [HEE.out]; exact HMK.out.2
      all_goals
       go_wp2_with fail
       go_roundw
       case rel => exact ⟨k + 1, L.set ii (makeS si (nm (wN x2 2)) (ptL x2) 0), W, N, HK.out.1, by rw [hw1], HT.out.site HSI.out.1 HSI.out.2 hz hs2, hid (HMK.out.1.mono (by omega)), HN0.out _ (HFC.out _ hz), HBT.out.chg (HFC.out _ hz) (by decide), HEX2.out _ (HFC.out _ hz)⟩
       case measure => rw [hw1]; have := HK.out.1; simp only [intOf, Int.toNat_natCast]; omega
    ·by_cases hiw : ii < 3
     ·have hd3 : decide ((ii : Int) < 3) = true := decide_eq_true (by omega)
      have hi3 : (ii : Int) < 3 := by omega
      have HIW := hid hiw
      clear hiw
      go_wp2_with fail
      refine (keep_within x2 3 (by decide) (by decide) wr).mono ?_
      rintro e w1 ⟨rfl, hw1'⟩
      subst hw1'
      have hq3 := show wN x2 3 < 3 from wN_lt x2 (m := 3) (by decide)
      obtain ⟨qq, hqq⟩ : ∃ q, q = wN x2 3 := ⟨_, rfl⟩
      rw [← hqq] at hq3 ⊢
      clear hqq
      have hq3i : (qq : Int) < 3 := by omega
      obtain ⟨bf, of_, u, rfl, _, ⟨uv, hue, hvv⟩, hcf⟩ := HSF.out.cellC (ts := []) (by simp) (show qq < F.length by have := HF3.out; omega)
      obtain ⟨Bf, df, rfl, g1, g2, hfq⟩ := hvv
      injection hue with hue _
      subst hue
      have hcf2 := hcf w1 (.of_ext HX2.out)
      clear hcf
      obtain ⟨fq, hfqd⟩ : ∃ f, f = F[qq]'(by have := HF3.out; omega) := ⟨_, rfl⟩
      have HFM := hid (show fq ∈ F ∧ filterCheck fq = 0 from ⟨hfqd ▸ List.getElem_mem _, HFOK.out _ (hfqd ▸ List.getElem_mem _)⟩)
      rw [← hfqd] at hcf2 g1 hfq
      clear hfqd
      have HLQ := hid (Nat.le_trans g1 g2)
      have HFQ := hid (fun w' (x : Ext w2 w') => hfq.ext RBox.monoE x)
      have HG1 := hid (And.intro g1 g2)
      have HST := hid (show si.stamp < 1000000000 by
       have h1 := (townI_ok HI.out.town HSI.out.2).2.2.1
       have := HT40.out
       have := HK.out.1
       omega)
      obtain ⟨hny, hnz⟩ : (∃ y, w1.cell? ⟨nb, ii, none⟩ = some y) ∧ w1.frozen? ⟨nb, ii, none⟩ = false := by
       have := HIW.out
       have h3 := HI.out.nl
       rcases HOWN.out.at_ with ⟨hv, _⟩ | ⟨g, c', hv, _, _, _, hz, hc⟩
       ·cases hv
       ·injection hv with hv _ _
        injection hv with hv
        injection hv with hv _
        subst hv
        obtain ⟨cs, e1, e2, _⟩ := hc ii _ (List.getElem?_eq_getElem (by omega))
        match cs, e1 with
        | [y], _ =>
         have := e2 0 y rfl
         rw [Nat.mul_one, Nat.add_zero] at this
         exact ⟨⟨y, this⟩, hz _⟩
      obtain ⟨y0, hny⟩ := hny
      have hSET := hid (show Own (RBoxes B) 1 30 (w1.setCell ⟨nb, ii, none⟩ (.slice Bf fq.length df)) nb0 (.slice (some ⟨nb, 0, none⟩) 3 cn) (N.set ii fq) ∧ Chg B [30] w1 (w1.setCell ⟨nb, ii, none⟩ (.slice Bf fq.length df)) ∧ Below nb0 w1 (w1.setCell ⟨nb, ii, none⟩ (.slice Bf fq.length df)) by
       have h3 := HI.out.nl
       have h0 := HOWN.out
       have hiw := HIW.out
       rw [← h3] at h0
       have hbl : Below nb0 w1 (w1.setCell ⟨nb, ii, none⟩ (.slice Bf fq.length df)) := (Below.refl nb0 w1).setCell (p := ⟨nb, ii, none⟩) HNB.out _
       have := h0.set (i := ii) (j := 0) (RBoxes.mono (by decide) (by decide)) HB0.out (by omega) (by decide) (.slice Bf fq.length df) fq (by
        intro cs hcs _
        match cs, hcs with
        | [y], _ =>
         refine ⟨_, rfl, Bf, df, rfl, HG1.out.1, HG1.out.2, HFQ.out _ ?_⟩
         rw [Nat.mul_one, Nat.add_zero]
         exact HX2.out.setCell (p := ⟨nb, ii, none⟩) (Nat.le_trans HB2.out (Nat.le_trans HB0.out HNB.out)) _)
       rw [Nat.mul_one, Nat.add_zero] at this
       rw [h3] at this
       exact this)
      go_wp2_with fail
      obtain ⟨wq, hwq⟩ : ∃ wq, wq = w1.setCell ⟨nb, ii, none⟩ (.slice Bf fq.length df) := ⟨_, rfl⟩
      have HNC := hid (show wq.cell? ⟨nb, ii, none⟩ = some (.slice Bf fq.length df) by rw [hwq]; exact World.cell?_setCell_same _ _ _ hny)
      have HSZ := hid (show w1.heap.size = wq.heap.size by rw [hwq]; simp [World.setCell])
      have HX2Q := hid (show Ext w2 wq by rw [hwq]; exact HX2.out.setCell (p := ⟨nb, ii, none⟩) (Nat.le_trans HB2.out (Nat.le_trans HB0.out HNB.out)) _)
      rw [← hwq] at hSET ⊢
      clear hwq hny hnz hcf2 g1 g2 hfq y0
      have HOW2 := hid hSET.out.1
      have HT2 := hid (HT.out.chgF hSET.out.2.1)
      have HBT2 := hid (HBT.out.chg hSET.out.2.1 (by decide))
      have HNT := hid (HOW2.out.ty3)
      have HEX3 := hid (fun w' (x : Chg B TS wq w') => show Ext w2 w' from ((Chg.of_ext HX2Q.out).trans x).ext HB2.out)
      have HFC := hid (fun w' (x : Fr ri wq w') => show Chg B TS wq w' from (x.chg (HT2.out.siteTy HSI.out.1 HSI.out.2) HRI.out.1).more (by simp))
      have HAll := hid (fun w' (x : Chg B TS wq w') => show w'.cell? ⟨bt, 0, none⟩ = some (.pointer (some ⟨rT, 0, none⟩)) ∧ w'.cell? ⟨nb, ii, none⟩ = some (.slice Bf fq.length df) from ⟨(HBT2.out.chg x (by decide)).cell rfl, x.cell (.inr fun t ht h2 => by rw [HNT.out] at h2; injection h2 with h2; exact absurd (h2 ▸ ht) (by decide)) HNC.out⟩)
      have hyn := (Ext.refl wq).drew
      refine wp_region_held_drew (S := fun w' => w'.cell? ⟨bt, 0, none⟩ = some (.pointer (some ⟨rT, 0, none⟩)) ∧ w'.cell? ⟨nb, ii, none⟩ = some (.slice Bf fq.length df)) (by kernel_rfl) (HAll.out _ (Chg.of_ext hyn)) (fun hHeld => ?_)
      obtain ⟨wc, hwc⟩ : ∃ wc, wc = wq.drew := ⟨_, rfl⟩
      rw [← hwc] at hHeld hyn ⊢
      clear hwc
      refine tk 0 ?_ rfl (by kernel_rfl) (fun _ _ _ h => h) (by rfl) ?_ (by assumption) ?_
      rotate_left
      ·intro w' hSw; (try dsimp only at hSw); go_simp <;> with_reducible rfl
      simp only [gq]; try simp only [pq]
      refine tk 1 ?_ rfl (by kernel_rfl) (fun _ _ _ h => h) (by rfl) ?_ (by assumption) ?_
      rotate_left
      ·intro w' hSw; (try dsimp only at hSw); go_simp <;> with_reducible rfl
      simp only [gq]; try simp only [pq]
      refine tk 2 ?_ rfl (by kernel_rfl) (fun _ _ _ h => h) (by rfl) ?_ (by assumption) ?_
      rotate_left
      ·intro w' hSw; (try dsimp only at hSw); go_simp <;> with_reducible rfl
      simp only [gq]; try simp only [pq]
      refine tk 3 ?_ rfl (by kernel_rfl) (fun _ _ _ h => h) (by rfl) ?_ (by assumption) ?_
      rotate_left
      ·intro w' hSw; (try dsimp only at hSw); go_simp <;> with_reducible rfl
      simp only [gq]; try simp only [pq]
      refine tk 4 ?_ rfl (by kernel_rfl) (fun _ _ _ h => h) (by rfl) ?_ (by assumption) ?_
      rotate_left
      ·intro w' hSw; (try dsimp only at hSw); go_simp <;> with_reducible rfl
      simp only [gq]; try simp only [pq]
      refine tk 5 ?_ rfl (by kernel_rfl) (fun _ _ _ h => h) (by rfl) ?_ (by assumption) ?_
      rotate_left
      ·intro w' hSw; (try dsimp only at hSw); go_simp <;> with_reducible rfl
      simp only [gq]; try simp only [pq]
      refine wpAnyH_ready (rs := [6]) (by kernel_rfl) (by simp) ?_
      refine AllReadyH.cons rfl (fun K hK => ?_) AllReadyH.nil
      simp only [gq]
      go_simp
      refine (town_Want B rT rs L W ii ri si Bf df fq wc (Nat.le_trans HBW.out (Nat.le_trans (Nat.le_of_eq HSZ.out) hyn.size)) (HT2.out.ext hyn) HSI.out.1 HSI.out.2 HOKI.out HST.out HLQ.out (HFQ.out _ (HX2Q.out.trans hyn))).mono ?_
      rw [HFM.out.2]
      rintro e wn ⟨rfl, hsn, hfm⟩
      dsimp only
      have hfr := (Fr.of_ext hyn).trans hfm
      clear hyn hfm
      obtain ⟨wc, rfl⟩ : ∃ wc', wc' = wn := ⟨_, rfl⟩
      refine hK.out _ _ (HAll.out _ (HFC.out _ hfr)) (fun hHeld => ?_)
      clear hK K
      try simp only [pq]
      refine tk 7 ?_ rfl (by kernel_rfl) (fun _ _ _ h => h) (by rfl) ?_ (by assumption) ?_
      rotate_left
      ·intro w' hSw; (try dsimp only at hSw); go_simp <;> with_reducible rfl
      simp only [gq]; try simp only [pq]
      refine wpAnyH_done (by kernel_rfl) ?_ _
      clear hHeld HAll
      go_wp2_with fail
      go_roundw
      case rel => exact ⟨k + 1, L.set ii (wantS si fq), W, N.set ii fq, HK.out.1, by rw [hw1], HT2.out.site HSI.out.1 HSI.out.2 hfr hsn, hid (HI.out.want HSI.out.2 HIW.out HFM.out.2), HOW2.out.chgW (RBoxes.mono (by decide) (by decide)) (HFC.out _ hfr) (by decide), HBT2.out.chg (HFC.out _ hfr) (by decide), HEX3.out _ (HFC.out _ hfr)⟩
      case measure => rw [hw1]; have := HK.out.1; simp only [intOf, Int.toNat_natCast]; omega
     ·have hd3 : decide ((ii : Int) < 3) = false := decide_eq_false (by omega)
      clear hiw
      go_wp2_with fail
      go_roundw
      case rel => exact ⟨k + 1, L, W, N, HK.out.1, by rw [hw1], HT.out, hid (HI.out.mono (by omega)), HOWN.out, HBT.out, HX2.out⟩
      case measure => rw [hw1]; have := HK.out.1; simp only [intOf, Int.toNat_natCast]; omega
    ·obtain rfl | rfl := hq
     all_goals
      have hjj := show wN x2 4 < 4 from wN_lt x2 (m := 4) (by decide)
      have HWJ := hid (fun w' => keep_within x2 4 (by decide) (by decide) w')
      obtain ⟨jj, hjd⟩ : ∃ a, a = wN x2 4 := ⟨_, rfl⟩
      rw [← hjd] at hjj HWJ
      have HJJ := hid hjj
      clear hjd hjj
      have HAll := hid (fun w' (x : Chg B TS wr w') => show w'.cell? ⟨bt, 0, none⟩ = some (.pointer (some ⟨rT, 0, none⟩)) ∧ w'.cell? ⟨bc, oc + 2, none⟩ = some (.int .i64 x2) from ⟨(HBT.out.chg x (by decide)).cell rfl, (HC.out w' (HEX.out w' x)).2.2⟩)
      go_wp2_with fail
      have hyn := (Ext.refl wr).drew
      refine wp_region_held_drew (S := fun w' => w'.cell? ⟨bt, 0, none⟩ = some (.pointer (some ⟨rT, 0, none⟩)) ∧ w'.cell? ⟨bc, oc + 2, none⟩ = some (.int .i64 x2)) (by kernel_rfl) (HAll.out _ (Chg.of_ext hyn)) (fun hHeld => ?_)
      obtain ⟨wc, hwc⟩ : ∃ wc, wc = wr.drew := ⟨_, rfl⟩
      rw [← hwc] at hHeld hyn ⊢
      clear hwc
      refine tk 0 ?_ rfl (by kernel_rfl) (fun _ _ _ h => h) (by rfl) ?_ (by assumption) ?_
      rotate_left
      ·intro w' hSw; (try dsimp only at hSw); go_simp <;> with_reducible rfl
      simp only [gq]; try simp only [pq]
      refine tk 1 ?_ rfl (by kernel_rfl) (fun _ _ _ h => h) (by rfl) ?_ (by assumption) ?_
      rotate_left
      ·intro w' hSw; (try dsimp only at hSw); go_simp <;> with_reducible rfl
      simp only [gq]; try simp only [pq]
      refine tk 2 ?_ rfl (by kernel_rfl) (fun _ _ _ h => h) (by rfl) ?_ (by assumption) ?_
      rotate_left
      ·intro w' hSw; (try dsimp only at hSw); go_simp <;> with_reducible rfl
      simp only [gq]; try simp only [pq]
      refine tk 3 ?_ rfl (by kernel_rfl) (fun _ _ _ h => h) (by rfl) ?_ (by assumption) ?_
      rotate_left
      ·intro w' hSw; (try dsimp only at hSw); go_simp <;> with_reducible rfl
      simp only [gq]; try simp only [pq]
      refine tk 4 ?_ rfl (by kernel_rfl) (fun _ _ _ h => h) (by rfl) ?_ (by assumption) ?_
      rotate_left
      ·intro w' hSw; (try dsimp only at hSw); go_simp <;> with_reducible rfl
      simp only [gq]; try simp only [pq]
      refine wpAnyC_call (i := 5) Tryz.call13 rfl (by kernel_rfl) (by kernel_rfl) (by kernel_rfl) (fun _ _ _ h => h) (by rfl) (fun w' _ => HWJ.out w') (by assumption) ?_
      try simp only [pq]
      refine wpAnyH_ready (rs := [6]) (by kernel_rfl) (by simp) ?_
      refine AllReadyH.cons rfl (fun K hK => ?_) AllReadyH.nil
      simp only [gq]
      go_simp
      refine (town_Send B rT rs L W ii jj ri si wc (Nat.le_trans HBW.out hyn.size) (HT.out.ext hyn) HSI.out.1 HSI.out.2 (by rw [HI.out.len]; exact HJJ.out) HOKI.out HI.out.wl).mono ?_
      rintro e wn ⟨rfl, hts, hcs⟩
      dsimp only
      have hcc : Chg B TS wr wn := (Chg.of_ext hyn).trans (hcs.more (by simp))
      clear hyn hcs
      obtain ⟨wc, rfl⟩ : ∃ wc', wc' = wn := ⟨_, rfl⟩
      refine hK.out _ _ (HAll.out _ hcc) (fun hHeld => ?_)
      clear hK K
      try simp only [pq]
      refine wpAnyH_done (by kernel_rfl) ?_ _
      clear hHeld HAll
      go_wp2_with fail
      go_roundw
      case rel => exact ⟨k + 1, L, sendW W ii jj si, N, HK.out.1, by rw [hw1], hts, hid ((HI.out.send HSI.out.2 HJJ.out).mono (by omega)), HN0.out _ hcc, HBT.out.chg hcc (by decide), HEX2.out _ hcc⟩
      case measure => rw [hw1]; have := HK.out.1; simp only [intOf, Int.toNat_natCast]; omega
    ·go_wp2_with fail
     refine (town_Way B rT rs L W wr HBW.out HT.out HI.out.wl).mono ?_
     obtain ⟨bl, hbld⟩ : ∃ bl, bl = W.map LetS.isB := ⟨_, rfl⟩
     have HBLL := hid (show bl.length = W.length by rw [hbld, List.length_map])
     rw [← hbld]
     clear hbld
     rintro e w1 ⟨v1, rfl, ⟨A1, c1, rfl, -, -, -⟩, hx1⟩
     rw [HBLL.out]
     have HXW := hid hx1
     have hb1 := (HBT.out.ext HXW.out).cell (i := 0) (u := .pointer (some ⟨rT, 0, none⟩)) rfl
     have hcc2 := HC.out w1 (HXW2.out.trans HXW.out)
     clear hx1
     by_cases hW0 : 0 < W.length
     ·have hd0 : decide ((0 : Int) < (W.length : Int)) = true := decide_eq_true (by omega)
      have hd0n : decide (0 < W.length) = true := decide_eq_true hW0
      have hqq := wN_lt x2 hW0
      have HWQ := hid (fun w' => keep_within x2 (W.length : Int) (by omega) (by have := HI.out.wl; omega) w')
      obtain ⟨qq, hqd⟩ : ∃ a, a = wN x2 (W.length : Int) := ⟨_, rfl⟩
      rw [← hqd] at hqq HWQ
      obtain ⟨y, hy⟩ : ∃ y, W[qq]? = some y := ⟨_, List.getElem?_eq_getElem hqq⟩
      have hto : y.tw < 4 := by
       have := townI_to HI.out.town (List.mem_of_getElem? hy)
       rw [HI.out.len] at this
       exact this
      obtain ⟨rj, hrj⟩ : ∃ r, rs[y.tw]? = some r := ⟨_, List.getElem?_eq_getElem (by rw [HRL.out]; exact hto)⟩
      obtain ⟨sj, hsj⟩ : ∃ s, L[y.tw]? = some s := ⟨_, List.getElem?_eq_getElem (by rw [HI.out.len]; exact hto)⟩
      have HJ := hid (And.intro hrj hsj)
      have HXM := hid (List.mem_of_getElem? hy)
      have HXQ := hid hy
      have HOKJ := hid (townI_ok HI.out.town hsj).1
      have HBJ := hid (HT.out.ge hrj hsj)
      have HBW1 := hid (Nat.le_trans HBW.out HXW.out.size)
      have HAll := hid (fun w' (x : Chg B TS w1 w') => show w'.cell? ⟨bt, 0, none⟩ = some (.pointer (some ⟨rT, 0, none⟩)) ∧ w'.cell? ⟨bc, oc + 2, none⟩ = some (.int .i64 x2) from ⟨((HBT.out.ext HXW.out).chg x (by decide)).cell rfl, (HC.out w' (HEX.out w' ((Chg.of_ext HXW.out).trans x))).2.2⟩)
      clear hqq hqd hto hrj hsj hy hb1 hcc2
      cases y with
      | ask tw a =>
       have HGE := hid (townI_give HI.out.town HXM.out HJ.out.2).1
       go_wp2_with fail
       have hyn := (Ext.refl w1).drew
       refine wp_region_held_drew (S := fun w' => w'.cell? ⟨bt, 0, none⟩ = some (.pointer (some ⟨rT, 0, none⟩)) ∧ w'.cell? ⟨bc, oc + 2, none⟩ = some (.int .i64 x2)) (by kernel_rfl) (HAll.out _ (Chg.of_ext hyn)) (fun hHeld => ?_)
       obtain ⟨wc, hwc⟩ : ∃ wc, wc = w1.drew := ⟨_, rfl⟩
       rw [← hwc] at hHeld hyn ⊢
       clear hwc
       refine tk 0 ?_ rfl (by kernel_rfl) (fun _ _ _ h => h) (by rfl) ?_ (by assumption) ?_
       rotate_left
       ·intro w' hSw; (try dsimp only at hSw); go_simp <;> with_reducible rfl
       simp only [gq]; try simp only [pq]
       refine tk 1 ?_ rfl (by kernel_rfl) (fun _ _ _ h => h) (by rfl) ?_ (by assumption) ?_
       rotate_left
       ·intro w' hSw; (try dsimp only at hSw); go_simp <;> with_reducible rfl
       simp only [gq]; try simp only [pq]
       refine tk 2 ?_ rfl (by kernel_rfl) (fun _ _ _ h => h) (by rfl) ?_ (by assumption) ?_
       rotate_left
       ·intro w' hSw; (try dsimp only at hSw); go_simp <;> with_reducible rfl
       simp only [gq]; try simp only [pq]
       refine tk 3 ?_ rfl (by kernel_rfl) (fun _ _ _ h => h) (by rfl) ?_ (by assumption) ?_
       rotate_left
       ·intro w' hSw; (try dsimp only at hSw); go_simp <;> with_reducible rfl
       simp only [gq]; try simp only [pq]
       refine tk 4 ?_ rfl (by kernel_rfl) (fun _ _ _ h => h) (by rfl) ?_ (by assumption) ?_
       rotate_left
       ·intro w' hSw; (try dsimp only at hSw); go_simp <;> with_reducible rfl
       simp only [gq]; try simp only [pq]
       refine wpAnyC_call (i := 5) Tryz.call13 rfl (by kernel_rfl) (by kernel_rfl) (by kernel_rfl) (fun _ _ _ h => h) (by rfl) (fun w' _ => HWQ.out w') (by assumption) ?_
       try simp only [pq]
       refine wpAnyH_ready (rs := [6]) (by kernel_rfl) (by simp) ?_
       refine AllReadyH.cons rfl (fun K hK => ?_) AllReadyH.nil
       simp only [gq]
       go_simp
       refine (town_BringA B rT rs L W qq tw rj a sj wc (Nat.le_trans HBW1.out hyn.size) ((HT.out.ext HXW.out).ext hyn) HXQ.out HJ.out.1 HJ.out.2 HOKJ.out HGE.out HI.out.wl).mono ?_
       rintro e wn ⟨rfl, hts, hcs⟩
       dsimp only
       have hcc : Chg B TS wr wn := (Chg.of_ext (HXW.out.trans hyn)).trans (hcs.more (by simp))
       have hcc1 : Chg B TS w1 wn := (Chg.of_ext hyn).trans (hcs.more (by simp))
       clear hyn hcs
       obtain ⟨wc, rfl⟩ : ∃ wc', wc' = wn := ⟨_, rfl⟩
       refine hK.out _ _ (HAll.out _ hcc1) (fun hHeld => ?_)
       clear hK K
       try simp only [pq]
       refine wpAnyH_done (by kernel_rfl) ?_ _
       clear hHeld HAll
       go_wp2_with fail
       go_roundw
       case rel => exact ⟨k + 1, L, bringW W a sj, N, HK.out.1, by rw [hw1], hts, hid ((HI.out.give HXM.out HJ.out.2).mono (by omega)), HN0.out _ hcc, HBT.out.chg hcc (by decide), HEX2.out _ hcc⟩
       case measure => rw [hw1]; have := HK.out.1; simp only [intOf, Int.toNat_natCast]; omega
      | bat tw b =>
       go_wp2_with fail
       have hyn := (Ext.refl w1).drew
       refine wp_region_held_drew (S := fun w' => w'.cell? ⟨bt, 0, none⟩ = some (.pointer (some ⟨rT, 0, none⟩)) ∧ w'.cell? ⟨bc, oc + 2, none⟩ = some (.int .i64 x2)) (by kernel_rfl) (HAll.out _ (Chg.of_ext hyn)) (fun hHeld => ?_)
       obtain ⟨wc, hwc⟩ : ∃ wc, wc = w1.drew := ⟨_, rfl⟩
       rw [← hwc] at hHeld hyn ⊢
       clear hwc
       refine tk 0 ?_ rfl (by kernel_rfl) (fun _ _ _ h => h) (by rfl) ?_ (by assumption) ?_
       rotate_left
       ·intro w' hSw; (try dsimp only at hSw); go_simp <;> with_reducible rfl
       simp only [gq]; try simp only [pq]
       refine tk 1 ?_ rfl (by kernel_rfl) (fun _ _ _ h => h) (by rfl) ?_ (by assumption) ?_
       rotate_left
       ·intro w' hSw; (try dsimp only at hSw); go_simp <;> with_reducible rfl
       simp only [gq]; try simp only [pq]
       refine tk 2 ?_ rfl (by kernel_rfl) (fun _ _ _ h => h) (by rfl) ?_ (by assumption) ?_
       rotate_left
       ·intro w' hSw; (try dsimp only at hSw); go_simp <;> with_reducible rfl
       simp only [gq]; try simp only [pq]
       refine tk 3 ?_ rfl (by kernel_rfl) (fun _ _ _ h => h) (by rfl) ?_ (by assumption) ?_
       rotate_left
       ·intro w' hSw; (try dsimp only at hSw); go_simp <;> with_reducible rfl
       simp only [gq]; try simp only [pq]
       refine tk 4 ?_ rfl (by kernel_rfl) (fun _ _ _ h => h) (by rfl) ?_ (by assumption) ?_
       rotate_left
       ·intro w' hSw; (try dsimp only at hSw); go_simp <;> with_reducible rfl
       simp only [gq]; try simp only [pq]
       refine wpAnyC_call (i := 5) Tryz.call13 rfl (by kernel_rfl) (by kernel_rfl) (by kernel_rfl) (fun _ _ _ h => h) (by rfl) (fun w' _ => HWQ.out w') (by assumption) ?_
       try simp only [pq]
       refine wpAnyH_ready (rs := [6]) (by kernel_rfl) (by simp) ?_
       refine AllReadyH.cons rfl (fun K hK => ?_) AllReadyH.nil
       simp only [gq]
       go_simp
       refine (town_BringB B rT rs L W qq tw rj b sj wc (Nat.le_trans HBW1.out hyn.size) ((HT.out.ext HXW.out).ext hyn) HXQ.out HJ.out.1 HJ.out.2 HOKJ.out).mono ?_
       rintro e wn ⟨rfl, hsn, hfm⟩
       dsimp only
       have hfr := (Fr.of_ext (HXW.out.trans hyn)).trans hfm
       have hcc : Chg B TS wr wn := (hfr.chg (HT.out.siteTy HJ.out.1 HJ.out.2) HBJ.out).more (by simp)
       have hcc1 : Chg B TS w1 wn := (((Fr.of_ext hyn).trans hfm).chg ((HT.out.ext HXW.out).siteTy HJ.out.1 HJ.out.2) HBJ.out).more (by simp)
       clear hyn hfm
       obtain ⟨wc, rfl⟩ : ∃ wc', wc' = wn := ⟨_, rfl⟩
       refine hK.out _ _ (HAll.out _ hcc1) (fun hHeld => ?_)
       clear hK K
       try simp only [pq]
       refine wpAnyH_done (by kernel_rfl) ?_ _
       clear hHeld HAll
       go_wp2_with fail
       go_roundw
       case rel => exact ⟨k + 1, L.set tw (takeS sj b), W, N, HK.out.1, by rw [hw1], HT.out.site HJ.out.1 HJ.out.2 hfr hsn, hid ((HI.out.take HXM.out HJ.out.2).mono (by omega)), HN0.out _ hcc, HBT.out.chg hcc (by decide), HEX2.out _ hcc⟩
       case measure => rw [hw1]; have := HK.out.1; simp only [intOf, Int.toNat_natCast]; omega
     ·have hd0 : decide ((0 : Int) < (W.length : Int)) = false := decide_eq_false (by omega)
      have hd0n : decide (0 < W.length) = false := decide_eq_false hW0
      go_wp2_with fail
      go_roundw
      case rel => exact ⟨k + 1, L, W, N, HK.out.1, by rw [hw1], HT.out.ext HXW.out, hid (HI.out.mono (by omega)), HOWN.out.ext (B := B) RBoxes.monoE HXW.out, HBT.out.ext HXW.out, HX2.out.trans HXW.out⟩
      case measure => rw [hw1]; have := HK.out.1; simp only [intOf, Int.toNat_natCast]; omega
    ·have hjj := show wN x2 30 < 30 from wN_lt x2 (m := 30) (by decide)
     have HWJ := hid (fun w' => keep_within x2 30 (by decide) (by decide) w')
     obtain ⟨jj, hjd⟩ : ∃ a, a = wN x2 30 := ⟨_, rfl⟩
     rw [← hjd] at hjj HWJ
     have HJJ := hid hjj
     clear hjd hjj
     have HAll := hid (fun w' (x : Chg B TS wr w') => show w'.cell? ⟨bt, 0, none⟩ = some (.pointer (some ⟨rT, 0, none⟩)) ∧ w'.cell? ⟨bc, oc + 2, none⟩ = some (.int .i64 x2) from ⟨(HBT.out.chg x (by decide)).cell rfl, (HC.out w' (HEX.out w' x)).2.2⟩)
     go_wp2_with fail
     have hyn := (Ext.refl wr).drew
     refine wp_region_held_drew (S := fun w' => w'.cell? ⟨bt, 0, none⟩ = some (.pointer (some ⟨rT, 0, none⟩)) ∧ w'.cell? ⟨bc, oc + 2, none⟩ = some (.int .i64 x2)) (by kernel_rfl) (HAll.out _ (Chg.of_ext hyn)) (fun hHeld => ?_)
     obtain ⟨wc, hwc⟩ : ∃ wc, wc = wr.drew := ⟨_, rfl⟩
     rw [← hwc] at hHeld hyn ⊢
     clear hwc
     refine tk 0 ?_ rfl (by kernel_rfl) (fun _ _ _ h => h) (by rfl) ?_ (by assumption) ?_
     rotate_left
     ·intro w' hSw; (try dsimp only at hSw); go_simp <;> with_reducible rfl
     simp only [gq]; try simp only [pq]
     refine tk 1 ?_ rfl (by kernel_rfl) (fun _ _ _ h => h) (by rfl) ?_ (by assumption) ?_
     rotate_left
     ·intro w' hSw; (try dsimp only at hSw); go_simp <;> with_reducible rfl
     simp only [gq]; try simp only [pq]
     refine tk 2 ?_ rfl (by kernel_rfl) (fun _ _ _ h => h) (by rfl) ?_ (by assumption) ?_
     rotate_left
     ·intro w' hSw; (try dsimp only at hSw); go_simp <;> with_reducible rfl
     simp only [gq]; try simp only [pq]
     refine tk 3 ?_ rfl (by kernel_rfl) (fun _ _ _ h => h) (by rfl) ?_ (by assumption) ?_
     rotate_left
     ·intro w' hSw; (try dsimp only at hSw); go_simp <;> with_reducible rfl
     simp only [gq]; try simp only [pq]
     refine wpAnyC_call (i := 4) Tryz.call13 rfl (by kernel_rfl) (by kernel_rfl) (by kernel_rfl) (fun _ _ _ h => h) (by rfl) (fun w' _ => HWJ.out w') (by assumption) ?_
     try simp only [pq]
     refine wpAnyH_ready (rs := [5]) (by kernel_rfl) (by simp) ?_
     refine AllReadyH.cons rfl (fun K hK => ?_) AllReadyH.nil
     simp only [gq]
     go_simp
     refine (town_Lose B rT rs L W jj wc (Nat.le_trans HBW.out hyn.size) (HT.out.ext hyn) HI.out.wl (by have := HJJ.out; omega)).mono ?_
     rintro e wn ⟨rfl, hts, hcs⟩
     dsimp only
     have hcc : Chg B TS wr wn := (Chg.of_ext hyn).trans (hcs.more (by simp))
     clear hyn hcs
     obtain ⟨wc, rfl⟩ : ∃ wc', wc' = wn := ⟨_, rfl⟩
     refine hK.out _ _ (HAll.out _ hcc) (fun hHeld => ?_)
     clear hK K
     try simp only [pq]
     refine wpAnyH_done (by kernel_rfl) ?_ _
     clear hHeld HAll
     go_wp2_with fail
     go_roundw
     case rel => exact ⟨k + 1, L, W.eraseIdx jj, N, HK.out.1, by rw [hw1], hts, hid ((HI.out.lose jj).mono (by omega)), HN0.out _ hcc, HBT.out.chg hcc (by decide), HEX2.out _ hcc⟩
     case measure => rw [hw1]; have := HK.out.1; simp only [intOf, Int.toNat_natCast]; omega
  ·obtain rfl : k = T.length := Nat.le_antisymm hk (Nat.le_of_not_lt hlt)
   have HI0 := hid (show LetInv (fun i f => i = 3 → AllF f) 40 L W N from HI.out.mono (by have := HT40.out; omega))
   clear HI hlt hk hw1 hblt hbc ht hown hbt hx HXW2
   go_wp2_with fail
   obtain ⟨wc, hwc⟩ : ∃ wc, wc = wr := ⟨_, rfl⟩
   rw [← hwc]
   rw [← hwc] at HT HOWN HBT HX2
   clear hwc
   go_loopw [] (fun wr => ∃ (W : List LetS), IsTown B wr rT rs L W ∧ Hid (LetInv (fun i f => i = 3 → AllF f) 40 L W N) ∧ Own (RBoxes B) 1 30 wr nb0 (.slice (some ⟨nb, 0, none⟩) 3 cn) N ∧ Blk wr bt 26 #[.pointer (some ⟨rT, 0, none⟩)] ∧ Ext w2 wr) (fun wr => wayLen wr rT)
   case atStart => exact ⟨W, HT.out, HI0, HOWN.out, HBT.out, HX2.out⟩
   case round =>
    clear HT HI0 HOWN HBT HX2 W
    obtain ⟨W, ht, HI, hown, hbt, hx⟩ := hrel
    have HT := hid ht
    have HOWN := hid hown
    have HBT := hid hbt
    have HX2 := hid hx
    have hbc := hbt.cell (i := 0) (u := .pointer (some ⟨rT, 0, none⟩)) rfl
    have hblt := hbt.lt
    have HWL := hid ht.wayLen
    clear ht hown hbt hx
    go_wp2_with fail
    refine (town_Way B rT rs L W wr (Nat.le_trans HB3.out HX2.out.size) HT.out HI.out.wl).mono ?_
    obtain ⟨bl, hbld⟩ : ∃ bl, bl = W.map LetS.isB := ⟨_, rfl⟩
    have HBLL := hid (show bl.length = W.length by rw [hbld, List.length_map])
    rw [← hbld]
    clear hbld
    rintro e w1 ⟨v1, rfl, ⟨A1, c1, rfl, -, -, -⟩, hx1⟩
    rw [HBLL.out]
    have HXW := hid hx1
    have hb1 := (HBT.out.ext HXW.out).cell (i := 0) (u := .pointer (some ⟨rT, 0, none⟩)) rfl
    have hblt1 := (HBT.out.ext HXW.out).lt
    clear hx1 hbc hblt
    by_cases hW0 : 0 < W.length
    ·have hd0 : decide ((0 : Int) < (W.length : Int)) = true := decide_eq_true (by omega)
     have HLO := hid (town_Lose B rT rs L W 0 w1 (Nat.le_trans HB3.out (HX2.out.trans HXW.out).size) (HT.out.ext HXW.out) HI.out.wl (by decide))
     have HLE := hid (show loseE W.length 0 = 0 by unfold loseE; rw [if_pos hW0])
     have HW0 := hid hW0
     clear hW0
     go_wp2_with fail
     refine HLO.out.mono ?_
     rw [HLE.out]
     rintro e w9 ⟨rfl, ht9, hc9⟩
     have hcc : Chg B TS wr w9 := (Chg.of_ext HXW.out).trans (hc9.more (by simp))
     clear hc9 HLO hb1 hblt1
     go_wp2_with fail
     go_roundw
     case rel => exact ⟨W.eraseIdx 0, ht9, hid (HI.out.lose 0), HOWN.out.chgW (B := B) (RBoxes.mono (by decide) (by decide)) hcc (by decide), HBT.out.chg hcc (by decide), ((Chg.of_ext HX2.out).trans hcc).ext HB2.out⟩
     case measure => rw [HWL.out, ht9.wayLen, List.length_eraseIdx_of_lt HW0.out]; have := HW0.out; omega
    ·have hd0 : decide ((0 : Int) < (W.length : Int)) = false := decide_eq_false (by omega)
     obtain rfl : W = [] := List.eq_nil_of_length_eq_zero (by omega)
     have hcall := Tryz.call20
     clear hW0 HWL HBLL
     go_wp2_with fail
     obtain ⟨M, H, hJ⟩ := HI.out.town
     obtain ⟨r3, hr3⟩ : ∃ r, rs[3]? = some r := ⟨_, List.getElem?_eq_getElem (by rw [HRL.out]; omega)⟩
     obtain ⟨g0, hg0⟩ : ∃ s, L[3]? = some s := ⟨_, List.getElem?_eq_getElem (by rw [HI.out.len]; omega)⟩
     have HR3 := hid hr3
     have HI1 := hid (show L.length = 4 ∧ TopJ (fun i f => i = 3 → AllF f) 40 M H L ∧ Got H L 3 0 ∧ N.length = 3 ∧ ∀ (i : Nat) (f : List Box), N[i]? = some f → filterCheck f = 0 ∧ ∀ s, L[i]? = some s → s.filter = plainF f from ⟨HI.out.len, hJ.top, got_zero hg0 ((hJ.top.inv 3 g0 hg0).2.2.2 rfl), HI.out.nl, HI.out.nf⟩)
     have HT1 := hid (HT.out.ext HXW.out)
     have HOW1 := hid (HOWN.out.ext (B := B) RBoxes.monoE HXW.out)
     have HBT1 := hid (HBT.out.ext HXW.out)
     have HX1 := hid (HX2.out.trans HXW.out)
     clear hr3 hg0 hJ HI HT HOWN HBT HX2 HXW hb1 hblt1 hd0
     go_loopw [155] (fun i wr => ∃ (k : Nat) (L : List SiteS), k ≤ 3 ∧ i = .int .i64 k ∧ IsTown B wr rT rs L [] ∧ Hid (L.length = 4 ∧ TopJ (fun i f => i = 3 → AllF f) 40 M H L ∧ Got H L 3 k ∧ N.length = 3 ∧ ∀ (i : Nat) (f : List Box), N[i]? = some f → filterCheck f = 0 ∧ ∀ s, L[i]? = some s → s.filter = plainF f) ∧ Own (RBoxes B) 1 30 wr nb0 (.slice (some ⟨nb, 0, none⟩) 3 cn) N ∧ Blk wr bt 26 #[.pointer (some ⟨rT, 0, none⟩)] ∧ Ext w2 wr) (fun i _ => 3 - (intOf i).toNat)
     case atStart => exact ⟨0, L, Nat.zero_le _, rfl, HT1.out, HI1, HOW1.out, HBT1.out, HX1.out⟩
     case round =>
      clear HT1 HI1 HOW1 HBT1 HX1
      obtain ⟨k, L, hk, rfl, ht, HI, hown, hbt, hx⟩ := hrel
      have HT := hid ht
      have HOWN := hid hown
      have HBT := hid hbt
      have HX2 := hid hx
      have hw1 : wrap64 ((k : Int) + 1) = ((k + 1 : Nat) : Int) := by unfold wrap64; omega
      clear ht hown hbt hx
      by_cases hlt : k < 3
      ·obtain ⟨rk, hrk⟩ : ∃ r, rs[k]? = some r := ⟨_, List.getElem?_eq_getElem (by rw [HRL.out]; omega)⟩
       obtain ⟨sk, hsk⟩ : ∃ s, L[k]? = some s := ⟨_, List.getElem?_eq_getElem (by rw [HI.out.1]; omega)⟩
       obtain ⟨g, hg⟩ : ∃ s, L[3]? = some s := ⟨_, List.getElem?_eq_getElem (by rw [HI.out.1]; omega)⟩
       have HQ := hid (topJ_ask HI.out.2.1 (by decide) hg hsk)
       have HLA := hid (let_ask B bt rT rs L 3 k r3 rk g sk wr (Nat.le_trans HB3.out HX2.out.size) HBT.out HT.out (by omega) HR3.out hrk hg hsk HQ.out.1 HQ.out.2.1 (HI.out.2.1.inv 3 g hg).2.1 HQ.out.2.2.2.2)
       have HGK := hid (And.intro hg hsk)
       have HK := hid hlt
       have hki : (k : Int) < 3 := by omega
       clear hrk hsk hg hk hlt
       go_wp2_with fail
       refine HLA.out.mono ?_
       rintro e w5 ⟨rfl, htn, hcc⟩
       have hcc' : Chg B TS wr w5 := hcc
       obtain ⟨E, hE⟩ : ∃ E, E = takeErr g (giveB sk (askS g)) := ⟨_, rfl⟩
       have HEE := hid hE
       rw [← hE] at htn ⊢
       clear hE hcc
       obtain rfl | rfl : E = 0 ∨ E = 2 := by rw [HEE.out]; exact HQ.out.2.2.2.2
       ·have HTN := hid (htn rfl)
        clear htn
        go_wp2_with fail
        go_roundw
        case rel => exact ⟨k + 1, L.set 3 (takeS g (giveB sk (askS g))), HK.out, by first | rw [hw1] | rfl, HTN.out, hid ⟨by rw [List.length_set]; exact HI.out.1, (HI.out.2.1.asked HGK.out.1 HGK.out.2).1, got_step HI.out.2.1 HI.out.2.2.1 HGK.out.1 HGK.out.2 HEE.out.symm, HI.out.2.2.2.1, nf_set HI.out.2.2.2.2 HGK.out.1 (HI.out.2.1.asked HGK.out.1 HGK.out.2).2.filter⟩, HOWN.out.chgW (B := B) (RBoxes.mono (by decide) (by decide)) hcc' (by decide), HBT.out.chg hcc' (by decide), ((Chg.of_ext HX2.out).trans hcc').ext HB2.out⟩
        case measure => (try rw [hw1]); have := HK.out; simp [intOf]; omega
       ·clear htn
        go_wp2_with fail
        go_ret
        exact ⟨rfl, HX02.out.trans (((Chg.of_ext HX2.out).trans hcc').ext HB2.out)⟩
      ·obtain rfl : k = 3 := by omega
       obtain ⟨g, hg⟩ : ∃ s, L[3]? = some s := ⟨_, List.getElem?_eq_getElem (by rw [HI.out.1]; omega)⟩
       have HFU := hid (got_full HI.out.2.1 HI.out.1 HI.out.2.2.1 hg)
       have HI1 := hid (show L.length = 4 ∧ TopJ (fun i f => i = 3 → AllF f) 40 M H L ∧ L[3]? = some g ∧ N.length = 3 ∧ ∀ (i : Nat) (f : List Box), N[i]? = some f → filterCheck f = 0 ∧ ∀ s, L[i]? = some s → s.filter = plainF f from ⟨HI.out.1, HI.out.2.1, hg, HI.out.2.2.2⟩)
       have HOG := hid (HI.out.2.1.inv 3 g hg)
       have hbc := HBT.out.cell (i := 0) (u := .pointer (some ⟨rT, 0, none⟩)) rfl
       have hblt := HBT.out.lt
       have HSH := hid (town_Shelf B rT rs L [] 3 r3 g wr (Nat.le_trans HB3.out HX2.out.size) HT.out HR3.out hg HOG.out.1.ok)
       clear HI hg hlt hk hw1
       go_wp2_with fail
       refine HSH.out.mono ?_
       rintro e w6 ⟨v6, rfl, ⟨Ah, ch, rfl, -, -, hvh⟩, hx6⟩
       have HT1 := hid (HT.out.ext hx6)
       have HOW1 := hid (HOWN.out.ext (B := B) RBoxes.monoE hx6)
       have HBT1 := hid (HBT.out.ext hx6)
       have HX1 := hid (HX2.out.trans hx6)
       have HVH := hid hvh
       clear HT HOWN HBT HX2 hx6 hvh hbc hblt HSH
       go_wp2_with fail
       try rw [show ((3 : Nat) : Int) = 3 from rfl]
       go_loopw [175] (fun i wr => ∃ (k : Nat) (L : List SiteS), k ≤ 3 ∧ i = .int .i64 k ∧ IsTown B wr rT rs L [] ∧ Hid (L.length = 4 ∧ TopJ (fun i f => i = 3 → AllF f) 40 M H L ∧ L[3]? = some g ∧ N.length = 3 ∧ ∀ (i : Nat) (f : List Box), N[i]? = some f → filterCheck f = 0 ∧ ∀ s, L[i]? = some s → s.filter = plainF f) ∧ Own (RBoxes B) 1 30 wr nb0 (.slice (some ⟨nb, 0, none⟩) 3 cn) N ∧ Blk wr bt 26 #[.pointer (some ⟨rT, 0, none⟩)] ∧ SlVers B wr Ah g.shelf ∧ Ext w2 wr) (fun i _ => 3 - (intOf i).toNat)
       case atStart => exact ⟨0, L, Nat.zero_le _, rfl, HT1.out, HI1, HOW1.out, HBT1.out, HVH.out, HX1.out⟩
       case round =>
        clear HT1 HI1 HOW1 HBT1 HVH HX1
        obtain ⟨k, L, hk, rfl, ht, HI, hown, hbt, hvh, hx⟩ := hrel
        have HT := hid ht
        have HOWN := hid hown
        have HBT := hid hbt
        have HX2 := hid hx
        have HVH := hid hvh
        have hw1 : wrap64 ((k : Int) + 1) = ((k + 1 : Nat) : Int) := by unfold wrap64; omega
        clear ht hown hbt hx hvh
        by_cases hlt : k < 3
        ·obtain ⟨rk, hrk⟩ : ∃ r, rs[k]? = some r := ⟨_, List.getElem?_eq_getElem (HRL.out ▸ Nat.lt_succ_of_lt hlt)⟩
         obtain ⟨sk, hsk⟩ : ∃ s, L[k]? = some s := ⟨_, List.getElem?_eq_getElem (by rw [HI.out.1]; omega)⟩
         have HQ := hid (topJ_ask HI.out.2.1 (by decide) hsk HI.out.2.2.1)
         have HLA := hid (let_ask B bt rT rs L k 3 rk r3 sk g wr (Nat.le_trans HB3.out HX2.out.size) HBT.out HT.out (by omega) hrk HR3.out hsk HI.out.2.2.1 HQ.out.1 HQ.out.2.1 (HI.out.2.1.inv k sk hsk).2.1 HQ.out.2.2.2.2)
         have HGK := hid (And.intro hrk hsk)
         have HK := hid hlt
         have hki : (k : Int) < 3 := by omega
         clear hrk hsk hk hlt
         go_wp2_with fail
         refine HLA.out.mono ?_
         rintro e w5 ⟨rfl, htn, hcc⟩
         have hcc' : Chg B TS wr w5 := hcc
         obtain ⟨E, hE⟩ : ∃ E, E = takeErr sk (giveB g (askS sk)) := ⟨_, rfl⟩
         have HEE := hid hE
         rw [← hE] at htn ⊢
         clear hE hcc
         obtain rfl | rfl : E = 0 ∨ E = 2 := by rw [HEE.out]; exact HQ.out.2.2.2.2
         ·have HTN := hid (htn rfl)
          have HEQ := hid (asked_all HI.out.2.1 HI.out.2.2.1 HFU.out HGK.out.2 HEE.out.symm)
          have HJN := hid (HI.out.2.1.asked HGK.out.2 HI.out.2.2.1)
          obtain ⟨t, ht⟩ : ∃ t, t = takeS sk (giveB g (askS sk)) := ⟨_, rfl⟩
          rw [← ht] at HEQ HJN HTN
          have HLK := hid (show (L.set k t)[k]? = some t by rw [List.getElem?_set_self (by rw [HI.out.1]; have := HK.out; omega)])
          have HOT := hid (HJN.out.1.inv k t HLK.out)
          obtain ⟨f, hf⟩ : ∃ f, N[k]? = some f := ⟨_, List.getElem?_eq_getElem (by rw [HI.out.2.2.2.1]; exact HK.out)⟩
          have HNF := hid (nf_set (s' := t) HI.out.2.2.2.2 HGK.out.2 HJN.out.2.filter)
          have HFK := hid (HNF.out k f hf)
          have HEQ2 := hid (show t.shelf = wantedL g.shelf f (k : Int) by rw [HEQ.out, HFK.out.2 t HLK.out, filterIn_wanted HOG.out.1.ok HFK.out.1])
          have hown5 := HOWN.out.chgW (B := B) (RBoxes.mono (by decide) (by decide)) hcc' (by decide)
          have HVH5 := hid (HVH.out.chg (RVer.mono (by decide) (by decide)) (by decide) hcc')
          obtain ⟨Bf, df, g1, g2, hbx, HNCELL⟩ : ∃ Bf df, f.length ≤ df ∧ df ≤ maxLen ∧ SlBoxes B w5 Bf f ∧ ∀ w', Ext w5 w' → w'.cell? ⟨nb, k, none⟩ = some (.slice Bf f.length df) := by
           have h3 := hown5
           rcases h3.at_ with ⟨hv, _⟩ | ⟨g', c', hv, _, _, _, _, hc⟩
           ·cases hv
           ·injection hv with hv _ _
            injection hv with hv
            injection hv with hv _
            subst hv
            obtain ⟨cs, e1, e2, v, rfl, Bf, df, rfl, g1, g2, hb⟩ := hc k f hf
            have := e2 0 _ rfl
            rw [Nat.mul_one, Nat.add_zero] at this
            exact ⟨Bf, df, g1, g2, hb, fun w' x => x.cell this⟩
          have HNC := hid HNCELL
          have HBX := hid hbx
          have HG12 := hid (Nat.le_trans g1 g2)
          have HB5 := hid (show B ≤ w5.heap.size from Nat.le_trans HB3.out (Nat.le_trans HX2.out.size hcc'.size))
          have HSH := hid (town_Shelf B rT rs (L.set k t) [] k rk t w5 HB5.out HTN.out HGK.out.1 HLK.out HOT.out.1.ok)
          have hbt5 := HBT.out.chg hcc' (by decide)
          have hbc := hbt5.cell (i := 0) (u := .pointer (some ⟨rT, 0, none⟩)) rfl
          have hblt := hbt5.lt
          have HBT5 := hid hbt5
          have HOW5 := hid hown5
          clear ht htn hf HNCELL hbx g1 g2 hown5 hbt5
          go_wp2_with fail
          refine HSH.out.mono ?_
          rintro e w6 ⟨v6, rfl, ⟨A6, c6, rfl, -, -, hv6⟩, hx6⟩
          have HX6 := hid hx6
          have hnc := HNC.out w6 hx6
          have hki3 : (k : Int) < 3 := hki
          clear hx6 hbc hblt HSH
          go_wp2_with fail
          refine (top_wanted B Ah ch g.shelf Bf df f (k : Int) w6 (Nat.le_trans HB5.out HX6.out.size) (by have := HOG.out.1.ok.shelf.len; omega) (fun v hv => (HOG.out.1.ok.shelf.all v hv).pt) HG12.out HFK.out.1 (HVH5.out.ext RVer.monoE HX6.out) (HBX.out.ext RBox.monoE HX6.out)).mono ?_
          rw [← HEQ2.out]
          rintro e w9 ⟨v9, rfl, ⟨A9, c9, rfl, -, -, hv9⟩, hx9⟩
          replace hv6 := hv6.ext RVer.monoE hx9
          have HX9 := hid (HX6.out.trans hx9)
          clear hx9 hnc
          go_wp2_with fail
          refine (ref_SameShelf B B A6 c6 A9 c9 t.shelf w9 (by have := HOT.out.1.ok.shelf.len; unfold maxLen; omega) hv6 hv9).mono ?_
          rintro e w10 ⟨rfl, hx10⟩
          have HXE := hid (HX9.out.trans hx10)
          clear hv6 hv9 hx10
          go_wp2_with fail
          go_roundw
          case rel => exact ⟨k + 1, L.set k t, HK.out, by first | rw [hw1] | rfl, HTN.out.ext HXE.out, hid ⟨by rw [List.length_set]; exact HI.out.1, HJN.out.1, by rw [List.getElem?_set_ne (by have := HK.out; omega)]; exact HI.out.2.2.1, HI.out.2.2.2.1, HNF.out⟩, HOW5.out.ext (B := B) RBoxes.monoE HXE.out, HBT5.out.ext HXE.out, HVH5.out.ext RVer.monoE HXE.out, (((Chg.of_ext HX2.out).trans hcc').ext HB2.out).trans HXE.out⟩
          case measure => (try rw [hw1]); have := HK.out; simp [intOf]; omega
         ·clear htn
          go_wp2_with fail
          go_ret
          exact ⟨rfl, HX02.out.trans (((Chg.of_ext HX2.out).trans hcc').ext HB2.out)⟩
        ·obtain rfl : k = 3 := by omega
         go_wp2_with fail
         go_ret
         exact ⟨rfl, HX02.out.trans HX2.out⟩
namespace TopLettersProof
open Go.ChangeShapes Go.WideShapes Go.ChangeAt Go.Joins
set_option maxRecDepth 100000 in
theorem lifted (os : Os) (started : os.Started) (H : Type) (enc : TypeId × Value → H) :
  ReturnsInHanded {} Tryz.checked os 3 .any (Rows.topLettersSpec.pre6 enc Tryz.prog Tryz.f3 Rows.topLettersRow.domain false) (Rows.topLettersSpec.post enc Tryz.prog Tryz.f3 false true false false) := by
 refine returnsInHanded_of_change (C := Tryz.checked) own started (by kernel_rfl) Tryz.func3
  (ChangeSpec.witness6 (enc := enc) (C := Tryz.checked) false ⟨#[], #[.slice none 0 0, .slice none 0 0], []⟩ 8 (by kernel_rfl) (by kernel_rfl) (by kernel_rfl) (by kernel_rfl)) ?_
 intro W base args ds gs before hval0 hW hcnd _
 have hval : ∀ (j : Nat) t v, Tryz.f3.params[j]? = some t → args[j]? = some v → Value.okWide Tryz.prog W .any base t v := hval0
 have hW' := hW
 obtain ⟨p, q, hA0, hV, rfl, hfz, hnd⟩ := hW
 have hA : DataW.TrodAll enc Tryz.prog W 0 (fun _ => true) true Tryz.f3.params.toList args.toList ds p := hA0
 rw [Tryz.params3] at hA hval
 obtain ⟨v0, vs0, d0, ds0, p0, q0, hargs, rfl, rfl, h0, r0⟩ := trodAll_cons hA
 obtain ⟨v1, vs1, d1, ds1, p1, q1, rfl, rfl, rfl, h1, r1⟩ := trodAll_cons r0
 obtain ⟨rfl, rfl, rfl⟩ := trodAll_nil r1
 obtain rfl : args = #[v0, v1] := by cases args; simp_all
 obtain ⟨rfl, rfl⟩ := trodVars_none hV
 obtain ⟨a0, n0, c0, rfl⟩ := okWide_slice Tryz.underlying22 (hval 0 22 v0 rfl rfl)
 have k0 := h0
 have lt0 : ∀ x ∈ p0, x.block < W.heap.size := by obtain ⟨m, hm⟩ := k0; exact DataW.trod_lt m _ _ _ hm
 obtain ⟨l0, rfl, hl0, s0, g0⟩ := open_fils h0
 obtain ⟨a1, n1, c1, rfl⟩ := okWide_slice Tryz.underlying23 (hval 1 23 v1 rfl rfl)
 have k1 := h1
 have lt1 : ∀ x ∈ p1, x.block < W.heap.size := by obtain ⟨m, hm⟩ := k1; exact DataW.trod_lt m _ _ _ hm
 obtain ⟨l1, rfl, hl1, s1, g1⟩ := open_vecs h1
 clear hA0 hval0
 refine (law_TopLetters a0 c0 l0 a1 c1 l1 W hl0 hl1 s0 s1).mono fun e W' ⟨he, bel⟩ => ?_
 subst he
 exact ⟨_, rfl, _, _, _, [], _, [], hW', trodAll_mk1 (shut_bool Tryz.underlying4 _), (trodAll_cons_mk (Below.trod laidOut (by kernel_rfl) (of_decide_eq_true (by kernel_rfl)) k0 bel lt0) (trodAll_cons_mk (Below.trod laidOut (by kernel_rfl) (of_decide_eq_true (by kernel_rfl)) k1 bel lt1) trodAll_mk0)), rfl, Below.frame bel _, fun h => by cases h⟩
theorem over : Rows.topLettersRow.holds Tryz.pinned (OpenSpec.ofChange Rows.topLettersSpec) :=
 OpenClaim.holds_of_wide 3 Tryz.f3 rfl rfl rfl rfl rfl rfl rfl ⟨rfl, rfl, rfl, rfl, rfl⟩ rfl rfl rfl rfl rfl (by kernel_rfl) Tryz.func3 (by kernel_rfl)
  (of_decide_eq_true (by kernel_rfl)) (by unfold Func.isWrapper; first | (rw [if_pos (by decide +kernel)]; kernel_rfl) | (rw [if_neg (by decide +kernel)]; exact ⟨rfl, rfl⟩))
  (fun os started H enc _ => lifted os started H enc)
end TopLettersProof
theorem topLetters_holds : Rows.TopLettersSaid := TopLettersProof.over
#print axioms topLetters_holds
end Go.Proofs.YtngbfdogiciahaaGreat
