/- How sites lie in memory; the walks of reedkeep.Within, reedtop.begun, filters, wanted, sites. -/
import Derived.Test.YtngbfdogiciahaaGreatSiteG
import Derived.Test.YtngbfdogiciahaaGreatTopD
namespace Go.Proofs.YtngbfdogiciahaaGreat
open Go Go.RowKit
def RBoxes (B : Nat) (w : World) (cs : List Value) (l : List Box) : Prop := ∃ v, cs = [v] ∧ IsBoxes B w v l
theorem RBoxes.mono {B : Nat} {ts : List TypeId} (h1 : 137 ∉ ts) (h2 : 142 ∉ ts) : Mono B ts (RBoxes B) := by
 rintro w w' cs l x ⟨v, rfl, hv⟩
 exact ⟨v, rfl, hv.chg (RBox.mono h1) h2 x⟩
theorem RBoxes.monoE {B : Nat} : Mono B [] (RBoxes B) := RBoxes.mono (by simp) (by simp)
theorem RBoxes.oneC {B : Nat} : OneC (RBoxes B) := by
 rintro w cs l ⟨v, rfl, A, c, rfl, _⟩ u hu
 simp at hu
 subst hu; rfl
abbrev SlFils (B : Nat) := Sl B 30 (RBoxes B) 1
theorem ei_fils : ElemInfo Tryz.prog 22 30 1 24 := ElemInfo.mk_ (z := .slice none 0 0) Tryz.underlying22 (by kernel_rfl) rfl (by decide)
theorem Sl.fil {B : Nat} {w : World} {A : Option Addr} {l : List (List Box)} (h : SlFils B w A l) {i : Nat} (hi : i < l.length) : ∃ b off Af cf, A = some ⟨b, off, none⟩ ∧ b < w.heap.size ∧ w.cell? ⟨b, off + i, none⟩ = some (.slice Af l[i].length cf) ∧ l[i].length ≤ cf ∧ cf ≤ maxLen ∧ SlBoxes B w Af l[i] := by
 obtain ⟨b, off, cs, hA, hb, _, hc, hR⟩ := h.at_ hi
 obtain ⟨v, rfl, Af, cf, rfl, h1, h2, h3⟩ := hR
 have := hc 0 _ rfl
 rw [Nat.mul_one, Nat.add_zero] at this
 exact ⟨b, off, Af, cf, hA, hb, this, h1, h2, h3⟩
def RPtr (_ : World) (cs : List Value) (r : Nat) : Prop := cs = [.pointer (some ⟨r, 0, none⟩)]
theorem RPtr.mono {B : Nat} {ts : List TypeId} : Mono B ts RPtr := fun _ _ _ _ _ h => h
theorem RPtr.oneC : OneC RPtr := by
 rintro w cs x rfl u hu
 simp at hu; subst hu; rfl
abbrev SlPtrs (B : Nat) := Sl B 59 RPtr 1
theorem ei_ptrs : ElemInfo Tryz.prog 54 59 1 8 := ElemInfo.mk_ (z := .pointer none) Tryz.underlying54 (by kernel_rfl) rfl (by decide)
theorem Sl.ptr {B : Nat} {w : World} {A : Option Addr} {l : List Nat} (h : SlPtrs B w A l) {i : Nat} (hi : i < l.length) : ∃ b off, A = some ⟨b, off, none⟩ ∧ b < w.heap.size ∧ w.cell? ⟨b, off + i, none⟩ = some (.pointer (some ⟨l[i], 0, none⟩)) := by
 obtain ⟨b, off, cs, hA, hb, _, hc, rfl⟩ := h.at_ hi
 have := hc 0 _ rfl
 rw [Nat.mul_one, Nat.add_zero] at this
 exact ⟨b, off, hA, hb, this⟩
structure Sites (B : Nat) (w : World) (rs : List Nat) (L : List SiteS) : Prop where
 len : rs.length = L.length
 inj : ∀ (i j r : Nat), rs[i]? = some r → rs[j]? = some r → i = j
 at_ : ∀ (i r : Nat) (s : SiteS), rs[i]? = some r → L[i]? = some s → B ≤ r ∧ IsSite B w r s
theorem Sites.ext {B : Nat} {w w' : World} {rs : List Nat} {L : List SiteS} (h : Sites B w rs L) (x : Ext w w') : Sites B w' rs L := ⟨h.len, h.inj, fun i r s a b => ⟨(h.at_ i r s a b).1, (h.at_ i r s a b).2.ext x⟩⟩
theorem Sites.set {B : Nat} {w w' : World} {rs : List Nat} {L : List SiteS} (h : Sites B w rs L) {i r : Nat} {s s' : SiteS} (hr : rs[i]? = some r) (hs : L[i]? = some s) (x : Fr r w w') (hn : IsSite B w' r s') : Sites B w' rs (L.set i s') := by
 have hi := h.at_ i r s hr hs
 refine ⟨by rw [List.length_set]; exact h.len, h.inj, fun j q t hq ht => ?_⟩
 by_cases e : j = i
 ·subst e
  rw [hr] at hq
  injection hq with hq
  subst hq
  rw [List.getElem?_set_self (by rw [← h.len]; exact (List.getElem?_eq_some_iff.1 hr).1)] at ht
  injection ht with ht
  subst ht
  exact ⟨hi.1, hn⟩
 ·rw [List.getElem?_set_ne (fun e' => e e'.symm)] at ht
  have hj := h.at_ j q t hq ht
  exact ⟨hj.1, hj.2.other x hi.2.ty hi.1 (fun e' => e (h.inj j i r (e' ▸ hq) hr))⟩
theorem Fr.chgS {B : Nat} {w w' : World} {r : Nat} {s : SiteS} (x : Fr r w w') (h : IsSite B w r s) (hB : B ≤ r) : Chg B [159] w w' := x.chg h.ty hB
theorem top_begun (B : Nat) (w : World) (hB : B ≤ w.heap.size) : Calls Tryz.prog 8 #[] w fun e w' => e = .returned (.bool true) ∧ Ext w w' := by
 go_enter Tryz.func8, Tryz.ntmps8
 go_wp2_with fail
 refine (filter_Every B _ hB).mono ?_
 rintro e w1 ⟨v1, rfl, hv1, hx1⟩
 obtain ⟨E, hE⟩ : ∃ E, E = everyF := ⟨_, rfl⟩
 rw [← hE] at hv1
 obtain ⟨A1, c1, rfl, h1, h2, hv1⟩ := hv1
 have hc : filterCount E = 512 := by rw [hE]; decide +kernel
 have hk : filterCheck E = 0 := by rw [hE]; exact every_check
 clear hE
 go_wp2_with fail
 refine (filter_Count B A1 c1 E _ (Nat.le_trans h1 h2) hv1).mono ?_
 rintro e w2 ⟨rfl, hx2⟩
 rw [hc, hk]
 go_wp2_with fail
 go_ret
 exact ⟨rfl, hx1.trans hx2⟩
set_option maxRecDepth 100000 in
set_option maxHeartbeats 1000000 in
theorem top_filters (B : Nat) (A : Option Addr) (c : Nat) (l : List (List Box)) (w : World) (hB : B ≤ w.heap.size) (hl : l.length ≤ c) (h : SlFils B w A l) :
  Calls Tryz.prog 9 #[.slice A l.length c] w fun e w' => ∃ v F, e = .returned v ∧ IsSl B 30 (RBoxes B) 1 w' v F ∧ F.length = 3 ∧ (∀ f ∈ F, filterCheck f = 0) ∧ Ext w w' := by
 have hm0 : 0 ≤ min (l.length : Int) 3 := by omega
 have hm1 : min (l.length : Int) 3 ≤ (c : Int) := by omega
 go_enter Tryz.func9, Tryz.ntmps9
 go_wp2_with fail
 obtain ⟨L, hL⟩ : ∃ L, L = l.take 3 := ⟨_, rfl⟩
 have hll : L.length = min l.length 3 := by rw [hL, List.length_take]; omega
 rw [show (min (l.length : Int) 3).toNat = L.length by omega, show max (min (l.length : Int) 3) 0 = (L.length : Int) by omega]
 replace h : SlFils B w A L := hL ▸ h.take 3
 have HL3 := hid (show L.length ≤ 3 by omega)
 clear hL hll hm0 hm1 hl
 go_loopw [3, 12] (fun o i wr => ∃ (k : Nat) (F : List (List Box)), k ≤ L.length ∧ i = .int .i64 k ∧ Own (RBoxes B) 1 30 wr w.heap.size o F ∧ Hid (F.length ≤ k ∧ ∀ f ∈ F, filterCheck f = 0) ∧ Ext w wr) (fun _ i _ => L.length - (intOf i).toNat)
 case atStart => exact ⟨0, [], Nat.zero_le _, rfl, Own.nil, hid ⟨Nat.le_refl _, by simp⟩, Ext.refl _⟩
 case round =>
  obtain ⟨k, F, hk, rfl, ho, HF, hx⟩ := hrel
  by_cases hlt : k < L.length
  ·obtain ⟨b, off, Af, cf, rfl, hbl, g0, g1, g2, hf⟩ := (h.ext RBoxes.monoE hx).fil hlt
   have G12 := hid (And.intro g1 g2)
   clear g1 g2
   have HSL := hid (show (L.drop k).length = (L.drop (k + 1)).length + 1 by rw [List.length_drop, List.length_drop]; omega)
   go_wp2_with fail
   refine (filter_Check B Af cf L[k] _ (Nat.le_trans G12.out.1 G12.out.2) hf).mono ?_
   rintro e w1 ⟨rfl, hx1⟩
   replace hx := hx.trans hx1
   replace ho := ho.ext (B := B) RBoxes.monoE hx1
   have hf1 := hf.ext RBox.monoE hx1
   clear hf g0 hx1
   by_cases h0 : filterCheck L[k] = 0
   ·have H0 := hid h0
    rw [h0]
    clear h0
    obtain ⟨x, hxe⟩ : ∃ x, x = L[k] := ⟨_, rfl⟩
    rw [← hxe] at H0 G12 hf1 ⊢
    clear hxe
    have hone : SlFils B (w1.alloc (.cells #[.slice Af x.length cf] 30)) (some ⟨w1.heap.size, 0, none⟩) [x] := Sl.one (R := RBoxes B) (B := B) (cs := [.slice Af x.length cf]) rfl rfl ⟨_, rfl, Af, cf, rfl, G12.out.1, G12.out.2, hf1.ext RBox.monoE ((Ext.refl _).alloc _)⟩
    go_wp2_with (at_builtin; refine wpList_app (ys := [x]) rfl _ _ rfl ei_fils rfl (ho.ext (B := B) RBoxes.monoE ((Ext.refl _).alloc _)) hB (hx.alloc _).size rfl hone RBoxes.oneC (RBoxes.mono (by decide) (by decide)) ?_ ?_ ?_)
    ·have := HF.out.1; have := HL3.out; simp [maxLen]; omega
    ·have := HF.out.1; have := HL3.out; simp; omega
    ·intro v2 w3 ho2 hc2 hb2 _
     have hx3 := (hx.alloc (.cells #[.slice Af x.length cf] 30)).below hb2 (Nat.le_refl _)
     clear hc2 hb2 hx
     have HF2 := hid (show (F ++ [x]).length ≤ k + 1 ∧ ∀ f ∈ F ++ [x], filterCheck f = 0 from ⟨by have := HF.out.1; simp; omega, fun f hf => (List.mem_append.1 hf).elim (HF.out.2 f) (fun h => by rw [List.mem_singleton.1 h]; exact H0.out)⟩)
     go_wp2_with fail
     have hw1 : wrap64 ((k : Int) + 1) = ((k + 1 : Nat) : Int) := by have := HL3.out; unfold wrap64; omega
     go_roundw
     case rel => exact ⟨k + 1, F ++ [x], by omega, by rw [hw1], ho2, HF2, hx3⟩
     case measure => rw [hw1]; simp only [intOf, Int.toNat_natCast]; omega
   ·have hb : (filterCheck L[k] == 0) = false := by simpa using h0
    dsimp only
    go_wp2_with fail
    have hw1 : wrap64 ((k : Int) + 1) = ((k + 1 : Nat) : Int) := by have := HL3.out; unfold wrap64; omega
    go_roundw
    case rel => exact ⟨k + 1, F, by omega, by rw [hw1], ho, hid ⟨by have := HF.out.1; omega, HF.out.2⟩, hx⟩
    case measure => rw [hw1]; simp only [intOf, Int.toNat_natCast]; omega
  ·obtain rfl : k = L.length := by omega
   replace HF := hid (show F.length ≤ 3 ∧ ∀ f ∈ F, filterCheck f = 0 from ⟨by have := HF.out.1; have := HL3.out; omega, HF.out.2⟩)
   clear h hlt hk
   go_wp2_with fail
   obtain ⟨wc, hwc⟩ : ∃ wc, wc = wr := ⟨_, rfl⟩
   rw [← hwc]
   rw [← hwc] at ho hx
   clear hwc
   go_loopw [3] (fun o ws => ∃ (F : List (List Box)), Own (RBoxes B) 1 30 ws w.heap.size o F ∧ Hid (F.length ≤ 3 ∧ ∀ f ∈ F, filterCheck f = 0) ∧ Ext w ws) (fun o _ => 3 - (match o with | .slice _ n _ => n | _ => 0))
   case atStart => exact ⟨F, ho, HF, hx⟩
   case round =>
    clear F ho HF hx
    obtain ⟨F, ho, HF, hx⟩ := hrel
    obtain ⟨Ao, co, rfl, o1, o2⟩ := ho.len
    have HO := hid (And.intro o1 o2)
    clear o1 o2
    by_cases hlt : F.length < 3
    ·have hd : decide ((F.length : Int) < 3) = true := decide_eq_true (by omega)
     have HLT := hid hlt
     clear hlt
     go_wp2_with fail
     refine (filter_Every B _ (Nat.le_trans hB hx.size)).mono ?_
     rintro e w1 ⟨v1, rfl, ⟨A1, c1, rfl, h1, h2, hv1⟩, hx1⟩
     replace hx := hx.trans hx1
     replace ho := ho.ext (B := B) RBoxes.monoE hx1
     clear hx1
     obtain ⟨x, hxe⟩ : ∃ x, x = everyF := ⟨_, rfl⟩
     have H0 := hid (show filterCheck x = 0 by rw [hxe]; exact every_check)
     rw [← hxe] at h1 hv1 ⊢
     clear hxe
     have H12 := hid (And.intro h1 h2)
     clear h1 h2
     have hone : SlFils B (w1.alloc (.cells #[.slice A1 x.length c1] 30)) (some ⟨w1.heap.size, 0, none⟩) [x] := Sl.one (R := RBoxes B) (B := B) (cs := [.slice A1 x.length c1]) rfl rfl ⟨_, rfl, A1, c1, rfl, H12.out.1, H12.out.2, hv1.ext RBox.monoE ((Ext.refl _).alloc _)⟩
     go_wp2_with (at_builtin; refine wpList_app (ys := [x]) rfl _ _ rfl ei_fils rfl (ho.ext (B := B) RBoxes.monoE ((Ext.refl _).alloc _)) hB (hx.alloc _).size rfl hone RBoxes.oneC (RBoxes.mono (by decide) (by decide)) ?_ ?_ ?_)
     ·have := HF.out.1; simp [maxLen]; omega
     ·have := HF.out.1; simp; omega
     ·intro v2 w3 ho2 hc2 hb2 _
      have hx3 := (hx.alloc (.cells #[.slice A1 x.length c1] 30)).below hb2 (Nat.le_refl _)
      clear hc2 hb2 hx
      have HF2 := hid (show (F ++ [x]).length ≤ 3 ∧ ∀ f ∈ F ++ [x], filterCheck f = 0 from ⟨by have := HLT.out; simp; omega, fun f hf => (List.mem_append.1 hf).elim (HF.out.2 f) (fun h => by rw [List.mem_singleton.1 h]; exact H0.out)⟩)
      obtain ⟨F2, hF2⟩ : ∃ F2, F2 = F ++ [x] := ⟨_, rfl⟩
      have HM := hid (show F2.length = F.length + 1 by rw [hF2]; simp)
      rw [← hF2] at HF2 ho2
      clear hF2
      obtain ⟨A2, c2, rfl, _, _⟩ := ho2.len
      go_wp2_with fail
      go_roundw
      case rel => exact ⟨F2, ho2, HF2, hx3⟩
      case measure => have := HM.out; have := HLT.out; simp; omega
    ·have hd : decide ((F.length : Int) < 3) = false := decide_eq_false (by omega)
     have HLT := hid hlt
     clear hlt
     go_wp2_with fail
     go_ret
     exact ⟨_, F, rfl, ho.isSl B, by have := HLT.out; have := HF.out.1; omega, HF.out.2, hx⟩
set_option maxRecDepth 100000 in
theorem clone_fils (B : Nat) (A : Option Addr) (c : Nat) (l : List (List Box)) (w : World) (hB : B ≤ w.heap.size) (hl : l.length ≤ 1000000) (h : Sl B 30 (RBoxes B) 1 w A l) :
  Calls Tryz.prog 11 #[.slice A l.length c] w fun e w' => ∃ v, e = .returned v ∧ Own (RBoxes B) 1 30 w' w.heap.size v l ∧ Ext w w' := by
 cases A with
 | none =>
  obtain rfl : l = [] := Sl.none_nil h
  have he : ∀ w : World, (binOp .eql 22 (.slice none 0 c) (.slice none 0 0)).run Tryz.prog w = .ok (.bool true) w := fun _ => rfl
  go_enter Tryz.func11, Tryz.ntmps11
  go_wp2_with fail
  go_ret
  exact ⟨_, rfl, Own.nil, Ext.refl _⟩
 | some a =>
  have he : ∀ w : World, (binOp .eql 22 (.slice (some a) l.length c) (.slice none 0 0)).run Tryz.prog w = .ok (.bool false) w := fun _ => rfl
  have hx0 := (Ext.refl w).alloc (.cells #[] 30)
  go_enter Tryz.func11, Tryz.ntmps11
  go_wp2_with (at_builtin; refine wpList_app (ys := l) (B := B) rfl _ _ rfl ei_fils rfl (Own.empty (Nat.le_refl _)) hB hx0.size rfl (h.ext RBoxes.monoE hx0) RBoxes.oneC (RBoxes.mono (by decide) (by decide)) ?_ ?_ ?_)
  ·simp [maxLen]; omega
  ·simp; omega
  ·intro v w2 ho hc hb _
   have hx := hx0.below hb (Nat.le_refl _)
   clear hc hb
   go_wp2_with fail
   go_ret
   exact ⟨_, rfl, ho, hx⟩
def freshL (G : List (List Box)) : List SiteS := G.mapIdx fun i f => siteNew (i : Int) f
theorem freshL_take {G : List (List Box)} {k : Nat} (hk : k < G.length) : freshL (G.take (k + 1)) = freshL (G.take k) ++ [siteNew (k : Int) G[k]] := by
 unfold freshL
 rw [List.take_succ_eq_append_getElem hk, List.mapIdx_concat, List.length_take, Nat.min_eq_left (by omega)]
theorem freshL_len (G : List (List Box)) : (freshL G).length = G.length := List.length_mapIdx
theorem IsSite.chgP {B : Nat} {w w' : World} {r : Nat} {s : SiteS} (h : IsSite B w r s) (x : Chg B [59] w w') : IsSite B w' r s := by
 obtain ⟨Af, cf, Ax, cx, Ap, cp, h⟩ := h
 have ht := h.blk.ty
 refine ⟨Af, cf, Ax, cx, Ap, cp, ?_, h.sf.chg (RBox.mono (by decide)) (by decide) x, h.sx.chg (RVer.mono (by decide) (by decide)) (by decide) x, h.sp.chg (RPart.mono (by decide) (by decide) (by decide) (by decide)) (by decide) x⟩
 exact h.blk.chg x (by decide)
theorem Sites.chgP {B : Nat} {w w' : World} {rs : List Nat} {L : List SiteS} (h : Sites B w rs L) (x : Chg B [59] w w') : Sites B w' rs L := ⟨h.len, h.inj, fun i r s a b => ⟨(h.at_ i r s a b).1, (h.at_ i r s a b).2.chgP x⟩⟩
theorem Sites.push {B : Nat} {w : World} {rs : List Nat} {L : List SiteS} (h : Sites B w rs L) {r : Nat} {s : SiteS} (hn : r ∉ rs) (hB : B ≤ r) (hs : IsSite B w r s) : Sites B w (rs ++ [r]) (L ++ [s]) := by
 have hl := h.len
 have hc : ∀ (i q : Nat), (rs ++ [r])[i]? = some q → (i < rs.length ∧ rs[i]? = some q) ∨ (i = rs.length ∧ q = r) := by
  intro i q hq
  rcases Nat.lt_or_ge i rs.length with g | g
  ·rw [List.getElem?_append_left g] at hq
   exact .inl ⟨g, hq⟩
  ·rw [List.getElem?_append_right g] at hq
   obtain ⟨g2, g3⟩ := List.getElem?_eq_some_iff.1 hq
   have g4 : i - rs.length = 0 := by simp at g2; omega
   exact .inr ⟨by omega, by simp only [g4, List.getElem_cons_zero] at g3; exact g3.symm⟩
 refine ⟨by simp [hl], fun i j q hi hj => ?_, fun i q t hi hj => ?_⟩
 ·rcases hc i q hi with ⟨_, a⟩ | ⟨a, b⟩ <;> rcases hc j q hj with ⟨_, c⟩ | ⟨c, d⟩
  ·exact h.inj i j q a c
  ·exact absurd (List.mem_of_getElem? a) (d ▸ hn)
  ·exact absurd (List.mem_of_getElem? c) (b ▸ hn)
  ·omega
 ·rcases hc i q hi with ⟨a, b⟩ | ⟨a, b⟩
  ·rw [List.getElem?_append_left (by omega)] at hj
   exact h.at_ i q t b hj
  ·rw [List.getElem?_append_right (by omega), show i - L.length = 0 by omega] at hj
   simp at hj
   subst hj
   exact ⟨by omega, b ▸ hs⟩
theorem wantedL_take {l : List Version} {f : List Box} {me : Int} {k : Nat} (hk : k < l.length) : wantedL (l.take (k + 1)) f me = wantedL (l.take k) f me ++ if filterIn f l[k].pt || decide (l[k].dot.site = me) then [l[k]] else [] := by
 unfold wantedL
 rw [List.take_succ_eq_append_getElem hk, List.filter_append, List.filter_cons, List.filter_nil]
theorem wantedL_len (l : List Version) (f : List Box) (me : Int) : (wantedL l f me).length ≤ l.length := List.length_filter_le _ _
theorem filterHas_ok {f : List Box} {p : Point} (hf : filterCheck f = 0) (hp : pointOk p = true) : filterHas f p = filterIn f p ∧ filterHasErr f p = 0 := by
 have h : filterHasErr f p = 0 := by rw [filterHasErr, if_pos hf, if_pos hp]
 exact ⟨by rw [filterHas, h]; rfl, h⟩
set_option maxRecDepth 100000 in
set_option maxHeartbeats 2000000 in
theorem top_wanted (B : Nat) (A : Option Addr) (c : Nat) (l : List Version) (Af : Option Addr) (cf : Nat) (f : List Box) (me : Int) (w : World) (hB : B ≤ w.heap.size) (hl : l.length ≤ 1000) (hp : ∀ v ∈ l, pointOk v.pt = true) (hlf : f.length ≤ maxLen) (hok : filterCheck f = 0) (h : SlVers B w A l) (hf : SlBoxes B w Af f) :
  Calls Tryz.prog 23 #[.slice A l.length c, .slice Af f.length cf, .int .i64 me] w fun e w' => ∃ v, e = .returned v ∧ IsVers B w' v (wantedL l f me) ∧ Ext w w' := by
 have HP := hid hp
 have HF := hid (And.intro hlf hok)
 have HL := hid hl
 clear hp hlf hok hl
 go_enter Tryz.func23, Tryz.ntmps23
 go_wp2_with fail
 go_loopw [7, 14] (fun o i wr => ∃ (k : Nat) (V : List Version), k ≤ l.length ∧ i = .int .i64 k ∧ Own (RVer B) 8 151 wr w.heap.size o V ∧ Hid (V = wantedL (l.take k) f me) ∧ Ext w wr) (fun _ i _ => l.length - (intOf i).toNat)
 case atStart => exact ⟨0, [], Nat.zero_le _, rfl, Own.nil, hid rfl, Ext.refl _⟩
 case round =>
  obtain ⟨k, V, hk, rfl, ho, HV, hx⟩ := hrel
  have hw1 : wrap64 ((k : Int) + 1) = ((k + 1 : Nat) : Int) := by have := HL.out; unfold wrap64; omega
  have HLen := hid (show V.length ≤ 1000 by rw [HV.out]; refine Nat.le_trans (wantedL_len _ _ _) (Nat.le_trans ?_ HL.out); rw [List.length_take]; omega)
  by_cases hlt : k < l.length
  ·obtain ⟨r0, off, Av, cv, Am, cm, rfl, hb, hr, hI⟩ := (h.ext RVer.monoE hx).ver hlt
   have HI := hid hI
   have HT := hid (wantedL_take (f := f) (me := me) hlt)
   have HPk := hid (HP.out _ (List.getElem_mem hlt))
   clear hI
   have hsz : ([.string l[k].id, .int .i64 l[k].dot.site, .int .i64 l[k].dot.count, .int .i64 l[k].pt.tags, .int .i64 l[k].pt.num, .int .i64 l[k].body, .slice Av l[k].past.vec.length cv, .slice Am l[k].past.more.length cm] : List Value).length = 8 := rfl
   have hxl := (Ext.refl wr).alloc (.cells #[.string l[k].id, .int .i64 l[k].dot.site, .int .i64 l[k].dot.count, .int .i64 l[k].pt.tags, .int .i64 l[k].pt.num, .int .i64 l[k].body, .slice Av l[k].past.vec.length cv, .slice Am l[k].past.more.length cm] 151)
   have hbu := Blk.new wr 151 #[.string l[k].id, .int .i64 l[k].dot.site, .int .i64 l[k].dot.count, .int .i64 l[k].pt.tags, .int .i64 l[k].pt.num, .int .i64 l[k].body, .slice Av l[k].past.vec.length cv, .slice Am l[k].past.more.length cm]
   go_wp2_with ((with_reducible refine wpList_loadL (o := ⟨some 17, _, _, _, _, _⟩) ri_ver _ rfl rfl rfl hr hsz ?_))
   clear hr hsz hb
   refine (filter_Has B Af cf f l[k].pt _ HF.out.1 (hf.ext RBox.monoE (hx.trans hxl))).mono ?_
   rw [(filterHas_ok HF.out.2 HPk.out).1, (filterHas_ok HF.out.2 HPk.out).2]
   rintro e w1 ⟨rfl, hx1⟩
   have hxq := hxl.trans hx1
   replace hbu := hbu.ext hx1
   replace hx := hx.trans hxq
   replace ho := ho.ext (B := B) RVer.monoE hxq
   replace HI := hid (HI.out.ext hxq)
   obtain ⟨Ao, co, rfl, o1, o2⟩ := ho.len
   clear o1 o2 hxl hx1 hxq
   have hltu := hbu.lt
   have u1 := hbu.cell (i := 1) (u := .int .i64 l[k].dot.site) rfl
   have hsplit : filterIn f l[k].pt = true ∨ (filterIn f l[k].pt = false ∧ l[k].dot.site = me) ∨ (filterIn f l[k].pt = false ∧ l[k].dot.site ≠ me) := by
    cases filterIn f l[k].pt
    ·rcases Decidable.em (l[k].dot.site = me) with g | g
     ·exact .inr (.inl ⟨rfl, g⟩)
     ·exact .inr (.inr ⟨rfl, g⟩)
    ·exact .inl rfl
   rcases hsplit with hq | ⟨hq, hm⟩ | ⟨hq, hm⟩
   ·rw [hq]
    have HC := hid (show wantedL (l.take (k + 1)) f me = wantedL (l.take k) f me ++ [l[k]] by rw [HT.out, hq]; rfl)
    clear hq
    have hyw := hbu.whole
    have hsz8 : (#[.string l[k].id, .int .i64 l[k].dot.site, .int .i64 l[k].dot.count, .int .i64 l[k].pt.tags, .int .i64 l[k].pt.num, .int .i64 l[k].body, .slice Av l[k].past.vec.length cv, .slice Am l[k].past.more.length cm] : Array Value).size = 8 := rfl
    have hxb := (Ext.refl w1).alloc (.cells #[.string l[k].id, .int .i64 l[k].dot.site, .int .i64 l[k].dot.count, .int .i64 l[k].pt.tags, .int .i64 l[k].pt.num, .int .i64 l[k].body, .slice Av l[k].past.vec.length cv, .slice Am l[k].past.more.length cm] 151)
    have hone : SlVers B (w1.alloc (.cells #[.string l[k].id, .int .i64 l[k].dot.site, .int .i64 l[k].dot.count, .int .i64 l[k].pt.tags, .int .i64 l[k].pt.num, .int .i64 l[k].body, .slice Av l[k].past.vec.length cv, .slice Am l[k].past.more.length cm] 151)) (some ⟨w1.heap.size, 0, none⟩) [l[k]] := Sl.one (R := RVer B) (B := B) (e := 151) (sz := 8) (w := w1) (cs := [.string l[k].id, .int .i64 l[k].dot.site, .int .i64 l[k].dot.count, .int .i64 l[k].pt.tags, .int .i64 l[k].pt.num, .int .i64 l[k].body, .slice Av l[k].past.vec.length cv, .slice Am l[k].past.more.length cm]) (y := l[k]) rfl rfl (HI.out.ext hxb).rver
    have ho2 := ho.ext (B := B) RVer.monoE hxb
    have hxw := hx.trans hxb
    go_wp2_with (first | (with_reducible refine wpList_loadMid (o := ⟨some 38, _, _, _, _, _⟩) ri_ver _ rfl rfl rfl hyw hsz8 ?_) | (at_builtin; refine wpList_app (ys := [l[k]]) (c := 1) (B := B) rfl _ _ rfl ei_ver rfl ho2 hB hxw.size rfl hone RVer.oneC (RVer.mono (by decide) (by decide)) (by have := HLen.out; simp [maxLen]; omega) (by have := HLen.out; simp; omega) ?_; intro v5 w5 ho5 hc5 hb5 hg5))
    have hx5 := hxw.below hb5 (Nat.le_refl _)
    clear hc5 hb5 hg5 ho2 hone hxw hyw hxb
    go_roundw
    case rel => exact ⟨k + 1, V ++ [l[k]], by omega, by rw [hw1], ho5, hid (by rw [HC.out, HV.out]), hx5⟩
    case measure => rw [hw1]; simp only [intOf, Int.toNat_natCast]; omega
   ·have hme : (l[k].dot.site == me) = true := by rw [hm]; exact beq_self_eq_true _
    rw [hq]
    have HC := hid (show wantedL (l.take (k + 1)) f me = wantedL (l.take k) f me ++ [l[k]] by rw [HT.out, hq, hm]; simp)
    clear hq hm
    have hyw := hbu.whole
    have hsz8 : (#[.string l[k].id, .int .i64 l[k].dot.site, .int .i64 l[k].dot.count, .int .i64 l[k].pt.tags, .int .i64 l[k].pt.num, .int .i64 l[k].body, .slice Av l[k].past.vec.length cv, .slice Am l[k].past.more.length cm] : Array Value).size = 8 := rfl
    have hxb := (Ext.refl w1).alloc (.cells #[.string l[k].id, .int .i64 l[k].dot.site, .int .i64 l[k].dot.count, .int .i64 l[k].pt.tags, .int .i64 l[k].pt.num, .int .i64 l[k].body, .slice Av l[k].past.vec.length cv, .slice Am l[k].past.more.length cm] 151)
    have hone : SlVers B (w1.alloc (.cells #[.string l[k].id, .int .i64 l[k].dot.site, .int .i64 l[k].dot.count, .int .i64 l[k].pt.tags, .int .i64 l[k].pt.num, .int .i64 l[k].body, .slice Av l[k].past.vec.length cv, .slice Am l[k].past.more.length cm] 151)) (some ⟨w1.heap.size, 0, none⟩) [l[k]] := Sl.one (R := RVer B) (B := B) (e := 151) (sz := 8) (w := w1) (cs := [.string l[k].id, .int .i64 l[k].dot.site, .int .i64 l[k].dot.count, .int .i64 l[k].pt.tags, .int .i64 l[k].pt.num, .int .i64 l[k].body, .slice Av l[k].past.vec.length cv, .slice Am l[k].past.more.length cm]) (y := l[k]) rfl rfl (HI.out.ext hxb).rver
    have ho2 := ho.ext (B := B) RVer.monoE hxb
    have hxw := hx.trans hxb
    go_wp2_with (first | (with_reducible refine wpList_loadMid (o := ⟨some 38, _, _, _, _, _⟩) ri_ver _ rfl rfl rfl hyw hsz8 ?_) | (at_builtin; refine wpList_app (ys := [l[k]]) (c := 1) (B := B) rfl _ _ rfl ei_ver rfl ho2 hB hxw.size rfl hone RVer.oneC (RVer.mono (by decide) (by decide)) (by have := HLen.out; simp [maxLen]; omega) (by have := HLen.out; simp; omega) ?_; intro v5 w5 ho5 hc5 hb5 hg5))
    have hx5 := hxw.below hb5 (Nat.le_refl _)
    clear hc5 hb5 hg5 ho2 hone hxw hyw hxb
    go_roundw
    case rel => exact ⟨k + 1, V ++ [l[k]], by omega, by rw [hw1], ho5, hid (by rw [HC.out, HV.out]), hx5⟩
    case measure => rw [hw1]; simp only [intOf, Int.toNat_natCast]; omega
   ·have hme : (l[k].dot.site == me) = false := by simpa using hm
    rw [hq]
    have HC := hid (show wantedL (l.take (k + 1)) f me = wantedL (l.take k) f me by rw [HT.out, hq]; simp [hm])
    clear hq hm
    go_wp2_with fail
    go_roundw
    case rel => exact ⟨k + 1, V, by omega, by rw [hw1], ho, hid (HC.out ▸ HV.out), hx⟩
    case measure => rw [hw1]; simp only [intOf, Int.toNat_natCast]; omega
  ·obtain rfl : k = l.length := by omega
   have HE := hid (show V = wantedL l f me by rw [HV.out, List.take_length])
   go_wp2_with fail
   go_ret
   exact ⟨_, rfl, HE.out ▸ ho.isSl B, hx⟩
end Go.Proofs.YtngbfdogiciahaaGreat
