/- The walk of a Site's Give. -/
import Derived.Test.YtngbfdogiciahaaGreatShort
import Derived.Test.YtngbfdogiciahaaGreatSiteT
import Derived.Test.YtngbfdogiciahaaGreatWireS
namespace Go.Proofs.YtngbfdogiciahaaGreat
open Go Go.RowKit
def gV (a : AskS) (l : List Version) : List Version := l.filter fun v => filterIn a.filter v.pt && !partsIn a.parts v.pt v.dot
def gG (a : AskS) (l : List Version) : List Gone := (l.filter fun v => !filterIn a.filter v.pt).map goneOf
theorem gV_len (a : AskS) (l : List Version) (k : Nat) : (gV a (l.take k)).length ≤ l.length := by
 unfold gV
 refine Nat.le_trans (List.length_filter_le _ _) ?_
 rw [List.length_take]; omega
theorem gG_len (a : AskS) (l : List Version) (k : Nat) : (gG a (l.take k)).length ≤ l.length := by
 unfold gG
 rw [List.length_map]
 refine Nat.le_trans (List.length_filter_le _ _) ?_
 rw [List.length_take]; omega
theorem gV_yes (a : AskS) (l : List Version) (k : Nat) (hk : k < l.length) (h : (filterIn a.filter l[k].pt && !partsIn a.parts l[k].pt l[k].dot) = true) : gV a (l.take (k + 1)) = gV a (l.take k) ++ [l[k]] := by
 unfold gV
 rw [List.take_succ_eq_append_getElem hk, List.filter_append]
 simp [h]
theorem gV_no (a : AskS) (l : List Version) (k : Nat) (hk : k < l.length) (h : (filterIn a.filter l[k].pt && !partsIn a.parts l[k].pt l[k].dot) = false) : gV a (l.take (k + 1)) = gV a (l.take k) := by
 unfold gV
 rw [List.take_succ_eq_append_getElem hk, List.filter_append]
 simp [h]
theorem gG_yes (a : AskS) (l : List Version) (k : Nat) (hk : k < l.length) (h : filterIn a.filter l[k].pt = false) : gG a (l.take (k + 1)) = gG a (l.take k) ++ [goneOf l[k]] := by
 unfold gG
 rw [List.take_succ_eq_append_getElem hk, List.filter_append, List.filter_cons_of_pos (by rw [h]; rfl), List.map_append]; rfl
theorem gG_no (a : AskS) (l : List Version) (k : Nat) (hk : k < l.length) (h : filterIn a.filter l[k].pt = true) : gG a (l.take (k + 1)) = gG a (l.take k) := by
 unfold gG
 rw [List.take_succ_eq_append_getElem hk, List.filter_append, List.filter_cons_of_neg (by rw [h]; simp)]; simp
theorem give_no {s : SiteS} {a : AskS} {e : Int} (h : giveErr a = e) (he : e ≠ 0) : giveErr a = e ∧ giveB s a = ⟨0, 0, [], [], []⟩ := by
 refine ⟨h, ?_⟩
 unfold giveB
 rw [if_neg (by rw [h]; exact he)]
theorem give_yes {s : SiteS} {a : AskS} (h : giveErr a = 0) : giveB s a = ⟨a.site, a.stamp, giveV s a, giveG s a, narrowO (knownP s) a.filter⟩ := by
 unfold giveB
 rw [if_pos h]
theorem res_give {w : World} {v x0 x1 x2 x3 x4 : Value} {b : Nat} {tmps : Array Value} (h4 : tmps.getD 4 undef = .pointer (some ⟨b, 0, none⟩)) (h5 : tmps.getD 5 undef = v) (c0 : w.cell? ⟨b, 0, none⟩ = some x0) (c1 : w.cell? ⟨b, 1, none⟩ = some x1) (c2 : w.cell? ⟨b, 2, none⟩ = some x2) (c3 : w.cell? ⟨b, 3, none⟩ = some x3) (c4 : w.cell? ⟨b, 4, none⟩ = some x4) :
  (results Tryz.f43 tmps).run Tryz.prog w = .ok (.tuple #[.agg #[x0, x1, x2, x3, x4], v]) w := by
 have h4' : tmps[4]?.getD undef = .pointer (some ⟨b, 0, none⟩) := by simpa using h4
 have h5' : tmps[5]?.getD undef = v := by simpa using h5
 simp [results, Tryz.results43, go_sem, h4', h5', c0, c1, c2, c3, c4]
theorem Ext.fr {b : Nat} {a w w' : World} (h : Ext a w) (x : Fr b w w') (hb : a.heap.size ≤ b) : Ext a w' :=
 ⟨x.os.trans (Below.os h), x.tape.trans (Below.tape h), x.output.trans (Below.output h), Nat.le_trans h.size x.size, fun k hk => (x.block k (Nat.lt_of_lt_of_le hk h.size) (by omega)).trans (h.blockAt hk)⟩
theorem SiteAt.fr {B : Nat} {w w' : World} {r b : Nat} {Af : Option Addr} {cf : Nat} {Ax : Option Addr} {cx : Nat} {Ap : Option Addr} {cp : Nat} {s : SiteS} (h : SiteAt B w r Af cf Ax cx Ap cp s) (x : Fr b w w') (ht : tyAt w b = some 90) (hB : B ≤ b) (hne : r ≠ b) : SiteAt B w' r Af cf Ax cx Ap cp s := by
 have hc := x.chg ht hB
 exact ⟨x.blkO h.blk hne, h.sf.chg (RBox.mono (by decide)) (by decide) hc, h.sx.chg (RVer.mono (by decide) (by decide)) (by decide) hc, h.sp.chg (RPart.mono (by decide) (by decide) (by decide) (by decide)) (by decide) hc⟩
theorem InA.fr {B : Nat} {w w' : World} {b : Nat} {Af : Option Addr} {cf : Nat} {Ap : Option Addr} {cp : Nat} {a : AskS} (h : InA B w Af cf Ap cp a) (x : Fr b w w') (ht : tyAt w b = some 90) (hB : B ≤ b) : InA B w' Af cf Ap cp a := by
 have hc := x.chg ht hB
 exact ⟨h.lf, h.lp, h.sf.chg (RBox.mono (by decide)) (by decide) hc, h.sp.chg (RPart.mono (by decide) (by decide) (by decide) (by decide)) (by decide) hc⟩
set_option maxRecDepth 100000 in
set_option maxHeartbeats 8000000 in
theorem site_Give (B : Nat) (r : Nat) (s : SiteS) (a : AskS) (Bf : Option Addr) (df : Nat) (Bp : Option Addr) (dp : Nat) (w : World) (hB : B ≤ w.heap.size) (hok : SiteOk s) (h : IsSite B w r s) (hi : InA B w Bf df Bp dp a) :
  Calls Tryz.prog 43 #[.pointer (some ⟨r, 0, none⟩), .agg #[.int .i64 a.site, .int .i64 a.stamp, .slice Bf a.filter.length df, .slice Bp a.parts.length dp]] w fun e w' => ∃ A1 c1 A2 c2 A3 c3, e = .returned (.tuple #[.agg #[.int .i64 (giveB s a).site, .int .i64 (giveB s a).stamp, .slice A1 (giveB s a).vers.length c1, .slice A2 (giveB s a).gone.length c2, .slice A3 (giveB s a).parts.length c3], .int .i64 (giveErr a)]) ∧ InB B w' A1 c1 A2 c2 A3 c3 (giveB s a) ∧ Ext w w' := by
 have hrl0 := h.lt
 obtain ⟨Af, cf, Ax, cx, Ap, cp, hsite⟩ := h
 have HB := hid hB
 have HOK := hid hok
 have HI := hid hi
 have hx := ((Ext.refl w).alloc (.cells #[.int .i64 a.site, .int .i64 a.stamp, .slice Bf a.filter.length df, .slice Bp a.parts.length dp] 68)).alloc (.cells #[.int .i64 0, .int .i64 0, .slice none 0 0, .slice none 0 0, .slice none 0 0] 90)
 have hba := (Blk.new w 68 #[.int .i64 a.site, .int .i64 a.stamp, .slice Bf a.filter.length df, .slice Bp a.parts.length dp]).alloc (.cells #[.int .i64 0, .int .i64 0, .slice none 0 0, .slice none 0 0, .slice none 0 0] 90)
 have hb4 := Blk.new (w.alloc (.cells #[.int .i64 a.site, .int .i64 a.stamp, .slice Bf a.filter.length df, .slice Bp a.parts.length dp] 68)) 90 #[.int .i64 0, .int .i64 0, .slice none 0 0, .slice none 0 0, .slice none 0 0]
 rw [show (w.alloc (.cells #[.int .i64 a.site, .int .i64 a.stamp, .slice Bf a.filter.length df, .slice Bp a.parts.length dp] 68)).heap.size = w.heap.size + 1 by simp] at hb4
 have HGE := hid (show giveErr a = if 0 ≤ a.site ∧ a.site ≤ 4 ∧ 0 ≤ a.stamp then (if filterCheck a.filter = 0 then partsCheck a.parts else filterCheck a.filter) else 1 from rfl)
 replace hsite := hsite.ext hx
 clear hB hok hi
 by_cases hok0 : 0 ≤ a.site ∧ a.site ≤ 4 ∧ 0 ≤ a.stamp
 ·have HG1 := hid (show giveErr a = if filterCheck a.filter = 0 then partsCheck a.parts else filterCheck a.filter by rw [HGE.out, if_pos hok0])
  have e1 : decide (a.site < 0) = false := decide_eq_false (by omega)
  have e2 : decide (5 ≤ a.site) = false := decide_eq_false (by omega)
  have e3 : decide (a.stamp < 0) = false := decide_eq_false (by omega)
  clear hok0
  go_enter Tryz.func43, Tryz.ntmps43
  go_wp2_with fail
  refine (filter_Check B Bf df a.filter _ HI.out.lf (HI.out.sf.ext RBox.monoE hx)).mono ?_
  rintro e w1 ⟨rfl, hx1⟩
  replace hba := hba.ext hx1
  replace hb4 := hb4.ext hx1
  replace hsite := hsite.ext hx1
  replace hx := hx.trans hx1
  clear hx1
  obtain ⟨ba, hbad⟩ : ∃ b, b = w.heap.size := ⟨_, rfl⟩
  obtain ⟨b4, hb4d⟩ : ∃ b, b = w.heap.size + 1 := ⟨_, rfl⟩
  have HB4W := hid (show w.heap.size ≤ b4 by omega)
  have HB4B := hid (show B ≤ b4 by have := HB.out; omega)
  have hbw4 : w.heap.size ≤ b4 := by omega
  have hnr4 : b4 ≠ r := by omega
  rw [← hb4d, ← hbad]
  rw [← hbad] at hba
  rw [← hb4d] at hb4
  have HWA := hid hbad
  clear hbad hb4d
  by_cases hf : filterCheck a.filter = 0
  ·rw [hf]
   have HFOK := hid (filterCheck_ok hf)
   have HG2 := hid (show giveErr a = partsCheck a.parts by rw [HG1.out, if_pos hf])
   clear hf
   have pa3 := hba.cell (i := 3) (u := .slice Bp a.parts.length dp) rfl
   have hltA := hba.lt
   go_wp2_with fail
   refine (part_Check B Bp dp a.parts _ HI.out.lp (HI.out.sp.ext RPart.monoE hx)).mono ?_
   rintro e w2a ⟨rfl, hx2⟩
   replace hba := hba.ext hx2
   replace hb4 := hb4.ext hx2
   replace hsite := hsite.ext hx2
   replace hx := hx.trans hx2
   clear hx2 pa3 hltA
   by_cases hp : partsCheck a.parts = 0
   ·rw [hp]
    have HPOK := hid (partsCheck_ok hp)
    have HE0 := hid (HG2.out.trans hp)
    have HOUT := hid (give_yes (s := s) HE0.out)
    clear hp
    have pa0 := hba.cell (i := 0) (u := .int .i64 a.site) rfl
    have pa1 := hba.cell (i := 1) (u := .int .i64 a.stamp) rfl
    have q4 := hsite.blk.cell (i := 4) (u := .slice Ax s.shelf.length cx) rfl
    have hrl := hsite.blk.lt
    have hltA := hba.lt
    have hx8 := (Ext.refl w2a).alloc (.cells #[.int .i64 a.site, .int .i64 a.stamp, .slice none 0 0, .slice none 0 0, .slice none 0 0] 90)
    have hb8 := Blk.new w2a 90 #[.int .i64 a.site, .int .i64 a.stamp, .slice none 0 0, .slice none 0 0, .slice none 0 0]
    go_wp2_with fail
    refine (shelf_Copied B Ax cx s.shelf _ (Nat.le_trans HB.out (hx.trans hx8).size) (by have := HOK.out.shelf.len; omega) HOK.out.shelf.all ((hsite.ext hx8).sx)).mono ?_
    rintro e w2 ⟨v2, rfl, ho2, hx2⟩
    obtain ⟨Al, cl, rfl, _, _⟩ := ho2.len
    have HB8W := hid (show w.heap.size ≤ w2a.heap.size from hx.size)
    have HB8B := hid (Nat.le_trans HB.out hx.size)
    have HN48 := hid (show b4 ≠ w2a.heap.size from fun e => by have := hb4.lt; omega)
    have HNA8 := hid (show ba ≠ w2a.heap.size from fun e => by have := hba.lt; omega)
    have HN8 := hid (show r ≠ w2a.heap.size from fun e => by have := hsite.blk.lt; omega)
    replace hb8 := hb8.ext hx2
    replace hba := hba.ext (hx8.trans hx2)
    replace hb4 := hb4.ext (hx8.trans hx2)
    replace hsite := hsite.ext (hx8.trans hx2)
    replace hx := hx.trans (hx8.trans hx2)
    have hsl := ho2.sl B
    obtain ⟨b8, hb8d⟩ : ∃ b, b = w2a.heap.size := ⟨_, rfl⟩
    rw [← hb8d] at hb8 HB8W HB8B HN48 HNA8 HN8 ⊢
    have HB8T := hid hb8.ty
    have HSL := hid (fun w' (x : Fr b8 w2 w') => hsl.chg (RVer.mono (by decide) (by decide)) (by decide) (x.chg HB8T.out HB8B.out))
    have HX2 := hid hx
    have HS2 := hid hsite
    have HI2 := hid (HI.out.ext hx)
    have HBA2 := hid hba
    have HB42 := hid hb4
    obtain ⟨bs, hbsd⟩ : ∃ b, b = w2.heap.size := ⟨_, rfl⟩
    have HBS := hid (show B ≤ bs by rw [hbsd]; exact Nat.le_trans HB.out hx.size)
    have HBSW := hid (show w2.heap.size ≤ bs by omega)
    have HBSW2 := hid (show bs ≤ w2.heap.size by omega)
    clear hbsd hb8d hx8 hx2 ho2 hsl hx hsite hba hb4 pa0 pa1 q4 hrl hltA
    go_wp2_with fail
    go_loopw [50] (fun i wr => ∃ (k : Nat) (vv gv : Value) (V : List Version) (G : List Gone), k ≤ s.shelf.length ∧ i = .int .i64 k ∧ Blk wr b8 90 #[.int .i64 a.site, .int .i64 a.stamp, vv, gv, .slice none 0 0] ∧ Own (RVer B) 8 151 wr bs vv V ∧ Own (RGone B) 3 103 wr bs gv G ∧ V = gV a (s.shelf.take k) ∧ G = gG a (s.shelf.take k) ∧ Fr b8 w2 wr) (fun i _ => s.shelf.length - (intOf i).toNat)
    case atStart => exact ⟨0, .slice none 0 0, .slice none 0 0, [], [], Nat.zero_le _, rfl, hb8, Own.nil, Own.nil, rfl, rfl, Fr.refl _⟩
    case round =>
     clear hb8
     obtain ⟨k, vv, gv, V, G, hk, rfl, hb8, hV, hG, hVd, hGd, hfr⟩ := hrel
     by_cases hlt : k < s.shelf.length
     ·obtain ⟨b, off, Au, cu, Mu, du, rfl, hb, hr, hU⟩ := (HSL.out wr hfr).ver hlt
      have HVk := hid (HOK.out.shelf.all _ (List.getElem_mem hlt))
      have HLenV := hid (show V.length ≤ 1000 by rw [hVd]; exact Nat.le_trans (gV_len a _ _) (by have := HOK.out.shelf.len; omega))
      have HLenG := hid (show G.length ≤ 1000 by rw [hGd]; exact Nat.le_trans (gG_len a _ _) (by have := HOK.out.shelf.len; omega))
      have HVD := hid hVd
      have HGD := hid hGd
      have HU0 := hid hU
      clear hVd hGd hU
      have hsz : ([.string s.shelf[k].id, .int .i64 s.shelf[k].dot.site, .int .i64 s.shelf[k].dot.count, .int .i64 s.shelf[k].pt.tags, .int .i64 s.shelf[k].pt.num, .int .i64 s.shelf[k].body, .slice Au s.shelf[k].past.vec.length cu, .slice Mu s.shelf[k].past.more.length du] : List Value).length = 8 := rfl
      have hxl := (Ext.refl wr).alloc (.cells #[.string s.shelf[k].id, .int .i64 s.shelf[k].dot.site, .int .i64 s.shelf[k].dot.count, .int .i64 s.shelf[k].pt.tags, .int .i64 s.shelf[k].pt.num, .int .i64 s.shelf[k].body, .slice Au s.shelf[k].past.vec.length cu, .slice Mu s.shelf[k].past.more.length du] 151)
      have hbu := Blk.new wr 151 #[.string s.shelf[k].id, .int .i64 s.shelf[k].dot.site, .int .i64 s.shelf[k].dot.count, .int .i64 s.shelf[k].pt.tags, .int .i64 s.shelf[k].pt.num, .int .i64 s.shelf[k].body, .slice Au s.shelf[k].past.vec.length cu, .slice Mu s.shelf[k].past.more.length du]
      have hba := hfr.blkO HBA2.out HNA8.out
      have hs60 := HOK.out.shelf.len
      have pa2 := hba.cell (i := 2) (u := .slice Bf a.filter.length df) rfl
      have hltA := hba.lt
      have HINF := hid (fun w' (x : Ext wr w') => ((HI2.out.fr hfr HB8T.out HB8B.out).ext x))
      have hbw := hfr.size
      go_wp2_with (with_reducible refine wpList_loadL (o := ⟨some 53, _, _, _, _, _⟩) ri_ver _ rfl rfl rfl hr hsz ?_)
      clear hr hsz hb
      refine (filter_In B Bf df a.filter s.shelf[k].pt _ HI.out.lf HFOK.out.2 HVk.out.pt ((HINF.out _ hxl).sf)).mono ?_
      rintro e w4 ⟨rfl, hx4⟩
      have hx8 := hxl.trans hx4
      replace hbu := hbu.ext hx4
      replace hb8 := hb8.ext hx8
      replace hV := hV.ext RVer.monoE hx8
      replace hG := hG.ext RGone.monoE hx8
      replace hba := hba.ext hx8
      replace hfr := hfr.trans (Fr.of_ext hx8)
      have HU := hid (HU0.out.ext hx8)
      clear pa2 hltA hx4
      cases hf : filterIn a.filter s.shelf[k].pt
      ·have HVN := hid (show V = gV a (s.shelf.take (k + 1)) by rw [HVD.out, gV_no a _ k hlt (by rw [hf]; rfl)])
       have HGY := hid (show G ++ [goneOf s.shelf[k]] = gG a (s.shelf.take (k + 1)) by rw [HGD.out, gG_yes a _ k hlt hf])
       clear hf hxl hx8 hba
       obtain ⟨wq, hwq⟩ : ∃ w, w = w4 := ⟨_, rfl⟩
       rw [← hwq] at hbu hb8 hV hG hfr HU ⊢
       clear hwq
       have hbq : bs ≤ wq.heap.size := Nat.le_trans HBSW2.out hfr.size
       obtain ⟨Av, cv, rfl, v1, v2⟩ := hV.len
       obtain ⟨Ag, cg, rfl, g1, g2⟩ := hG.len
       have hxb := (Ext.refl wq).alloc (.cells #[.string s.shelf[k].id, .slice Au s.shelf[k].past.vec.length cu, .slice Mu s.shelf[k].past.more.length du] 103)
       have hyw := hbu.whole
       have hone : Sl B 103 (RGone B) 3 (wq.alloc (.cells #[.string s.shelf[k].id, .slice Au s.shelf[k].past.vec.length cu, .slice Mu s.shelf[k].past.more.length du] 103)) (some ⟨wq.heap.size, 0, none⟩) [goneOf s.shelf[k]] := by
        have := Sl.one (R := RGone B) (B := B) (e := 103) (sz := 3) (w := wq) (cs := [.string s.shelf[k].id, .slice Au s.shelf[k].past.vec.length cu, .slice Mu s.shelf[k].past.more.length du]) (y := goneOf s.shelf[k]) rfl rfl ((show InG B _ Au cu Mu du (goneOf s.shelf[k]) from ⟨(HU.out).lcv, (HU.out).lcm, (HU.out).lid, (HU.out.k.ext hxb)⟩).rgone)
        simpa using this
       have ho2 := hG.ext RGone.monoE hxb
       have hbs := Nat.le_trans hbq hxb.size
       have p2 := hb8.cell (i := 2) (u := .slice Av V.length cv) rfl
       have p3 := hb8.cell (i := 3) (u := .slice Ag G.length cg) rfl
       have u0 := hbu.cell (i := 0) (u := .string s.shelf[k].id) rfl
       have u6 := hbu.cell (i := 6) (u := .slice Au s.shelf[k].past.vec.length cu) rfl
       have u7 := hbu.cell (i := 7) (u := .slice Mu s.shelf[k].past.more.length du) rfl
       have hlt8 := hb8.lt
       have hltu := hbu.lt
       go_wp2_with (first | (at_builtin; refine wpList_app (ys := [goneOf s.shelf[k]]) (c := 1) (B := B) rfl _ _ rfl ei_gone rfl ho2 HBS.out hbs rfl hone RGone.oneC (RGone.mono (by decide) (by decide)) (by have := HLenG.out; simp [maxLen]; omega) (by have := HLenG.out; simp; omega) ?_; intro v5 w5 ho5 hc5 hb5 hg5; have hb85 := (hb8.ext hxb).chg hc5 (by decide); have q5 := hb85.cell (i := 3) rfl; have z5 := hb85.frozen 3; obtain ⟨M, hM⟩ : ∃ M, M = G ++ [goneOf s.shelf[k]] := ⟨_, rfl⟩; rw [← hM] at ho5; have HM := hid hM; obtain ⟨A5, c5, rfl, m1, m2⟩ := ho5.len; clear hM))
       have hoth := (hV.ext RVer.monoE hxb).chgT (B := B) (RVer.mono (by decide) (by decide)) (by decide) hc5
       have hf5 := (hfr.trans (Fr.of_ext hxb)).below hb5 HBSW.out
       have hb9 := hb85.set 3 (.slice A5 M.length c5)
       have hf9 := hf5.setR 3 (.slice A5 M.length c5)
       have hs5 : Chg B [90] w5 (w5.setCell ⟨b8, 3, none⟩ (.slice A5 M.length c5)) := (Chg.refl w5).setCell (p := ⟨b8, 3, none⟩) hb85.ty (by simp) _ HB8B.out
       have ho9 := ho5.chgT (B := B) (RGone.mono (by decide) (by decide)) (by decide) hs5
       have hoth9 := hoth.chgT (B := B) (RVer.mono (by decide) (by decide)) (by decide) hs5
       clear hc5 hb5 hg5 ho2 hone hyw hbs p2 p3 u0 u6 u7 hxb hlt8 hltu hV hG hb8 hb85 hfr hf5 hs5 ho5 hoth q5 z5 hbu
       go_roundw
       case rel => exact ⟨k + 1, .slice Av V.length cv, .slice A5 M.length c5, V, M, hlt, by go_num, by simpa using hb9, hoth9, ho9, HVN.out, by rw [HM.out]; exact HGY.out, hf9⟩
       case measure => simp [intOf]; omega
      ·have HFY := hid hf
       have HGN := hid (show G = gG a (s.shelf.take (k + 1)) by rw [HGD.out, gG_no a _ k hlt hf])
       clear hf
       have pa3 := hba.cell (i := 3) (u := .slice Bp a.parts.length dp) rfl
       have u1 := hbu.cell (i := 1) (u := .int .i64 s.shelf[k].dot.site) rfl
       have u2 := hbu.cell (i := 2) (u := .int .i64 s.shelf[k].dot.count) rfl
       have u3 := hbu.cell (i := 3) (u := .int .i64 s.shelf[k].pt.tags) rfl
       have u4 := hbu.cell (i := 4) (u := .int .i64 s.shelf[k].pt.num) rfl
       have hltA := hba.lt
       have hltu := hbu.lt
       go_wp2_with fail
       refine (part_In B Bp dp a.parts s.shelf[k].pt s.shelf[k].dot _ HI.out.lp HPOK.out.2 HVk.out.pt HVk.out.dot ((HINF.out _ hx8).sp)).mono ?_
       rintro e w5 ⟨rfl, hx5⟩
       replace hbu := hbu.ext hx5
       replace hb8 := hb8.ext hx5
       replace hV := hV.ext RVer.monoE hx5
       replace hG := hG.ext RGone.monoE hx5
       replace hfr := hfr.trans (Fr.of_ext hx5)
       have HU := hid (HU.out.ext hx5)
       clear pa3 u1 u2 u3 u4 hltA hltu hba hx8 hxl
       cases hp : partsIn a.parts s.shelf[k].pt s.shelf[k].dot
       ·have HVY := hid (show V ++ [s.shelf[k]] = gV a (s.shelf.take (k + 1)) by rw [HVD.out, gV_yes a _ k hlt (by rw [HFY.out, hp]; rfl)])
        clear hp hx5
        obtain ⟨wq, hwq⟩ : ∃ w, w = w5 := ⟨_, rfl⟩
        rw [← hwq] at hbu hb8 hV hG hfr HU ⊢
        clear hwq
        have hbq : bs ≤ wq.heap.size := Nat.le_trans HBSW2.out hfr.size
        obtain ⟨Av, cv, rfl, v1, v2⟩ := hV.len
        obtain ⟨Ag, cg, rfl, g1, g2⟩ := hG.len
        have hxb := (Ext.refl wq).alloc (.cells #[.string s.shelf[k].id, .int .i64 s.shelf[k].dot.site, .int .i64 s.shelf[k].dot.count, .int .i64 s.shelf[k].pt.tags, .int .i64 s.shelf[k].pt.num, .int .i64 s.shelf[k].body, .slice Au s.shelf[k].past.vec.length cu, .slice Mu s.shelf[k].past.more.length du] 151)
        have hyw := hbu.whole
        have hone : Sl B 151 (RVer B) 8 (wq.alloc (.cells #[.string s.shelf[k].id, .int .i64 s.shelf[k].dot.site, .int .i64 s.shelf[k].dot.count, .int .i64 s.shelf[k].pt.tags, .int .i64 s.shelf[k].pt.num, .int .i64 s.shelf[k].body, .slice Au s.shelf[k].past.vec.length cu, .slice Mu s.shelf[k].past.more.length du] 151)) (some ⟨wq.heap.size, 0, none⟩) [s.shelf[k]] := by
         have := Sl.one (R := RVer B) (B := B) (e := 151) (sz := 8) (w := wq) (cs := [.string s.shelf[k].id, .int .i64 s.shelf[k].dot.site, .int .i64 s.shelf[k].dot.count, .int .i64 s.shelf[k].pt.tags, .int .i64 s.shelf[k].pt.num, .int .i64 s.shelf[k].body, .slice Au s.shelf[k].past.vec.length cu, .slice Mu s.shelf[k].past.more.length du]) (y := s.shelf[k]) rfl rfl ((HU.out.ext hxb).rver)
         simpa using this
        have ho2 := hV.ext RVer.monoE hxb
        have hbs := Nat.le_trans hbq hxb.size
        have p2 := hb8.cell (i := 2) (u := .slice Av V.length cv) rfl
        have p3 := hb8.cell (i := 3) (u := .slice Ag G.length cg) rfl
        have u0 := hbu.cell (i := 0) (u := .string s.shelf[k].id) rfl
        have u6 := hbu.cell (i := 6) (u := .slice Au s.shelf[k].past.vec.length cu) rfl
        have u7 := hbu.cell (i := 7) (u := .slice Mu s.shelf[k].past.more.length du) rfl
        have hlt8 := hb8.lt
        have hltu := hbu.lt
        go_wp2_with (first | (with_reducible refine wpList_loadMid (o := ⟨some 82, _, _, _, _, _⟩) ri_ver _ rfl rfl rfl hyw rfl ?_) | (at_builtin; refine wpList_app (ys := [s.shelf[k]]) (c := 1) (B := B) rfl _ _ rfl ei_ver rfl ho2 HBS.out hbs rfl hone RVer.oneC (RVer.mono (by decide) (by decide)) (by have := HLenV.out; simp [maxLen]; omega) (by have := HLenV.out; simp; omega) ?_; intro v5 w5 ho5 hc5 hb5 hg5; have hb85 := (hb8.ext hxb).chg hc5 (by decide); have q5 := hb85.cell (i := 2) rfl; have z5 := hb85.frozen 2; obtain ⟨M, hM⟩ : ∃ M, M = V ++ [s.shelf[k]] := ⟨_, rfl⟩; rw [← hM] at ho5; have HM := hid hM; obtain ⟨A5, c5, rfl, m1, m2⟩ := ho5.len; clear hM))
        have hoth := (hG.ext RGone.monoE hxb).chgT (B := B) (RGone.mono (by decide) (by decide)) (by decide) hc5
        have hf5 := (hfr.trans (Fr.of_ext hxb)).below hb5 HBSW.out
        have hb9 := hb85.set 2 (.slice A5 M.length c5)
        have hf9 := hf5.setR 2 (.slice A5 M.length c5)
        have hs5 : Chg B [90] w5 (w5.setCell ⟨b8, 2, none⟩ (.slice A5 M.length c5)) := (Chg.refl w5).setCell (p := ⟨b8, 2, none⟩) hb85.ty (by simp) _ HB8B.out
        have ho9 := ho5.chgT (B := B) (RVer.mono (by decide) (by decide)) (by decide) hs5
        have hoth9 := hoth.chgT (B := B) (RGone.mono (by decide) (by decide)) (by decide) hs5
        clear hc5 hb5 hg5 ho2 hone hyw hbs p2 p3 u0 u6 u7 hxb hlt8 hltu hV hG hb8 hb85 hfr hf5 hs5 ho5 hoth q5 z5 hbu
        go_roundw
        case rel => exact ⟨k + 1, .slice A5 M.length c5, .slice Ag G.length cg, M, G, hlt, by go_num, by simpa using hb9, ho9, hoth9, by rw [HM.out]; exact HVY.out, HGN.out, hf9⟩
        case measure => simp [intOf]; omega
       ·have HVN := hid (show V = gV a (s.shelf.take (k + 1)) by rw [HVD.out, gV_no a _ k hlt (by rw [hp]; simp)])
        clear hp hx5
        go_wp2_with fail
        go_roundw
        case rel => exact ⟨k + 1, vv, gv, V, G, hlt, by go_num, hb8, hV, hG, HVN.out, HGN.out, hfr⟩
        case measure => simp [intOf]; omega
     ·obtain rfl : k = s.shelf.length := by omega
      rw [List.take_length] at hVd hGd
      obtain ⟨Av, cv, rfl, v1, v2⟩ := hV.len
      obtain ⟨Ag, cg, rfl, g1, g2⟩ := hG.len
      have HVD := hid (show V = giveV s a from hVd)
      have HGD := hid (show G = giveG s a from hGd)
      have HVC := hid (And.intro v1 v2)
      have HGC := hid (And.intro g1 g2)
      have hx := HX2.out.fr hfr HB8W.out
      have HX3 := hid hx
      have HS3 := hid (HS2.out.fr hfr HB8T.out HB8B.out HN8.out)
      have HI3 := hid (HI2.out.fr hfr HB8T.out HB8B.out)
      have HB8 := hid hb8
      have HB4 := hid (hfr.blkO HB42.out HN48.out)
      have HBA := hid (hfr.blkO HBA2.out HNA8.out)
      have HV := hid (hV.sl B)
      have HG := hid (hG.sl B)
      clear hV hG hVd hGd v1 v2 g1 g2 hb8 hfr hx hk hlt
      have HAll := hid (fun w' (x : Ext wr w') => show w'.cell? ⟨ba, 2, none⟩ = some (.slice Bf a.filter.length df) from (HBA.out.ext x).cell rfl)
      have HAllF := hid (fun w' (x : Fr b8 wr w') => show w'.cell? ⟨ba, 2, none⟩ = some (.slice Bf a.filter.length df) from (x.blkO HBA.out HNA8.out).cell rfl)
      go_wp2_with fail
      have hyn := (Ext.refl wr).drew
      refine wp_region_held_drew (S := fun w' => w'.cell? ⟨ba, 2, none⟩ = some (.slice Bf a.filter.length df)) (by kernel_rfl) (HAll.out _ hyn) (fun hHeld => ?_)
      obtain ⟨wc, hwc⟩ : ∃ wc, wc = wr.drew := ⟨_, rfl⟩
      rw [← hwc] at hHeld hyn ⊢
      clear hwc
      refine tk 0 ?_ rfl (by kernel_rfl) (fun _ _ _ h => h) (by rfl) ?_ (by assumption) ?_
      rotate_left
      ·intro w' hSw; (try dsimp only at hSw); go_simp <;> with_reducible rfl
      simp only [gq]; try simp only [pq]
      refine tk 2 ?_ rfl (by kernel_rfl) (fun _ _ _ h => h) (by rfl) ?_ (by assumption) ?_
      rotate_left
      ·intro w' hSw; (try dsimp only at hSw); go_simp <;> with_reducible rfl
      simp only [gq]; try simp only [pq]
      refine tk 3 ?_ rfl (by kernel_rfl) (fun _ _ _ h => h) (by rfl) ?_ (by assumption) ?_
      rotate_left
      ·intro w' hSw; (try dsimp only at hSw); go_simp <;> with_reducible rfl
      simp only [gq]; try simp only [pq]
      refine wpAnyH_ready (rs := [1]) (by kernel_rfl) (by simp) ?_
      refine AllReadyH.cons rfl (fun K hK => ?_) AllReadyH.nil
      simp only [gq]
      go_simp
      refine (site_known B r Af cf Ax cx Ap cp s wc (Nat.le_trans HB.out (Nat.le_trans HX3.out.size hyn.size)) HOK.out (HS3.out.ext hyn)).mono ?_
      rintro e wn ⟨v1, rfl, hv1, hxa⟩
      dsimp only
      obtain ⟨A1, c1, rfl, _, _, hv1⟩ := hv1
      replace hyn := hyn.trans hxa
      clear hxa
      obtain ⟨wc, rfl⟩ : ∃ wc', wc' = wn := ⟨_, rfl⟩
      refine hK.out _ _ (HAll.out _ hyn) (fun hHeld => ?_)
      clear hK K
      try simp only [pq]
      refine wpAnyH_ready (rs := [4]) (by kernel_rfl) (by simp) ?_
      refine AllReadyH.cons rfl (fun K hK => ?_) AllReadyH.nil
      simp only [gq]
      go_simp
      refine (part_Narrow B A1 Bf c1 df (knownP s) a.filter wc (Nat.le_trans HB.out (Nat.le_trans HX3.out.size hyn.size)) (by have := (known_ok HOK.out).1; unfold maxLen; omega) HI.out.lf hv1 (HI3.out.sf.ext RBox.monoE hyn)).mono ?_
      rintro e wn ⟨v4, rfl, hv4, hxa⟩
      dsimp only
      obtain ⟨A4, c4, rfl, n1, n2, hv4⟩ := hv4
      replace hyn := hyn.trans hxa
      clear hxa hv1
      obtain ⟨wc, rfl⟩ : ∃ wc', wc' = wn := ⟨_, rfl⟩
      refine hK.out _ _ (HAll.out _ hyn) (fun hHeld => ?_)
      clear hK K
      try simp only [pq]
      refine tk 5 ?_ rfl (by kernel_rfl) (fun _ _ _ h => h) (by rfl) ?_ (by assumption) ?_
      rotate_left
      ·intro w' hSw; (try dsimp only at hSw); go_simp <;> with_reducible rfl
      simp only [gq]; try simp only [pq]
      refine tk 6 ?_ rfl (by kernel_rfl) (fun _ _ _ h => h) (by rfl) ?_ (by assumption) ?_
      rotate_left
      ·intro w' hSw; (try dsimp only at hSw); go_simp <;> with_reducible rfl
      simp only [gq]; try simp only [pq]
      refine tk 7 ?_ rfl (by kernel_rfl) (fun _ _ _ h => h) (by rfl) ?_ (by assumption) ?_
      rotate_left
      ·intro w' hSw; (try dsimp only at hSw); go_simp <;> with_reducible rfl
      simp only [gq]; try simp only [pq]
      refine tk 8 ?_ rfl (by kernel_rfl) (fun _ _ _ h => h) (by rfl) ?_ (by assumption) ?_
      rotate_left
      ·intro w' hSw; (try dsimp only at hSw); go_simp <;> with_reducible rfl
      simp only [gq]; try simp only [pq]
      refine wpAnyH_ready (rs := [9]) (by kernel_rfl) (by simp) ?_
      refine AllReadyH.cons rfl (fun K hK => ?_) AllReadyH.nil
      simp only [gq]
      have hb8 := HB8.out.ext hyn
      have y4 := hb8.cell (i := 4) (u := .slice none 0 0) rfl
      have z4 := hb8.frozen 4
      go_simp
      clear y4 z4
      have hb88 := hb8.set 4 (.slice A4 (narrowO (knownP s) a.filter).length c4)
      obtain ⟨wn, hwn⟩ : ∃ wn, wn = wc.setCell ⟨b8, 4, none⟩ (.slice A4 (narrowO (knownP s) a.filter).length c4) := ⟨_, rfl⟩
      have hfr : Fr b8 wc wn := by rw [hwn]; exact (Fr.refl wc).setR 4 _
      rw [← hwn] at hb88 ⊢
      clear hwn
      refine hK.out _ _ (HAllF.out _ ((Fr.of_ext hyn).trans hfr)) (fun hHeld => ?_)
      clear hK K
      try simp only [pq]
      refine wpAnyH_done (by kernel_rfl) ?_ _
      clear hHeld
      obtain ⟨P, hP⟩ : ∃ P, P = narrowO (knownP s) a.filter := ⟨_, rfl⟩
      rw [← hP] at hv4 hb88 n1
      have HP := hid hP
      clear hP
      have hc4 : Chg B [90] wc wn := hfr.chg hb8.ty HB8B.out
      have hv4' := hv4.chg (RPart.mono (by decide) (by decide) (by decide) (by decide)) (by decide) hc4
      have hVs := (HV.out.ext RVer.monoE hyn).chg (RVer.mono (by decide) (by decide)) (by decide) hc4
      have hGs := (HG.out.ext RGone.monoE hyn).chg (RGone.mono (by decide) (by decide)) (by decide) hc4
      have hb4' := hfr.blkO (HB4.out.ext hyn) HN48.out
      have hxx : Ext w wn := ((HX3.out.trans hyn).fr hfr HB8W.out)
      have hb5 : (#[.int .i64 a.site, .int .i64 a.stamp, .slice Av V.length cv, .slice Ag G.length cg, .slice A4 P.length c4] : Array Value).size = 5 := rfl
      have hb88' : Blk wn b8 90 #[.int .i64 a.site, .int .i64 a.stamp, .slice Av V.length cv, .slice Ag G.length cg, .slice A4 P.length c4] := by simpa using hb88
      clear hb88 hv4 hb8 hfr hyn HAll HAllF HS3 HI3 HB8
      go_wp2_with (first | (with_reducible refine wpList_loadMid (o := ⟨some 96, _, _, _, _, _⟩) ri_batch _ rfl rfl rfl (hb88'.whole) hb5 ?_) | ((with_reducible refine wpList_storeRow (o := ⟨none, _, _, _, _, _⟩) ri_batch _ _ rfl rfl rfl rfl hb4' hb5 rfl (by simp [Value.oneCell']) ?_); intro w9 hx9 hb9 hs9 ho9))
      have hc9 : Chg B [90] wn w9 := chg_row hb4' hx9 ho9 HB4B.out
      refine bodyPost_ret (v := .tuple #[.agg #[.int .i64 a.site, .int .i64 a.stamp, .slice Av V.length cv, .slice Ag G.length cg, .slice A4 P.length c4], .int .i64 0]) (res_give (b := b4) rfl rfl (hb9.cell rfl) (hb9.cell rfl) (hb9.cell rfl) (hb9.cell rfl) (hb9.cell rfl)) rfl ⟨Av, cv, Ag, cg, A4, c4, ?_, ?_, hxx.below hx9 (by have := HB4W.out; omega)⟩
      ·rw [HOUT.out, HE0.out, HVD.out, HGD.out, HP.out] <;> rfl
      ·rw [HOUT.out]
       refine ⟨⟨?_, HVC.out.2⟩, ⟨?_, HGC.out.2⟩, ⟨?_, n2⟩, ?_, ?_, ?_⟩
       ·show (giveV s a).length ≤ cv; rw [← HVD.out]; exact HVC.out.1
       ·show (giveG s a).length ≤ cg; rw [← HGD.out]; exact HGC.out.1
       ·show (narrowO (knownP s) a.filter).length ≤ c4; rw [← HP.out]; exact n1
       ·show SlVers B w9 Av (giveV s a); rw [← HVD.out]; exact hVs.chg (RVer.mono (by decide) (by decide)) (by decide) hc9
       ·show SlGones B w9 Ag (giveG s a); rw [← HGD.out]; exact hGs.chg (RGone.mono (by decide) (by decide)) (by decide) hc9
       ·show SlParts B w9 A4 (narrowO (knownP s) a.filter); rw [← HP.out]; exact hv4'.chg (RPart.mono (by decide) (by decide) (by decide) (by decide)) (by decide) hc9
   ·have hne : (partsCheck a.parts != 0) = true := by simpa using hp
    have HNO := hid (give_no (s := s) (HG2.out) hp)
    clear hp
    go_wp2_with ((with_reducible refine wpList_storeRow (o := ⟨none, _, _, _, _, _⟩) ri_batch _ _ rfl rfl rfl rfl hb4 rfl rfl (by simp [Value.oneCell']) ?_); intro w9 hx9 hb9 hs9 ho9)
    refine bodyPost_ret (v := .tuple #[.agg #[.int .i64 0, .int .i64 0, .slice none 0 0, .slice none 0 0, .slice none 0 0], .int .i64 (partsCheck a.parts)]) (res_give (b := b4) rfl rfl (hb9.cell rfl) (hb9.cell rfl) (hb9.cell rfl) (hb9.cell rfl) (hb9.cell rfl)) rfl ⟨none, 0, none, 0, none, 0, by rw [HNO.out.1, HNO.out.2] <;> rfl, by rw [HNO.out.2]; exact InB.empty, hx.below hx9 (by omega)⟩
  ·have hne : (filterCheck a.filter != 0) = true := by simpa using hf
   have HNO := hid (give_no (s := s) (show giveErr a = filterCheck a.filter by rw [HG1.out, if_neg hf]) hf)
   clear hf
   go_wp2_with ((with_reducible refine wpList_storeRow (o := ⟨none, _, _, _, _, _⟩) ri_batch _ _ rfl rfl rfl rfl hb4 rfl rfl (by simp [Value.oneCell']) ?_); intro w9 hx9 hb9 hs9 ho9)
   refine bodyPost_ret (v := .tuple #[.agg #[.int .i64 0, .int .i64 0, .slice none 0 0, .slice none 0 0, .slice none 0 0], .int .i64 (filterCheck a.filter)]) (res_give (b := b4) rfl rfl (hb9.cell rfl) (hb9.cell rfl) (hb9.cell rfl) (hb9.cell rfl) (hb9.cell rfl)) rfl ⟨none, 0, none, 0, none, 0, by rw [HNO.out.1, HNO.out.2] <;> rfl, by rw [HNO.out.2]; exact InB.empty, hx.below hx9 (by omega)⟩
 ·obtain ⟨b4, hb4d⟩ : ∃ b, b = w.heap.size + 1 := ⟨_, rfl⟩
  have HWB := hid hb4d
  rw [← hb4d] at hb4
  clear hb4d
  by_cases a0 : a.site < 0
  ·have e1 : decide (a.site < 0) = true := decide_eq_true (by omega)
   have HNO := hid (give_no (a := a) (s := s) (e := 1) (by unfold giveErr; rw [if_neg (by omega)]) (by decide))
   clear hok0 a0
   go_enter Tryz.func43, Tryz.ntmps43
   go_wp2_with ((with_reducible refine wpList_storeRow (o := ⟨none, _, _, _, _, _⟩) ri_batch _ _ rfl rfl rfl rfl (by rw [HWB.out] at hb4; exact hb4) rfl rfl (by simp [Value.oneCell']) ?_); intro w9 hx9 hb9 hs9 ho9)
   refine bodyPost_ret (v := .tuple #[.agg #[.int .i64 0, .int .i64 0, .slice none 0 0, .slice none 0 0, .slice none 0 0], .int .i64 1]) (res_give (b := w.heap.size + 1) rfl rfl (hb9.cell rfl) (hb9.cell rfl) (hb9.cell rfl) (hb9.cell rfl) (hb9.cell rfl)) rfl ⟨none, 0, none, 0, none, 0, by rw [HNO.out.1, HNO.out.2] <;> rfl, by rw [HNO.out.2]; exact InB.empty, hx.below hx9 (by omega)⟩
  ·skip
   by_cases a1 : 5 ≤ a.site
   ·have e1 : decide (a.site < 0) = false := decide_eq_false (by omega)
    have e2 : decide (5 ≤ a.site) = true := decide_eq_true (by omega)
    have HNO := hid (give_no (a := a) (s := s) (e := 1) (by unfold giveErr; rw [if_neg (by omega)]) (by decide))
    clear hok0 a0 a1
    go_enter Tryz.func43, Tryz.ntmps43
    go_wp2_with ((with_reducible refine wpList_storeRow (o := ⟨none, _, _, _, _, _⟩) ri_batch _ _ rfl rfl rfl rfl (by rw [HWB.out] at hb4; exact hb4) rfl rfl (by simp [Value.oneCell']) ?_); intro w9 hx9 hb9 hs9 ho9)
    refine bodyPost_ret (v := .tuple #[.agg #[.int .i64 0, .int .i64 0, .slice none 0 0, .slice none 0 0, .slice none 0 0], .int .i64 1]) (res_give (b := w.heap.size + 1) rfl rfl (hb9.cell rfl) (hb9.cell rfl) (hb9.cell rfl) (hb9.cell rfl) (hb9.cell rfl)) rfl ⟨none, 0, none, 0, none, 0, by rw [HNO.out.1, HNO.out.2] <;> rfl, by rw [HNO.out.2]; exact InB.empty, hx.below hx9 (by omega)⟩
   ·skip
    have e1 : decide (a.site < 0) = false := decide_eq_false (by omega)
    have e2 : decide (5 ≤ a.site) = false := decide_eq_false (by omega)
    have e3 : decide (a.stamp < 0) = true := decide_eq_true (by omega)
    have HNO := hid (give_no (a := a) (s := s) (e := 1) (by unfold giveErr; rw [if_neg (by omega)]) (by decide))
    clear hok0 a0 a1
    go_enter Tryz.func43, Tryz.ntmps43
    go_wp2_with ((with_reducible refine wpList_storeRow (o := ⟨none, _, _, _, _, _⟩) ri_batch _ _ rfl rfl rfl rfl (by rw [HWB.out] at hb4; exact hb4) rfl rfl (by simp [Value.oneCell']) ?_); intro w9 hx9 hb9 hs9 ho9)
    refine bodyPost_ret (v := .tuple #[.agg #[.int .i64 0, .int .i64 0, .slice none 0 0, .slice none 0 0, .slice none 0 0], .int .i64 1]) (res_give (b := w.heap.size + 1) rfl rfl (hb9.cell rfl) (hb9.cell rfl) (hb9.cell rfl) (hb9.cell rfl) (hb9.cell rfl)) rfl ⟨none, 0, none, 0, none, 0, by rw [HNO.out.1, HNO.out.2] <;> rfl, by rw [HNO.out.2]; exact InB.empty, hx.below hx9 (by omega)⟩
end Go.Proofs.YtngbfdogiciahaaGreat
