/- The walks of shelf.Put and shelf.Drop. -/
import Derived.Test.YtngbfdogiciahaaGreatShort
import Derived.Test.YtngbfdogiciahaaGreatPutB
import Derived.Test.YtngbfdogiciahaaGreatJoinSrtO
import Derived.Test.YtngbfdogiciahaaGreatJoinShelfF
import Derived.Test.YtngbfdogiciahaaGreatJoinSiteP
namespace Go.Proofs.YtngbfdogiciahaaGreat
open Go Go.RowKit
theorem put_1 (B : Nat) (u v : Version) (Au : Option Addr) (cu : Nat) (Mu : Option Addr) (du : Nat) (Av : Option Addr) (cv : Nat) (Am : Option Addr) (cm : Nat) (r : Nat) (w : World) (hu : InV B w Au cu Mu du u) (hk : KnowOk u.past) (hd : dotOk v.dot = true) (hc : CellsV w r 0 Av cv Am cm v) :
  Calls Tryz.prog 153 #[.agg #[.string u.id, .int .i64 u.dot.site, .int .i64 u.dot.count, .int .i64 u.pt.tags, .int .i64 u.pt.num, .int .i64 u.body, .slice Au u.past.vec.length cu, .slice Mu u.past.more.length du], .pointer (some ⟨r, 0, none⟩)] w fun e w' => e = .returned (.bool (over u v)) ∧ Ext w w' := by
 have hx0 := (Ext.refl w).alloc (.cells #[.string u.id, .int .i64 u.dot.site, .int .i64 u.dot.count, .int .i64 u.pt.tags, .int .i64 u.pt.num, .int .i64 u.body, .slice Au u.past.vec.length cu, .slice Mu u.past.more.length du] 151)
 obtain ⟨c0, c1, c2, c3, c4, c5, c6, c7⟩ := hc.ext hx0
 have hb : r < w.heap.size := World.block_lt_of_cell? _ _ hc.c0
 obtain ⟨d0, d1, d2, d3, d4, d5, d6, d7⟩ := hc
 have HU := hid hu
 have HK := hid hk
 have HD := hid hd
 clear hu hk hd
 go_enter Tryz.func153, Tryz.ntmps153
 go_wp2_with fail
 refine (shelf_over B u v Au cu Mu du Av cv Am cm _ (HU.out.ext hx0) HK.out HD.out).mono ?_
 rintro e w1 ⟨rfl, hx1⟩
 go_wp2_with fail
 go_ret
 exact ⟨rfl, hx0.trans hx1⟩
theorem put_2 (B : Nat) (v u : Version) (Av : Option Addr) (cv : Nat) (Am : Option Addr) (cm : Nat) (Au : Option Addr) (cu : Nat) (Mu : Option Addr) (du : Nat) (r : Nat) (w : World) (hv : InV B w Av cv Am cm v) (hk : KnowOk v.past) (hd : dotOk u.dot = true) (hc : CellsV w r 0 Av cv Am cm v) :
  Calls Tryz.prog 157 #[.agg #[.string u.id, .int .i64 u.dot.site, .int .i64 u.dot.count, .int .i64 u.pt.tags, .int .i64 u.pt.num, .int .i64 u.body, .slice Au u.past.vec.length cu, .slice Mu u.past.more.length du], .pointer (some ⟨r, 0, none⟩)] w fun e w' => e = .returned (.bool (over v u)) ∧ Ext w w' := by
 have hx0 := (Ext.refl w).alloc (.cells #[.string u.id, .int .i64 u.dot.site, .int .i64 u.dot.count, .int .i64 u.pt.tags, .int .i64 u.pt.num, .int .i64 u.body, .slice Au u.past.vec.length cu, .slice Mu u.past.more.length du] 151)
 obtain ⟨c0, c1, c2, c3, c4, c5, c6, c7⟩ := hc.ext hx0
 have hb : r < w.heap.size := World.block_lt_of_cell? _ _ hc.c0
 obtain ⟨d0, d1, d2, d3, d4, d5, d6, d7⟩ := hc
 have HU := hid hv
 have HK := hid hk
 have HD := hid hd
 clear hv hk hd
 go_enter Tryz.func157, Tryz.ntmps157
 go_wp2_with fail
 refine (shelf_over B v u Av cv Am cm Au cu Mu du _ (HU.out.ext hx0) HK.out HD.out).mono ?_
 rintro e w1 ⟨rfl, hx1⟩
 go_wp2_with fail
 go_ret
 exact ⟨rfl, hx0.trans hx1⟩
theorem drop_1 (B : Nat) (u : Version) (g : Gone) (Au : Option Addr) (cu : Nat) (Mu : Option Addr) (du : Nat) (Av : Option Addr) (cv : Nat) (Am : Option Addr) (cm : Nat) (r : Nat) (w : World) (hg : InG B w Av cv Am cm g) (hk : KnowOk g.past) (hd : dotOk u.dot = true)
  (c0 : w.cell? ⟨r, 0, none⟩ = some (.string g.id)) (c1 : w.cell? ⟨r, 1, none⟩ = some (.slice Av g.past.vec.length cv)) (c2 : w.cell? ⟨r, 2, none⟩ = some (.slice Am g.past.more.length cm)) :
  Calls Tryz.prog 170 #[.agg #[.string u.id, .int .i64 u.dot.site, .int .i64 u.dot.count, .int .i64 u.pt.tags, .int .i64 u.pt.num, .int .i64 u.body, .slice Au u.past.vec.length cu, .slice Mu u.past.more.length du], .pointer (some ⟨r, 0, none⟩)] w fun e w' => e = .returned (.bool (dropP g u)) ∧ Ext w w' := by
 have hx0 := (Ext.refl w).alloc (.cells #[.string u.id, .int .i64 u.dot.site, .int .i64 u.dot.count, .int .i64 u.pt.tags, .int .i64 u.pt.num, .int .i64 u.body, .slice Au u.past.vec.length cu, .slice Mu u.past.more.length du] 151)
 have hb : r < w.heap.size := World.block_lt_of_cell? _ _ c0
 have HU := hid hg
 have HK := hid hk
 have HD := hid hd
 have HO := hid (show dropP g u = (sEq u.id g.id && inK g.past u.dot) from rfl)
 clear hg hk hd
 cases h1 : sEq u.id g.id
 ·have h1' : (u.id.toList == g.id.toList) = false := h1
  rw [h1] at HO
  clear h1
  go_enter Tryz.func170, Tryz.ntmps170
  go_wp2_with fail
  go_ret
  exact ⟨ret_bool HO.out.symm, hx0⟩
 ·have h1' : (u.id.toList == g.id.toList) = true := h1
  rw [h1] at HO
  clear h1
  go_enter Tryz.func170, Tryz.ntmps170
  go_wp2_with fail
  refine (know_In B g.past Av cv Am cm u.dot _ (HU.out.k.ext hx0) HK.out HD.out).mono ?_
  rintro e w1 ⟨rfl, hx1⟩
  go_wp2_with fail
  go_ret
  exact ⟨ret_bool HO.out.symm, hx0.trans hx1⟩
set_option maxRecDepth 100000 in
set_option maxHeartbeats 4000000 in
theorem shelf_Drop (B : Nat) (A : Option Addr) (c : Nat) (l : List Version) (g : Gone) (Av : Option Addr) (cv : Nat) (Am : Option Addr) (cm : Nat) (w : World) (hB : B ≤ w.heap.size) (hl : l.length ≤ maxLen) (h : SlVers B w A l) (hi : InG B w Av cv Am cm g) :
  Calls Tryz.prog 110 #[.slice A l.length c, .agg #[.string g.id, .slice Av g.past.vec.length cv, .slice Am g.past.more.length cm]] w fun e w' => ∃ v, e = .returned (.tuple #[v, .int .i64 (dropErr l g)]) ∧ IsVers B w' v (dropOut l g) ∧ Ext w w' := by
 have hx0 := (Ext.refl w).alloc (.cells #[.string g.id, .slice Av g.past.vec.length cv, .slice Am g.past.more.length cm] 103)
 have hbg := Blk.new w 103 #[.string g.id, .slice Av g.past.vec.length cv, .slice Am g.past.more.length cm]
 have HOK := hid (shelfCheck_ok (l := l))
 have HI := hid hi
 have HGE := hid (show goneErr g = if idOk g.id = true then knowCheck g.past else 3 from rfl)
 clear hi
 go_enter Tryz.func110, Tryz.ntmps110
 go_wp2_with fail
 refine (shelf_Check B A c l _ hl (h.ext RVer.monoE hx0)).mono ?_
 rintro e w1 ⟨rfl, hx1⟩
 replace hbg := hbg.ext hx1
 have hx := hx0.trans hx1
 clear hx1 hx0
 have hzb := hbg.lt
 by_cases hc : shelfCheck l = 0
 ·rw [hc]
  have HC0 := hid hc
  have HO := hid (HOK.out hc)
  have HE := hid (show dropErr l g = goneErr g by unfold dropErr; rw [if_pos hc])
  have HT := hid (show dropOut l g = if goneErr g = 0 then dropL l g else [] by unfold dropOut; rw [if_pos hc])
  clear hc
  have q0 := hbg.cell (i := 0) (u := .string g.id) rfl
  go_wp2_with fail
  refine (shelf_Id g.id _).mono ?_
  rintro e w2 ⟨rfl, hx2⟩
  replace hbg := hbg.ext hx2
  replace hx := hx.trans hx2
  replace hzb := hbg.lt
  clear hx2 q0
  cases hid1 : idOk g.id
  ·have HE2 := hid (show dropErr l g = 3 ∧ dropOut l g = [] by rw [HE.out, HT.out, HGE.out, hid1]; exact ⟨rfl, rfl⟩)
   clear hid1
   go_wp2_with fail
   go_ret2
   exact ⟨.slice none 0 0, by rw [HE2.out.1]; rfl, by rw [HE2.out.2]; exact Own.nil.isSl (base := 0) B, hx⟩
  ·have HG2 := hid (show goneErr g = knowCheck g.past by rw [HGE.out, hid1]; rfl)
   have HID := hid hid1
   clear hid1
   have q1 := hbg.cell (i := 1) (u := .slice Av g.past.vec.length cv) rfl
   have q2 := hbg.cell (i := 2) (u := .slice Am g.past.more.length cm) rfl
   go_wp2_with fail
   refine (know_Check B g.past Av cv Am cm _ (HI.out.ext hx).k).mono ?_
   rintro e w3 ⟨rfl, hx3⟩
   replace hbg := hbg.ext hx3
   replace hx := hx.trans hx3
   replace hzb := hbg.lt
   clear hx3 q1 q2
   by_cases hk : knowCheck g.past = 0
   ·rw [hk]
    have HK := hid (knowCheck_iff.1 hk)
    have HE2 := hid (show dropErr l g = 0 ∧ dropOut l g = dropL l g by rw [HE.out, HT.out, HG2.out, hk]; exact ⟨rfl, rfl⟩)
    clear hk
    go_wp2_with fail
    refine (clone_vers B A c l _ (Nat.le_trans hB hx.size) (by have := HO.out.len; omega) (h.ext RVer.monoE hx)).mono ?_
    rintro e w4 ⟨v4, rfl, ho4, hx4⟩
    replace hbg := hbg.ext hx4
    have q0 := hbg.cell (i := 0) (u := .string g.id) rfl
    have q1 := hbg.cell (i := 1) (u := .slice Av g.past.vec.length cv) rfl
    have q2 := hbg.cell (i := 2) (u := .slice Am g.past.more.length cm) rfl
    have hne : some w.heap.size ≠ v4.ownBlock := fun e => by have := (ho4.lt e.symm).1; omega
    have hs1 := hx.size
    have hs2 := hx4.size
    have hxw := hx.trans hx4
    have hI4 := HI.out.ext hxw
    clear hx hx4
    obtain ⟨A4, c4, rfl, _, _⟩ := ho4.len
    have hBb : B ≤ w3.heap.size := Nat.le_trans hB hs1
    clear hbg hzb
    have hzb : w.heap.size < w4.heap.size := World.block_lt_of_cell? _ _ q0
    go_wp2_with fail
    refine (delete_ver B w3.heap.size 170 #[.pointer (some ⟨w.heap.size, 0, none⟩)] (.slice A4 l.length c4) l (fun u => dropP g u) w4 hBb (by have := HO.out.len; omega) ho4 Tryz.call170 (fun q hq cs wn hg hcl hR => by
     obtain ⟨Bv, dv, Bm, dm, rfl, hi⟩ := hR.inV
     exact drop_1 B _ g Bv dv Bm dm Av cv Am cm w.heap.size wn (hI4.chg (ho4.chg_of hBb hg) (by decide) (by decide)) HK.out (HO.out.all _ (List.getElem_mem hq)).dot (grown_cell hg q0 hne) (grown_cell hg q1 hne) (grown_cell hg q2 hne))).mono ?_
    rintro e w6 ⟨v6, rfl, ho6, hg6, hob⟩
    have hx6 := hxw.below (ho4.below_of hg6 hs2) (by omega)
    obtain ⟨L, hL⟩ : ∃ L, L = dropL l g := ⟨_, rfl⟩
    have HL := hid hL
    rw [show l.filter (fun u => !dropP g u) = L from hL.symm] at ho6
    clear hL hob hg6 ho4 hne hI4 hxw q0 q1 q2 hzb
    obtain ⟨A6, c6, rfl, _, _⟩ := ho6.len
    have hLL : L.length ≤ 10000 := by rw [HL.out]; have h2 := List.length_filter_le (fun u => !dropP g u) l; have := HO.out.len; unfold dropL; omega
    have HLA := hid (show ∀ u ∈ L, VerOk u from fun u hu => HO.out.all u (by rw [HL.out] at hu; exact (List.mem_filter.1 hu).1))
    go_wp2_with fail
    refine (shelf_Copied B A6 c6 L _ (Nat.le_trans hB hx6.size) hLL HLA.out (ho6.sl B)).mono ?_
    rintro e w7 ⟨v7, rfl, ho7, hx7⟩
    go_wp2_with fail
    go_ret2
    exact ⟨v7, by rw [HE2.out.1]; rfl, by rw [HE2.out.2, ← HL.out]; exact ho7.isSl B, hx6.trans hx7⟩
   ·have hne : (knowCheck g.past != 0) = true := by simpa using hk
    have HE2 := hid (show dropErr l g = knowCheck g.past ∧ dropOut l g = [] by rw [HE.out, HT.out, HG2.out, if_neg hk]; exact ⟨rfl, rfl⟩)
    clear hk
    go_wp2_with fail
    go_ret2
    exact ⟨.slice none 0 0, by rw [HE2.out.1]; rfl, by rw [HE2.out.2]; exact Own.nil.isSl (base := 0) B, hx⟩
 ·have hne : (shelfCheck l != 0) = true := by simpa using hc
  have HE := hid (show dropErr l g = shelfCheck l by unfold dropErr; rw [if_neg hc])
  have HT := hid (show dropOut l g = [] by unfold dropOut; rw [if_neg hc])
  clear hc
  go_wp2_with fail
  go_ret2
  exact ⟨.slice none 0 0, by rw [HE.out]; rfl, by rw [HT.out]; exact Own.nil.isSl (base := 0) B, hx⟩
set_option maxRecDepth 100000 in
set_option maxHeartbeats 4000000 in
theorem shelf_Put (B : Nat) (A : Option Addr) (c : Nat) (l : List Version) (v : Version) (Av : Option Addr) (cv : Nat) (Am : Option Addr) (cm : Nat) (w : World) (hB : B ≤ w.heap.size) (hl : l.length ≤ maxLen) (h : SlVers B w A l) (hi : InV B w Av cv Am cm v) :
  Calls Tryz.prog 95 #[.slice A l.length c, .agg #[.string v.id, .int .i64 v.dot.site, .int .i64 v.dot.count, .int .i64 v.pt.tags, .int .i64 v.pt.num, .int .i64 v.body, .slice Av v.past.vec.length cv, .slice Am v.past.more.length cm]] w fun e w' => ∃ x, e = .returned (.tuple #[x, .int .i64 (putErr l v)]) ∧ IsVers B w' x (putOut l v) ∧ Ext w w' := by
 have hx0 := (Ext.refl w).alloc (.cells #[.string v.id, .int .i64 v.dot.site, .int .i64 v.dot.count, .int .i64 v.pt.tags, .int .i64 v.pt.num, .int .i64 v.body, .slice Av v.past.vec.length cv, .slice Am v.past.more.length cm] 151)
 have hbv := Blk.new w 151 #[.string v.id, .int .i64 v.dot.site, .int .i64 v.dot.count, .int .i64 v.pt.tags, .int .i64 v.pt.num, .int .i64 v.body, .slice Av v.past.vec.length cv, .slice Am v.past.more.length cm]
 have HCO := hid (shelfCheck_ok (l := l))
 have HI := hid hi
 have HB := hid hB
 clear hi
 have hv8 : (#[.string v.id, .int .i64 v.dot.site, .int .i64 v.dot.count, .int .i64 v.pt.tags, .int .i64 v.pt.num, .int .i64 v.body, .slice Av v.past.vec.length cv, .slice Am v.past.more.length cm] : Array Value).size = 8 := rfl
 go_enter Tryz.func95, Tryz.ntmps95
 go_wp2_with fail
 refine (shelf_Check B A c l _ hl (h.ext RVer.monoE hx0)).mono ?_
 rintro e w1 ⟨rfl, hx1⟩
 replace hbv := hbv.ext hx1
 have hx := hx0.trans hx1
 clear hx1 hx0
 by_cases hc : shelfCheck l = 0
 ·rw [hc]
  have HC0 := hid hc
  have HOK := hid (HCO.out hc)
  clear hc
  go_wp2_with (with_reducible refine wpList_loadMid (o := ⟨some 16, _, _, _, _, _⟩) ri_ver _ rfl rfl rfl (hbv.whole) hv8 ?_)
  refine (shelf_One B v Av cv Am cm _ (HI.out.ext hx)).mono ?_
  rintro e w2 ⟨rfl, hx2⟩
  replace hbv := hbv.ext hx2
  replace hx := hx.trans hx2
  clear hx2
  by_cases hv0 : verErr v = 0
  ·rw [hv0]
   have HV0 := hid hv0
   have HV := hid (verErr_iff.1 hv0)
   clear hv0
   go_wp2_with (with_reducible refine wpList_loadMid (o := ⟨some 23, _, _, _, _, _⟩) ri_ver _ rfl rfl rfl (hbv.whole) hv8 ?_)
   refine (search_ver B A c l v Av cv Am cm _ HOK.out.len (h.ext RVer.monoE hx) HOK.out.inc (fun x hx => (HOK.out.all x hx).dot) HV.out.dot).mono ?_
   rintro e w3 ⟨rfl, hx3⟩
   replace hbv := hbv.ext hx3
   replace hx := hx.trans hx3
   clear hx3
   have hpl := pos_le l v
   cases hk : sameKey l v
   ·have HSK := hid hk
    clear hk
    have hzb := hbv.lt
    go_wp2_with fail
    have hcv := CellsV.ofBlk hbv
    refine (contains_ver B none 153 #[.pointer (some ⟨w.heap.size, 0, none⟩)] A c l (fun u => over u v) _ hl (h.ext RVer.monoE hx) Tryz.call153 (fun q hq cs wn hgr hcl hR => by
     obtain ⟨Bv, dv, Bm, dm, rfl, hJ⟩ := hR.inV
     exact put_1 B l[q] v Bv dv Bm dm Av cv Am cm w.heap.size wn hJ (HOK.out.all _ (List.getElem_mem hq)).k HV.out.dot (hcv.grown hgr (by simp)))).mono ?_
    rintro e w4 ⟨rfl, hx4⟩
    replace hbv := hbv.ext hx4
    replace hx := hx.trans hx4
    clear hx4 hcv hzb
    cases ha : (l.any fun u => over u v)
    ·have HAN := hid (show putAny l v = false by unfold putAny; rw [HSK.out, ha]; rfl)
     clear ha
     go_wp2_with fail
     have HXW := hid hx
     have HWS := hid (show w.heap.size < w4.heap.size from hbv.lt)
     have HSL := hid (fun w' (x : Ext w4 w') => h.ext RVer.monoE (hx.trans x))
     have HBv := hid (fun w' (x : Ext w4 w') => hbv.ext x)
     have HAll := hid (fun w' (x : Ext w4 w') => show w'.rangeAt w.heap.size 0 (#[.string v.id, .int .i64 v.dot.site, .int .i64 v.dot.count, .int .i64 v.pt.tags, .int .i64 v.pt.num, .int .i64 v.body, .slice Av v.past.vec.length cv, .slice Am v.past.more.length cm] : Array Value).toList from (hbv.ext x).whole)
     have HInsOk := hid (show ∀ u ∈ l.take (pos l v) ++ v :: l.drop (pos l v), VerOk u from fun u hu => (List.mem_cons.1 ((insV_perm l v).mem_iff.1 hu)).elim (fun e => by rw [e]; exact HV.out) (fun e => HOK.out.all u e))
     clear h hbv hx hpl
     have hyn := (Ext.refl w4).drew
     refine wp_region_held_drew (S := fun w' => w'.rangeAt w.heap.size 0 (#[.string v.id, .int .i64 v.dot.site, .int .i64 v.dot.count, .int .i64 v.pt.tags, .int .i64 v.pt.num, .int .i64 v.body, .slice Av v.past.vec.length cv, .slice Am v.past.more.length cm] : Array Value).toList) (by kernel_rfl) (HAll.out _ hyn) (fun hHeld => ?_)
     obtain ⟨wc, hwc⟩ : ∃ wc, wc = w4.drew := ⟨_, rfl⟩
     rw [← hwc] at hHeld hyn ⊢
     clear hwc
     refine tk 0 ?_ rfl (by kernel_rfl) (fun _ _ _ h => h) (by rfl) ?_ (by assumption) ?_
     rotate_left
     ·intro w' hSw; (try dsimp only at hSw); go_simp <;> with_reducible rfl
     simp only [gq]; try simp only [pq]
     refine tk 2 ?_ rfl (by kernel_rfl) (fun _ _ _ h => h) (by rfl) ?_ (by assumption) ?_
     rotate_left
     ·intro w' hSw; (try dsimp only at hSw); go_simp <;> with_reducible rfl
     simp only [gq]; try simp only [pq]
     refine wpAnyH_take (i := 3) (oi := _) (v := _) rfl (by kernel_rfl) (by kernel_rfl) (by kernel_rfl) (fun _ _ _ h => h) (yields_row (cs := #[.string v.id, .int .i64 v.dot.site, .int .i64 v.dot.count, .int .i64 v.pt.tags, .int .i64 v.pt.num, .int .i64 v.body, .slice Av v.past.vec.length cv, .slice Am v.past.more.length cm]) ri_ver (by rfl) (.tmp 3) rfl (by rfl) (fun w' hS => hS) rfl) (by assumption) ?_
     simp only [gq]; try simp only [pq]
     refine wpAnyH_ready (rs := [1, 4]) (by kernel_rfl) (by simp) ?_
     refine AllReadyH.cons rfl (fun K hK => ?_) ?_
     ·simp only [gq]
      go_simp
      refine (clone_vers B A c l wc (Nat.le_trans HB.out (Nat.le_trans HXW.out.size hyn.size)) (by have := HOK.out.len; omega) (HSL.out wc hyn)).mono ?_
      rintro e wn ⟨v2, rfl, ho2, hxa⟩
      dsimp only
      have hbs := hxa.size
      have hws := hyn.size
      replace hyn := hyn.trans hxa
      obtain ⟨bs, hbsd⟩ : ∃ bs, bs = wc.heap.size := ⟨_, rfl⟩
      rw [← hbsd] at ho2 hbs hws
      clear hxa hbsd
      obtain ⟨wc, rfl⟩ : ∃ wc', wc' = wn := ⟨_, rfl⟩
      refine hK.out _ _ (HAll.out _ hyn) (fun hHeld => ?_)
      clear hK K
      try simp only [pq]
      refine wpAnyH_ready (rs := [4]) (by kernel_rfl) (by simp) ?_
      refine AllReadyH.cons rfl (fun K hK => ?_) AllReadyH.nil
      simp only [gq]
      go_simp
      have hxa := (Ext.refl wc).alloc (.cells #[.string v.id, .int .i64 v.dot.site, .int .i64 v.dot.count, .int .i64 v.pt.tags, .int .i64 v.pt.num, .int .i64 v.body, .slice Av v.past.vec.length cv, .slice Am v.past.more.length cm] 151)
      have hbv4 := Blk.new wc 151 #[.string v.id, .int .i64 v.dot.site, .int .i64 v.dot.count, .int .i64 v.pt.tags, .int .i64 v.pt.num, .int .i64 v.body, .slice Av v.past.vec.length cv, .slice Am v.past.more.length cm]
      have hne2 : ∀ g, v2.ownBlock = some g → g ≠ wc.heap.size := fun g hg => by have := (ho2.lt hg).2; omega
      replace hbs := Nat.le_trans hbs hxa.size
      replace ho2 := ho2.ext RVer.monoE hxa
      replace hyn := hyn.trans hxa
      obtain ⟨wn, hwn⟩ : ∃ wn, wn = wc.alloc (.cells #[.string v.id, .int .i64 v.dot.site, .int .i64 v.dot.count, .int .i64 v.pt.tags, .int .i64 v.pt.num, .int .i64 v.body, .slice Av v.past.vec.length cv, .slice Am v.past.more.length cm] 151) := ⟨_, rfl⟩
      obtain ⟨vb, hvb⟩ : ∃ a, a = wc.heap.size := ⟨_, rfl⟩
      rw [← hwn] at hyn hbv4 ho2 hbs
      rw [← hwn, ← hvb]
      rw [← hvb] at hbv4 hne2
      clear hxa hwn hvb
      obtain ⟨wc, rfl⟩ : ∃ wc', wc' = wn := ⟨_, rfl⟩
      refine hK.out _ _ (HAll.out _ hyn) (fun hHeld => ?_)
      clear hK K
      try simp only [pq]
      refine wpAnyH_ready (rs := [5]) (by kernel_rfl) (by simp) ?_
      refine AllReadyH.cons rfl (fun K hK => ?_) AllReadyH.nil
      simp only [gq]
      go_simp
      refine (insert_ver B bs v2 l (pos l v) v [.string v.id, .int .i64 v.dot.site, .int .i64 v.dot.count, .int .i64 v.pt.tags, .int .i64 v.pt.num, .int .i64 v.body, .slice Av v.past.vec.length cv, .slice Am v.past.more.length cm] vb wc (Nat.le_trans HB.out (Nat.le_trans HXW.out.size hws)) hbs (by have := HOK.out.len; omega) (pos_le l v) ho2 hbv4 rfl (HI.out.ext (HXW.out.trans hyn)).rver hne2).mono ?_
      rintro e wn ⟨v3, rfl, ho3, hbl⟩
      dsimp only
      replace hyn := hyn.below hbl hws
      have hb3 : bs ≤ wn.heap.size := Nat.le_trans hbs hbl.size
      clear hbl ho2 hbv4 hne2 hbs
      obtain ⟨wc, rfl⟩ : ∃ wc', wc' = wn := ⟨_, rfl⟩
      refine hK.out _ _ (HAll.out _ hyn) (fun hHeld => ?_)
      clear hK K
      try simp only [pq]
      refine tk 6 ?_ rfl (by kernel_rfl) (fun _ _ _ h => h) (by rfl) ?_ (by assumption) ?_
      rotate_left
      ·intro w' hSw; (try dsimp only at hSw); go_simp <;> with_reducible rfl
      simp only [gq]; try simp only [pq]
      refine wpAnyH_done (by kernel_rfl) ?_ _
      have hx := HXW.out.trans hyn
      have hbw := HBv.out wc hyn
      have hcv := CellsV.ofBlk hbw
      have hrlt := hbw.lt
      clear hyn hHeld hbw
      obtain ⟨IL, hIL⟩ : ∃ L, L = insV l v := ⟨_, rfl⟩
      rw [show l.take (pos l v) ++ v :: l.drop (pos l v) = IL from hIL.symm] at ho3
      have HIL := hid hIL
      have HIns2 := hid (show ∀ u ∈ IL, VerOk u from fun u hu => HInsOk.out u (by rw [HIL.out] at hu; exact hu))
      clear hIL
      obtain ⟨A3, c3, rfl, _, _⟩ := ho3.len
      have hI3 := HI.out.ext hx
      have hne : some w.heap.size ≠ (Value.slice A3 IL.length c3).ownBlock := by
       intro e
       have := (ho3.lt e.symm).1
       have := HWS.out
       omega
      have hBb : B ≤ bs := Nat.le_trans HB.out (Nat.le_trans HXW.out.size hws)
      go_wp2_with fail
      refine (delete_ver B bs 157 #[.pointer (some ⟨w.heap.size, 0, none⟩)] (.slice A3 IL.length c3) IL (fun u => over v u) wc hBb (by have := HOK.out.len; have := insV_len l v; rw [HIL.out]; omega) ho3 Tryz.call157 (fun q hq cs wn hg hcl hR => by
       obtain ⟨Bv, dv, Bm, dm, rfl, hi⟩ := hR.inV
       exact put_2 B v _ Av cv Am cm Bv dv Bm dm w.heap.size wn (hI3.chg (ho3.chg_of hBb hg) (by decide) (by decide)) HV.out.k (HIns2.out _ (List.getElem_mem hq)).dot (hcv.grown hg hne))).mono ?_
      rintro e w6 ⟨v6, rfl, ho6, hg6, hob⟩
      have hx6 := hx.below (ho3.below_of hg6 hb3) (Nat.le_trans HXW.out.size hws)
      obtain ⟨L, hL⟩ : ∃ L, L = putL l v := ⟨_, rfl⟩
      have HL := hid hL
      rw [show IL.filter (fun u => !over v u) = L from by rw [hL, HIL.out]; rfl] at ho6
      clear hL hob hg6 ho3 hcv hne hI3 hx
      obtain ⟨A6, c6, rfl, _, _⟩ := ho6.len
      have HLL := hid (show L.length ≤ 1000 by rw [HL.out]; have h1 := insV_len l v; have h2 := List.length_filter_le (fun w => !over v w) (insV l v); have := HOK.out.len; unfold putL; omega)
      have HLA := hid (show ∀ u ∈ L, VerOk u from fun u hu => HInsOk.out u (by rw [HL.out] at hu; exact (List.mem_filter.1 hu).1))
      by_cases h60 : 60 < L.length
      ·have h60' : decide ((60 : Int) < (L.length : Int)) = true := decide_eq_true (by omega)
       have HE := hid (put_large HC0.out HV0.out HAN.out (by rw [← HL.out]; exact h60))
       clear h60
       go_wp2_with fail
       go_ret2
       exact ⟨.slice none 0 0, by rw [HE.out.1]; rfl, by rw [HE.out.2]; exact Own.nil.isSl (base := 0) B, hx6⟩
      ·have h60' : decide ((60 : Int) < (L.length : Int)) = false := decide_eq_false (by omega)
       have HE := hid (show putErr l v = 0 ∧ putOut l v = L by rw [HL.out]; exact put_fits HC0.out HV0.out HAN.out (by rw [← HL.out]; exact h60))
       clear h60
       go_wp2_with fail
       refine (shelf_Copied B A6 c6 L _ (Nat.le_trans HB.out hx6.size) (by have := HLL.out; omega) HLA.out (ho6.sl B)).mono ?_
       rintro e w7 ⟨v7, rfl, ho7, hx7⟩
       go_wp2_with fail
       go_ret2
       exact ⟨v7, by rw [HE.out.1]; rfl, by rw [HE.out.2]; exact ho7.isSl B, hx6.trans hx7⟩
     refine AllReadyH.cons rfl (fun K hK => ?_) AllReadyH.nil
     simp only [gq]
     go_simp
     have hxa := (Ext.refl wc).alloc (.cells #[.string v.id, .int .i64 v.dot.site, .int .i64 v.dot.count, .int .i64 v.pt.tags, .int .i64 v.pt.num, .int .i64 v.body, .slice Av v.past.vec.length cv, .slice Am v.past.more.length cm] 151)
     have hbv4 := Blk.new wc 151 #[.string v.id, .int .i64 v.dot.site, .int .i64 v.dot.count, .int .i64 v.pt.tags, .int .i64 v.pt.num, .int .i64 v.body, .slice Av v.past.vec.length cv, .slice Am v.past.more.length cm]
     replace hyn := hyn.trans hxa
     obtain ⟨wn, hwn⟩ : ∃ wn, wn = wc.alloc (.cells #[.string v.id, .int .i64 v.dot.site, .int .i64 v.dot.count, .int .i64 v.pt.tags, .int .i64 v.pt.num, .int .i64 v.body, .slice Av v.past.vec.length cv, .slice Am v.past.more.length cm] 151) := ⟨_, rfl⟩
     obtain ⟨vb, hvb⟩ : ∃ a, a = wc.heap.size := ⟨_, rfl⟩
     rw [← hwn] at hyn hbv4
     rw [← hwn, ← hvb]
     rw [← hvb] at hbv4
     clear hxa hwn hvb
     obtain ⟨wc, rfl⟩ : ∃ wc', wc' = wn := ⟨_, rfl⟩
     refine hK.out _ _ (HAll.out _ hyn) (fun hHeld => ?_)
     clear hK K
     try simp only [pq]
     refine wpAnyH_ready (rs := [1]) (by kernel_rfl) (by simp) ?_
     refine AllReadyH.cons rfl (fun K hK => ?_) AllReadyH.nil
     simp only [gq]
     go_simp
     refine (clone_vers B A c l wc (Nat.le_trans HB.out (Nat.le_trans HXW.out.size hyn.size)) (by have := HOK.out.len; omega) (HSL.out wc hyn)).mono ?_
     rintro e wn ⟨v2, rfl, ho2, hxa⟩
     dsimp only
     have hbs := hxa.size
     have hws := hyn.size
     have hbb : vb < wc.heap.size := hbv4.lt
     replace hbv4 := hbv4.ext hxa
     have hne2 : ∀ g, v2.ownBlock = some g → g ≠ vb := fun g hg => by have := (ho2.lt hg).1; omega
     clear hbb
     replace hyn := hyn.trans hxa
     obtain ⟨bs, hbsd⟩ : ∃ bs, bs = wc.heap.size := ⟨_, rfl⟩
     rw [← hbsd] at ho2 hbs hws
     clear hxa hbsd
     obtain ⟨wc, rfl⟩ : ∃ wc', wc' = wn := ⟨_, rfl⟩
     refine hK.out _ _ (HAll.out _ hyn) (fun hHeld => ?_)
     clear hK K
     try simp only [pq]
     refine wpAnyH_ready (rs := [5]) (by kernel_rfl) (by simp) ?_
     refine AllReadyH.cons rfl (fun K hK => ?_) AllReadyH.nil
     simp only [gq]
     go_simp
     refine (insert_ver B bs v2 l (pos l v) v [.string v.id, .int .i64 v.dot.site, .int .i64 v.dot.count, .int .i64 v.pt.tags, .int .i64 v.pt.num, .int .i64 v.body, .slice Av v.past.vec.length cv, .slice Am v.past.more.length cm] vb wc (Nat.le_trans HB.out (Nat.le_trans HXW.out.size hws)) hbs (by have := HOK.out.len; omega) (pos_le l v) ho2 hbv4 rfl (HI.out.ext (HXW.out.trans hyn)).rver hne2).mono ?_
     rintro e wn ⟨v3, rfl, ho3, hbl⟩
     dsimp only
     replace hyn := hyn.below hbl hws
     have hb3 : bs ≤ wn.heap.size := Nat.le_trans hbs hbl.size
     clear hbl ho2 hbv4 hne2 hbs
     obtain ⟨wc, rfl⟩ : ∃ wc', wc' = wn := ⟨_, rfl⟩
     refine hK.out _ _ (HAll.out _ hyn) (fun hHeld => ?_)
     clear hK K
     try simp only [pq]
     refine tk 6 ?_ rfl (by kernel_rfl) (fun _ _ _ h => h) (by rfl) ?_ (by assumption) ?_
     rotate_left
     ·intro w' hSw; (try dsimp only at hSw); go_simp <;> with_reducible rfl
     simp only [gq]; try simp only [pq]
     refine wpAnyH_done (by kernel_rfl) ?_ _
     have hx := HXW.out.trans hyn
     have hbw := HBv.out wc hyn
     have hcv := CellsV.ofBlk hbw
     have hrlt := hbw.lt
     clear hyn hHeld hbw
     obtain ⟨IL, hIL⟩ : ∃ L, L = insV l v := ⟨_, rfl⟩
     rw [show l.take (pos l v) ++ v :: l.drop (pos l v) = IL from hIL.symm] at ho3
     have HIL := hid hIL
     have HIns2 := hid (show ∀ u ∈ IL, VerOk u from fun u hu => HInsOk.out u (by rw [HIL.out] at hu; exact hu))
     clear hIL
     obtain ⟨A3, c3, rfl, _, _⟩ := ho3.len
     have hI3 := HI.out.ext hx
     have hne : some w.heap.size ≠ (Value.slice A3 IL.length c3).ownBlock := by
      intro e
      have := (ho3.lt e.symm).1
      have := HWS.out
      omega
     have hBb : B ≤ bs := Nat.le_trans HB.out (Nat.le_trans HXW.out.size hws)
     go_wp2_with fail
     refine (delete_ver B bs 157 #[.pointer (some ⟨w.heap.size, 0, none⟩)] (.slice A3 IL.length c3) IL (fun u => over v u) wc hBb (by have := HOK.out.len; have := insV_len l v; rw [HIL.out]; omega) ho3 Tryz.call157 (fun q hq cs wn hg hcl hR => by
      obtain ⟨Bv, dv, Bm, dm, rfl, hi⟩ := hR.inV
      exact put_2 B v _ Av cv Am cm Bv dv Bm dm w.heap.size wn (hI3.chg (ho3.chg_of hBb hg) (by decide) (by decide)) HV.out.k (HIns2.out _ (List.getElem_mem hq)).dot (hcv.grown hg hne))).mono ?_
     rintro e w6 ⟨v6, rfl, ho6, hg6, hob⟩
     have hx6 := hx.below (ho3.below_of hg6 hb3) (Nat.le_trans HXW.out.size hws)
     obtain ⟨L, hL⟩ : ∃ L, L = putL l v := ⟨_, rfl⟩
     have HL := hid hL
     rw [show IL.filter (fun u => !over v u) = L from by rw [hL, HIL.out]; rfl] at ho6
     clear hL hob hg6 ho3 hcv hne hI3 hx
     obtain ⟨A6, c6, rfl, _, _⟩ := ho6.len
     have HLL := hid (show L.length ≤ 1000 by rw [HL.out]; have h1 := insV_len l v; have h2 := List.length_filter_le (fun w => !over v w) (insV l v); have := HOK.out.len; unfold putL; omega)
     have HLA := hid (show ∀ u ∈ L, VerOk u from fun u hu => HInsOk.out u (by rw [HL.out] at hu; exact (List.mem_filter.1 hu).1))
     by_cases h60 : 60 < L.length
     ·have h60' : decide ((60 : Int) < (L.length : Int)) = true := decide_eq_true (by omega)
      have HE := hid (put_large HC0.out HV0.out HAN.out (by rw [← HL.out]; exact h60))
      clear h60
      go_wp2_with fail
      go_ret2
      exact ⟨.slice none 0 0, by rw [HE.out.1]; rfl, by rw [HE.out.2]; exact Own.nil.isSl (base := 0) B, hx6⟩
     ·have h60' : decide ((60 : Int) < (L.length : Int)) = false := decide_eq_false (by omega)
      have HE := hid (show putErr l v = 0 ∧ putOut l v = L by rw [HL.out]; exact put_fits HC0.out HV0.out HAN.out (by rw [← HL.out]; exact h60))
      clear h60
      go_wp2_with fail
      refine (shelf_Copied B A6 c6 L _ (Nat.le_trans HB.out hx6.size) (by have := HLL.out; omega) HLA.out (ho6.sl B)).mono ?_
      rintro e w7 ⟨v7, rfl, ho7, hx7⟩
      go_wp2_with fail
      go_ret2
      exact ⟨v7, by rw [HE.out.1]; rfl, by rw [HE.out.2]; exact ho7.isSl B, hx6.trans hx7⟩
    ·have HE := hid (show putErr l v = 0 ∧ putOut l v = l by
      have hA : putAny l v = true := by unfold putAny; rw [ha]; simp
      unfold putErr putOut
      rw [if_pos HC0.out, if_pos HV0.out, if_pos HC0.out, if_pos HV0.out, hA]; exact ⟨rfl, rfl⟩)
     clear ha
     go_wp2_with fail
     refine (shelf_Copied B A c l _ (Nat.le_trans HB.out hx.size) (by have := HOK.out.len; omega) HOK.out.all (h.ext RVer.monoE hx)).mono ?_
     rintro e w7 ⟨v7, rfl, ho7, hx7⟩
     go_wp2_with fail
     go_ret2
     exact ⟨v7, by rw [HE.out.1]; rfl, by rw [HE.out.2]; exact ho7.isSl B, hx.trans hx7⟩
   ·have HE := hid (show putErr l v = 0 ∧ putOut l v = l by
     have hA : putAny l v = true := by unfold putAny; rw [hk]; rfl
     unfold putErr putOut
     rw [if_pos HC0.out, if_pos HV0.out, if_pos HC0.out, if_pos HV0.out, hA]; exact ⟨rfl, rfl⟩)
    clear hk
    go_wp2_with fail
    refine (shelf_Copied B A c l _ (Nat.le_trans HB.out hx.size) (by have := HOK.out.len; omega) HOK.out.all (h.ext RVer.monoE hx)).mono ?_
    rintro e w7 ⟨v7, rfl, ho7, hx7⟩
    go_wp2_with fail
    go_ret2
    exact ⟨v7, by rw [HE.out.1]; rfl, by rw [HE.out.2]; exact ho7.isSl B, hx.trans hx7⟩
  ·have hne : (verErr v != 0) = true := by simpa using hv0
   have HE := hid (show putErr l v = verErr v ∧ putOut l v = [] by unfold putErr putOut; rw [if_pos HC0.out, if_neg hv0, if_pos HC0.out, if_neg hv0]; exact ⟨rfl, rfl⟩)
   clear hv0
   go_wp2_with fail
   go_ret2
   exact ⟨.slice none 0 0, by rw [HE.out.1]; rfl, by rw [HE.out.2]; exact Own.nil.isSl (base := 0) B, hx⟩
 ·have hne : (shelfCheck l != 0) = true := by simpa using hc
  have HE := hid (show putErr l v = shelfCheck l ∧ putOut l v = [] by unfold putErr putOut; rw [if_neg hc, if_neg hc]; exact ⟨rfl, rfl⟩)
  clear hc
  go_wp2_with fail
  go_ret2
  exact ⟨.slice none 0 0, by rw [HE.out.1]; rfl, by rw [HE.out.2]; exact Own.nil.isSl (base := 0) B, hx⟩
end Go.Proofs.YtngbfdogiciahaaGreat
