/- The walk of a Site's Take. -/
import Derived.Test.YtngbfdogiciahaaGreatShort
import Derived.Test.YtngbfdogiciahaaGreatSiteZ
import Derived.Test.YtngbfdogiciahaaGreatSiteB
namespace Go.Proofs.YtngbfdogiciahaaGreat
open Go Go.RowKit
theorem take_no {s : SiteS} {b : Batch} {e : Int} (h : takeErr s b = e) (he : e ≠ 0) : takeErr s b = e ∧ takeS s b = s := by
 refine ⟨h, ?_⟩
 unfold takeS
 rw [if_neg (by rw [h]; exact he)]
theorem take_yes {s : SiteS} {b : Batch} (h : takeErr s b = 0) : takeErr s b = 0 ∧ takeS s b = { s with shelf := dropsOut (putsOut s.shelf b.vers) b.gone, parts := joinP s.parts b.parts } := by
 refine ⟨h, ?_⟩
 unfold takeS
 rw [if_pos h]
theorem putsErr_app : ∀ (a c l : List Version), putsErr l (a ++ c) = if putsErr l a = 0 then putsErr (putsOut l a) c else putsErr l a
 | [], c, l => by simp [putsErr, putsOut]
 | v :: r, c, l => by
  rw [List.cons_append, putsErr, putsErr, putsOut]
  by_cases h : putErr l v = 0
  ·rw [if_pos h, if_pos h, putsErr_app r c]
  ·rw [if_neg h, if_neg h, if_neg h]
theorem putsOut_app : ∀ (a c l : List Version), putsOut l (a ++ c) = putsOut (putsOut l a) c
 | [], _, _ => rfl
 | v :: r, c, l => by rw [List.cons_append, putsOut, putsOut, putsOut_app r c]
theorem dropsErr_app : ∀ (a c : List Gone) (l : List Version), dropsErr l (a ++ c) = if dropsErr l a = 0 then dropsErr (dropsOut l a) c else dropsErr l a
 | [], c, l => by simp [dropsErr, dropsOut]
 | v :: r, c, l => by
  rw [List.cons_append, dropsErr, dropsErr, dropsOut]
  by_cases h : dropErr l v = 0
  ·rw [if_pos h, if_pos h, dropsErr_app r c]
  ·rw [if_neg h, if_neg h, if_neg h]
theorem dropsOut_app : ∀ (a c : List Gone) (l : List Version), dropsOut l (a ++ c) = dropsOut (dropsOut l a) c
 | [], _, _ => rfl
 | v :: r, c, l => by rw [List.cons_append, dropsOut, dropsOut, dropsOut_app r c]
theorem puts_step {l L vs : List Version} {k : Nat} (hlt : k < vs.length) (h1 : L = putsOut l (vs.take k)) (h2 : putsErr l (vs.take k) = 0) (h3 : putErr L vs[k] = 0) : putOut L vs[k] = putsOut l (vs.take (k + 1)) ∧ putsErr l (vs.take (k + 1)) = 0 := by
 rw [List.take_succ_eq_append_getElem hlt, putsOut_app, putsErr_app, if_pos h2, ← h1, putsErr, if_pos h3]
 exact ⟨rfl, rfl⟩
theorem puts_fault {l L vs : List Version} {k : Nat} (hlt : k < vs.length) (h1 : L = putsOut l (vs.take k)) (h2 : putsErr l (vs.take k) = 0) (h3 : putErr L vs[k] ≠ 0) : putsErr l vs = putErr L vs[k] := by
 have e : vs = vs.take k ++ vs[k] :: vs.drop (k + 1) := by rw [List.getElem_cons_drop, List.take_append_drop]
 have := putsErr_app (vs.take k) (vs[k] :: vs.drop (k + 1)) l
 rw [← e, if_pos h2, ← h1, putsErr, if_neg h3] at this
 exact this
theorem drops_step {l L : List Version} {vs : List Gone} {k : Nat} (hlt : k < vs.length) (h1 : L = dropsOut l (vs.take k)) (h2 : dropsErr l (vs.take k) = 0) (h3 : dropErr L vs[k] = 0) : dropOut L vs[k] = dropsOut l (vs.take (k + 1)) ∧ dropsErr l (vs.take (k + 1)) = 0 := by
 rw [List.take_succ_eq_append_getElem hlt, dropsOut_app, dropsErr_app, if_pos h2, ← h1, dropsErr, if_pos h3]
 exact ⟨rfl, rfl⟩
theorem drops_fault {l L : List Version} {vs : List Gone} {k : Nat} (hlt : k < vs.length) (h1 : L = dropsOut l (vs.take k)) (h2 : dropsErr l (vs.take k) = 0) (h3 : dropErr L vs[k] ≠ 0) : dropsErr l vs = dropErr L vs[k] := by
 have e : vs = vs.take k ++ vs[k] :: vs.drop (k + 1) := by rw [List.getElem_cons_drop, List.take_append_drop]
 have := dropsErr_app (vs.take k) (vs[k] :: vs.drop (k + 1)) l
 rw [← e, if_pos h2, ← h1, dropsErr, if_neg h3] at this
 exact this
theorem dropOut_len (l : List Version) (g : Gone) : (dropOut l g).length ≤ l.length := by
 unfold dropOut
 split
 ·split
  ·exact List.length_filter_le _ _
  ·exact Nat.zero_le _
 ·exact Nat.zero_le _
theorem batchErr_tail {b : Batch} (h : batchErr b = 0) : TailOk b := by
 unfold batchErr at h
 by_cases h0 : 0 ≤ b.site ∧ b.site ≤ 4 ∧ 0 ≤ b.stamp
 ·rw [if_pos h0] at h; exact batchTail_ok h
 ·rw [if_neg h0] at h; cases h
set_option maxRecDepth 100000 in
set_option maxHeartbeats 8000000 in
theorem site_Take (B : Nat) (r : Nat) (s : SiteS) (b : Batch) (Bx : Option Addr) (dx : Nat) (Bg : Option Addr) (dg : Nat) (Bp : Option Addr) (dp : Nat) (w : World) (hB : B ≤ w.heap.size) (hBr : B ≤ r) (hok : SiteOk s) (h : IsSite B w r s) (hi : InB B w Bx dx Bg dg Bp dp b) :
  Calls Tryz.prog 51 #[.pointer (some ⟨r, 0, none⟩), .agg #[.int .i64 b.site, .int .i64 b.stamp, .slice Bx b.vers.length dx, .slice Bg b.gone.length dg, .slice Bp b.parts.length dp]] w fun e w' => e = .returned (.int .i64 (takeErr s b)) ∧ IsSite B w' r (takeS s b) ∧ Fr r w w' := by
 have hrl0 := h.lt
 obtain ⟨Af, cf, Ax, cx, Ap, cp, hsite⟩ := h
 have HB := hid hB
 have HBR := hid hBr
 have HOK := hid hok
 have HI := hid hi
 have hx := (Ext.refl w).alloc (.cells #[.int .i64 b.site, .int .i64 b.stamp, .slice Bx b.vers.length dx, .slice Bg b.gone.length dg, .slice Bp b.parts.length dp] 90)
 have hbb := Blk.new w 90 #[.int .i64 b.site, .int .i64 b.stamp, .slice Bx b.vers.length dx, .slice Bg b.gone.length dg, .slice Bp b.parts.length dp]
 have HS0 := hid (fun w' (x : Ext w w') => hsite.ext x)
 have HTD := hid (show takeErr s b = if batchErr b = 0 then (if b.site = s.me then (if b.stamp = s.stamp then takeTail s b else 6) else 1) else batchErr b from rfl)
 have hb5 : (#[.int .i64 b.site, .int .i64 b.stamp, .slice Bx b.vers.length dx, .slice Bg b.gone.length dg, .slice Bp b.parts.length dp] : Array Value).size = 5 := rfl
 clear hB hBr hok hi hsite
 go_enter Tryz.func51, Tryz.ntmps51
 go_wp2_with (with_reducible refine wpList_loadMid (o := ⟨some 15, _, _, _, _, _⟩) ri_batch _ rfl rfl rfl (hbb.whole) hb5 ?_)
 refine (site_batch B b Bx dx Bg dg Bp dp _ (HI.out.ext hx)).mono ?_
 rintro e w1 ⟨rfl, hx1⟩
 replace hbb := hbb.ext hx1
 replace hx := hx.trans hx1
 clear hx1
 obtain ⟨b3, hb3d⟩ : ∃ x, x = w.heap.size := ⟨_, rfl⟩
 rw [← hb3d] at hbb ⊢
 have HN3 := hid (show b3 ≠ r by omega)
 clear hb3d
 by_cases he : batchErr b = 0
 ·rw [he]
  have HTO := hid (batchErr_tail he)
  have HT1 := hid (show takeErr s b = if b.site = s.me then (if b.stamp = s.stamp then takeTail s b else 6) else 1 by rw [HTD.out, if_pos he])
  clear he
  have HX1 := hid hx
  have HS := hid (fun w' (x : Ext w1 w') => HS0.out w' (hx.trans x))
  have HBB := hid (fun w' (x : Ext w1 w') => hbb.ext x)
  clear hx hbb
  by_cases hm : b.site = s.me
  ·have hm' : (b.site != s.me) = false := by rw [hm]; simp
   have HT2 := hid (show takeErr s b = if b.stamp = s.stamp then takeTail s b else 6 by rw [HT1.out, if_pos hm])
   clear hm
   go_wp2_with fail
   have HAll := hid (fun w' (x : Ext w1 w') => show w'.cell? ⟨b3, 0, none⟩ = some (.int .i64 b.site) ∧ w'.cell? ⟨r, 0, none⟩ = some (.int .i64 s.me) from ⟨(HBB.out w' x).cell rfl, (HS.out w' x).blk.cell rfl⟩)
   refine wq_region (fun w' => Ext w1 w') (by kernel_rfl) (by kernel_rfl) (Ext.refl _).drew ?_
   refine wq_get (v := ?_) (fun w' hw' => ?_) ?_
   rotate_left
   ·have hA := HAll.out w' hw'; go_split_ands; go_simp <;> with_reducible rfl
   try simp only [pq]
   refine wq_get (v := ?_) (fun w' hw' => ?_) ?_
   rotate_left
   ·have hA := HAll.out w' hw'; go_split_ands; go_simp <;> with_reducible rfl
   try simp only [pq]
   refine wq_get (v := ?_) (fun w' hw' => ?_) ?_
   rotate_left
   ·have hA := HAll.out w' hw'; go_split_ands; go_simp <;> with_reducible rfl
   try simp only [pq]
   refine wq_get (v := ?_) (fun w' hw' => ?_) ?_
   rotate_left
   ·have hA := HAll.out w' hw'; go_split_ands; go_simp <;> with_reducible rfl
   try simp only [pq]
   refine wq_get (v := ?_) (fun w' hw' => ?_) ?_
   rotate_left
   ·have hA := HAll.out w' hw'; go_split_ands; go_simp <;> with_reducible rfl
   try simp only [pq]
   refine wq_get (v := ?_) (fun w' hw' => ?_) ?_
   rotate_left
   ·have hA := HAll.out w' hw'; go_split_ands; go_simp <;> with_reducible rfl
   try simp only [pq]
   refine wq_get (v := ?_) (fun w' hw' => ?_) ?_
   rotate_left
   ·have hA := HAll.out w' hw'; go_split_ands; go_simp <;> with_reducible rfl
   try simp only [pq]
   try simp only [hm']
   refine wq_nil ?_
   intro w1b hyn
   go_wp2_with fail
   have hx := HX1.out.trans hyn
   have hbb := HBB.out _ hyn
   clear HX1 HS HBB HAll hyn
   have HX1 := hid hx
   obtain ⟨w1, hw1⟩ : ∃ w1', w1' = w1b := ⟨_, rfl⟩
   rw [← hw1] at hx hbb HX1 ⊢
   clear hw1
   have HS := hid (fun w' (x : Ext w1 w') => HS0.out w' (hx.trans x))
   have HBB := hid (fun w' (x : Ext w1 w') => hbb.ext x)
   clear hx hbb
   by_cases ht : b.stamp = s.stamp
   ·have ht' : (b.stamp != s.stamp) = false := by rw [ht]; simp
    have HTE := hid (show takeErr s b = takeTail s b by rw [HT2.out, if_pos ht])
    clear ht
    go_wp2_with fail
    have HAll := hid (fun w' (x : Ext w1 w') => show w'.cell? ⟨b3, 1, none⟩ = some (.int .i64 b.stamp) ∧ w'.cell? ⟨r, 2, none⟩ = some (.int .i64 s.stamp) from ⟨(HBB.out w' x).cell rfl, (HS.out w' x).blk.cell rfl⟩)
    refine wq_region (fun w' => Ext w1 w') (by kernel_rfl) (by kernel_rfl) (Ext.refl _).drew ?_
    refine wq_get (v := ?_) (fun w' hw' => ?_) ?_
    rotate_left
    ·have hA := HAll.out w' hw'; go_split_ands; go_simp <;> with_reducible rfl
    try simp only [pq]
    refine wq_get (v := ?_) (fun w' hw' => ?_) ?_
    rotate_left
    ·have hA := HAll.out w' hw'; go_split_ands; go_simp <;> with_reducible rfl
    try simp only [pq]
    refine wq_get (v := ?_) (fun w' hw' => ?_) ?_
    rotate_left
    ·have hA := HAll.out w' hw'; go_split_ands; go_simp <;> with_reducible rfl
    try simp only [pq]
    refine wq_get (v := ?_) (fun w' hw' => ?_) ?_
    rotate_left
    ·have hA := HAll.out w' hw'; go_split_ands; go_simp <;> with_reducible rfl
    try simp only [pq]
    refine wq_get (v := ?_) (fun w' hw' => ?_) ?_
    rotate_left
    ·have hA := HAll.out w' hw'; go_split_ands; go_simp <;> with_reducible rfl
    try simp only [pq]
    refine wq_get (v := ?_) (fun w' hw' => ?_) ?_
    rotate_left
    ·have hA := HAll.out w' hw'; go_split_ands; go_simp <;> with_reducible rfl
    try simp only [pq]
    refine wq_get (v := ?_) (fun w' hw' => ?_) ?_
    rotate_left
    ·have hA := HAll.out w' hw'; go_split_ands; go_simp <;> with_reducible rfl
    try simp only [pq]
    try simp only [ht']
    refine wq_nil ?_
    intro w1b hyn
    have hx := HX1.out.trans hyn
    have hbb := HBB.out _ hyn
    have hsx := HS.out _ hyn
    have q4 := hsx.blk.cell (i := 4) (u := .slice Ax s.shelf.length cx) rfl
    have p2 := hbb.cell (i := 2) (u := .slice Bx b.vers.length dx) rfl
    have hrl := hsx.blk.lt
    have hv60 := HTO.out.lv
    clear HX1 HS HBB HAll hyn hsx
    go_wp2_with fail
    clear q4 p2 hrl
    go_loopw [6, 41] (fun l i wr => ∃ (k : Nat) (Al : Option Addr) (cl : Nat) (L : List Version), k ≤ b.vers.length ∧ i = .int .i64 k ∧ l = .slice Al L.length cl ∧ SlVers B wr Al L ∧ L = putsOut s.shelf (b.vers.take k) ∧ putsErr s.shelf (b.vers.take k) = 0 ∧ L.length ≤ 60 ∧ Ext w wr ∧ Blk wr b3 90 #[.int .i64 b.site, .int .i64 b.stamp, .slice Bx b.vers.length dx, .slice Bg b.gone.length dg, .slice Bp b.parts.length dp]) (fun _ i _ => b.vers.length - (intOf i).toNat)
    case atStart => exact ⟨0, Ax, cx, s.shelf, Nat.zero_le _, rfl, rfl, (HS0.out _ hx).sx, rfl, rfl, HOK.out.shelf.len, hx, hbb⟩
    case round =>
     clear hx hbb
     obtain ⟨k, Al, cl, L, hk, rfl, rfl, hL, hLd, hLe, hl60, hx, hbb⟩ := hrel
     by_cases hlt : k < b.vers.length
     ·obtain ⟨r0, off, Av, cv, Am, cm, rfl, hb, hr, hI⟩ := (HI.out.sx.ext RVer.monoE hx).ver hlt
      have HV := hid hI
      have HLD := hid hLd
      have HLE := hid hLe
      clear hI hLd hLe
      have hsz : ([.string b.vers[k].id, .int .i64 b.vers[k].dot.site, .int .i64 b.vers[k].dot.count, .int .i64 b.vers[k].pt.tags, .int .i64 b.vers[k].pt.num, .int .i64 b.vers[k].body, .slice Av b.vers[k].past.vec.length cv, .slice Am b.vers[k].past.more.length cm] : List Value).length = 8 := rfl
      have hxl := (Ext.refl wr).alloc (.cells #[.string b.vers[k].id, .int .i64 b.vers[k].dot.site, .int .i64 b.vers[k].dot.count, .int .i64 b.vers[k].pt.tags, .int .i64 b.vers[k].pt.num, .int .i64 b.vers[k].body, .slice Av b.vers[k].past.vec.length cv, .slice Am b.vers[k].past.more.length cm] 151)
      have hbg := Blk.new wr 151 #[.string b.vers[k].id, .int .i64 b.vers[k].dot.site, .int .i64 b.vers[k].dot.count, .int .i64 b.vers[k].pt.tags, .int .i64 b.vers[k].pt.num, .int .i64 b.vers[k].body, .slice Av b.vers[k].past.vec.length cv, .slice Am b.vers[k].past.more.length cm]
      go_wp2_with (first | (with_reducible refine wpList_loadL (o := ⟨some 44, _, _, _, _, _⟩) ri_ver _ rfl rfl rfl hr hsz ?_) | (with_reducible refine wpList_loadMid (o := ⟨some 47, _, _, _, _, _⟩) ri_ver _ rfl rfl rfl hbg.whole rfl ?_))
      clear hr hsz hb
      refine (shelf_Put B Al cl L b.vers[k] Av cv Am cm _ (Nat.le_trans HB.out (hx.trans hxl).size) (by unfold maxLen; omega) (hL.ext RVer.monoE hxl) (HV.out.ext hxl)).mono ?_
      rintro e w2 ⟨v2, rfl, hv2, hx2⟩
      replace hbb := hbb.ext (hxl.trans hx2)
      replace hx := hx.trans (hxl.trans hx2)
      clear hxl hx2 hbg hL
      obtain ⟨E, hE⟩ : ∃ E, E = putErr L b.vers[k] := ⟨_, rfl⟩
      obtain ⟨O, hO⟩ : ∃ O, O = putOut L b.vers[k] := ⟨_, rfl⟩
      rw [← hO] at hv2
      rw [← hE]
      obtain ⟨A2, c2, rfl, _, _, hv2⟩ := hv2
      by_cases h0 : E = 0
      ·have HS1 := hid (puts_step hlt HLD.out HLE.out (hE.symm.trans h0))
       have HO := hid hO
       have HO60 := hid (show O.length ≤ 60 from by rw [hO]; exact (putOut_ok (hE.symm.trans h0)).2.2.1.len)
       subst h0
       clear hE hO hl60
       go_wp2_with fail
       go_roundw
       case rel => exact ⟨k + 1, A2, c2, O, hlt, by go_num, rfl, hv2, by rw [HO.out]; exact HS1.out.1, HS1.out.2, HO60.out, hx, hbb⟩
       case measure => simp [intOf]; omega
      ·have hne : (E != 0) = true := by simpa using h0
       have HNO := hid (take_no (e := E) (by rw [HTE.out]; unfold takeTail; rw [if_neg (by rw [puts_fault hlt HLD.out HLE.out (hE ▸ h0)]; exact hE ▸ h0), puts_fault hlt HLD.out HLE.out (hE ▸ h0), hE]) h0)
       clear h0 hE hO hl60
       go_wp2_with fail
       go_ret
       exact ⟨by rw [HNO.out.1] <;> rfl, by rw [HNO.out.2]; exact (HS0.out _ hx).is, Fr.of_ext hx⟩
     ·obtain rfl : k = b.vers.length := by omega
      rw [List.take_length] at hLd hLe
      have HPO := hid hLd
      have HPE := hid hLe
      have p3 := hbb.cell (i := 3) (u := .slice Bg b.gone.length dg) rfl
      have hg60 := HTO.out.lg
      clear hLd hLe hk hlt
      go_wp2_with fail
      clear p3
      go_loopw [6, 58] (fun l i wr => ∃ (k : Nat) (Al : Option Addr) (cl : Nat) (L : List Version), k ≤ b.gone.length ∧ i = .int .i64 k ∧ l = .slice Al L.length cl ∧ SlVers B wr Al L ∧ L = dropsOut (putsOut s.shelf b.vers) (b.gone.take k) ∧ dropsErr (putsOut s.shelf b.vers) (b.gone.take k) = 0 ∧ L.length ≤ 60 ∧ Ext w wr ∧ Blk wr b3 90 #[.int .i64 b.site, .int .i64 b.stamp, .slice Bx b.vers.length dx, .slice Bg b.gone.length dg, .slice Bp b.parts.length dp]) (fun _ i _ => b.gone.length - (intOf i).toNat)
      case atStart => exact ⟨0, Al, cl, L, Nat.zero_le _, rfl, rfl, hL, HPO.out, rfl, hl60, hx, hbb⟩
      case round =>
       clear hL hx hbb hl60
       obtain ⟨k, Al, cl, L, hk, rfl, rfl, hL, hLd, hLe, hl60, hx, hbb⟩ := hrel
       by_cases hlt : k < b.gone.length
       ·obtain ⟨r0, off, Av, cv, Am, cm, rfl, hb, hr, hI⟩ := (HI.out.sg.ext RGone.monoE hx).gone hlt
        have HV := hid hI
        have HLD := hid hLd
        have HLE := hid hLe
        have HL60 := hid hl60
        clear hI hLd hLe
        have hsz : ([.string b.gone[k].id, .slice Av b.gone[k].past.vec.length cv, .slice Am b.gone[k].past.more.length cm] : List Value).length = 3 := rfl
        have hxl := (Ext.refl wr).alloc (.cells #[.string b.gone[k].id, .slice Av b.gone[k].past.vec.length cv, .slice Am b.gone[k].past.more.length cm] 103)
        have hbg := Blk.new wr 103 #[.string b.gone[k].id, .slice Av b.gone[k].past.vec.length cv, .slice Am b.gone[k].past.more.length cm]
        go_wp2_with (first | (with_reducible refine wpList_loadL (o := ⟨some 61, _, _, _, _, _⟩) ri_gone _ rfl rfl rfl hr hsz ?_) | (with_reducible refine wpList_loadMid (o := ⟨some 64, _, _, _, _, _⟩) ri_gone _ rfl rfl rfl hbg.whole rfl ?_))
        clear hr hsz hb
        refine (shelf_Drop B Al cl L b.gone[k] Av cv Am cm _ (Nat.le_trans HB.out (hx.trans hxl).size) (by unfold maxLen; omega) (hL.ext RVer.monoE hxl) (HV.out.ext hxl)).mono ?_
        rintro e w2 ⟨v2, rfl, hv2, hx2⟩
        replace hbb := hbb.ext (hxl.trans hx2)
        replace hx := hx.trans (hxl.trans hx2)
        clear hxl hx2 hbg hL hl60
        obtain ⟨E, hE⟩ : ∃ E, E = dropErr L b.gone[k] := ⟨_, rfl⟩
        obtain ⟨O, hO⟩ : ∃ O, O = dropOut L b.gone[k] := ⟨_, rfl⟩
        rw [← hO] at hv2
        rw [← hE]
        obtain ⟨A2, c2, rfl, _, _, hv2⟩ := hv2
        by_cases h0 : E = 0
        ·have HS1 := hid (drops_step hlt HLD.out HLE.out (hE.symm.trans h0))
         have HO := hid hO
         have HO60 := hid (show O.length ≤ 60 from by
          have h := HL60.out
          have h2 := dropOut_len L b.gone[k]
          rw [← hO] at h2
          omega)
         subst h0
         clear hE hO
         go_wp2_with fail
         go_roundw
         case rel => exact ⟨k + 1, A2, c2, O, hlt, by go_num, rfl, hv2, by rw [HO.out]; exact HS1.out.1, HS1.out.2, HO60.out, hx, hbb⟩
         case measure => simp [intOf]; omega
        ·have hne : (E != 0) = true := by simpa using h0
         have HNO := hid (take_no (e := E) (by rw [HTE.out]; unfold takeTail; rw [if_pos HPE.out, if_neg (by rw [drops_fault hlt HLD.out HLE.out (hE ▸ h0)]; exact hE ▸ h0), drops_fault hlt HLD.out HLE.out (hE ▸ h0), hE]) h0)
         clear h0 hE hO
         go_wp2_with fail
         go_ret
         exact ⟨by rw [HNO.out.1] <;> rfl, by rw [HNO.out.2]; exact (HS0.out _ hx).is, Fr.of_ext hx⟩
       ·obtain rfl : k = b.gone.length := by omega
        rw [List.take_length] at hLd hLe
        have HLD := hid hLd
        have HTT := hid (show takeErr s b = if joinPE s.parts b.parts = 0 then (if (joinP s.parts b.parts).length = 30 then 2 else 0) else joinPE s.parts b.parts by rw [HTE.out]; unfold takeTail; rw [if_pos HPE.out, if_pos hLe])
        have HSr := hid (fun w' (x : Ext wr w') => HS0.out w' (hx.trans x))
        have HBr := hid (fun w' (x : Ext wr w') => hbb.ext x)
        have HXr := hid hx
        have HAll := hid (fun w' (x : Ext wr w') => show w'.cell? ⟨r, 5, none⟩ = some (.slice Ap s.parts.length cp) ∧ w'.cell? ⟨b3, 4, none⟩ = some (.slice Bp b.parts.length dp) from ⟨(HSr.out w' x).blk.cell rfl, (HBr.out w' x).cell rfl⟩)
        clear hbb hx hLd hLe hk hlt
        go_wp2_with fail
        have hyn := (Ext.refl wr).drew
        refine wp_region_held_drew (S := fun w' => w'.cell? ⟨r, 5, none⟩ = some (.slice Ap s.parts.length cp) ∧ w'.cell? ⟨b3, 4, none⟩ = some (.slice Bp b.parts.length dp)) (by kernel_rfl) (HAll.out _ hyn) (fun hHeld => ?_)
        replace hL := hL.ext RVer.monoE hyn
        obtain ⟨wc, hwc⟩ : ∃ wc, wc = wr.drew := ⟨_, rfl⟩
        rw [← hwc] at hHeld hyn hL ⊢
        clear hwc
        refine tk 0 ?_ rfl (by kernel_rfl) (fun _ _ _ h => h) (by rfl) ?_ (by assumption) ?_
        rotate_left
        ·intro w' hSw; (try dsimp only at hSw); go_simp <;> with_reducible rfl
        simp only [gq]; try simp only [pq]
        refine tk 1 ?_ rfl (by kernel_rfl) (fun _ _ _ h => h) (by rfl) ?_ (by assumption) ?_
        rotate_left
        ·intro w' hSw; (try dsimp only at hSw); go_simp <;> with_reducible rfl
        simp only [gq]; try simp only [pq]
        refine tk 2 ?_ rfl (by kernel_rfl) (fun _ _ _ h => h) (by rfl) ?_ (by assumption) ?_
        rotate_left
        ·intro w' hSw; (try dsimp only at hSw); go_simp <;> with_reducible rfl
        simp only [gq]; try simp only [pq]
        refine tk 3 ?_ rfl (by kernel_rfl) (fun _ _ _ h => h) (by rfl) ?_ (by assumption) ?_
        rotate_left
        ·intro w' hSw; (try dsimp only at hSw); go_simp <;> with_reducible rfl
        simp only [gq]; try simp only [pq]
        refine tk 4 ?_ rfl (by kernel_rfl) (fun _ _ _ h => h) (by rfl) ?_ (by assumption) ?_
        rotate_left
        ·intro w' hSw; (try dsimp only at hSw); go_simp <;> with_reducible rfl
        simp only [gq]; try simp only [pq]
        refine tk 5 ?_ rfl (by kernel_rfl) (fun _ _ _ h => h) (by rfl) ?_ (by assumption) ?_
        rotate_left
        ·intro w' hSw; (try dsimp only at hSw); go_simp <;> with_reducible rfl
        simp only [gq]; try simp only [pq]
        refine wpAnyH_ready (rs := [6]) (by kernel_rfl) (by simp) ?_
        refine AllReadyH.cons rfl (fun K hK => ?_) AllReadyH.nil
        simp only [gq]
        go_simp
        refine (part_Join B Ap Bp cp dp s.parts b.parts wc (Nat.le_trans HB.out (Nat.le_trans HXr.out.size hyn.size)) (by have := HOK.out.lp; unfold maxLen; omega) HI.out.mx.2.2 ((HSr.out wc hyn).sp) (HI.out.sp.ext RPart.monoE (HXr.out.trans hyn))).mono ?_
        rintro e wn ⟨v6, rfl, hv6, hxa⟩
        dsimp only
        obtain ⟨A6, c6, rfl, _, _, hv6⟩ := hv6
        replace hyn := hyn.trans hxa
        replace hL := hL.ext RVer.monoE hxa
        clear hxa
        obtain ⟨wc, rfl⟩ : ∃ wc', wc' = wn := ⟨_, rfl⟩
        refine hK.out _ _ (HAll.out _ hyn) (fun hHeld => ?_)
        clear hK K
        try simp only [pq]
        refine tk 7 ?_ rfl (by kernel_rfl) (fun _ _ _ h => h) (by rfl) ?_ (by assumption) ?_
        rotate_left
        ·intro w' hSw; (try dsimp only at hSw); go_simp <;> with_reducible rfl
        simp only [gq]; try simp only [pq]
        refine tk 8 ?_ rfl (by kernel_rfl) (fun _ _ _ h => h) (by rfl) ?_ (by assumption) ?_
        rotate_left
        ·intro w' hSw; (try dsimp only at hSw); go_simp <;> with_reducible rfl
        simp only [gq]; try simp only [pq]
        refine tk 9 ?_ rfl (by kernel_rfl) (fun _ _ _ h => h) (by rfl) ?_ (by assumption) ?_
        rotate_left
        ·intro w' hSw; (try dsimp only at hSw); go_simp <;> with_reducible rfl
        simp only [gq]; try simp only [pq]
        refine tk 10 ?_ rfl (by kernel_rfl) (fun _ _ _ h => h) (by rfl) ?_ (by assumption) ?_
        rotate_left
        ·intro w' hSw; (try dsimp only at hSw); go_simp <;> with_reducible rfl
        simp only [gq]; try simp only [pq]
        refine tk 11 ?_ rfl (by kernel_rfl) (fun _ _ _ h => h) (by rfl) ?_ (by assumption) ?_
        rotate_left
        ·intro w' hSw; (try dsimp only at hSw); go_simp <;> with_reducible rfl
        simp only [gq]; try simp only [pq]
        refine wpAnyH_done (by kernel_rfl) ?_ _
        clear hHeld HAll
        have hsite := HSr.out wc hyn
        have hx := HXr.out.trans hyn
        clear HSr HBr HXr hyn
        obtain ⟨E, hE⟩ : ∃ E, E = joinPE s.parts b.parts := ⟨_, rfl⟩
        obtain ⟨J, hJ⟩ : ∃ J, J = joinP s.parts b.parts := ⟨_, rfl⟩
        rw [← hJ] at hv6
        rw [← hE, ← hJ]
        by_cases h0 : E = 0
        ·subst h0
         have HJ := hid hJ
         have HE0 := hid hE.symm
         clear hE hJ
         by_cases h30 : J.length = 30
         ·have h30' : ((J.length : Int) == 30) = true := by rw [h30]; rfl
          have HNO := hid (take_no (e := 2) (HTT.out.trans (by rw [if_pos HE0.out, ← HJ.out, if_pos h30])) (by decide))
          clear h30
          go_wp2_with fail
          go_ret
          exact ⟨by rw [HNO.out.1] <;> rfl, by rw [HNO.out.2]; exact hsite.is, Fr.of_ext hx⟩
         ·have h30' : ((J.length : Int) == 30) = false := by rw [beq_eq_false_iff_ne]; omega
          have HYES := hid (take_yes (HTT.out.trans (by rw [if_pos HE0.out, ← HJ.out, if_neg h30])))
          clear h30
          have q4 := hsite.blk.cell (i := 4) (u := .slice Ax s.shelf.length cx) rfl
          have q5 := hsite.blk.cell (i := 5) (u := .slice Ap s.parts.length cp) rfl
          have f4 := hsite.blk.frozen 4
          have f5 := hsite.blk.frozen 5
          have hs8 := (hsite.setShelf HBR.out (c := cl) hL).setParts HBR.out (c := c6) (hv6.chg (RPart.mono (by decide) (by decide) (by decide) (by decide)) (by decide) (hsite.chgS HBR.out 4 (.slice Al L.length cl)))
          have hf8 := ((Fr.of_ext (r := r) hx).setR 4 (.slice Al L.length cl)).setR 5 (.slice A6 J.length c6)
          go_wp2_with fail
          go_ret
          refine ⟨by rw [HYES.out.1] <;> rfl, ?_, hf8⟩
          rw [HYES.out.2, ← HJ.out, ← HLD.out]
          exact hs8.is
        ·have hne : (E != 0) = true := by simpa using h0
         have HNO := hid (take_no (e := E) (HTT.out.trans (by rw [← hE, if_neg h0])) h0)
         clear h0 hE hJ
         go_wp2_with fail
         go_ret
         exact ⟨by rw [HNO.out.1] <;> rfl, by rw [HNO.out.2]; exact hsite.is, Fr.of_ext hx⟩
   ·have ht' : (b.stamp != s.stamp) = true := by simpa using ht
    have HNO := hid (take_no (e := 6) (by rw [HT2.out, if_neg ht]) (by decide))
    clear ht
    go_wp2_with fail
    have HAll := hid (fun w' (x : Ext w1 w') => show w'.cell? ⟨b3, 1, none⟩ = some (.int .i64 b.stamp) ∧ w'.cell? ⟨r, 2, none⟩ = some (.int .i64 s.stamp) from ⟨(HBB.out w' x).cell rfl, (HS.out w' x).blk.cell rfl⟩)
    refine wq_region (fun w' => Ext w1 w') (by kernel_rfl) (by kernel_rfl) (Ext.refl _).drew ?_
    refine wq_get (v := ?_) (fun w' hw' => ?_) ?_
    rotate_left
    ·have hA := HAll.out w' hw'; go_split_ands; go_simp <;> with_reducible rfl
    try simp only [pq]
    refine wq_get (v := ?_) (fun w' hw' => ?_) ?_
    rotate_left
    ·have hA := HAll.out w' hw'; go_split_ands; go_simp <;> with_reducible rfl
    try simp only [pq]
    refine wq_get (v := ?_) (fun w' hw' => ?_) ?_
    rotate_left
    ·have hA := HAll.out w' hw'; go_split_ands; go_simp <;> with_reducible rfl
    try simp only [pq]
    refine wq_get (v := ?_) (fun w' hw' => ?_) ?_
    rotate_left
    ·have hA := HAll.out w' hw'; go_split_ands; go_simp <;> with_reducible rfl
    try simp only [pq]
    refine wq_get (v := ?_) (fun w' hw' => ?_) ?_
    rotate_left
    ·have hA := HAll.out w' hw'; go_split_ands; go_simp <;> with_reducible rfl
    try simp only [pq]
    refine wq_get (v := ?_) (fun w' hw' => ?_) ?_
    rotate_left
    ·have hA := HAll.out w' hw'; go_split_ands; go_simp <;> with_reducible rfl
    try simp only [pq]
    refine wq_get (v := ?_) (fun w' hw' => ?_) ?_
    rotate_left
    ·have hA := HAll.out w' hw'; go_split_ands; go_simp <;> with_reducible rfl
    try simp only [pq]
    try simp only [ht']
    refine wq_nil ?_
    intro w1b hyn
    go_wp2_with fail
    go_ret
    exact ⟨by rw [HNO.out.1] <;> rfl, by rw [HNO.out.2]; exact (HS.out _ hyn).is, Fr.of_ext (HX1.out.trans hyn)⟩
  ·have hm' : (b.site != s.me) = true := by simpa using hm
   have HNO := hid (take_no (e := 1) (by rw [HT1.out, if_neg hm]) (by decide))
   clear hm
   go_wp2_with fail
   have HAll := hid (fun w' (x : Ext w1 w') => show w'.cell? ⟨b3, 0, none⟩ = some (.int .i64 b.site) ∧ w'.cell? ⟨r, 0, none⟩ = some (.int .i64 s.me) from ⟨(HBB.out w' x).cell rfl, (HS.out w' x).blk.cell rfl⟩)
   refine wq_region (fun w' => Ext w1 w') (by kernel_rfl) (by kernel_rfl) (Ext.refl _).drew ?_
   refine wq_get (v := ?_) (fun w' hw' => ?_) ?_
   rotate_left
   ·have hA := HAll.out w' hw'; go_split_ands; go_simp <;> with_reducible rfl
   try simp only [pq]
   refine wq_get (v := ?_) (fun w' hw' => ?_) ?_
   rotate_left
   ·have hA := HAll.out w' hw'; go_split_ands; go_simp <;> with_reducible rfl
   try simp only [pq]
   refine wq_get (v := ?_) (fun w' hw' => ?_) ?_
   rotate_left
   ·have hA := HAll.out w' hw'; go_split_ands; go_simp <;> with_reducible rfl
   try simp only [pq]
   refine wq_get (v := ?_) (fun w' hw' => ?_) ?_
   rotate_left
   ·have hA := HAll.out w' hw'; go_split_ands; go_simp <;> with_reducible rfl
   try simp only [pq]
   refine wq_get (v := ?_) (fun w' hw' => ?_) ?_
   rotate_left
   ·have hA := HAll.out w' hw'; go_split_ands; go_simp <;> with_reducible rfl
   try simp only [pq]
   refine wq_get (v := ?_) (fun w' hw' => ?_) ?_
   rotate_left
   ·have hA := HAll.out w' hw'; go_split_ands; go_simp <;> with_reducible rfl
   try simp only [pq]
   refine wq_get (v := ?_) (fun w' hw' => ?_) ?_
   rotate_left
   ·have hA := HAll.out w' hw'; go_split_ands; go_simp <;> with_reducible rfl
   try simp only [pq]
   try simp only [hm']
   refine wq_nil ?_
   intro w1b hyn
   go_wp2_with fail
   go_ret
   exact ⟨by rw [HNO.out.1] <;> rfl, by rw [HNO.out.2]; exact (HS.out _ hyn).is, Fr.of_ext (HX1.out.trans hyn)⟩
 ·have hne : (batchErr b != 0) = true := by simpa using he
  have HNO := hid (take_no (by rw [HTD.out, if_neg he]) he)
  clear he
  go_wp2_with fail
  go_ret
  exact ⟨by rw [HNO.out.1] <;> rfl, by rw [HNO.out.2]; exact (HS0.out _ hx).is, Fr.of_ext hx⟩
end Go.Proofs.YtngbfdogiciahaaGreat
