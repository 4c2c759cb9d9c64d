/- The walks of a town's Bring: a batch is taken, an ask is answered. -/
import Derived.Test.YtngbfdogiciahaaGreatShort
import Derived.Test.YtngbfdogiciahaaGreatTownS
namespace Go.Proofs.YtngbfdogiciahaaGreat
open Go Go.RowKit
set_option maxRecDepth 100000 in
set_option maxHeartbeats 8000000 in
theorem town_BringB (B rT : Nat) (rs : List Nat) (L : List SiteS) (W : List LetS) (k i r : Nat) (b : Batch) (s : SiteS) (w : World) (hB : B ≤ w.heap.size) (h : IsTown B w rT rs L W) (hk : W[k]? = some (.bat i b)) (hr : rs[i]? = some r) (hs : L[i]? = some s) (hok : SiteOk s) :
  Calls Tryz.prog 18 #[.pointer (some ⟨rT, 0, none⟩), .int .i64 (k : Int)] w fun e w' => e = .returned (.int .i64 (takeErr s b)) ∧ IsSite B w' r (takeS s b) ∧ Fr r w w' := by
 obtain ⟨As, cs, v, h⟩ := h
 obtain ⟨bs, os, rfl, hn1, hn2, hBr, hp, hbl, hil⟩ := h.ptr hr hs
 obtain ⟨Aw, cw, rfl, hw1, hw2⟩ := h.way.len
 obtain ⟨g, off, cl, rfl, hg, _, hcl, hcs, hR⟩ := (h.way.sl B) k _ hk
 have hkl := (List.getElem?_eq_some_iff.1 hk).1
 obtain ⟨rB, Ax, cx, Ag, cg, Ap, cp, rfl, hbB, hin⟩ := hR
 have HT := hid h
 have HIS := hid (h.sites.at_ i r s hr hs)
 have hq := h.blk.cell (i := 0) (u := .slice (some ⟨bs, os, none⟩) L.length cs) rfl
 have hq1 := h.blk.cell (i := 1) (u := .slice (some ⟨g, off, none⟩) W.length cw) rfl
 have hrl := h.blk.lt
 have hlr := HIS.out.2.lt
 have hcap := h.cap
 have hrow : w.rangeAt g (off + k * 3) _ := hcs
 have HB := hid hB
 have HOK := hid hok
 have HIN := hid hin
 have hd0 : decide ((k : Int) < 0) = false := decide_eq_false (by omega)
 have hd1 : decide ((W.length : Int) ≤ (k : Int)) = false := decide_eq_false (by omega)
 have hd1n : decide (W.length ≤ k) = false := decide_eq_false (by omega)
 have hk2 : (k : Int) < (W.length : Int) := by omega
 have hii : (i : Int) < (L.length : Int) := by omega
 have HBB := hid (show rB ≠ r by
  rintro rfl
  have := HIS.out.2.ty
  rw [hbB.ty] at this
  exact absurd this (by decide))
 have hx5 := (Ext.refl w).alloc (.cells #[.int .i64 (i : Int), .pointer none, .pointer (some ⟨rB, 0, none⟩)] 147)
 have hb5 := Blk.new w 147 #[.int .i64 (i : Int), .pointer none, .pointer (some ⟨rB, 0, none⟩)]
 have y2 := hb5.cell (i := 2) (u := .pointer (some ⟨rB, 0, none⟩)) rfl
 have hl5 := hb5.lt
 have HX5 := hid hx5
 obtain ⟨w5, hw5⟩ : ∃ w5, w5 = w.alloc (.cells #[.int .i64 (i : Int), .pointer none, .pointer (some ⟨rB, 0, none⟩)] 147) := ⟨_, rfl⟩
 obtain ⟨b5, hb5d⟩ : ∃ b, b = w.heap.size := ⟨_, rfl⟩
 have HAll := hid (fun w' (x : Fr r w5 w') => show w'.cell? ⟨rT, 0, none⟩ = some (.slice (some ⟨bs, os, none⟩) L.length cs) ∧ w'.cell? ⟨bs, os + i, none⟩ = some (.pointer (some ⟨r, 0, none⟩)) ∧ w'.cell? ⟨b5, 0, none⟩ = some (.int .i64 (i : Int)) ∧ w'.cell? ⟨b5, 2, none⟩ = some (.pointer (some ⟨rB, 0, none⟩)) ∧ w'.cell? ⟨rB, 0, none⟩ = some (.int .i64 b.site) ∧ w'.cell? ⟨rB, 1, none⟩ = some (.int .i64 b.stamp) ∧ w'.cell? ⟨rB, 2, none⟩ = some (.slice Ax b.vers.length cx) ∧ w'.cell? ⟨rB, 3, none⟩ = some (.slice Ag b.gone.length cg) ∧ w'.cell? ⟨rB, 4, none⟩ = some (.slice Ap b.parts.length cp) from by
  have hT5 := (HT.out.ext HX5.out)
  rw [← hw5] at hT5 hb5
  rw [← hb5d] at hb5
  have hbB5 := hbB.ext HX5.out
  rw [← hw5] at hbB5
  have e1 := x.blkO hT5.blk hn2
  have e2 := x.blkO hb5 (by omega)
  have e3 := x.blkO hbB5 HBB.out
  refine ⟨e1.cell rfl, ?_, e2.cell rfl, e2.cell rfl, e3.cell rfl, e3.cell rfl, e3.cell rfl, e3.cell rfl, e3.cell rfl⟩
  rw [hw5] at x
  exact (World.cell?_of_block (x.block bs (Nat.lt_of_lt_of_le hbl HX5.out.size) hn1)).trans (HX5.out.cell hp))
 have HW5 := hid hw5
 have HB5 := hid hb5d
 rw [← hw5] at HX5
 clear h hk hr hs hB hok hin hw1 hw2 hBr hn1 hn2 hp hbl hbB hx5 hb5 hq hw5 hb5d hlr
 have hsz3 : ([.int .i64 (i : Int), .pointer none, .pointer (some ⟨rB, 0, none⟩)] : List Value).length = 3 := rfl
 go_enter Tryz.func18, Tryz.ntmps18
 go_wp2_with ((with_reducible refine wpList_loadL (o := ⟨some 25, _, _, _, _, _⟩) ri_let _ rfl rfl rfl hrow hsz3 ?_))
 rw [← HW5.out, ← HB5.out]
 clear y2 hrow hsz3 hcs hcl hq1 hd0 hd1 hd1n hk2 hkl hg hl5 hrl
 have hyn := (Ext.refl w5).drew
 refine wp_region_held_drew (S := fun w' => w'.cell? ⟨rT, 0, none⟩ = some (.slice (some ⟨bs, os, none⟩) L.length cs) ∧ w'.cell? ⟨bs, os + i, none⟩ = some (.pointer (some ⟨r, 0, none⟩)) ∧ w'.cell? ⟨b5, 0, none⟩ = some (.int .i64 (i : Int)) ∧ w'.cell? ⟨b5, 2, none⟩ = some (.pointer (some ⟨rB, 0, none⟩)) ∧ w'.cell? ⟨rB, 0, none⟩ = some (.int .i64 b.site) ∧ w'.cell? ⟨rB, 1, none⟩ = some (.int .i64 b.stamp) ∧ w'.cell? ⟨rB, 2, none⟩ = some (.slice Ax b.vers.length cx) ∧ w'.cell? ⟨rB, 3, none⟩ = some (.slice Ag b.gone.length cg) ∧ w'.cell? ⟨rB, 4, none⟩ = some (.slice Ap b.parts.length cp)) (by kernel_rfl) (HAll.out _ (Fr.of_ext hyn)) (fun hHeld => ?_)
 obtain ⟨wc, hwc⟩ : ∃ wc, wc = w5.drew := ⟨_, rfl⟩
 rw [← hwc] at hHeld hyn ⊢
 clear hwc
 refine tk 0 ?_ rfl (by kernel_rfl) (fun _ _ _ h => h) (by rfl) ?_ (by assumption) ?_
 rotate_left
 ·intro w' hSw; (try dsimp only at hSw); go_simp <;> with_reducible rfl
 simp only [gq]; try simp only [pq]
 refine tk 1 ?_ rfl (by kernel_rfl) (fun _ _ _ h => h) (by rfl) ?_ (by assumption) ?_
 rotate_left
 ·intro w' hSw; (try dsimp only at hSw); go_simp <;> with_reducible rfl
 simp only [gq]; try simp only [pq]
 refine tk 2 ?_ rfl (by kernel_rfl) (fun _ _ _ h => h) (by rfl) ?_ (by assumption) ?_
 rotate_left
 ·intro w' hSw; (try dsimp only at hSw); go_simp <;> with_reducible rfl
 simp only [gq]; try simp only [pq]
 refine tk 3 ?_ rfl (by kernel_rfl) (fun _ _ _ h => h) (by rfl) ?_ (by assumption) ?_
 rotate_left
 ·intro w' hSw; (try dsimp only at hSw); go_simp <;> with_reducible rfl
 simp only [gq]; try simp only [pq]
 refine tk 4 ?_ rfl (by kernel_rfl) (fun _ _ _ h => h) (by rfl) ?_ (by assumption) ?_
 rotate_left
 ·intro w' hSw; (try dsimp only at hSw); go_simp <;> with_reducible rfl
 simp only [gq]; try simp only [pq]
 refine tk 5 ?_ rfl (by kernel_rfl) (fun _ _ _ h => h) (by rfl) ?_ (by assumption) ?_
 rotate_left
 ·intro w' hSw; (try dsimp only at hSw); go_simp <;> with_reducible rfl
 simp only [gq]; try simp only [pq]
 refine tk 6 ?_ rfl (by kernel_rfl) (fun _ _ _ h => h) (by rfl) ?_ (by assumption) ?_
 rotate_left
 ·intro w' hSw; (try dsimp only at hSw); go_simp <;> with_reducible rfl
 simp only [gq]; try simp only [pq]
 refine tk 7 ?_ rfl (by kernel_rfl) (fun _ _ _ h => h) (by rfl) ?_ (by assumption) ?_
 rotate_left
 ·intro w' hSw; (try dsimp only at hSw); go_simp <;> with_reducible rfl
 simp only [gq]; try simp only [pq]
 refine tk 8 ?_ rfl (by kernel_rfl) (fun _ _ _ h => h) (by rfl) ?_ (by assumption) ?_
 rotate_left
 ·intro w' hSw; (try dsimp only at hSw); go_simp <;> with_reducible rfl
 simp only [gq]; try simp only [pq]
 refine tk 9 ?_ rfl (by kernel_rfl) (fun _ _ _ h => h) (by rfl) ?_ (by assumption) ?_
 rotate_left
 ·intro w' hSw; (try dsimp only at hSw); go_simp <;> with_reducible rfl
 simp only [gq]; try simp only [pq]
 refine tk 10 ?_ rfl (by kernel_rfl) (fun _ _ _ h => h) (by rfl) ?_ (by assumption) ?_
 rotate_left
 ·intro w' hSw; (try dsimp only at hSw); go_simp <;> with_reducible rfl
 simp only [gq]; try simp only [pq]
 refine tk 11 ?_ rfl (by kernel_rfl) (fun _ _ _ h => h) (by rfl) ?_ (by assumption) ?_
 rotate_left
 ·intro w' hSw; (try dsimp only at hSw); go_simp <;> with_reducible rfl
 simp only [gq]; try simp only [pq]
 refine wpAnyH_ready (rs := [12]) (by kernel_rfl) (by simp) ?_
 refine AllReadyH.cons rfl (fun K hK => ?_) AllReadyH.nil
 simp only [gq]
 go_simp
 refine (site_Take B r s b Ax cx Ag cg Ap cp wc (Nat.le_trans HB.out (Nat.le_trans HX5.out.size hyn.size)) HIS.out.1 HOK.out ((HIS.out.2.ext HX5.out).ext hyn) ((HIN.out.ext HX5.out).ext hyn)).mono ?_
 rintro e wn ⟨rfl, hsn, hfm⟩
 dsimp only
 have hfr := (Fr.of_ext hyn).trans hfm
 clear hyn hfm
 obtain ⟨wc, rfl⟩ : ∃ wc', wc' = wn := ⟨_, rfl⟩
 refine hK.out _ _ (HAll.out _ hfr) (fun hHeld => ?_)
 clear hK K
 try simp only [pq]
 refine tk 13 ?_ rfl (by kernel_rfl) (fun _ _ _ h => h) (by rfl) ?_ (by assumption) ?_
 rotate_left
 ·intro w' hSw; (try dsimp only at hSw); go_simp <;> with_reducible rfl
 simp only [gq]; try simp only [pq]
 refine wpAnyH_done (by kernel_rfl) ?_ _
 clear hHeld HAll
 go_wp2_with fail
 go_ret
 exact ⟨rfl, hsn, (Fr.of_ext HX5.out).trans hfr⟩
def bringE (n : Nat) : Int := if 60 ≤ n then 2 else 0
def bringW (W : List LetS) (a : AskS) (s : SiteS) : List LetS := if 60 ≤ W.length then W else W ++ [.bat a.site.toNat (giveB s a)]
set_option maxRecDepth 100000 in
set_option maxHeartbeats 16000000 in
theorem town_BringA (B rT : Nat) (rs : List Nat) (L : List SiteS) (W : List LetS) (k i r : Nat) (a : AskS) (s : SiteS) (w : World) (hB : B ≤ w.heap.size) (h : IsTown B w rT rs L W) (hk : W[k]? = some (.ask i a)) (hr : rs[i]? = some r) (hs : L[i]? = some s) (hok : SiteOk s) (hge : giveErr a = 0) (hW : W.length ≤ 60) :
  Calls Tryz.prog 18 #[.pointer (some ⟨rT, 0, none⟩), .int .i64 (k : Int)] w fun e w' => e = .returned (.int .i64 (bringE W.length)) ∧ IsTown B w' rT rs L (bringW W a s) ∧ Chg B TL w w' := by
 obtain ⟨As, cs, v, h⟩ := h
 obtain ⟨bs, os, rfl, hn1, hn2, hBr, hp, hbl, hil⟩ := h.ptr hr hs
 obtain ⟨Aw, cw, rfl, hw1, hw2⟩ := h.way.len
 obtain ⟨g, off, cl, rfl, hg, _, hcl, hcs, hR⟩ := (h.way.sl B) k _ hk
 have hkl := (List.getElem?_eq_some_iff.1 hk).1
 obtain ⟨rB, Af, cf, Ap, cp, rfl, hbB, hin⟩ := hR
 have HT := hid h
 have HIS := hid (h.sites.at_ i r s hr hs)
 have hq := h.blk.cell (i := 0) (u := .slice (some ⟨bs, os, none⟩) L.length cs) rfl
 have hq1 := h.blk.cell (i := 1) (u := .slice (some ⟨g, off, none⟩) W.length cw) rfl
 have hrl := h.blk.lt
 have hlr := HIS.out.2.lt
 have hcap := h.cap
 have hrow : w.rangeAt g (off + k * 3) _ := hcs
 have HB := hid hB
 have HOK := hid hok
 have HIN := hid hin
 have hd0 : decide ((k : Int) < 0) = false := decide_eq_false (by omega)
 have hd1 : decide ((W.length : Int) ≤ (k : Int)) = false := decide_eq_false (by omega)
 have hd1n : decide (W.length ≤ k) = false := decide_eq_false (by omega)
 have hk2 : (k : Int) < (W.length : Int) := by omega
 have hii : (i : Int) < (L.length : Int) := by omega
 have HBB := hid (show rB ≠ r by
  rintro rfl
  have := HIS.out.2.ty
  rw [hbB.ty] at this
  exact absurd this (by decide))
 have HE := hid (show bringE W.length = if 60 ≤ W.length then 2 else 0 from rfl)
 have HWW := hid (show bringW W a s = if 60 ≤ W.length then W else W ++ [.bat a.site.toNat (giveB s a)] from rfl)
 have HGE := hid hge
 have HW := hid hW
 have hsz3 : ([.int .i64 (i : Int), .pointer (some ⟨rB, 0, none⟩), .pointer none] : List Value).length = 3 := rfl
 have hx5 := (Ext.refl w).alloc (.cells #[.int .i64 (i : Int), .pointer (some ⟨rB, 0, none⟩), .pointer none] 147)
 have hb5 := Blk.new w 147 #[.int .i64 (i : Int), .pointer (some ⟨rB, 0, none⟩), .pointer none]
 have y2 := hb5.cell (i := 2) (u := .pointer none) rfl
 have hl5 := hb5.lt
 have HX5 := hid hx5
 by_cases h60 : 60 ≤ W.length
 ·have HA := hid (show bringE W.length = 2 ∧ bringW W a s = W by rw [HE.out, HWW.out, if_pos h60, if_pos h60]; exact ⟨rfl, rfl⟩)
  have hd6 : decide ((60 : Int) ≤ (W.length : Int)) = true := decide_eq_true (by omega)
  have hq1' := (HT.out.ext HX5.out).blk.cell (i := 1) (u := .slice (some ⟨g, off, none⟩) W.length cw) rfl
  have hrl' := (HT.out.ext HX5.out).blk.lt
  clear h60 h hk hr hs hB hok hin hw1 hw2 hBr hn1 hn2 hp hbl hbB hx5 hb5 hq hlr hge hW
  go_enter Tryz.func18, Tryz.ntmps18
  go_wp2_with ((with_reducible refine wpList_loadL (o := ⟨some 25, _, _, _, _, _⟩) ri_let _ rfl rfl rfl hrow hsz3 ?_))
  go_ret
  exact ⟨ret_int HA.out.1.symm, by rw [HA.out.2]; exact HT.out.is.ext HX5.out, Chg.of_ext HX5.out⟩
 ·have HA := hid (show bringE W.length = 0 ∧ bringW W a s = W ++ [.bat a.site.toNat (giveB s a)] by rw [HE.out, HWW.out, if_neg h60, if_neg h60]; exact ⟨rfl, rfl⟩)
  have hd6 : decide ((60 : Int) ≤ (W.length : Int)) = false := decide_eq_false (by omega)
  have HW := hid (show W.length < 60 by omega)
  have hq1' := (HT.out.ext HX5.out).blk.cell (i := 1) (u := .slice (some ⟨g, off, none⟩) W.length cw) rfl
  have hrl' := (HT.out.ext HX5.out).blk.lt
  obtain ⟨b, hbd⟩ : ∃ b, b = giveB s a := ⟨_, rfl⟩
  have HBD := hid hbd
  have hbe : b.site = a.site := by rw [hbd]; unfold giveB; rw [if_pos hge]
  have HS0 := hid (show 0 ≤ b.site by rw [hbe]; exact (giveErr_ok hge).1)
  have HSN := hid (show W ++ [.bat b.site.toNat b] = W ++ [.bat a.site.toNat (giveB s a)] by rw [hbe, hbd])
  obtain ⟨w5, hw5⟩ : ∃ w5, w5 = w.alloc (.cells #[.int .i64 (i : Int), .pointer (some ⟨rB, 0, none⟩), .pointer none] 147) := ⟨_, rfl⟩
  obtain ⟨b5, hb5d⟩ : ∃ b, b = w.heap.size := ⟨_, rfl⟩
  have HAll := hid (fun w' (x : Ext w5 w') => show w'.cell? ⟨rT, 0, none⟩ = some (.slice (some ⟨bs, os, none⟩) L.length cs) ∧ w'.cell? ⟨bs, os + i, none⟩ = some (.pointer (some ⟨r, 0, none⟩)) ∧ w'.cell? ⟨b5, 0, none⟩ = some (.int .i64 (i : Int)) ∧ w'.cell? ⟨b5, 1, none⟩ = some (.pointer (some ⟨rB, 0, none⟩)) ∧ w'.cell? ⟨rB, 0, none⟩ = some (.int .i64 a.site) ∧ w'.cell? ⟨rB, 1, none⟩ = some (.int .i64 a.stamp) ∧ w'.cell? ⟨rB, 2, none⟩ = some (.slice Af a.filter.length cf) ∧ w'.cell? ⟨rB, 3, none⟩ = some (.slice Ap a.parts.length cp) from by
   have hT5 := (HT.out.ext HX5.out)
   rw [← hw5] at hT5 hb5
   rw [← hb5d] at hb5
   have hbB5 := hbB.ext HX5.out
   rw [← hw5] at hbB5
   have e1 := hT5.blk.ext x
   have e2 := hb5.ext x
   have e3 := hbB5.ext x
   refine ⟨e1.cell rfl, ?_, e2.cell rfl, e2.cell rfl, e3.cell rfl, e3.cell rfl, e3.cell rfl, e3.cell rfl⟩
   rw [hw5] at x
   exact x.cell (HX5.out.cell hp))
  have HW5 := hid hw5
  have HB5 := hid hb5d
  rw [← hw5] at HX5
  clear h60 h hk hr hs hB hok hin hw1 hw2 hBr hn1 hn2 hp hbl hbB hx5 hb5 hq hw5 hb5d hlr hge hW hbe hbd
  go_enter Tryz.func18, Tryz.ntmps18
  go_wp2_with ((with_reducible refine wpList_loadL (o := ⟨some 25, _, _, _, _, _⟩) ri_let _ rfl rfl rfl hrow hsz3 ?_))
  rw [← HW5.out, ← HB5.out]
  clear y2 hrow hsz3 hcs hcl hq1 hq1' hrl' hd0 hd1 hd1n hd6 hk2 hkl hg hl5 hrl
  have hyn := (Ext.refl w5).drew
  refine wp_region_held_drew (S := fun w' => w'.cell? ⟨rT, 0, none⟩ = some (.slice (some ⟨bs, os, none⟩) L.length cs) ∧ w'.cell? ⟨bs, os + i, none⟩ = some (.pointer (some ⟨r, 0, none⟩)) ∧ w'.cell? ⟨b5, 0, none⟩ = some (.int .i64 (i : Int)) ∧ w'.cell? ⟨b5, 1, none⟩ = some (.pointer (some ⟨rB, 0, none⟩)) ∧ w'.cell? ⟨rB, 0, none⟩ = some (.int .i64 a.site) ∧ w'.cell? ⟨rB, 1, none⟩ = some (.int .i64 a.stamp) ∧ w'.cell? ⟨rB, 2, none⟩ = some (.slice Af a.filter.length cf) ∧ w'.cell? ⟨rB, 3, none⟩ = some (.slice Ap a.parts.length cp)) (by kernel_rfl) (HAll.out _ hyn) (fun hHeld => ?_)
  obtain ⟨wc, hwc⟩ : ∃ wc, wc = w5.drew := ⟨_, rfl⟩
  rw [← hwc] at hHeld hyn ⊢
  clear hwc
  refine tk 0 ?_ rfl (by kernel_rfl) (fun _ _ _ h => h) (by rfl) ?_ (by assumption) ?_
  rotate_left
  ·intro w' hSw; (try dsimp only at hSw); go_simp <;> with_reducible rfl
  simp only [gq]; try simp only [pq]
  refine tk 1 ?_ rfl (by kernel_rfl) (fun _ _ _ h => h) (by rfl) ?_ (by assumption) ?_
  rotate_left
  ·intro w' hSw; (try dsimp only at hSw); go_simp <;> with_reducible rfl
  simp only [gq]; try simp only [pq]
  refine tk 2 ?_ rfl (by kernel_rfl) (fun _ _ _ h => h) (by rfl) ?_ (by assumption) ?_
  rotate_left
  ·intro w' hSw; (try dsimp only at hSw); go_simp <;> with_reducible rfl
  simp only [gq]; try simp only [pq]
  refine tk 3 ?_ rfl (by kernel_rfl) (fun _ _ _ h => h) (by rfl) ?_ (by assumption) ?_
  rotate_left
  ·intro w' hSw; (try dsimp only at hSw); go_simp <;> with_reducible rfl
  simp only [gq]; try simp only [pq]
  refine tk 4 ?_ rfl (by kernel_rfl) (fun _ _ _ h => h) (by rfl) ?_ (by assumption) ?_
  rotate_left
  ·intro w' hSw; (try dsimp only at hSw); go_simp <;> with_reducible rfl
  simp only [gq]; try simp only [pq]
  refine tk 5 ?_ rfl (by kernel_rfl) (fun _ _ _ h => h) (by rfl) ?_ (by assumption) ?_
  rotate_left
  ·intro w' hSw; (try dsimp only at hSw); go_simp <;> with_reducible rfl
  simp only [gq]; try simp only [pq]
  refine tk 6 ?_ rfl (by kernel_rfl) (fun _ _ _ h => h) (by rfl) ?_ (by assumption) ?_
  rotate_left
  ·intro w' hSw; (try dsimp only at hSw); go_simp <;> with_reducible rfl
  simp only [gq]; try simp only [pq]
  refine tk 7 ?_ rfl (by kernel_rfl) (fun _ _ _ h => h) (by rfl) ?_ (by assumption) ?_
  rotate_left
  ·intro w' hSw; (try dsimp only at hSw); go_simp <;> with_reducible rfl
  simp only [gq]; try simp only [pq]
  refine tk 8 ?_ rfl (by kernel_rfl) (fun _ _ _ h => h) (by rfl) ?_ (by assumption) ?_
  rotate_left
  ·intro w' hSw; (try dsimp only at hSw); go_simp <;> with_reducible rfl
  simp only [gq]; try simp only [pq]
  refine tk 9 ?_ rfl (by kernel_rfl) (fun _ _ _ h => h) (by rfl) ?_ (by assumption) ?_
  rotate_left
  ·intro w' hSw; (try dsimp only at hSw); go_simp <;> with_reducible rfl
  simp only [gq]; try simp only [pq]
  refine tk 10 ?_ rfl (by kernel_rfl) (fun _ _ _ h => h) (by rfl) ?_ (by assumption) ?_
  rotate_left
  ·intro w' hSw; (try dsimp only at hSw); go_simp <;> with_reducible rfl
  simp only [gq]; try simp only [pq]
  refine tk 11 ?_ rfl (by kernel_rfl) (fun _ _ _ h => h) (by rfl) ?_ (by assumption) ?_
  rotate_left
  ·intro w' hSw; (try dsimp only at hSw); go_simp <;> with_reducible rfl
  simp only [gq]; try simp only [pq]
  refine wpAnyH_ready (rs := [12, 16]) (by kernel_rfl) (by simp) ?_
  refine AllReadyH.cons rfl (fun K hK => ?_) ?_
  ·simp only [gq]
   go_simp
   refine (site_Give B r s a Af cf Ap cp wc (Nat.le_trans HB.out (Nat.le_trans HX5.out.size hyn.size)) HOK.out ((HIS.out.2.ext HX5.out).ext hyn) ((HIN.out.ext HX5.out).ext hyn)).mono ?_
   rw [HGE.out, ← HBD.out]
   rintro e wn ⟨A1, c1, A2, c2, A3, c3, rfl, hib, hxa⟩
   dsimp only
   replace hyn := hyn.trans hxa
   clear hxa
   obtain ⟨wc, rfl⟩ : ∃ wc', wc' = wn := ⟨_, rfl⟩
   refine hK.out _ _ (HAll.out _ hyn) (fun hHeld => ?_)
   clear hK K
   try simp only [pq]
   refine tk 13 ?_ rfl (by kernel_rfl) (fun _ _ _ h => h) (by rfl) ?_ (by assumption) ?_
   rotate_left
   ·intro w' hSw; (try dsimp only at hSw); go_simp <;> with_reducible rfl
   simp only [gq]; try simp only [pq]
   refine tk 14 ?_ rfl (by kernel_rfl) (fun _ _ _ h => h) (by rfl) ?_ (by assumption) ?_
   rotate_left
   ·intro w' hSw; (try dsimp only at hSw); go_simp <;> with_reducible rfl
   simp only [gq]; try simp only [pq]
   refine tk 15 ?_ rfl (by kernel_rfl) (fun _ _ _ h => h) (by rfl) ?_ (by assumption) ?_
   rotate_left
   ·intro w' hSw; (try dsimp only at hSw); go_simp <;> with_reducible rfl
   simp only [gq]; try simp only [pq]
   refine wpAnyH_ready (rs := [16]) (by kernel_rfl) (by simp) ?_
   refine AllReadyH.cons rfl (fun K hK => ?_) AllReadyH.nil
   simp only [gq]
   go_simp
   have hb6 := Blk.new wc 90 #[.int .i64 0, .int .i64 0, .slice none 0 0, .slice none 0 0, .slice none 0 0]
   have hge6 := hyn.size
   have hxa := (Ext.refl wc).alloc (.cells #[.int .i64 0, .int .i64 0, .slice none 0 0, .slice none 0 0, .slice none 0 0] 90)
   replace hyn := hyn.trans hxa
   replace hib := hib.ext hxa
   obtain ⟨wn, hwn⟩ : ∃ wn, wn = wc.alloc (.cells #[.int .i64 0, .int .i64 0, .slice none 0 0, .slice none 0 0, .slice none 0 0] 90) := ⟨_, rfl⟩
   obtain ⟨b6, hbd⟩ : ∃ b, b = wc.heap.size := ⟨_, rfl⟩
   rw [← hwn] at hb6 hyn hib
   rw [← hwn, ← hbd]
   rw [← hbd] at hb6 hge6
   clear hxa hwn hbd
   obtain ⟨wc, rfl⟩ : ∃ wc', wc' = wn := ⟨_, rfl⟩
   refine hK.out _ _ (HAll.out _ hyn) (fun hHeld => ?_)
   clear hK K
   try simp only [pq]
   refine wpAnyH_ready (rs := [17]) (by kernel_rfl) (by simp) ?_
   refine AllReadyH.cons rfl (fun K hK => ?_) AllReadyH.nil
   simp only [gq]
   simp only [Region.wanted, if_true]
   with_reducible refine wp_storeRow (b := b6) (cs := #[.int .i64 b.site, .int .i64 b.stamp, .slice A1 b.vers.length c1, .slice A2 b.gone.length c2, .slice A3 b.parts.length c3]) (old := #[.int .i64 0, .int .i64 0, .slice none 0 0, .slice none 0 0, .slice none 0 0]) (n := 5) (t := 90) ri_batch (.tmp 6) (.tmp 62) rfl ?_ ?_ hb6 rfl rfl (by simp [Value.oneCell']) ?_
   ·rfl
   ·rfl
   intro wn hbl hb7 _ hot
   have hch : Chg B [90] wc wn := chg_row hb6 hbl hot (Nat.le_trans HB.out (Nat.le_trans HX5.out.size hge6))
   replace hyn := hyn.below hbl hge6
   replace hib := hib.chgBt hch
   refine hK.out _ _ (HAll.out _ hyn) (fun hHeld => ?_)
   clear hot hbl hb6 hch
   clear hK K
   try simp only [Act.put]
   refine tk 18 ?_ rfl (by kernel_rfl) (fun _ _ _ h => h) (by rfl) ?_ (by assumption) ?_
   rotate_left
   ·intro w' hSw; (try dsimp only at hSw); go_simp <;> with_reducible rfl
   simp only [gq]; try simp only [pq]
   refine wpAnyH_done (by kernel_rfl) ?_ _
   clear hHeld HAll
   go_wp2_with fail
   obtain ⟨w6, hw6⟩ : ∃ w6, w6 = wn := ⟨_, rfl⟩
   rw [← hw6] at hyn hb7 hib ⊢
   clear hw6
   have HX6 := hid (HX5.out.trans hyn)
   have HTT := hid (HT.out.ext HX6.out)
   have HBW := hid (Nat.le_trans HB.out HX6.out.size)
   have HB7 := hid hb7
   have HAllc := hid (fun w' (x : Chg B TL w6 w') => show w'.cell? ⟨b6, 0, none⟩ = some (.int .i64 b.site) from (HB7.out.chg x (by decide)).cell rfl)
   clear hyn
   have hyn := (Ext.refl w6).drew
   refine wp_region_held_drew (S := fun w' => w'.cell? ⟨b6, 0, none⟩ = some (.int .i64 b.site)) (by kernel_rfl) (HAllc.out _ (Chg.of_ext hyn)) (fun hHeld => ?_)
   obtain ⟨wc, hwc⟩ : ∃ wc, wc = w6.drew := ⟨_, rfl⟩
   rw [← hwc] at hHeld hyn ⊢
   clear hwc
   refine tk 0 ?_ rfl (by kernel_rfl) (fun _ _ _ h => h) (by rfl) ?_ (by assumption) ?_
   rotate_left
   ·intro w' hSw; (try dsimp only at hSw); go_simp <;> with_reducible rfl
   simp only [gq]; try simp only [pq]
   refine tk 1 ?_ rfl (by kernel_rfl) (fun _ _ _ h => h) (by rfl) ?_ (by assumption) ?_
   rotate_left
   ·intro w' hSw; (try dsimp only at hSw); go_simp <;> with_reducible rfl
   simp only [gq]; try simp only [pq]
   refine tk 2 ?_ rfl (by kernel_rfl) (fun _ _ _ h => h) (by rfl) ?_ (by assumption) ?_
   rotate_left
   ·intro w' hSw; (try dsimp only at hSw); go_simp <;> with_reducible rfl
   simp only [gq]; try simp only [pq]
   refine tk 3 ?_ rfl (by kernel_rfl) (fun _ _ _ h => h) (by rfl) ?_ (by assumption) ?_
   rotate_left
   ·intro w' hSw; (try dsimp only at hSw); go_simp <;> with_reducible rfl
   simp only [gq]; try simp only [pq]
   refine tk 5 ?_ rfl (by kernel_rfl) (fun _ _ _ h => h) (by rfl) ?_ (by assumption) ?_
   rotate_left
   ·intro w' hSw; (try dsimp only at hSw); go_simp <;> with_reducible rfl
   simp only [gq]; try simp only [pq]
   refine tk 6 ?_ rfl (by kernel_rfl) (fun _ _ _ h => h) (by rfl) ?_ (by assumption) ?_
   rotate_left
   ·intro w' hSw; (try dsimp only at hSw); go_simp <;> with_reducible rfl
   simp only [gq]; try simp only [pq]
   refine tk 7 ?_ rfl (by kernel_rfl) (fun _ _ _ h => h) (by rfl) ?_ (by assumption) ?_
   rotate_left
   ·intro w' hSw; (try dsimp only at hSw); go_simp <;> with_reducible rfl
   simp only [gq]; try simp only [pq]
   refine wpAnyH_ready (rs := [4, 8]) (by kernel_rfl) (by simp) ?_
   refine AllReadyH.cons rfl (fun K hK => ?_) ?_
   ·simp only [gq]
    have hq4 := (HTT.out.ext hyn).blk.cell (i := 1) (u := .slice (some ⟨g, off, none⟩) W.length cw) rfl
    go_simp
    clear hq4
    refine hK.out _ _ (HAllc.out _ (Chg.of_ext hyn)) (fun hHeld => ?_)
    clear hK K
    try simp only [pq]
    refine wpAnyH_ready (rs := [8]) (by kernel_rfl) (by simp) ?_
    refine AllReadyH.cons rfl (fun K hK => ?_) AllReadyH.nil
    simp only [gq]
    go_simp
    have hxa := (Ext.refl wc).alloc (.cells #[.int .i64 b.site, .pointer none, .pointer (some ⟨b6, 0, none⟩)] 147)
    have hone := letters_one (B := B) (w := wc) (cs := [.int .i64 b.site, .pointer none, .pointer (some ⟨b6, 0, none⟩)]) (x := .bat b.site.toNat b) rfl ⟨b6, A1, c1, A2, c2, A3, c3, by rw [Int.toNat_of_nonneg HS0.out], (hb7.ext hyn).ext hxa, (hib.ext hyn).ext hxa⟩
    replace hyn := hyn.trans hxa
    obtain ⟨wn, hwn⟩ : ∃ wn, wn = wc.alloc (.cells #[.int .i64 b.site, .pointer none, .pointer (some ⟨b6, 0, none⟩)] 147) := ⟨_, rfl⟩
    have hwn2 : wc.alloc (.cells ([.int .i64 b.site, .pointer none, .pointer (some ⟨b6, 0, none⟩)] : List Value).toArray 147) = wn := hwn.symm
    rw [hwn2] at hone
    rw [← hwn] at hyn
    obtain ⟨b8, hbd⟩ : ∃ b, b = wc.heap.size := ⟨_, rfl⟩
    rw [← hbd] at hone
    rw [← hwn, ← hbd]
    clear hxa hwn hbd hwn2
    obtain ⟨wc, rfl⟩ : ∃ wc', wc' = wn := ⟨_, rfl⟩
    refine hK.out _ _ (HAllc.out _ (Chg.of_ext hyn)) (fun hHeld => ?_)
    clear hK K
    try simp only [pq]
    refine wpAnyH_ready (rs := [9]) (by kernel_rfl) (by simp) ?_
    refine AllReadyH.cons rfl (fun K hK => ?_) AllReadyH.nil
    simp only [gq]
    simp only [Region.wanted, if_true]
    have hTA := HTT.out.ext hyn
    have hbs := Nat.le_trans HBW.out hyn.size
    refine wp_app (.tmp 70) (.tmp 74) rfl ei_let rfl hTA.way (B := B) (Nat.le_refl B) hbs (ys := [.bat b.site.toNat b]) (c := 1) rfl hone RLet.oneC (RLet.mono (by decide)) (by have := HW.out; simp [maxLen]; omega) (by have := HW.out; simp; omega) ?_
    intro v9 wn ho9 hch hbl _
    have hT9 := hTA.blk.chg hch (by decide)
    obtain ⟨M, hM⟩ : ∃ M, M = W ++ [.bat b.site.toNat b] := ⟨_, rfl⟩
    rw [← hM] at ho9
    have HM := hid hM
    obtain ⟨A9, c9, rfl, _, _⟩ := ho9.len
    have ht := hTA.turn hch ho9
    have hcw : Chg B TL w6 wn := (Chg.of_ext hyn).trans (hch.more (by simp))
    have hct : Chg B TL w6 _ := (Chg.of_ext hyn).trans ht.2
    clear hch hbl ho9 hone hM hTA hyn hbs
    obtain ⟨wc, rfl⟩ : ∃ wc', wc' = wn := ⟨_, rfl⟩
    refine hK.out _ _ (HAllc.out _ hcw) (fun hHeld => ?_)
    clear hK K
    try simp only [pq]
    refine tk 10 ?_ rfl (by kernel_rfl) (fun _ _ _ h => h) (by rfl) ?_ (by assumption) ?_
    rotate_left
    ·intro w' hSw; (try dsimp only at hSw); go_simp <;> with_reducible rfl
    simp only [gq]; try simp only [pq]
    refine tk 11 ?_ rfl (by kernel_rfl) (fun _ _ _ h => h) (by rfl) ?_ (by assumption) ?_
    rotate_left
    ·intro w' hSw; (try dsimp only at hSw); go_simp <;> with_reducible rfl
    simp only [gq]; try simp only [pq]
    refine wpAnyH_ready (rs := [12]) (by kernel_rfl) (by simp) ?_
    refine AllReadyH.cons rfl (fun K hK => ?_) AllReadyH.nil
    simp only [gq]
    have q9 := hT9.cell (i := 1) rfl
    have z9 := hT9.frozen 1
    have hl9 := hT9.lt
    go_simp
    clear q9 z9 hl9 hT9 hcw
    obtain ⟨wn, hwn⟩ : ∃ wn, wn = wc.setCell ⟨rT, 1, none⟩ (.slice A9 M.length c9) := ⟨_, rfl⟩
    rw [← hwn] at ht hct ⊢
    clear hwn
    refine hK.out _ _ (HAllc.out _ hct) (fun hHeld => ?_)
    clear hK K
    try simp only [pq]
    refine wpAnyH_done (by kernel_rfl) ?_ _
    clear hHeld HAllc
    go_wp2_with fail
    go_ret
    exact ⟨ret_int HA.out.1.symm, by rw [HA.out.2, ← HSN.out, ← HM.out]; exact ht.1, (Chg.of_ext HX6.out).trans hct⟩
   refine AllReadyH.cons rfl (fun K hK => ?_) AllReadyH.nil
   simp only [gq]
   go_simp
   have hxa := (Ext.refl wc).alloc (.cells #[.int .i64 b.site, .pointer none, .pointer (some ⟨b6, 0, none⟩)] 147)
   have hone := letters_one (B := B) (w := wc) (cs := [.int .i64 b.site, .pointer none, .pointer (some ⟨b6, 0, none⟩)]) (x := .bat b.site.toNat b) rfl ⟨b6, A1, c1, A2, c2, A3, c3, by rw [Int.toNat_of_nonneg HS0.out], (hb7.ext hyn).ext hxa, (hib.ext hyn).ext hxa⟩
   replace hyn := hyn.trans hxa
   obtain ⟨wn, hwn⟩ : ∃ wn, wn = wc.alloc (.cells #[.int .i64 b.site, .pointer none, .pointer (some ⟨b6, 0, none⟩)] 147) := ⟨_, rfl⟩
   have hwn2 : wc.alloc (.cells ([.int .i64 b.site, .pointer none, .pointer (some ⟨b6, 0, none⟩)] : List Value).toArray 147) = wn := hwn.symm
   rw [hwn2] at hone
   rw [← hwn] at hyn
   obtain ⟨b8, hbd⟩ : ∃ b, b = wc.heap.size := ⟨_, rfl⟩
   rw [← hbd] at hone
   rw [← hwn, ← hbd]
   clear hxa hwn hbd hwn2
   obtain ⟨wc, rfl⟩ : ∃ wc', wc' = wn := ⟨_, rfl⟩
   refine hK.out _ _ (HAllc.out _ (Chg.of_ext hyn)) (fun hHeld => ?_)
   clear hK K
   try simp only [pq]
   refine wpAnyH_ready (rs := [4]) (by kernel_rfl) (by simp) ?_
   refine AllReadyH.cons rfl (fun K hK => ?_) AllReadyH.nil
   simp only [gq]
   have hq4 := (HTT.out.ext hyn).blk.cell (i := 1) (u := .slice (some ⟨g, off, none⟩) W.length cw) rfl
   go_simp
   clear hq4
   refine hK.out _ _ (HAllc.out _ (Chg.of_ext hyn)) (fun hHeld => ?_)
   clear hK K
   try simp only [pq]
   refine wpAnyH_ready (rs := [9]) (by kernel_rfl) (by simp) ?_
   refine AllReadyH.cons rfl (fun K hK => ?_) AllReadyH.nil
   simp only [gq]
   simp only [Region.wanted, if_true]
   have hTA := HTT.out.ext hyn
   have hbs := Nat.le_trans HBW.out hyn.size
   refine wp_app (.tmp 70) (.tmp 74) rfl ei_let rfl hTA.way (B := B) (Nat.le_refl B) hbs (ys := [.bat b.site.toNat b]) (c := 1) rfl hone RLet.oneC (RLet.mono (by decide)) (by have := HW.out; simp [maxLen]; omega) (by have := HW.out; simp; omega) ?_
   intro v9 wn ho9 hch hbl _
   have hT9 := hTA.blk.chg hch (by decide)
   obtain ⟨M, hM⟩ : ∃ M, M = W ++ [.bat b.site.toNat b] := ⟨_, rfl⟩
   rw [← hM] at ho9
   have HM := hid hM
   obtain ⟨A9, c9, rfl, _, _⟩ := ho9.len
   have ht := hTA.turn hch ho9
   have hcw : Chg B TL w6 wn := (Chg.of_ext hyn).trans (hch.more (by simp))
   have hct : Chg B TL w6 _ := (Chg.of_ext hyn).trans ht.2
   clear hch hbl ho9 hone hM hTA hyn hbs
   obtain ⟨wc, rfl⟩ : ∃ wc', wc' = wn := ⟨_, rfl⟩
   refine hK.out _ _ (HAllc.out _ hcw) (fun hHeld => ?_)
   clear hK K
   try simp only [pq]
   refine tk 10 ?_ rfl (by kernel_rfl) (fun _ _ _ h => h) (by rfl) ?_ (by assumption) ?_
   rotate_left
   ·intro w' hSw; (try dsimp only at hSw); go_simp <;> with_reducible rfl
   simp only [gq]; try simp only [pq]
   refine tk 11 ?_ rfl (by kernel_rfl) (fun _ _ _ h => h) (by rfl) ?_ (by assumption) ?_
   rotate_left
   ·intro w' hSw; (try dsimp only at hSw); go_simp <;> with_reducible rfl
   simp only [gq]; try simp only [pq]
   refine wpAnyH_ready (rs := [12]) (by kernel_rfl) (by simp) ?_
   refine AllReadyH.cons rfl (fun K hK => ?_) AllReadyH.nil
   simp only [gq]
   have q9 := hT9.cell (i := 1) rfl
   have z9 := hT9.frozen 1
   have hl9 := hT9.lt
   go_simp
   clear q9 z9 hl9 hT9 hcw
   obtain ⟨wn, hwn⟩ : ∃ wn, wn = wc.setCell ⟨rT, 1, none⟩ (.slice A9 M.length c9) := ⟨_, rfl⟩
   rw [← hwn] at ht hct ⊢
   clear hwn
   refine hK.out _ _ (HAllc.out _ hct) (fun hHeld => ?_)
   clear hK K
   try simp only [pq]
   refine wpAnyH_done (by kernel_rfl) ?_ _
   clear hHeld HAllc
   go_wp2_with fail
   go_ret
   exact ⟨ret_int HA.out.1.symm, by rw [HA.out.2, ← HSN.out, ← HM.out]; exact ht.1, (Chg.of_ext HX6.out).trans hct⟩
  refine AllReadyH.cons rfl (fun K hK => ?_) AllReadyH.nil
  simp only [gq]
  go_simp
  have hb6 := Blk.new wc 90 #[.int .i64 0, .int .i64 0, .slice none 0 0, .slice none 0 0, .slice none 0 0]
  have hge6 := hyn.size
  have hxa := (Ext.refl wc).alloc (.cells #[.int .i64 0, .int .i64 0, .slice none 0 0, .slice none 0 0, .slice none 0 0] 90)
  replace hyn := hyn.trans hxa
  obtain ⟨wn, hwn⟩ : ∃ wn, wn = wc.alloc (.cells #[.int .i64 0, .int .i64 0, .slice none 0 0, .slice none 0 0, .slice none 0 0] 90) := ⟨_, rfl⟩
  obtain ⟨b6, hbd⟩ : ∃ b, b = wc.heap.size := ⟨_, rfl⟩
  rw [← hwn] at hb6 hyn
  rw [← hwn, ← hbd]
  rw [← hbd] at hb6 hge6
  clear hxa hwn hbd
  obtain ⟨wc, rfl⟩ : ∃ wc', wc' = wn := ⟨_, rfl⟩
  refine hK.out _ _ (HAll.out _ hyn) (fun hHeld => ?_)
  clear hK K
  try simp only [pq]
  refine wpAnyH_ready (rs := [12]) (by kernel_rfl) (by simp) ?_
  refine AllReadyH.cons rfl (fun K hK => ?_) AllReadyH.nil
  simp only [gq]
  go_simp
  refine (site_Give B r s a Af cf Ap cp wc (Nat.le_trans HB.out (Nat.le_trans HX5.out.size hyn.size)) HOK.out ((HIS.out.2.ext HX5.out).ext hyn) ((HIN.out.ext HX5.out).ext hyn)).mono ?_
  rw [HGE.out, ← HBD.out]
  rintro e wn ⟨A1, c1, A2, c2, A3, c3, rfl, hib, hxa⟩
  dsimp only
  replace hyn := hyn.trans hxa
  replace hb6 := hb6.ext hxa
  clear hxa
  obtain ⟨wc, rfl⟩ : ∃ wc', wc' = wn := ⟨_, rfl⟩
  refine hK.out _ _ (HAll.out _ hyn) (fun hHeld => ?_)
  clear hK K
  try simp only [pq]
  refine tk 13 ?_ rfl (by kernel_rfl) (fun _ _ _ h => h) (by rfl) ?_ (by assumption) ?_
  rotate_left
  ·intro w' hSw; (try dsimp only at hSw); go_simp <;> with_reducible rfl
  simp only [gq]; try simp only [pq]
  refine tk 14 ?_ rfl (by kernel_rfl) (fun _ _ _ h => h) (by rfl) ?_ (by assumption) ?_
  rotate_left
  ·intro w' hSw; (try dsimp only at hSw); go_simp <;> with_reducible rfl
  simp only [gq]; try simp only [pq]
  refine tk 15 ?_ rfl (by kernel_rfl) (fun _ _ _ h => h) (by rfl) ?_ (by assumption) ?_
  rotate_left
  ·intro w' hSw; (try dsimp only at hSw); go_simp <;> with_reducible rfl
  simp only [gq]; try simp only [pq]
  refine wpAnyH_ready (rs := [17]) (by kernel_rfl) (by simp) ?_
  refine AllReadyH.cons rfl (fun K hK => ?_) AllReadyH.nil
  simp only [gq]
  simp only [Region.wanted, if_true]
  with_reducible refine wp_storeRow (b := b6) (cs := #[.int .i64 b.site, .int .i64 b.stamp, .slice A1 b.vers.length c1, .slice A2 b.gone.length c2, .slice A3 b.parts.length c3]) (old := #[.int .i64 0, .int .i64 0, .slice none 0 0, .slice none 0 0, .slice none 0 0]) (n := 5) (t := 90) ri_batch (.tmp 6) (.tmp 62) rfl ?_ ?_ hb6 rfl rfl (by simp [Value.oneCell']) ?_
  ·rfl
  ·rfl
  intro wn hbl hb7 _ hot
  have hch : Chg B [90] wc wn := chg_row hb6 hbl hot (Nat.le_trans HB.out (Nat.le_trans HX5.out.size hge6))
  replace hyn := hyn.below hbl hge6
  replace hib := hib.chgBt hch
  refine hK.out _ _ (HAll.out _ hyn) (fun hHeld => ?_)
  clear hot hbl hb6 hch
  clear hK K
  try simp only [Act.put]
  refine tk 18 ?_ rfl (by kernel_rfl) (fun _ _ _ h => h) (by rfl) ?_ (by assumption) ?_
  rotate_left
  ·intro w' hSw; (try dsimp only at hSw); go_simp <;> with_reducible rfl
  simp only [gq]; try simp only [pq]
  refine wpAnyH_done (by kernel_rfl) ?_ _
  clear hHeld HAll
  go_wp2_with fail
  obtain ⟨w6, hw6⟩ : ∃ w6, w6 = wn := ⟨_, rfl⟩
  rw [← hw6] at hyn hb7 hib ⊢
  clear hw6
  have HX6 := hid (HX5.out.trans hyn)
  have HTT := hid (HT.out.ext HX6.out)
  have HBW := hid (Nat.le_trans HB.out HX6.out.size)
  have HB7 := hid hb7
  have HAllc := hid (fun w' (x : Chg B TL w6 w') => show w'.cell? ⟨b6, 0, none⟩ = some (.int .i64 b.site) from (HB7.out.chg x (by decide)).cell rfl)
  clear hyn
  have hyn := (Ext.refl w6).drew
  refine wp_region_held_drew (S := fun w' => w'.cell? ⟨b6, 0, none⟩ = some (.int .i64 b.site)) (by kernel_rfl) (HAllc.out _ (Chg.of_ext hyn)) (fun hHeld => ?_)
  obtain ⟨wc, hwc⟩ : ∃ wc, wc = w6.drew := ⟨_, rfl⟩
  rw [← hwc] at hHeld hyn ⊢
  clear hwc
  refine tk 0 ?_ rfl (by kernel_rfl) (fun _ _ _ h => h) (by rfl) ?_ (by assumption) ?_
  rotate_left
  ·intro w' hSw; (try dsimp only at hSw); go_simp <;> with_reducible rfl
  simp only [gq]; try simp only [pq]
  refine tk 1 ?_ rfl (by kernel_rfl) (fun _ _ _ h => h) (by rfl) ?_ (by assumption) ?_
  rotate_left
  ·intro w' hSw; (try dsimp only at hSw); go_simp <;> with_reducible rfl
  simp only [gq]; try simp only [pq]
  refine tk 2 ?_ rfl (by kernel_rfl) (fun _ _ _ h => h) (by rfl) ?_ (by assumption) ?_
  rotate_left
  ·intro w' hSw; (try dsimp only at hSw); go_simp <;> with_reducible rfl
  simp only [gq]; try simp only [pq]
  refine tk 3 ?_ rfl (by kernel_rfl) (fun _ _ _ h => h) (by rfl) ?_ (by assumption) ?_
  rotate_left
  ·intro w' hSw; (try dsimp only at hSw); go_simp <;> with_reducible rfl
  simp only [gq]; try simp only [pq]
  refine tk 5 ?_ rfl (by kernel_rfl) (fun _ _ _ h => h) (by rfl) ?_ (by assumption) ?_
  rotate_left
  ·intro w' hSw; (try dsimp only at hSw); go_simp <;> with_reducible rfl
  simp only [gq]; try simp only [pq]
  refine tk 6 ?_ rfl (by kernel_rfl) (fun _ _ _ h => h) (by rfl) ?_ (by assumption) ?_
  rotate_left
  ·intro w' hSw; (try dsimp only at hSw); go_simp <;> with_reducible rfl
  simp only [gq]; try simp only [pq]
  refine tk 7 ?_ rfl (by kernel_rfl) (fun _ _ _ h => h) (by rfl) ?_ (by assumption) ?_
  rotate_left
  ·intro w' hSw; (try dsimp only at hSw); go_simp <;> with_reducible rfl
  simp only [gq]; try simp only [pq]
  refine wpAnyH_ready (rs := [4, 8]) (by kernel_rfl) (by simp) ?_
  refine AllReadyH.cons rfl (fun K hK => ?_) ?_
  ·simp only [gq]
   have hq4 := (HTT.out.ext hyn).blk.cell (i := 1) (u := .slice (some ⟨g, off, none⟩) W.length cw) rfl
   go_simp
   clear hq4
   refine hK.out _ _ (HAllc.out _ (Chg.of_ext hyn)) (fun hHeld => ?_)
   clear hK K
   try simp only [pq]
   refine wpAnyH_ready (rs := [8]) (by kernel_rfl) (by simp) ?_
   refine AllReadyH.cons rfl (fun K hK => ?_) AllReadyH.nil
   simp only [gq]
   go_simp
   have hxa := (Ext.refl wc).alloc (.cells #[.int .i64 b.site, .pointer none, .pointer (some ⟨b6, 0, none⟩)] 147)
   have hone := letters_one (B := B) (w := wc) (cs := [.int .i64 b.site, .pointer none, .pointer (some ⟨b6, 0, none⟩)]) (x := .bat b.site.toNat b) rfl ⟨b6, A1, c1, A2, c2, A3, c3, by rw [Int.toNat_of_nonneg HS0.out], (hb7.ext hyn).ext hxa, (hib.ext hyn).ext hxa⟩
   replace hyn := hyn.trans hxa
   obtain ⟨wn, hwn⟩ : ∃ wn, wn = wc.alloc (.cells #[.int .i64 b.site, .pointer none, .pointer (some ⟨b6, 0, none⟩)] 147) := ⟨_, rfl⟩
   have hwn2 : wc.alloc (.cells ([.int .i64 b.site, .pointer none, .pointer (some ⟨b6, 0, none⟩)] : List Value).toArray 147) = wn := hwn.symm
   rw [hwn2] at hone
   rw [← hwn] at hyn
   obtain ⟨b8, hbd⟩ : ∃ b, b = wc.heap.size := ⟨_, rfl⟩
   rw [← hbd] at hone
   rw [← hwn, ← hbd]
   clear hxa hwn hbd hwn2
   obtain ⟨wc, rfl⟩ : ∃ wc', wc' = wn := ⟨_, rfl⟩
   refine hK.out _ _ (HAllc.out _ (Chg.of_ext hyn)) (fun hHeld => ?_)
   clear hK K
   try simp only [pq]
   refine wpAnyH_ready (rs := [9]) (by kernel_rfl) (by simp) ?_
   refine AllReadyH.cons rfl (fun K hK => ?_) AllReadyH.nil
   simp only [gq]
   simp only [Region.wanted, if_true]
   have hTA := HTT.out.ext hyn
   have hbs := Nat.le_trans HBW.out hyn.size
   refine wp_app (.tmp 70) (.tmp 74) rfl ei_let rfl hTA.way (B := B) (Nat.le_refl B) hbs (ys := [.bat b.site.toNat b]) (c := 1) rfl hone RLet.oneC (RLet.mono (by decide)) (by have := HW.out; simp [maxLen]; omega) (by have := HW.out; simp; omega) ?_
   intro v9 wn ho9 hch hbl _
   have hT9 := hTA.blk.chg hch (by decide)
   obtain ⟨M, hM⟩ : ∃ M, M = W ++ [.bat b.site.toNat b] := ⟨_, rfl⟩
   rw [← hM] at ho9
   have HM := hid hM
   obtain ⟨A9, c9, rfl, _, _⟩ := ho9.len
   have ht := hTA.turn hch ho9
   have hcw : Chg B TL w6 wn := (Chg.of_ext hyn).trans (hch.more (by simp))
   have hct : Chg B TL w6 _ := (Chg.of_ext hyn).trans ht.2
   clear hch hbl ho9 hone hM hTA hyn hbs
   obtain ⟨wc, rfl⟩ : ∃ wc', wc' = wn := ⟨_, rfl⟩
   refine hK.out _ _ (HAllc.out _ hcw) (fun hHeld => ?_)
   clear hK K
   try simp only [pq]
   refine tk 10 ?_ rfl (by kernel_rfl) (fun _ _ _ h => h) (by rfl) ?_ (by assumption) ?_
   rotate_left
   ·intro w' hSw; (try dsimp only at hSw); go_simp <;> with_reducible rfl
   simp only [gq]; try simp only [pq]
   refine tk 11 ?_ rfl (by kernel_rfl) (fun _ _ _ h => h) (by rfl) ?_ (by assumption) ?_
   rotate_left
   ·intro w' hSw; (try dsimp only at hSw); go_simp <;> with_reducible rfl
   simp only [gq]; try simp only [pq]
   refine wpAnyH_ready (rs := [12]) (by kernel_rfl) (by simp) ?_
   refine AllReadyH.cons rfl (fun K hK => ?_) AllReadyH.nil
   simp only [gq]
   have q9 := hT9.cell (i := 1) rfl
   have z9 := hT9.frozen 1
   have hl9 := hT9.lt
   go_simp
   clear q9 z9 hl9 hT9 hcw
   obtain ⟨wn, hwn⟩ : ∃ wn, wn = wc.setCell ⟨rT, 1, none⟩ (.slice A9 M.length c9) := ⟨_, rfl⟩
   rw [← hwn] at ht hct ⊢
   clear hwn
   refine hK.out _ _ (HAllc.out _ hct) (fun hHeld => ?_)
   clear hK K
   try simp only [pq]
   refine wpAnyH_done (by kernel_rfl) ?_ _
   clear hHeld HAllc
   go_wp2_with fail
   go_ret
   exact ⟨ret_int HA.out.1.symm, by rw [HA.out.2, ← HSN.out, ← HM.out]; exact ht.1, (Chg.of_ext HX6.out).trans hct⟩
  refine AllReadyH.cons rfl (fun K hK => ?_) AllReadyH.nil
  simp only [gq]
  go_simp
  have hxa := (Ext.refl wc).alloc (.cells #[.int .i64 b.site, .pointer none, .pointer (some ⟨b6, 0, none⟩)] 147)
  have hone := letters_one (B := B) (w := wc) (cs := [.int .i64 b.site, .pointer none, .pointer (some ⟨b6, 0, none⟩)]) (x := .bat b.site.toNat b) rfl ⟨b6, A1, c1, A2, c2, A3, c3, by rw [Int.toNat_of_nonneg HS0.out], (hb7.ext hyn).ext hxa, (hib.ext hyn).ext hxa⟩
  replace hyn := hyn.trans hxa
  obtain ⟨wn, hwn⟩ : ∃ wn, wn = wc.alloc (.cells #[.int .i64 b.site, .pointer none, .pointer (some ⟨b6, 0, none⟩)] 147) := ⟨_, rfl⟩
  have hwn2 : wc.alloc (.cells ([.int .i64 b.site, .pointer none, .pointer (some ⟨b6, 0, none⟩)] : List Value).toArray 147) = wn := hwn.symm
  rw [hwn2] at hone
  rw [← hwn] at hyn
  obtain ⟨b8, hbd⟩ : ∃ b, b = wc.heap.size := ⟨_, rfl⟩
  rw [← hbd] at hone
  rw [← hwn, ← hbd]
  clear hxa hwn hbd hwn2
  obtain ⟨wc, rfl⟩ : ∃ wc', wc' = wn := ⟨_, rfl⟩
  refine hK.out _ _ (HAllc.out _ (Chg.of_ext hyn)) (fun hHeld => ?_)
  clear hK K
  try simp only [pq]
  refine wpAnyH_ready (rs := [4]) (by kernel_rfl) (by simp) ?_
  refine AllReadyH.cons rfl (fun K hK => ?_) AllReadyH.nil
  simp only [gq]
  have hq4 := (HTT.out.ext hyn).blk.cell (i := 1) (u := .slice (some ⟨g, off, none⟩) W.length cw) rfl
  go_simp
  clear hq4
  refine hK.out _ _ (HAllc.out _ (Chg.of_ext hyn)) (fun hHeld => ?_)
  clear hK K
  try simp only [pq]
  refine wpAnyH_ready (rs := [9]) (by kernel_rfl) (by simp) ?_
  refine AllReadyH.cons rfl (fun K hK => ?_) AllReadyH.nil
  simp only [gq]
  simp only [Region.wanted, if_true]
  have hTA := HTT.out.ext hyn
  have hbs := Nat.le_trans HBW.out hyn.size
  refine wp_app (.tmp 70) (.tmp 74) rfl ei_let rfl hTA.way (B := B) (Nat.le_refl B) hbs (ys := [.bat b.site.toNat b]) (c := 1) rfl hone RLet.oneC (RLet.mono (by decide)) (by have := HW.out; simp [maxLen]; omega) (by have := HW.out; simp; omega) ?_
  intro v9 wn ho9 hch hbl _
  have hT9 := hTA.blk.chg hch (by decide)
  obtain ⟨M, hM⟩ : ∃ M, M = W ++ [.bat b.site.toNat b] := ⟨_, rfl⟩
  rw [← hM] at ho9
  have HM := hid hM
  obtain ⟨A9, c9, rfl, _, _⟩ := ho9.len
  have ht := hTA.turn hch ho9
  have hcw : Chg B TL w6 wn := (Chg.of_ext hyn).trans (hch.more (by simp))
  have hct : Chg B TL w6 _ := (Chg.of_ext hyn).trans ht.2
  clear hch hbl ho9 hone hM hTA hyn hbs
  obtain ⟨wc, rfl⟩ : ∃ wc', wc' = wn := ⟨_, rfl⟩
  refine hK.out _ _ (HAllc.out _ hcw) (fun hHeld => ?_)
  clear hK K
  try simp only [pq]
  refine tk 10 ?_ rfl (by kernel_rfl) (fun _ _ _ h => h) (by rfl) ?_ (by assumption) ?_
  rotate_left
  ·intro w' hSw; (try dsimp only at hSw); go_simp <;> with_reducible rfl
  simp only [gq]; try simp only [pq]
  refine tk 11 ?_ rfl (by kernel_rfl) (fun _ _ _ h => h) (by rfl) ?_ (by assumption) ?_
  rotate_left
  ·intro w' hSw; (try dsimp only at hSw); go_simp <;> with_reducible rfl
  simp only [gq]; try simp only [pq]
  refine wpAnyH_ready (rs := [12]) (by kernel_rfl) (by simp) ?_
  refine AllReadyH.cons rfl (fun K hK => ?_) AllReadyH.nil
  simp only [gq]
  have q9 := hT9.cell (i := 1) rfl
  have z9 := hT9.frozen 1
  have hl9 := hT9.lt
  go_simp
  clear q9 z9 hl9 hT9 hcw
  obtain ⟨wn, hwn⟩ : ∃ wn, wn = wc.setCell ⟨rT, 1, none⟩ (.slice A9 M.length c9) := ⟨_, rfl⟩
  rw [← hwn] at ht hct ⊢
  clear hwn
  refine hK.out _ _ (HAllc.out _ hct) (fun hHeld => ?_)
  clear hK K
  try simp only [pq]
  refine wpAnyH_done (by kernel_rfl) ?_ _
  clear hHeld HAllc
  go_wp2_with fail
  go_ret
  exact ⟨ret_int HA.out.1.symm, by rw [HA.out.2, ← HSN.out, ← HM.out]; exact ht.1, (Chg.of_ext HX6.out).trans hct⟩
end Go.Proofs.YtngbfdogiciahaaGreat
