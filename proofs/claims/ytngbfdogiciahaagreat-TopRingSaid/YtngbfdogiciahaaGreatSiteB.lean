/- The walk of site.batch. -/
import Derived.Test.YtngbfdogiciahaaGreatJoinSiteP
import Derived.Test.YtngbfdogiciahaaGreatJoinShelfD
import Derived.Test.YtngbfdogiciahaaGreatJoinKnV
import Derived.Test.YtngbfdogiciahaaGreatBase
namespace Go.Proofs.YtngbfdogiciahaaGreat
open Go Go.RowKit
set_option maxRecDepth 100000 in
set_option maxHeartbeats 2000000 in
theorem site_batch (B : Nat) (b : Batch) (Ax : Option Addr) (cx : Nat) (Ag : Option Addr) (cg : Nat) (Ap : Option Addr) (cp : Nat) (w : World) (hi : InB B w Ax cx Ag cg Ap cp b) :
  Calls Tryz.prog 109 #[.agg #[.int .i64 b.site, .int .i64 b.stamp, .slice Ax b.vers.length cx, .slice Ag b.gone.length cg, .slice Ap b.parts.length cp]] w fun e w' => e = .returned (.int .i64 (batchErr b)) ∧ Ext w w' := by
 have HI := hid hi
 have hx := (Ext.refl w).alloc (.cells #[.int .i64 b.site, .int .i64 b.stamp, .slice Ax b.vers.length cx, .slice Ag b.gone.length cg, .slice Ap b.parts.length cp] 90)
 clear hi
 by_cases hok : 0 ≤ b.site ∧ b.site ≤ 4 ∧ 0 ≤ b.stamp
 ·have HE := hid (show batchErr b = batchTail b from if_pos hok)
  have e1 : decide (b.site < 0) = false := decide_eq_false (by omega)
  have e2 : decide (5 ≤ b.site) = false := decide_eq_false (by omega)
  have e3 : decide (b.stamp < 0) = false := decide_eq_false (by omega)
  clear hok
  by_cases hl : b.vers.length ≤ 60 ∧ b.gone.length ≤ 60
  ·have hbb := Blk.new w 90 #[.int .i64 b.site, .int .i64 b.stamp, .slice Ax b.vers.length cx, .slice Ag b.gone.length cg, .slice Ap b.parts.length cp]
   have HT := hid (show batchTail b = batchRest b from if_pos hl)
   have l1 : decide ((60 : Int) < b.vers.length) = false := decide_eq_false (by omega)
   have l2 : decide ((60 : Int) < b.gone.length) = false := decide_eq_false (by omega)
   have hl60 : b.vers.length ≤ 60 := hl.1
   have hg60 : b.gone.length ≤ 60 := hl.2
   clear hl
   go_enter Tryz.func109, Tryz.ntmps109
   go_wp2_with fail
   go_loopw [35] (fun i wr => ∃ k : Nat, k ≤ b.vers.length ∧ i = .int .i64 k ∧ firstErr verErr (b.vers.drop k) = firstErr verErr b.vers ∧ Ext w wr ∧ Blk wr w.heap.size 90 #[.int .i64 b.site, .int .i64 b.stamp, .slice Ax b.vers.length cx, .slice Ag b.gone.length cg, .slice Ap b.parts.length cp]) (fun i _ => b.vers.length - (intOf i).toNat)
   case atStart => exact ⟨0, Nat.zero_le _, rfl, rfl, hx, hbb⟩
   case round =>
    clear hx hbb
    obtain ⟨k, hk, rfl, hG, hx, hbb⟩ := hrel
    have HG := hid hG
    clear hG
    by_cases hlt : k < b.vers.length
    ·obtain ⟨r0, off, Av, cv, Am, cm, rfl, hb, hr, hI⟩ := (HI.out.sx.ext RVer.monoE hx).ver hlt
     have HV := hid hI
     clear hI
     have hsz : ([.string b.vers[k].id, .int .i64 b.vers[k].dot.site, .int .i64 b.vers[k].dot.count, .int .i64 b.vers[k].pt.tags, .int .i64 b.vers[k].pt.num, .int .i64 b.vers[k].body, .slice Av b.vers[k].past.vec.length cv, .slice Am b.vers[k].past.more.length cm] : List Value).length = 8 := rfl
     go_wp2_with ((with_reducible refine wpList_loadL (o := ⟨some 38, _, _, _, _, _⟩) ri_ver _ rfl rfl rfl hr hsz ?_))
     clear hr hsz hb
     refine (shelf_One B b.vers[k] Av cv Am cm _ (HV.out.ext ((Ext.refl wr).alloc _))).mono ?_
     rintro e w1 ⟨rfl, hx1⟩
     have hxl := ((Ext.refl wr).alloc (.cells #[.string b.vers[k].id, .int .i64 b.vers[k].dot.site, .int .i64 b.vers[k].dot.count, .int .i64 b.vers[k].pt.tags, .int .i64 b.vers[k].pt.num, .int .i64 b.vers[k].body, .slice Av b.vers[k].past.vec.length cv, .slice Am b.vers[k].past.more.length cm] 151)).trans hx1
     replace hbb := hbb.ext hxl
     replace hx := hx.trans hxl
     clear hx1 hxl HV
     by_cases hv0 : verErr b.vers[k] = 0
     ·rw [hv0]
      have HS := hid (show firstErr verErr (b.vers.drop (k + 1)) = firstErr verErr b.vers by rw [← HG.out, firstErr_drop _ _ k hlt, if_pos hv0])
      clear hv0
      go_wp2_with fail
      go_roundw
      case rel => exact ⟨k + 1, hlt, by go_num, HS.out, hx, hbb⟩
      case measure => simp [intOf]; omega
     ·have hne : (verErr b.vers[k] != 0) = true := by simpa using hv0
      have HE1 := hid (show batchErr b = verErr b.vers[k] by
       have h2 : firstErr verErr b.vers = verErr b.vers[k] := by rw [← HG.out, firstErr_drop _ _ k hlt, if_neg hv0]
       rw [HE.out, HT.out, batchRest, if_neg (by rw [h2]; exact hv0), h2])
      clear hv0
      go_wp2_with fail
      go_ret
      exact ⟨ret_int HE1.out.symm, hx⟩
    ·obtain rfl : k = b.vers.length := by omega
     have HF := hid (show firstErr verErr b.vers = 0 by rw [← HG.out, List.drop_length]; rfl)
     have y3 := hbb.cell (i := 3) (u := .slice Ag b.gone.length cg) rfl
     clear hk hlt HG
     go_wp2_with fail
     clear y3
     go_loopw [48] (fun i wr => ∃ k : Nat, k ≤ b.gone.length ∧ i = .int .i64 k ∧ firstErr goneErr (b.gone.drop k) = firstErr goneErr b.gone ∧ Ext w wr ∧ Blk wr w.heap.size 90 #[.int .i64 b.site, .int .i64 b.stamp, .slice Ax b.vers.length cx, .slice Ag b.gone.length cg, .slice Ap b.parts.length cp]) (fun i _ => b.gone.length - (intOf i).toNat)
     case atStart => exact ⟨0, Nat.zero_le _, rfl, rfl, hx, hbb⟩
     case round =>
      clear hx hbb
      obtain ⟨k, hk, rfl, hG, hx, hbb⟩ := hrel
      have HG := hid hG
      clear hG
      by_cases hlt : k < b.gone.length
      ·obtain ⟨r0, off, Av, cv, Am, cm, rfl, hb, hr, hI⟩ := (HI.out.sg.ext RGone.monoE hx).gone hlt
       have HV := hid hI
       clear hI
       have hsz : ([.string b.gone[k].id, .slice Av b.gone[k].past.vec.length cv, .slice Am b.gone[k].past.more.length cm] : List Value).length = 3 := rfl
       go_wp2_with ((with_reducible refine wpList_loadL (o := ⟨some 51, _, _, _, _, _⟩) ri_gone _ rfl rfl rfl hr hsz ?_))
       clear hr hsz hb
       refine (shelf_Id b.gone[k].id _).mono ?_
       rintro e w1 ⟨rfl, hx1⟩
       have hxl := ((Ext.refl wr).alloc (.cells #[.string b.gone[k].id, .slice Av b.gone[k].past.vec.length cv, .slice Am b.gone[k].past.more.length cm] 103)).trans hx1
       have hbg := (Blk.new wr 103 #[.string b.gone[k].id, .slice Av b.gone[k].past.vec.length cv, .slice Am b.gone[k].past.more.length cm]).ext hx1
       replace hbb := hbb.ext hxl
       replace hx := hx.trans hxl
       have HVk := hid (HV.out.k.ext hxl)
       clear hx1 hxl HV
       cases h1 : idOk b.gone[k].id
       ·have HE1 := hid (show batchErr b = 3 by
         have h2 : firstErr goneErr b.gone = 3 := by
          have h3 : goneErr b.gone[k] = 3 := by rw [goneErr, if_neg (by rw [h1]; simp)]
          rw [← HG.out, firstErr_drop _ _ k hlt, if_neg (by rw [h3]; decide), h3]
         rw [HE.out, HT.out, batchRest, if_pos HF.out, if_neg (by rw [h2]; decide), h2])
        clear h1 hbg
        go_wp2_with fail
        go_ret
        exact ⟨ret_int HE1.out.symm, hx⟩
       ·have y1 := hbg.cell (i := 1) (u := .slice Av b.gone[k].past.vec.length cv) rfl
        have y2 := hbg.cell (i := 2) (u := .slice Am b.gone[k].past.more.length cm) rfl
        have H1 := hid h1
        clear h1 hbg
        go_wp2_with fail
        refine (know_Check B b.gone[k].past Av cv Am cm _ HVk.out).mono ?_
        rintro e w2 ⟨rfl, hx2⟩
        replace hbb := hbb.ext hx2
        replace hx := hx.trans hx2
        clear hx2 y1 y2
        by_cases hv0 : knowCheck b.gone[k].past = 0
        ·rw [hv0]
         have HS := hid (show firstErr goneErr (b.gone.drop (k + 1)) = firstErr goneErr b.gone by
          rw [← HG.out, firstErr_drop _ _ k hlt, if_pos (by rw [goneErr, if_pos H1.out, hv0])])
         clear hv0
         go_wp2_with fail
         go_roundw
         case rel => exact ⟨k + 1, hlt, by go_num, HS.out, hx, hbb⟩
         case measure => simp [intOf]; omega
        ·have hne : (knowCheck b.gone[k].past != 0) = true := by simpa using hv0
         have HE1 := hid (show batchErr b = knowCheck b.gone[k].past by
          have h2 : firstErr goneErr b.gone = knowCheck b.gone[k].past := by
           have h3 : goneErr b.gone[k] = knowCheck b.gone[k].past := by rw [goneErr, if_pos H1.out]
           rw [← HG.out, firstErr_drop _ _ k hlt, if_neg (by rw [h3]; exact hv0), h3]
          rw [HE.out, HT.out, batchRest, if_pos HF.out, if_neg (by rw [h2]; exact hv0), h2])
         clear hv0
         go_wp2_with fail
         go_ret
         exact ⟨ret_int HE1.out.symm, hx⟩
      ·obtain rfl : k = b.gone.length := by omega
       have HF2 := hid (show firstErr goneErr b.gone = 0 by rw [← HG.out, List.drop_length]; rfl)
       have HE1 := hid (show batchErr b = partsCheck b.parts by rw [HE.out, HT.out, batchRest, if_pos HF.out, if_pos HF2.out])
       have y4 := hbb.cell (i := 4) (u := .slice Ap b.parts.length cp) rfl
       go_wp2_with fail
       refine (part_Check B Ap cp b.parts _ HI.out.mx.2.2 (HI.out.sp.ext RPart.monoE hx)).mono ?_
       rintro e w1 ⟨rfl, hx1⟩
       go_wp2_with fail
       go_ret
       exact ⟨ret_int HE1.out.symm, hx.trans hx1⟩
  ·have HT := hid (show batchTail b = 2 from if_neg hl)
   by_cases a1 : b.vers.length ≤ 60
   ·have l1 : decide ((60 : Int) < b.vers.length) = false := decide_eq_false (by omega)
    have l2 : decide ((60 : Int) < b.gone.length) = true := decide_eq_true (by omega)
    clear hl a1
    go_enter Tryz.func109, Tryz.ntmps109
    go_wp2_with fail
    go_ret
    exact ⟨ret_int (HE.out.trans HT.out).symm, hx⟩
   ·have l1 : decide ((60 : Int) < b.vers.length) = true := decide_eq_true (by omega)
    clear hl a1
    go_enter Tryz.func109, Tryz.ntmps109
    go_wp2_with fail
    go_ret
    exact ⟨ret_int (HE.out.trans HT.out).symm, hx⟩
 ·by_cases a0 : b.site < 0
  ·have e1 : decide (b.site < 0) = true := decide_eq_true (by omega)
   have HE := hid (show batchErr b = 1 from if_neg (by omega))
   clear hok a0
   go_enter Tryz.func109, Tryz.ntmps109
   go_wp2_with fail
   go_ret
   exact ⟨ret_int HE.out.symm, hx⟩
  ·skip
   by_cases a1 : 5 ≤ b.site
   ·have e1 : decide (b.site < 0) = false := decide_eq_false (by omega)
    have e2 : decide (5 ≤ b.site) = true := decide_eq_true (by omega)
    have HE := hid (show batchErr b = 1 from if_neg (by omega))
    clear hok a0 a1
    go_enter Tryz.func109, Tryz.ntmps109
    go_wp2_with fail
    go_ret
    exact ⟨ret_int HE.out.symm, hx⟩
   ·skip
    have e1 : decide (b.site < 0) = false := decide_eq_false (by omega)
    have e2 : decide (5 ≤ b.site) = false := decide_eq_false (by omega)
    have e3 : decide (b.stamp < 0) = true := decide_eq_true (by omega)
    have HE := hid (show batchErr b = 1 from if_neg (by omega))
    clear hok a0 a1
    go_enter Tryz.func109, Tryz.ntmps109
    go_wp2_with fail
    go_ret
    exact ⟨ret_int HE.out.symm, hx⟩
end Go.Proofs.YtngbfdogiciahaaGreat
