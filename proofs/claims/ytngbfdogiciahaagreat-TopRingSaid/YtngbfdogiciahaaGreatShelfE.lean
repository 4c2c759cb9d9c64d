/- The walks of shelf.Check, reedref.Shelf. -/
import Derived.Test.YtngbfdogiciahaaGreatShort
import Derived.Test.YtngbfdogiciahaaGreatJoinShelfD
import Derived.Test.YtngbfdogiciahaaGreatRowV
import Derived.Test.YtngbfdogiciahaaGreatJoinKnW
import Derived.Test.YtngbfdogiciahaaGreatJoinKnV
namespace Go.Proofs.YtngbfdogiciahaaGreat
open Go Go.RowKit
theorem yields_row {P : Program} {ops : Array Oper} {S : World → Prop} {t : TypeId} {n : Nat} (ri : RowInfo P t n) {o : Oper} {a : Act} (hw : Region.wanted o (yielded ops a.tmps) = true) (x : Operand) (ho : o.op = .load t x) {b i : Nat} (hx : a.eval x = .pointer (some ⟨b, i, none⟩)) {cs : Array Value} (hS : ∀ w, S w → w.rangeAt b i cs.toList) (hn : cs.size = n) : YieldsIf P ops S o (.agg cs) a := by
 obtain ⟨⟨d, hu, hd⟩, hi⟩ := ri
 have h := yieldsIf_load_mid (P := P) (ops := ops) (S := S) (op := o) (a := a) hw t x ho b i hx cs.toList d hS hu hd (by rw [hi, Array.length_toList, hn])
 rwa [Array.toArray_toList] at h
theorem behind_succ (l : List Version) (j : Nat) (h : j < l.length) (v : Version) : behind (prevV l (j + 1)) v = !verLt l[j] v := by
 have : prevV l (j + 1) = some l[j] := by simp [prevV, h]
 rw [this]; rfl
set_option maxHeartbeats 1000000 in
theorem check_1 (B : Nat) (u v : Version) (Au : Option Addr) (cu : Nat) (Mu : Option Addr) (du : Nat) (Av : Option Addr) (cv : Nat) (Am : Option Addr) (cm : Nat) (r : Nat) (w : World) (hu : InV B w Au cu Mu du u) (hk : KnowOk u.past) (hd : dotOk v.dot = true) (hc : CellsV w r 0 Av cv Am cm v) :
  Calls Tryz.prog 190 #[.agg #[.string u.id, .int .i64 u.dot.site, .int .i64 u.dot.count, .int .i64 u.pt.tags, .int .i64 u.pt.num, .int .i64 u.body, .slice Au u.past.vec.length cu, .slice Mu u.past.more.length du], .pointer (some ⟨r, 0, none⟩)] w fun e w' => e = .returned (.bool (over u v)) ∧ Ext w w' := by
 have hx0 := (Ext.refl w).alloc (.cells #[.string u.id, .int .i64 u.dot.site, .int .i64 u.dot.count, .int .i64 u.pt.tags, .int .i64 u.pt.num, .int .i64 u.body, .slice Au u.past.vec.length cu, .slice Mu u.past.more.length du] 151)
 obtain ⟨c0, c1, c2, c3, c4, c5, c6, c7⟩ := hc.ext hx0
 have hb : r < w.heap.size := World.block_lt_of_cell? _ _ hc.c0
 obtain ⟨d0, d1, d2, d3, d4, d5, d6, d7⟩ := hc
 have HU := hid hu
 have HK := hid hk
 have HD := hid hd
 clear hu hk hd
 go_enter Tryz.func190, Tryz.ntmps190
 go_wp2_with fail
 refine (shelf_over B u v Au cu Mu du Av cv Am cm _ (HU.out.ext hx0) HK.out HD.out).mono ?_
 rintro e w1 ⟨rfl, hx1⟩
 go_wp2_with fail
 go_ret
 exact ⟨rfl, hx0.trans hx1⟩
set_option maxRecDepth 100000 in
set_option maxHeartbeats 4000000 in
theorem shelf_Check (B : Nat) (A : Option Addr) (c : Nat) (l : List Version) (w : World) (hl : l.length ≤ maxLen) (h : SlVers B w A l) :
  Calls Tryz.prog 147 #[.slice A l.length c] w fun e w' => e = .returned (.int .i64 (shelfCheck l)) ∧ Ext w w' := by
 by_cases h60 : 60 < l.length
 ·unfold maxLen at hl
  have h60' : decide ((60 : Int) < l.length) = true := decide_eq_true (by omega)
  go_enter Tryz.func147, Tryz.ntmps147
  go_wp2_with fail
  go_ret
  exact ⟨ret_int (by simp [shelfCheck, h60]), Ext.refl _⟩
 have h60' : decide ((60 : Int) < l.length) = false := decide_eq_false (by omega)
 have hl60 : (l.length : Int) ≤ 60 := by omega
 have HE := hid (show shelfCheck l = if shelfGo none l = 0 then (if shelfOver l = true then 6 else 0) else shelfGo none l by rw [shelfCheck, if_neg h60])
 clear h60
 go_enter Tryz.func147, Tryz.ntmps147
 go_wp2_with fail
 go_loopw [13] (fun i wr => ∃ k : Nat, k ≤ l.length ∧ i = .int .i64 k ∧ shelfGo (prevV l k) (l.drop k) = shelfGo none l ∧ (∀ q x, q < k → l[q]? = some x → VerOk x) ∧ Ext w wr) (fun i _ => l.length - (intOf i).toNat)
 case atStart => exact ⟨0, Nat.zero_le _, rfl, rfl, by intro q x hq; omega, Ext.refl _⟩
 case round =>
  obtain ⟨k, hk, rfl, hG, hokq, hx⟩ := hrel
  have HG := hid hG
  have HALLOK := hid hokq
  clear hG hokq
  by_cases hlt : k < l.length
  ·obtain ⟨b, off, Av, cv, Am, cm, rfl, hb, hr, hI⟩ := (h.ext RVer.monoE hx).ver hlt
   have HI := hid hI
   have HSL := hid (fun w' (x : Ext w w') => h.ext RVer.monoE x)
   clear hI
   have hsz : ([.string l[k].id, .int .i64 l[k].dot.site, .int .i64 l[k].dot.count, .int .i64 l[k].pt.tags, .int .i64 l[k].pt.num, .int .i64 l[k].body, .slice Av l[k].past.vec.length cv, .slice Am l[k].past.more.length cm] : List Value).length = 8 := rfl
   go_wp2_with ((with_reducible refine wpList_loadL (o := ⟨some 17, _, _, _, _, _⟩) ri_ver _ rfl rfl rfl hr hsz ?_))
   clear hr hsz
   refine (shelf_One B l[k] Av cv Am cm _ (HI.out.ext ((Ext.refl wr).alloc _))).mono ?_
   rintro e w1 ⟨rfl, hx1⟩
   have hxl := ((Ext.refl wr).alloc (.cells #[.string l[k].id, .int .i64 l[k].dot.site, .int .i64 l[k].dot.count, .int .i64 l[k].pt.tags, .int .i64 l[k].pt.num, .int .i64 l[k].body, .slice Av l[k].past.vec.length cv, .slice Am l[k].past.more.length cm] 151)).trans hx1
   obtain ⟨r, hr⟩ : ∃ r, r = wr.heap.size := ⟨_, rfl⟩
   have hq : w1.rangeAt r 0 [.string l[k].id, .int .i64 l[k].dot.site, .int .i64 l[k].dot.count, .int .i64 l[k].pt.tags, .int .i64 l[k].pt.num, .int .i64 l[k].body, .slice Av l[k].past.vec.length cv, .slice Am l[k].past.more.length cm] := by
    rw [hr]; exact rangeAt_ext hx1 (Blk.new wr 151 #[.string l[k].id, .int .i64 l[k].dot.site, .int .i64 l[k].dot.count, .int .i64 l[k].pt.tags, .int .i64 l[k].pt.num, .int .i64 l[k].body, .slice Av l[k].past.vec.length cv, .slice Am l[k].past.more.length cm]).range
   rw [← hr]
   have hxw := hx.trans hxl
   have HX := hid hxw
   clear hx1 hxl hr hx h
   by_cases hv0 : verErr l[k] = 0
   ·rw [hv0]
    have HV0 := hid hv0
    have HOK := hid (verErr_iff.1 hv0)
    clear hv0
    by_cases hk0 : k = 0
    ·subst hk0
     have HS := hid (show shelfGo (prevV l 0) (l.drop 0) = shelfGo (prevV l (0 + 1)) (l.drop (0 + 1)) by rw [shelfGo_drop l 0 hlt, if_pos HV0.out]; rfl)
     have HNext := hid (show ∀ q x, q < 0 + 1 → l[q]? = some x → VerOk x from fun q x hq hx => by
      obtain rfl : q = 0 := by omega
      rw [List.getElem?_eq_getElem hlt] at hx
      injection hx with hx
      rw [← hx]; exact HOK.out)
     have HAll := hid (fun w' (x : Ext w1 w') => show w'.rangeAt r 0 [.string l[0].id, .int .i64 l[0].dot.site, .int .i64 l[0].dot.count, .int .i64 l[0].pt.tags, .int .i64 l[0].pt.num, .int .i64 l[0].body, .slice Av l[0].past.vec.length cv, .slice Am l[0].past.more.length cm] from rangeAt_ext x hq)
     clear hq
     go_wp2_with fail
     have hyn := (Ext.refl w1).drew
     refine wp_region_held_drew (S := fun w' => w'.rangeAt r 0 [.string l[0].id, .int .i64 l[0].dot.site, .int .i64 l[0].dot.count, .int .i64 l[0].pt.tags, .int .i64 l[0].pt.num, .int .i64 l[0].body, .slice Av l[0].past.vec.length cv, .slice Am l[0].past.more.length cm]) (by kernel_rfl) (HAll.out _ hyn) (fun hHeld => ?_)
     obtain ⟨wc, hwc⟩ : ∃ wc, wc = w1.drew := ⟨_, rfl⟩
     rw [← hwc] at hHeld hyn ⊢
     clear hwc
     refine tk 0 ?_ rfl (by kernel_rfl) (fun _ _ _ h => h) (by rfl) ?_ (by assumption) ?_
     rotate_left
     ·intro w' hSw; (try dsimp only at hSw); go_simp <;> with_reducible rfl
     simp only [gq]; try simp only [pq]
     refine tk 1 ?_ rfl (by kernel_rfl) (fun _ _ _ h => h) (by rfl) ?_ (by assumption) ?_
     rotate_left
     ·intro w' hSw; (try dsimp only at hSw); go_simp <;> with_reducible rfl
     simp only [gq]; try simp only [pq]
     refine tk 2 ?_ rfl (by kernel_rfl) (fun _ _ _ h => h) (by rfl) ?_ (by assumption) ?_
     rotate_left
     ·intro w' hSw; (try dsimp only at hSw); go_simp <;> with_reducible rfl
     simp only [gq]; try simp only [pq]
     refine wpAnyH_take (i := 3) (oi := _) (v := undef) rfl (by kernel_rfl) (by kernel_rfl) (by kernel_rfl) (fun _ _ _ h => h) (Or.inr ⟨by rfl, rfl⟩) (by assumption) ?_
     simp only [gq]; try simp only [pq]
     refine wpAnyH_take (i := 4) (oi := _) (v := undef) rfl (by kernel_rfl) (by kernel_rfl) (by kernel_rfl) (fun _ _ _ h => h) (Or.inr ⟨by rfl, rfl⟩) (by assumption) ?_
     simp only [gq]; try simp only [pq]
     refine wpAnyH_take (i := 5) (oi := _) (v := undef) rfl (by kernel_rfl) (by kernel_rfl) (by kernel_rfl) (fun _ _ _ h => h) (Or.inr ⟨by rfl, rfl⟩) (by assumption) ?_
     simp only [gq]; try simp only [pq]
     refine wpAnyH_take (i := 6) (oi := _) (v := undef) rfl (by kernel_rfl) (by kernel_rfl) (by kernel_rfl) (fun _ _ _ h => h) (Or.inr ⟨by rfl, rfl⟩) (by assumption) ?_
     simp only [gq]; try simp only [pq]
     refine wpAnyH_take (i := 7) (oi := _) (v := undef) rfl (by kernel_rfl) (by kernel_rfl) (by kernel_rfl) (fun _ _ _ h => h) (Or.inr ⟨by rfl, rfl⟩) (by assumption) ?_
     simp only [gq]; try simp only [pq]
     refine wpAnyH_take (i := 8) (oi := _) (v := undef) rfl (by kernel_rfl) (by kernel_rfl) (by kernel_rfl) (fun _ _ _ h => h) (Or.inr ⟨by rfl, rfl⟩) (by assumption) ?_
     simp only [gq]; try simp only [pq]
     refine wpAnyH_take (i := 9) (oi := _) (v := undef) rfl (by kernel_rfl) (by kernel_rfl) (by kernel_rfl) (fun _ _ _ h => h) (Or.inr ⟨by rfl, rfl⟩) (by assumption) ?_
     simp only [gq]; try simp only [pq]
     refine wpAnyH_take (i := 10) (oi := _) (v := undef) rfl (by kernel_rfl) (by kernel_rfl) (by kernel_rfl) (fun _ _ _ h => h) (Or.inr ⟨by rfl, rfl⟩) (by assumption) ?_
     simp only [gq]; try simp only [pq]
     refine tk 11 ?_ rfl (by kernel_rfl) (fun _ _ _ h => h) (by rfl) ?_ (by assumption) ?_
     rotate_left
     ·intro w' hSw; (try dsimp only at hSw); go_simp <;> with_reducible rfl
     simp only [gq]; try simp only [pq]
     refine wpAnyH_done (by kernel_rfl) ?_ _
     have hx2 := HX.out.trans hyn
     clear hyn hHeld
     go_wp2_with fail
     go_roundw
     case rel =>
      refine ⟨0 + 1, hlt, by go_num, by rw [← HG.out, HS.out], ?_, hx2⟩
      exact HNext.out
     case measure => simp [intOf]; omega
    ·obtain ⟨j, rfl⟩ : ∃ j, k = j + 1 := ⟨k - 1, by omega⟩
     clear hk0
     have HOJ := hid (HALLOK.out j l[j] (by omega) (List.getElem?_eq_getElem (by omega)))
     obtain ⟨b', off', Bv, dv, Bm, dm, hA', _, hr', hJ⟩ := Sl.ver (HSL.out w1 hxw) (show j < l.length by omega)
     cases hA'
     have HAll := hid (fun w' (x : Ext w1 w') => show w'.rangeAt b (off + j * 8) [.string l[j].id, .int .i64 l[j].dot.site, .int .i64 l[j].dot.count, .int .i64 l[j].pt.tags, .int .i64 l[j].pt.num, .int .i64 l[j].body, .slice Bv l[j].past.vec.length dv, .slice Bm l[j].past.more.length dm] ∧ w'.rangeAt r 0 [.string l[j + 1].id, .int .i64 l[j + 1].dot.site, .int .i64 l[j + 1].dot.count, .int .i64 l[j + 1].pt.tags, .int .i64 l[j + 1].pt.num, .int .i64 l[j + 1].body, .slice Av l[j + 1].past.vec.length cv, .slice Am l[j + 1].past.more.length cm] from ⟨rangeAt_ext x hr', rangeAt_ext x hq⟩)
     clear hq hr' hJ
     have hjl : j < l.length := by omega
     have hj1 : IntKind.i64.wrap (j : Int) = (j : Int) := by rw [IntKind.wrap_i64]; omega
     go_wp2_with fail
     cases hvb : verLt l[j] l[j + 1]
     ·have HE3 := hid (show shelfGo none l = 3 by rw [← HG.out, shelfGo_drop l (j + 1) hlt, if_pos HV0.out, behind_succ l j (by omega), hvb]; rfl)
      replace HE3 := hid ((HE.out.trans (by rw [HE3.out]; rfl)) : shelfCheck l = 3)
      have hvl : 0 ≤ verCmp l[j] l[j + 1] := by rw [← Int.not_lt, verCmp_lt, hvb]; simp
      clear hvb
      have hyn := (Ext.refl w1).drew
      refine wp_region_held_drew (S := fun w' => w'.rangeAt b (off + j * 8) [.string l[j].id, .int .i64 l[j].dot.site, .int .i64 l[j].dot.count, .int .i64 l[j].pt.tags, .int .i64 l[j].pt.num, .int .i64 l[j].body, .slice Bv l[j].past.vec.length dv, .slice Bm l[j].past.more.length dm] ∧ w'.rangeAt r 0 [.string l[j + 1].id, .int .i64 l[j + 1].dot.site, .int .i64 l[j + 1].dot.count, .int .i64 l[j + 1].pt.tags, .int .i64 l[j + 1].pt.num, .int .i64 l[j + 1].body, .slice Av l[j + 1].past.vec.length cv, .slice Am l[j + 1].past.more.length cm]) (by kernel_rfl) (HAll.out _ hyn) (fun hHeld => ?_)
      obtain ⟨wc, hwc⟩ : ∃ wc, wc = w1.drew := ⟨_, rfl⟩
      rw [← hwc] at hHeld hyn ⊢
      clear hwc
      refine tk 0 ?_ rfl (by kernel_rfl) (fun _ _ _ h => h) (by rfl) ?_ (by assumption) ?_
      rotate_left
      ·intro w' hSw; (try dsimp only at hSw); go_simp <;> with_reducible rfl
      simp only [gq]; try simp only [pq]
      refine tk 1 ?_ rfl (by kernel_rfl) (fun _ _ _ h => h) (by rfl) ?_ (by assumption) ?_
      rotate_left
      ·intro w' hSw; (try dsimp only at hSw); go_simp <;> with_reducible rfl
      simp only [gq]; try simp only [pq]
      refine tk 2 ?_ rfl (by kernel_rfl) (fun _ _ _ h => h) (by rfl) ?_ (by assumption) ?_
      rotate_left
      ·intro w' hSw; (try dsimp only at hSw); go_simp <;> with_reducible rfl
      simp only [gq]; try simp only [pq]
      refine tk 3 ?_ rfl (by kernel_rfl) (fun _ _ _ h => h) (by rfl) ?_ (by assumption) ?_
      rotate_left
      ·intro w' hSw; (try dsimp only at hSw); go_simp <;> with_reducible rfl
      simp only [gq]; try simp only [pq]
      refine tk 4 ?_ rfl (by kernel_rfl) (fun _ _ _ h => h) (by rfl) ?_ (by assumption) ?_
      rotate_left
      ·intro w' hSw; (try dsimp only at hSw); go_simp <;> with_reducible rfl
      simp only [gq]; try simp only [pq]
      refine tk 5 ?_ rfl (by kernel_rfl) (fun _ _ _ h => h) (by rfl) ?_ (by assumption) ?_
      rotate_left
      ·intro w' hSw; (try dsimp only at hSw); go_simp <;> with_reducible rfl
      simp only [gq]; try simp only [pq]
      refine tk 6 ?_ rfl (by kernel_rfl) (fun _ _ _ h => h) (by rfl) ?_ (by assumption) ?_
      rotate_left
      ·intro w' hSw; (try dsimp only at hSw); go_simp <;> with_reducible rfl
      simp only [gq]; try simp only [pq]
      refine wpAnyH_take (i := 7) (oi := _) (v := _) rfl (by kernel_rfl) (by kernel_rfl) (by kernel_rfl) (fun _ _ _ h => h) (yields_row (cs := #[.string l[j].id, .int .i64 l[j].dot.site, .int .i64 l[j].dot.count, .int .i64 l[j].pt.tags, .int .i64 l[j].pt.num, .int .i64 l[j].body, .slice Bv l[j].past.vec.length dv, .slice Bm l[j].past.more.length dm]) ri_ver (by rfl) (.tmp 29) rfl (by rfl) (fun w' hS => hS.1) rfl) (by assumption) ?_
      simp only [gq]; try simp only [pq]
      refine wpAnyH_take (i := 8) (oi := _) (v := _) rfl (by kernel_rfl) (by kernel_rfl) (by kernel_rfl) (fun _ _ _ h => h) (yields_row (cs := #[.string l[j + 1].id, .int .i64 l[j + 1].dot.site, .int .i64 l[j + 1].dot.count, .int .i64 l[j + 1].pt.tags, .int .i64 l[j + 1].pt.num, .int .i64 l[j + 1].body, .slice Av l[j + 1].past.vec.length cv, .slice Am l[j + 1].past.more.length cm]) ri_ver (by rfl) (.tmp 4) rfl (by rfl) (fun w' hS => hS.2) rfl) (by assumption) ?_
      simp only [gq]; try simp only [pq]
      refine wpAnyH_ready (rs := [9]) (by kernel_rfl) (by simp) ?_
      refine AllReadyH.cons rfl (fun K hK => ?_) AllReadyH.nil
      simp only [gq]
      go_simp
      refine (shelf_cmp l[j] l[j + 1] Bv dv Bm dm Av cv Am cm wc HOJ.out.dot HOK.out.dot).mono ?_
      rintro e wn ⟨rfl, hxa⟩
      dsimp only
      replace hyn := hyn.trans hxa
      clear hxa
      obtain ⟨wc, rfl⟩ : ∃ wc', wc' = wn := ⟨_, rfl⟩
      refine hK.out _ _ (HAll.out _ hyn) (fun hHeld => ?_)
      generalize verCmp l[j] l[j + 1] = n at hvl
      clear hK K
      try simp only [pq]
      refine tk 10 ?_ rfl (by kernel_rfl) (fun _ _ _ h => h) (by rfl) ?_ (by assumption) ?_
      rotate_left
      ·intro w' hSw; (try dsimp only at hSw); go_simp <;> with_reducible rfl
      simp only [gq]; try simp only [pq]
      refine tk 11 ?_ rfl (by kernel_rfl) (fun _ _ _ h => h) (by rfl) ?_ (by assumption) ?_
      rotate_left
      ·intro w' hSw; (try dsimp only at hSw); go_simp <;> with_reducible rfl
      simp only [gq]; try simp only [pq]
      refine wpAnyH_done (by kernel_rfl) ?_ _
      go_wp2_with fail
      go_ret
      exact ⟨ret_int (by rw [HE3.out]), HX.out.trans hyn⟩
     ·have HS := hid (show shelfGo (prevV l (j + 1)) (l.drop (j + 1)) = shelfGo (prevV l (j + 1 + 1)) (l.drop (j + 1 + 1)) by rw [shelfGo_drop l (j + 1) hlt, if_pos HV0.out, behind_succ l j (by omega), hvb]; rfl)
      have HNext := hid (show ∀ q x, q < j + 1 + 1 → l[q]? = some x → VerOk x from fun q x hq hx => by
       by_cases hqk : q = j + 1
       ·subst hqk
        rw [List.getElem?_eq_getElem hlt] at hx
        injection hx with hx
        rw [← hx]; exact HOK.out
       ·exact HALLOK.out q x (by omega) hx)
      have hvl : verCmp l[j] l[j + 1] < 0 := verCmp_lt.2 hvb
      clear hvb
      have hyn := (Ext.refl w1).drew
      refine wp_region_held_drew (S := fun w' => w'.rangeAt b (off + j * 8) [.string l[j].id, .int .i64 l[j].dot.site, .int .i64 l[j].dot.count, .int .i64 l[j].pt.tags, .int .i64 l[j].pt.num, .int .i64 l[j].body, .slice Bv l[j].past.vec.length dv, .slice Bm l[j].past.more.length dm] ∧ w'.rangeAt r 0 [.string l[j + 1].id, .int .i64 l[j + 1].dot.site, .int .i64 l[j + 1].dot.count, .int .i64 l[j + 1].pt.tags, .int .i64 l[j + 1].pt.num, .int .i64 l[j + 1].body, .slice Av l[j + 1].past.vec.length cv, .slice Am l[j + 1].past.more.length cm]) (by kernel_rfl) (HAll.out _ hyn) (fun hHeld => ?_)
      obtain ⟨wc, hwc⟩ : ∃ wc, wc = w1.drew := ⟨_, rfl⟩
      rw [← hwc] at hHeld hyn ⊢
      clear hwc
      refine tk 0 ?_ rfl (by kernel_rfl) (fun _ _ _ h => h) (by rfl) ?_ (by assumption) ?_
      rotate_left
      ·intro w' hSw; (try dsimp only at hSw); go_simp <;> with_reducible rfl
      simp only [gq]; try simp only [pq]
      refine tk 1 ?_ rfl (by kernel_rfl) (fun _ _ _ h => h) (by rfl) ?_ (by assumption) ?_
      rotate_left
      ·intro w' hSw; (try dsimp only at hSw); go_simp <;> with_reducible rfl
      simp only [gq]; try simp only [pq]
      refine tk 2 ?_ rfl (by kernel_rfl) (fun _ _ _ h => h) (by rfl) ?_ (by assumption) ?_
      rotate_left
      ·intro w' hSw; (try dsimp only at hSw); go_simp <;> with_reducible rfl
      simp only [gq]; try simp only [pq]
      refine tk 3 ?_ rfl (by kernel_rfl) (fun _ _ _ h => h) (by rfl) ?_ (by assumption) ?_
      rotate_left
      ·intro w' hSw; (try dsimp only at hSw); go_simp <;> with_reducible rfl
      simp only [gq]; try simp only [pq]
      refine tk 4 ?_ rfl (by kernel_rfl) (fun _ _ _ h => h) (by rfl) ?_ (by assumption) ?_
      rotate_left
      ·intro w' hSw; (try dsimp only at hSw); go_simp <;> with_reducible rfl
      simp only [gq]; try simp only [pq]
      refine tk 5 ?_ rfl (by kernel_rfl) (fun _ _ _ h => h) (by rfl) ?_ (by assumption) ?_
      rotate_left
      ·intro w' hSw; (try dsimp only at hSw); go_simp <;> with_reducible rfl
      simp only [gq]; try simp only [pq]
      refine tk 6 ?_ rfl (by kernel_rfl) (fun _ _ _ h => h) (by rfl) ?_ (by assumption) ?_
      rotate_left
      ·intro w' hSw; (try dsimp only at hSw); go_simp <;> with_reducible rfl
      simp only [gq]; try simp only [pq]
      refine wpAnyH_take (i := 7) (oi := _) (v := _) rfl (by kernel_rfl) (by kernel_rfl) (by kernel_rfl) (fun _ _ _ h => h) (yields_row (cs := #[.string l[j].id, .int .i64 l[j].dot.site, .int .i64 l[j].dot.count, .int .i64 l[j].pt.tags, .int .i64 l[j].pt.num, .int .i64 l[j].body, .slice Bv l[j].past.vec.length dv, .slice Bm l[j].past.more.length dm]) ri_ver (by rfl) (.tmp 29) rfl (by rfl) (fun w' hS => hS.1) rfl) (by assumption) ?_
      simp only [gq]; try simp only [pq]
      refine wpAnyH_take (i := 8) (oi := _) (v := _) rfl (by kernel_rfl) (by kernel_rfl) (by kernel_rfl) (fun _ _ _ h => h) (yields_row (cs := #[.string l[j + 1].id, .int .i64 l[j + 1].dot.site, .int .i64 l[j + 1].dot.count, .int .i64 l[j + 1].pt.tags, .int .i64 l[j + 1].pt.num, .int .i64 l[j + 1].body, .slice Av l[j + 1].past.vec.length cv, .slice Am l[j + 1].past.more.length cm]) ri_ver (by rfl) (.tmp 4) rfl (by rfl) (fun w' hS => hS.2) rfl) (by assumption) ?_
      simp only [gq]; try simp only [pq]
      refine wpAnyH_ready (rs := [9]) (by kernel_rfl) (by simp) ?_
      refine AllReadyH.cons rfl (fun K hK => ?_) AllReadyH.nil
      simp only [gq]
      go_simp
      refine (shelf_cmp l[j] l[j + 1] Bv dv Bm dm Av cv Am cm wc HOJ.out.dot HOK.out.dot).mono ?_
      rintro e wn ⟨rfl, hxa⟩
      dsimp only
      replace hyn := hyn.trans hxa
      clear hxa
      obtain ⟨wc, rfl⟩ : ∃ wc', wc' = wn := ⟨_, rfl⟩
      refine hK.out _ _ (HAll.out _ hyn) (fun hHeld => ?_)
      generalize verCmp l[j] l[j + 1] = n at hvl
      clear hK K
      try simp only [pq]
      refine tk 10 ?_ rfl (by kernel_rfl) (fun _ _ _ h => h) (by rfl) ?_ (by assumption) ?_
      rotate_left
      ·intro w' hSw; (try dsimp only at hSw); go_simp <;> with_reducible rfl
      simp only [gq]; try simp only [pq]
      refine tk 11 ?_ rfl (by kernel_rfl) (fun _ _ _ h => h) (by rfl) ?_ (by assumption) ?_
      rotate_left
      ·intro w' hSw; (try dsimp only at hSw); go_simp <;> with_reducible rfl
      simp only [gq]; try simp only [pq]
      refine wpAnyH_done (by kernel_rfl) ?_ _
      have hx2 := HX.out.trans hyn
      clear hyn hHeld
      go_wp2_with fail
      go_roundw
      case rel =>
       refine ⟨j + 1 + 1, hlt, by go_num, by rw [← HG.out, HS.out], ?_, hx2⟩
       exact HNext.out
      case measure => simp [intOf]; omega
   ·have hne : (verErr l[k] != 0) = true := by simpa using hv0
    have HE1 := hid (show shelfGo none l = verErr l[k] by rw [← HG.out, shelfGo_drop l k hlt, if_neg hv0])
    have HE2 := hid (show shelfCheck l = verErr l[k] by rw [HE.out, HE1.out, if_neg hv0])
    clear hv0
    go_wp2_with fail
    go_ret
    exact ⟨ret_int HE2.out.symm, hxw⟩
  ·obtain rfl : k = l.length := by omega
   have HG0 := hid (show shelfGo none l = 0 by rw [← HG.out, List.drop_length]; rfl)
   have HE1 := hid (HE.out.trans (if_pos HG0.out))
   have HOKS := hid (shelfGo_all l none HG0.out)
   go_wp2_with fail
   go_loopw [38] (fun i wr2 => ∃ k : Nat, k ≤ l.length ∧ i = .int .i64 k ∧ ((l.take k).any fun v => l.any fun u => over u v) = false ∧ Ext w wr2) (fun i _ => l.length - (intOf i).toNat)
   case atStart => exact ⟨0, Nat.zero_le _, rfl, rfl, hx⟩
   case round =>
    clear hx
    obtain ⟨k, hk, rfl, hG2, hx⟩ := hrel
    have HG2 := hid hG2
    clear hG2
    by_cases hlt : k < l.length
    ·have hsl := h.ext RVer.monoE hx
     obtain ⟨b, off, Av, cv, Am, cm, rfl, hb, hr, hI⟩ := hsl.ver hlt
     have hsz : ([.string l[k].id, .int .i64 l[k].dot.site, .int .i64 l[k].dot.count, .int .i64 l[k].pt.tags, .int .i64 l[k].pt.num, .int .i64 l[k].body, .slice Av l[k].past.vec.length cv, .slice Am l[k].past.more.length cm] : List Value).length = 8 := rfl
     have HS := hid (any_takeR (fun v => l.any fun u => over u v) l k hlt)
     go_wp2_with ((with_reducible refine wpList_loadL (o := ⟨some 41, _, _, _, _, _⟩) ri_ver _ rfl rfl rfl hr hsz ?_))
     clear hr hsz
     have hxl := (Ext.refl wr).alloc (.cells #[.string l[k].id, .int .i64 l[k].dot.site, .int .i64 l[k].dot.count, .int .i64 l[k].pt.tags, .int .i64 l[k].pt.num, .int .i64 l[k].body, .slice Av l[k].past.vec.length cv, .slice Am l[k].past.more.length cm] 151)
     have hC := CellsV.ofBlk (Blk.new wr 151 #[.string l[k].id, .int .i64 l[k].dot.site, .int .i64 l[k].dot.count, .int .i64 l[k].pt.tags, .int .i64 l[k].pt.num, .int .i64 l[k].body, .slice Av l[k].past.vec.length cv, .slice Am l[k].past.more.length cm])
     refine (contains_ver B none 190 #[.pointer (some ⟨wr.heap.size, 0, none⟩)] _ c l (fun u => over u l[k]) _ hl (hsl.ext RVer.monoE hxl) Tryz.call190 (fun q hq cs wn hgr hcl hR => ?_)).mono ?_
     ·obtain ⟨Bv, dv, Bm, dm, rfl, hJ⟩ := hR.inV
      exact check_1 B l[q] l[k] Bv dv Bm dm Av cv Am cm wr.heap.size wn hJ (HOKS.out _ (List.getElem_mem hq)).k (HOKS.out _ (List.getElem_mem hlt)).dot (hC.grown hgr (by simp))
     ·rintro e w2 ⟨rfl, hx2⟩
      have hxx := hx.trans (hxl.trans hx2)
      clear hx2 hxl hC hsl hI hx
      cases ha : (l.any fun u => over u l[k])
      ·have HA := hid ha
       clear ha
       go_wp2_with fail
       go_roundw
       case rel => exact ⟨k + 1, hlt, by go_num, by rw [HS.out, HG2.out, HA.out]; rfl, hxx⟩
       case measure => simp [intOf]; omega
      ·have HA := hid (show shelfOver l = true from List.any_eq_true.2 ⟨l[k], List.getElem_mem hlt, ha⟩)
       have HF := hid (HE1.out.trans (if_pos HA.out))
       clear ha
       go_wp2_with fail
       go_ret
       exact ⟨ret_int HF.out.symm, hxx⟩
    ·obtain rfl : k = l.length := by omega
     have HA := hid (show shelfOver l = false by rw [← HG2.out, List.take_length]; rfl)
     have HF := hid (HE1.out.trans (if_neg (by rw [HA.out]; simp)))
     go_wp2_with fail
     go_ret
     exact ⟨ret_int HF.out.symm, hx⟩
end Go.Proofs.YtngbfdogiciahaaGreat
