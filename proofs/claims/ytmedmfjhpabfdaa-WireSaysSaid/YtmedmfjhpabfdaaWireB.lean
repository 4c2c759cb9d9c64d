/- The walks of the document's SameVersion, SameShelf and SameBatch, whatever is compared. -/
import Derived.Test.YtmedmfjhpabfdaaWireD
import Derived.Test.YtmedmfjhpabfdaaShelfB
import Derived.Lib.Strings
import Derived.Lib.Bytealg
import Derived.Lib.Walk
import Derived.Test.YtmedmfjhpabfdaaRowV
import Derived.Test.YtmedmfjhpabfdaaFilM
import Derived.Test.YtmedmfjhpabfdaaPartW
namespace Go.Proofs.Ytmedmfjhpabfdaa
open Go Go.RowKit

theorem ext_two (w : World) (a b : Array Value) (t u : TypeId) : Ext w ((w.alloc (.cells a t)).alloc (.cells b u)) := ((Ext.refl w).alloc _).alloc _

set_option maxRecDepth 100000 in
set_option maxHeartbeats 1000000 in
theorem ref_SameVersionG (B1 B2 : Nat) (v u : Version) (Aa : Option Addr) (ca : Nat) (Ma : Option Addr) (da : Nat) (Ab : Option Addr) (cb : Nat) (Mb : Option Addr) (db : Nat) (w : World) (ha : InV B1 w Aa ca Ma da v) (hb : InV B2 w Ab cb Mb db u) :
    Calls Try.prog 89 #[.agg #[.string v.id, .int .i64 v.dot.site, .int .i64 v.dot.count, .int .i64 v.pt.tags, .int .i64 v.pt.num, .int .i64 v.body, .slice Aa v.past.vec.length ca, .slice Ma v.past.more.length da], .agg #[.string u.id, .int .i64 u.dot.site, .int .i64 u.dot.count, .int .i64 u.pt.tags, .int .i64 u.pt.num, .int .i64 u.body, .slice Ab u.past.vec.length cb, .slice Mb u.past.more.length db]] w fun e w' => e = .returned (.bool (sameVer v u)) ∧ Ext w w' := by
  have hx0 := ((Ext.refl w).alloc (.cells #[.string v.id, .int .i64 v.dot.site, .int .i64 v.dot.count, .int .i64 v.pt.tags, .int .i64 v.pt.num, .int .i64 v.body, .slice Aa v.past.vec.length ca, .slice Ma v.past.more.length da] 46)).alloc (.cells #[.string u.id, .int .i64 u.dot.site, .int .i64 u.dot.count, .int .i64 u.pt.tags, .int .i64 u.pt.num, .int .i64 u.body, .slice Ab u.past.vec.length cb, .slice Mb u.past.more.length db] 46)
  have HA := hid ha
  have HB := hid hb
  clear ha hb
  cases h1 : sEq v.id u.id
  · have h1' : (v.id.toList == u.id.toList) = false := h1
    have HF := hid (show sameVer v u = false by rw [sameVer, h1]; rfl)
    clear h1
    go_enter Try.func89, Try.ntmps89
    go_wp2_with fail
    go_ret
    exact ⟨ret_bool HF.out.symm, hx0⟩
  · have h1' : (v.id.toList == u.id.toList) = true := h1
    have HF := hid (show sameVer v u = (sameDot v.dot u.dot && samePt v.pt u.pt && decide (v.body = u.body) && decide (v.past = u.past)) by rw [sameVer, h1]; rfl)
    clear h1
    go_enter Try.func89, Try.ntmps89
    go_wp2_with fail
    all_goals first
      | (refine (ref_SameKnow B1 B2 v.past u.past Aa ca Ma da Ab cb Mb db _ (HA.out.k.ext (ext_two w _ _ _ _)) (HB.out.k.ext (ext_two w _ _ _ _))).mono ?_
         rintro e w1 ⟨rfl, hx1⟩
         have hR : sameVer v u = decide (v.past = u.past) := by rw [HF.out]; simp [sameDot, samePt, *]
         rw [← hR]
         have HR := hid hR
         clear hR
         go_wp2_with fail
         go_ret
         exact ⟨rfl, (ext_two w _ _ _ _).trans hx1⟩)
      | (go_ret
         exact ⟨ret_bool (by rw [HF.out]; simp [sameDot, samePt, *]), ext_two w _ _ _ _⟩)

set_option maxRecDepth 100000 in
set_option maxHeartbeats 1000000 in
theorem equal_versG (B1 B2 : Nat) (A1 : Option Addr) (c1 : Nat) (A2 : Option Addr) (c2 : Nat) (l m : List Version) (w : World) (hl : l.length ≤ maxLen) (h : SlVers B1 w A1 l) (g : SlVers B2 w A2 m) :
    Calls Try.prog 88 #[.slice A1 l.length c1, .slice A2 m.length c2, .func (.func 89) #[] #[]] w fun e w' => e = .returned (.bool (sameL sameVer l m)) ∧ Ext w w' := by
  unfold maxLen at hl
  have hll : (l.length : Int) ≤ 9223372036854775807 := by omega
  by_cases hlm : l.length = m.length
  · have HLM := hid hlm
    rw [← hlm]
    clear hlm
    go_enter Try.func88, Try.ntmps88
    go_wp2_with fail
    go_loopw [17] (fun i wr => ∃ k : Nat, k ≤ l.length ∧ i = .int .i64 k ∧ sameL sameVer (l.drop k) (m.drop k) = sameL sameVer l m ∧ Ext w wr) (fun i _ => l.length - (intOf i).toNat)
    case atStart => exact ⟨0, Nat.zero_le _, rfl, rfl, Ext.refl _⟩
    case round =>
      obtain ⟨k, hk, rfl, hG, hx⟩ := hrel
      have HG := hid hG
      clear hG
      by_cases hlt : k < l.length
      · have HLT := hid (show k < m.length by rw [← HLM.out]; exact hlt)
        obtain ⟨b, off, Av, cv, Am, cm, rfl, hb, hr, hI⟩ := (h.ext RVer.monoE hx).ver hlt
        obtain ⟨b', off', Bv, dv, Bm, dm, rfl, hb', hr', hJ⟩ := (g.ext RVer.monoE hx).ver HLT.out
        obtain ⟨u, hu⟩ : ∃ u, u = m[k]'HLT.out := ⟨_, rfl⟩
        rw [← hu] at hr' hJ
        have HU := hid (show sameL sameVer l m = (sameVer l[k] u && sameL sameVer (l.drop (k + 1)) (m.drop (k + 1))) by rw [← HG.out, sameL_drop _ _ _ _ hlt HLT.out, hu])
        have HI := hid hI
        have HJ := hid hJ
        have hxl := (Ext.refl wr).alloc (.cells #[.string l[k].id, .int .i64 l[k].dot.site, .int .i64 l[k].dot.count, .int .i64 l[k].pt.tags, .int .i64 l[k].pt.num, .int .i64 l[k].body, .slice Av l[k].past.vec.length cv, .slice Am l[k].past.more.length cm] 46)
        have hr2 := rangeAt_ext hxl hr'
        have hxm := hxl.alloc (.cells #[.string u.id, .int .i64 u.dot.site, .int .i64 u.dot.count, .int .i64 u.pt.tags, .int .i64 u.pt.num, .int .i64 u.body, .slice Bv u.past.vec.length dv, .slice Bm u.past.more.length dm] 46)
        have hsz : ([.string l[k].id, .int .i64 l[k].dot.site, .int .i64 l[k].dot.count, .int .i64 l[k].pt.tags, .int .i64 l[k].pt.num, .int .i64 l[k].body, .slice Av l[k].past.vec.length cv, .slice Am l[k].past.more.length cm] : List Value).length = 8 := rfl
        have hsz2 : ([.string u.id, .int .i64 u.dot.site, .int .i64 u.dot.count, .int .i64 u.pt.tags, .int .i64 u.pt.num, .int .i64 u.body, .slice Bv u.past.vec.length dv, .slice Bm u.past.more.length dm] : List Value).length = 8 := rfl
        clear hI hJ hr' hu
        go_wp2_with (first | (with_reducible refine wpList_loadL (o := ⟨some 21, _, _, _, _, _⟩) ri_ver _ rfl rfl rfl hr hsz ?_) | (with_reducible refine wpList_loadL (o := ⟨some 25, _, _, _, _, _⟩) ri_ver _ rfl rfl rfl hr2 hsz2 ?_))
        clear hr hr2 hsz hsz2
        refine (ref_SameVersionG B1 B2 l[k] u Av cv Am cm Bv dv Bm dm _ (HI.out.ext hxm) (HJ.out.ext hxm)).mono ?_
        rintro e w1 ⟨rfl, hx1⟩
        have hxx := hx.trans (hxm.trans hx1)
        clear hx hxm hxl hx1
        cases hs : sameVer l[k] u
        · have HF := hid (show sameL sameVer l m = false by rw [HU.out, hs]; rfl)
          clear hs
          go_wp2_with fail
          go_ret
          exact ⟨ret_bool HF.out.symm, hxx⟩
        · have HF := hid (show sameL sameVer (l.drop (k + 1)) (m.drop (k + 1)) = sameL sameVer l m by rw [HU.out, hs]; rfl)
          clear hs
          go_wp2_with fail
          go_roundw
          case rel => exact ⟨k + 1, hlt, by go_num, HF.out, hxx⟩
          case measure => simp [intOf]; omega
      · obtain rfl : k = l.length := by omega
        have HF := hid (show sameL sameVer l m = true by rw [← HG.out]; exact sameL_end _ _ _ HLM.out)
        go_wp2_with fail
        go_ret
        exact ⟨ret_bool HF.out.symm, hx⟩
  · have hne : ((l.length : Int) != (m.length : Int)) = true := by simp; omega
    have HF := hid (sameL_ne sameVer l m hlm)
    clear hlm
    go_enter Try.func88, Try.ntmps88
    go_wp2_with fail
    go_ret
    exact ⟨ret_bool HF.out.symm, Ext.refl _⟩

theorem ref_SameShelfG (B1 B2 : Nat) (A1 : Option Addr) (c1 : Nat) (A2 : Option Addr) (c2 : Nat) (l m : List Version) (w : World) (hl : l.length ≤ maxLen) (h : SlVers B1 w A1 l) (g : SlVers B2 w A2 m) :
    Calls Try.prog 22 #[.slice A1 l.length c1, .slice A2 m.length c2] w fun e w' => e = .returned (.bool (sameL sameVer l m)) ∧ Ext w w' := by
  go_enter Try.func22, Try.ntmps22
  go_wp2_with fail
  refine (equal_versG B1 B2 A1 c1 A2 c2 l m _ hl h g).mono ?_
  rintro e w1 ⟨rfl, hx⟩
  go_wp2_with fail
  go_ret
  exact ⟨rfl, hx⟩

set_option maxRecDepth 100000 in
set_option maxHeartbeats 1000000 in
theorem same_batch1 (B1 B2 : Nat) (v u : Gone) (Aa : Option Addr) (ca : Nat) (Ma : Option Addr) (da : Nat) (Ab : Option Addr) (cb : Nat) (Mb : Option Addr) (db : Nat) (w : World) (ha : InG B1 w Aa ca Ma da v) (hb : InG B2 w Ab cb Mb db u) :
    Calls Try.prog 66 #[.agg #[.string v.id, .slice Aa v.past.vec.length ca, .slice Ma v.past.more.length da], .agg #[.string u.id, .slice Ab u.past.vec.length cb, .slice Mb u.past.more.length db]] w fun e w' => e = .returned (.bool (sameGone v u)) ∧ Ext w w' := by
  have hx0 := ((Ext.refl w).alloc (.cells #[.string v.id, .slice Aa v.past.vec.length ca, .slice Ma v.past.more.length da] 48)).alloc (.cells #[.string u.id, .slice Ab u.past.vec.length cb, .slice Mb u.past.more.length db] 48)
  have HA := hid ha
  have HB := hid hb
  clear ha hb
  cases h1 : sEq v.id u.id
  · have h1' : (v.id.toList == u.id.toList) = false := h1
    have HF := hid (show sameGone v u = false by rw [sameGone, h1]; rfl)
    clear h1
    go_enter Try.func66, Try.ntmps66
    go_wp2_with fail
    go_ret
    exact ⟨ret_bool HF.out.symm, hx0⟩
  · have h1' : (v.id.toList == u.id.toList) = true := h1
    have HF := hid (show sameGone v u = decide (v.past = u.past) by rw [sameGone, h1]; rfl)
    clear h1
    go_enter Try.func66, Try.ntmps66
    go_wp2_with fail
    refine (ref_SameKnow B1 B2 v.past u.past Aa ca Ma da Ab cb Mb db _ (HA.out.k.ext hx0) (HB.out.k.ext hx0)).mono ?_
    rintro e w1 ⟨rfl, hx1⟩
    rw [← HF.out]
    go_wp2_with fail
    go_ret
    exact ⟨rfl, hx0.trans hx1⟩

set_option maxRecDepth 100000 in
set_option maxHeartbeats 1000000 in
theorem equal_gones (B1 B2 : Nat) (A1 : Option Addr) (c1 : Nat) (A2 : Option Addr) (c2 : Nat) (l m : List Gone) (w : World) (hl : l.length ≤ maxLen) (h : SlGones B1 w A1 l) (g : SlGones B2 w A2 m) :
    Calls Try.prog 65 #[.slice A1 l.length c1, .slice A2 m.length c2, .func (.func 66) #[] #[]] w fun e w' => e = .returned (.bool (sameL sameGone l m)) ∧ Ext w w' := by
  unfold maxLen at hl
  have hll : (l.length : Int) ≤ 9223372036854775807 := by omega
  by_cases hlm : l.length = m.length
  · have HLM := hid hlm
    rw [← hlm]
    clear hlm
    go_enter Try.func65, Try.ntmps65
    go_wp2_with fail
    go_loopw [17] (fun i wr => ∃ k : Nat, k ≤ l.length ∧ i = .int .i64 k ∧ sameL sameGone (l.drop k) (m.drop k) = sameL sameGone l m ∧ Ext w wr) (fun i _ => l.length - (intOf i).toNat)
    case atStart => exact ⟨0, Nat.zero_le _, rfl, rfl, Ext.refl _⟩
    case round =>
      obtain ⟨k, hk, rfl, hG, hx⟩ := hrel
      have HG := hid hG
      clear hG
      by_cases hlt : k < l.length
      · have HLT := hid (show k < m.length by rw [← HLM.out]; exact hlt)
        obtain ⟨b, off, Av, cv, Am, cm, rfl, hb, hr, hI⟩ := (h.ext RGone.monoE hx).gone hlt
        obtain ⟨b', off', Bv, dv, Bm, dm, rfl, hb', hr', hJ⟩ := (g.ext RGone.monoE hx).gone HLT.out
        obtain ⟨u, hu⟩ : ∃ u, u = m[k]'HLT.out := ⟨_, rfl⟩
        rw [← hu] at hr' hJ
        have HU := hid (show sameL sameGone l m = (sameGone l[k] u && sameL sameGone (l.drop (k + 1)) (m.drop (k + 1))) by rw [← HG.out, sameL_drop _ _ _ _ hlt HLT.out, hu])
        have HI := hid hI
        have HJ := hid hJ
        have hxl := (Ext.refl wr).alloc (.cells #[.string l[k].id, .slice Av l[k].past.vec.length cv, .slice Am l[k].past.more.length cm] 48)
        have hr2 := rangeAt_ext hxl hr'
        have hxm := hxl.alloc (.cells #[.string u.id, .slice Bv u.past.vec.length dv, .slice Bm u.past.more.length dm] 48)
        have hsz : ([.string l[k].id, .slice Av l[k].past.vec.length cv, .slice Am l[k].past.more.length cm] : List Value).length = 3 := rfl
        have hsz2 : ([.string u.id, .slice Bv u.past.vec.length dv, .slice Bm u.past.more.length dm] : List Value).length = 3 := rfl
        clear hI hJ hr' hu
        go_wp2_with (first | (with_reducible refine wpList_loadL (o := ⟨some 21, _, _, _, _, _⟩) ri_gone _ rfl rfl rfl hr hsz ?_) | (with_reducible refine wpList_loadL (o := ⟨some 25, _, _, _, _, _⟩) ri_gone _ rfl rfl rfl hr2 hsz2 ?_))
        clear hr hr2 hsz hsz2
        refine (same_batch1 B1 B2 l[k] u Av cv Am cm Bv dv Bm dm _ (HI.out.ext hxm) (HJ.out.ext hxm)).mono ?_
        rintro e w1 ⟨rfl, hx1⟩
        have hxx := hx.trans (hxm.trans hx1)
        clear hx hxm hxl hx1
        cases hs : sameGone l[k] u
        · have HF := hid (show sameL sameGone l m = false by rw [HU.out, hs]; rfl)
          clear hs
          go_wp2_with fail
          go_ret
          exact ⟨ret_bool HF.out.symm, hxx⟩
        · have HF := hid (show sameL sameGone (l.drop (k + 1)) (m.drop (k + 1)) = sameL sameGone l m by rw [HU.out, hs]; rfl)
          clear hs
          go_wp2_with fail
          go_roundw
          case rel => exact ⟨k + 1, hlt, by go_num, HF.out, hxx⟩
          case measure => simp [intOf]; omega
      · obtain rfl : k = l.length := by omega
        have HF := hid (show sameL sameGone l m = true by rw [← HG.out]; exact sameL_end _ _ _ HLM.out)
        go_wp2_with fail
        go_ret
        exact ⟨ret_bool HF.out.symm, hx⟩
  · have hne : ((l.length : Int) != (m.length : Int)) = true := by simp; omega
    have HF := hid (sameL_ne sameGone l m hlm)
    clear hlm
    go_enter Try.func65, Try.ntmps65
    go_wp2_with fail
    go_ret
    exact ⟨ret_bool HF.out.symm, Ext.refl _⟩

/-- no parts on either side. -/
theorem equal_parts0 (w : World) :
    Calls Try.prog 67 #[.slice none 0 0, .slice none 0 0, .func (.func 68) #[] #[]] w fun e w' => e = .returned (.bool true) ∧ Ext w w' := by
  go_enter Try.func67, Try.ntmps67
  go_wp2_with fail
  go_loopw [17] (fun i wr => i = .int .i64 0 ∧ Ext w wr) (fun i _ => 1)
  case atStart => exact ⟨rfl, Ext.refl _⟩
  case round =>
    obtain ⟨rfl, hx⟩ := hrel
    go_wp2_with fail
    go_ret
    exact ⟨rfl, hx⟩

set_option maxRecDepth 100000 in
set_option maxHeartbeats 2000000 in
theorem ref_SameBatch (B1 B2 : Nat) (a b : Batch) (Ax : Option Addr) (cx : Nat) (Ag : Option Addr) (cg : Nat) (Bx : Option Addr) (dx : Nat) (Bg : Option Addr) (dg : Nat) (w : World) (ha : InB B1 w Ax cx Ag cg none 0 a) (hb : InB B2 w Bx dx Bg dg none 0 b) (pa : a.parts = []) (pb : b.parts = []) :
    Calls Try.prog 16 #[.agg #[.int .i64 a.site, .int .i64 a.stamp, .slice Ax a.vers.length cx, .slice Ag a.gone.length cg, .slice none a.parts.length 0], .agg #[.int .i64 b.site, .int .i64 b.stamp, .slice Bx b.vers.length dx, .slice Bg b.gone.length dg, .slice none b.parts.length 0]] w fun e w' => e = .returned (.bool (sameB a b)) ∧ Ext w w' := by
  have HA := hid ha
  have HB := hid hb
  have hx := ((Ext.refl w).alloc (.cells #[.int .i64 a.site, .int .i64 a.stamp, .slice Ax a.vers.length cx, .slice Ag a.gone.length cg, .slice none a.parts.length 0] 26)).alloc (.cells #[.int .i64 b.site, .int .i64 b.stamp, .slice Bx b.vers.length dx, .slice Bg b.gone.length dg, .slice none b.parts.length 0] 26)
  have hba := (Blk.new w 26 #[.int .i64 a.site, .int .i64 a.stamp, .slice Ax a.vers.length cx, .slice Ag a.gone.length cg, .slice none a.parts.length 0]).ext ((Ext.refl _).alloc (.cells #[.int .i64 b.site, .int .i64 b.stamp, .slice Bx b.vers.length dx, .slice Bg b.gone.length dg, .slice none b.parts.length 0] 26))
  have hbb := Blk.new (w.alloc (.cells #[.int .i64 a.site, .int .i64 a.stamp, .slice Ax a.vers.length cx, .slice Ag a.gone.length cg, .slice none a.parts.length 0] 26)) 26 #[.int .i64 b.site, .int .i64 b.stamp, .slice Bx b.vers.length dx, .slice Bg b.gone.length dg, .slice none b.parts.length 0]
  rw [World.size_alloc] at hbb
  rw [pa] at hx hba hbb ⊢
  rw [pb] at hx hbb hba ⊢
  clear ha hb
  by_cases h0 : a.site = b.site
  · by_cases h1 : a.stamp = b.stamp
    · have HF := hid (show sameB a b = (sameL sameVer a.vers b.vers && sameL sameGone a.gone b.gone) by unfold sameB; simp [h0, h1])
      have h0' : (a.site == b.site) = true := by simpa using h0
      have h1' : (a.stamp == b.stamp) = true := by simpa using h1
      clear h0 h1 pa pb
      go_enter Try.func16, Try.ntmps16
      go_wp2_with fail
      refine (ref_SameShelfG B1 B2 Ax cx Bx dx a.vers b.vers _ HA.out.mx.1 (HA.out.sx.ext RVer.monoE hx) (HB.out.sx.ext RVer.monoE hx)).mono ?_
      rintro e w1 ⟨rfl, hx1⟩
      replace hba := hba.ext hx1
      replace hbb := hbb.ext hx1
      replace hx := hx.trans hx1
      clear hx1
      cases hs : sameL sameVer a.vers b.vers
      · have HR := hid (show sameB a b = false by rw [HF.out, hs]; rfl)
        clear hs
        go_wp2_with fail
        go_ret
        exact ⟨ret_bool HR.out.symm, hx⟩
      · have HR := hid (show sameB a b = sameL sameGone a.gone b.gone by rw [HF.out, hs]; rfl)
        clear hs
        have y3 := hba.cell (i := 3) (u := .slice Ag a.gone.length cg) rfl
        have z3 := hbb.cell (i := 3) (u := .slice Bg b.gone.length dg) rfl
        go_wp2_with fail
        refine (equal_gones B1 B2 Ag cg Bg dg a.gone b.gone _ HA.out.mx.2.1 (HA.out.sg.ext RGone.monoE hx) (HB.out.sg.ext RGone.monoE hx)).mono ?_
        rintro e w2 ⟨rfl, hx2⟩
        replace hba := hba.ext hx2
        replace hbb := hbb.ext hx2
        replace hx := hx.trans hx2
        clear hx2 y3 z3
        cases hs : sameL sameGone a.gone b.gone
        · have HR2 := hid (HR.out.trans hs)
          clear hs
          go_wp2_with fail
          go_ret
          exact ⟨ret_bool HR2.out.symm, hx⟩
        · have HR2 := hid (HR.out.trans hs)
          clear hs
          have y3 := hba.cell (i := 4) (u := .slice none 0 0) rfl
          have z3 := hbb.cell (i := 4) (u := .slice none 0 0) rfl
          go_wp2_with fail
          refine (equal_parts0 _).mono ?_
          rintro e w3 ⟨rfl, hx3⟩
          go_wp2_with fail
          go_ret
          exact ⟨ret_bool HR2.out.symm, hx.trans hx3⟩
    · have HF := hid (show sameB a b = false by unfold sameB; simp [h1])
      have h0' : (a.site == b.site) = true := by simpa using h0
      have h1' : (a.stamp == b.stamp) = false := by simpa using h1
      clear h0 h1 pa pb
      go_enter Try.func16, Try.ntmps16
      go_wp2_with fail
      go_ret
      exact ⟨ret_bool HF.out.symm, hx⟩
  · have HF := hid (show sameB a b = false by unfold sameB; simp [h0])
    have h0' : (a.site == b.site) = false := by simpa using h0
    clear h0 pa pb
    go_enter Try.func16, Try.ntmps16
    go_wp2_with fail
    go_ret
    exact ⟨ret_bool HF.out.symm, hx⟩
end Go.Proofs.Ytmedmfjhpabfdaa
