/- The walk of wire.Pack. -/
import Derived.Test.YtngbfdogiciahaaGreatWireI
import Derived.Test.YtngbfdogiciahaaGreatWireA
import Derived.Test.YtngbfdogiciahaaGreatFewB
namespace Go.Proofs.YtngbfdogiciahaaGreat
open Go Go.RowKit
def packErr (b : Batch) : Int := if wireErr b = 0 then (if (packB b).length ≤ 20000 then 0 else 2) else wireErr b
def packOut (b : Batch) : ByteArray := if packErr b = 0 then bstr (packB b) else ⟨#[]⟩
theorem ret_str {x y : ByteArray} {a b : Int} (h : x = y) (g : a = b) : Ending.returned (.tuple #[.string x, .int .i64 a]) = .returned (.tuple #[.string y, .int .i64 b]) := by rw [h, g]
theorem pt_bounds {p : Point} (h : pointOk p = true) : (0 ≤ p.tags ∧ p.tags ≤ 15) ∧ (0 ≤ p.num ∧ p.num ≤ 31) := by
 simp only [pointOk, tagsOk, Bool.and_eq_true, decide_eq_true_eq] at h
 omega
theorem body_bounds {n : Int} (h : bodyOk n = true) : 0 ≤ n ∧ n ≤ 1000000 := by
 simpa [bodyOk] using h
theorem sumB_range (l : List UInt8) : 0 ≤ sumB l ∧ sumB l < 65521 := by
 unfold sumB
 have : sumN l l.length % 65521 < 65521 := Nat.mod_lt _ (by omega)
 omega
set_option maxRecDepth 100000 in
set_option maxHeartbeats 4000000 in
theorem wire_Pack (B : Nat) (b : Batch) (Ax : Option Addr) (cx : Nat) (Ag : Option Addr) (cg : Nat) (Ap : Option Addr) (cp : Nat) (w : World) (hBw : B ≤ w.heap.size) (hi : InB B w Ax cx Ag cg Ap cp b) :
  Calls Tryz.prog 78 #[.agg #[.int .i64 b.site, .int .i64 b.stamp, .slice Ax b.vers.length cx, .slice Ag b.gone.length cg, .slice Ap b.parts.length cp]] w fun e w' => e = .returned (.tuple #[.string (packOut b), .int .i64 (packErr b)]) ∧ Ext w w' := by
 have HI := hid hi
 clear hi
 have hx := (Ext.refl w).alloc (.cells #[.int .i64 b.site, .int .i64 b.stamp, .slice Ax b.vers.length cx, .slice Ag b.gone.length cg, .slice Ap b.parts.length cp] 90)
 have hbb := Blk.new w 90 #[.int .i64 b.site, .int .i64 b.stamp, .slice Ax b.vers.length cx, .slice Ag b.gone.length cg, .slice Ap b.parts.length cp]
 have HWA := hid (wireErr_ok (b := b))
 have HE0 := hid (show packErr b = if wireErr b = 0 then (if (packB b).length ≤ 20000 then 0 else 2) else wireErr b from rfl)
 have HO0 := hid (show packOut b = if packErr b = 0 then bstr (packB b) else ⟨#[]⟩ from rfl)
 go_enter Tryz.func78, Tryz.ntmps78
 go_wp2_with fail
 refine (wire_Check B b Ax cx Ag cg Ap cp _ (HI.out.ext hx)).mono ?_
 rintro e w1 ⟨rfl, hx1⟩
 replace hbb := hbb.ext hx1
 replace hx := hx.trans hx1
 clear hx1
 by_cases h0 : wireErr b = 0
 ·rw [h0]
  have HOK := hid (HWA.out h0)
  have HE1 := hid (show packErr b = if (packB b).length ≤ 20000 then 0 else 2 by rw [HE0.out, if_pos h0])
  have HLV := hid (fun v hv => verB_len (HOK.out.vers v hv))
  have HLG := hid (fun v hv => goneB_len (HOK.out.gone v hv))
  have HLP := hid (fun v hv => partB_len (HOK.out.parts v hv))
  have hn1 : b.vers.length ≤ 60 := HOK.out.lv
  have hn2 : b.gone.length ≤ 60 := HOK.out.lg
  have hn3 : b.parts.length ≤ 30 := HOK.out.lp
  clear h0
  obtain ⟨r, hr⟩ : ∃ r, r = w.heap.size := ⟨_, rfl⟩
  rw [← hr] at hbb ⊢
  clear hr
  have hrl := hbb.lt
  have y0 := hbb.cell (i := 0) (u := .int .i64 b.site) rfl
  have y1 := hbb.cell (i := 1) (u := .int .i64 b.stamp) rfl
  have y2 := hbb.cell (i := 2) (u := .slice Ax b.vers.length cx) rfl
  go_wp2_with fail
  have hxp := (Ext.refl w1).alloc (.cells #[.slice none 0 0] 213)
  have hwp : Wr w.heap.size w1.heap.size (w1.alloc (.cells #[.slice none 0 0] 213)) [] := ⟨hx.size, _, Blk.new w1 213 #[.slice none 0 0], Own.nil⟩
  have hcc := Chg.of_ext (B := w.heap.size) (ts := [5, 213]) (hx.trans hxp)
  replace hbb := hbb.ext hxp
  obtain ⟨p, hp⟩ : ∃ p, p = w1.heap.size := ⟨_, rfl⟩
  obtain ⟨w2, hw2⟩ : ∃ x, x = w1.alloc (.cells #[.slice none 0 0] 213) := ⟨_, rfl⟩
  have hsz : w2.heap.size = w1.heap.size + 1 := by rw [hw2, World.size_alloc]
  rw [← hw2] at hwp hcc hbb
  rw [← hp] at hwp
  rw [show w1.heap.size + 1 = w2.heap.size from hsz.symm, ← hw2, ← hp]
  have hw := hwp
  have HLO0 := hid (show ([] : List UInt8).length ≤ 0 from Nat.le_refl _)
  obtain ⟨O0, hO0⟩ : ∃ O, O = ([] : List UInt8) := ⟨_, rfl⟩
  rw [← hO0] at hw HLO0
  have HO0' := hid hO0
  clear hxp hwp hp hw2 hsz hx hO0 y0 y1 y2 hrl
  have hxa := (Ext.refl w2).alloc (.cells #[.int .i64 b.site, .int .i64 b.stamp, .int .i64 (b.vers.length : Int)] 3)
  refine (wire_nums w.heap.size p _ 3 [b.site, b.stamp, (b.vers.length : Int)] O0 _ (hw.ext hxa) (ints_lit w.heap.size [b.site, b.stamp, (b.vers.length : Int)] rfl rfl rfl) (by have := HLO0.out; simp; omega) (by have := HOK.out.s0; have := HOK.out.s4; have := HOK.out.t0; have := HOK.out.t1; simp; omega)).mono ?_
  rintro e w1 ⟨rfl, hwn, hc⟩
  replace hc := (Chg.of_ext (B := w.heap.size) (ts := [5, 213]) hxa).trans hc
  replace hcc := hcc.trans hc
  replace hbb := hbb.chg hc (by decide)
  obtain ⟨O2, hO2⟩ : ∃ O, O = O0 ++ nums [b.site, b.stamp, (b.vers.length : Int)] := ⟨_, rfl⟩
  rw [← hO2] at hwn
  have HO2 := hid hO2
  have HLO2 := hid (show O2.length ≤ 9 by
   rw [hO2, List.length_append]
   have := HLO0.out
   have : (nums [b.site, b.stamp, (b.vers.length : Int)]).length = 9 := by rw [nums_len]; rfl
   omega)
  have hw := hwn
  clear hwn hc hO2 hxa
  have y0 := hbb.cell (i := 2) (u := .slice Ax b.vers.length cx) rfl
  go_wp2_with fail
  clear y0
  have HShbb36 := hid hbb
  have HCC36 := hid hcc
  go_loopw [36] (fun i wr => ∃ k36 : Nat, k36 ≤ b.vers.length ∧ i = .int .i64 k36 ∧ Wr w.heap.size p wr (O2 ++ (b.vers.take k36).flatMap verB) ∧ Chg w.heap.size [5, 213] w1 wr) (fun i _ => b.vers.length - (intOf i).toNat)
  case atStart => exact ⟨0, Nat.zero_le _, rfl, by simpa using hw, Chg.refl _⟩
  case round =>
   clear hw hcc hbb
   obtain ⟨k36, hk, rfl, hw, hcx⟩ := hrel
   obtain ⟨wr36, hwq⟩ : ∃ x, x = wr := ⟨_, rfl⟩
   subst hwq
   have hcc := HCC36.out.trans hcx
   have hbb := HShbb36.out.chg hcx (by decide)
   have hTake := take_len verB 430 b.vers HLV.out
   by_cases hlt : k36 < b.vers.length
   ·have HSO4 := hid (show O2 ++ (b.vers.take (k36 + 1)).flatMap verB = (O2 ++ (b.vers.take k36).flatMap verB) ++ verB b.vers[k36] by rw [flat_take _ _ _ hlt, List.append_assoc])
    obtain ⟨O4, hO4⟩ : ∃ O, O = O2 ++ (b.vers.take k36).flatMap verB := ⟨_, rfl⟩
    rw [← hO4] at hw HSO4
    have HLO4 := hid (show O4.length ≤ 25809 by
     rw [hO4, List.length_append]
     have := HLO2.out
     have := hTake k36
     omega)
    clear hO4 hTake
    obtain ⟨eb, eo, Av, cv, Am, cm, hA, heb, hrow, hV⟩ := (HI.out.sx.chg (RVer.mono (by decide) (by decide)) (by decide) (hcc.down hBw)).ver hlt
    subst hA
    obtain ⟨v, hv⟩ : ∃ v, v = b.vers[k36] := ⟨_, rfl⟩
    rw [← hv] at hrow hV HSO4
    have HVO := hid (show VerOk v by rw [hv]; exact HOK.out.vers _ (List.getElem_mem hlt))
    have hsz : ([.string v.id, .int .i64 v.dot.site, .int .i64 v.dot.count, .int .i64 v.pt.tags, .int .i64 v.pt.num, .int .i64 v.body, .slice Av v.past.vec.length cv, .slice Am v.past.more.length cm] : List Value).length = 8 := rfl
    have hbv := Blk.new wr36 151 #[.string v.id, .int .i64 v.dot.site, .int .i64 v.dot.count, .int .i64 v.pt.tags, .int .i64 v.pt.num, .int .i64 v.body, .slice Av v.past.vec.length cv, .slice Am v.past.more.length cm]
    have hxv := (Ext.refl wr36).alloc (.cells #[.string v.id, .int .i64 v.dot.site, .int .i64 v.dot.count, .int .i64 v.pt.tags, .int .i64 v.pt.num, .int .i64 v.body, .slice Av v.past.vec.length cv, .slice Am v.past.more.length cm] 151)
    clear hv heb
    go_wp2_with ((with_reducible refine wpList_loadL (o := ⟨some 39, _, _, _, _, _⟩) ri_ver _ rfl rfl rfl hrow hsz ?_))
    clear hrow hsz
    replace hV := hV.ext hxv
    replace hbb := hbb.ext hxv
    replace hcc := hcc.trans (Chg.of_ext hxv)
    replace hcx := hcx.trans (Chg.of_ext hxv)
    replace hw := hw.ext hxv
    obtain ⟨ev, hev⟩ : ∃ x, x = wr36.heap.size := ⟨_, rfl⟩
    obtain ⟨wv, hwv⟩ : ∃ x, x = wr36.alloc (.cells #[.string v.id, .int .i64 v.dot.site, .int .i64 v.dot.count, .int .i64 v.pt.tags, .int .i64 v.pt.num, .int .i64 v.body, .slice Av v.past.vec.length cv, .slice Am v.past.more.length cm] 151) := ⟨_, rfl⟩
    rw [← hwv] at hV hbb hcc hcx hw
    rw [← hwv, ← hev] at hbv
    rw [← hwv, ← hev]
    clear hwv hev hxv
    refine (wire_text w.heap.size p v.id O4 _ hw (by have := (textB_len HVO.out.id).2; omega) (by have := HLO4.out; omega)).mono ?_
    rintro e w5 ⟨rfl, hwn, hc⟩
    replace hcc := hcc.trans hc
    replace hcx := hcx.trans hc
    replace hbb := hbb.chg hc (by decide)
    replace hbv := hbv.chg hc (by decide)
    replace hV := hV.chg (hc.down hBw) (by decide) (by decide)
    obtain ⟨O6, hO6⟩ : ∃ O, O = O4 ++ textB v.id := ⟨_, rfl⟩
    rw [← hO6] at hwn
    have HO6 := hid hO6
    have HLO6 := hid (show O6.length ≤ 25820 by
     rw [hO6, List.length_append]
     have := HLO4.out
     have := (textB_len HVO.out.id).1
     omega)
    clear hw
    have hw := hwn
    clear hwn hc hO6
    have z1 := hbv.cell (i := 1) (u := .int .i64 v.dot.site) rfl
    have z2 := hbv.cell (i := 2) (u := .int .i64 v.dot.count) rfl
    have z3 := hbv.cell (i := 3) (u := .int .i64 v.pt.tags) rfl
    have z4 := hbv.cell (i := 4) (u := .int .i64 v.pt.num) rfl
    have z5 := hbv.cell (i := 5) (u := .int .i64 v.body) rfl
    go_wp2_with fail
    have hxa := (Ext.refl w5).alloc (.cells #[.int .i64 v.dot.site, .int .i64 v.dot.count, .int .i64 v.pt.tags, .int .i64 v.pt.num, .int .i64 v.body] 3)
    refine (wire_nums w.heap.size p _ 5 [v.dot.site, v.dot.count, v.pt.tags, v.pt.num, v.body] O6 _ (hw.ext hxa) (ints_lit w.heap.size [v.dot.site, v.dot.count, v.pt.tags, v.pt.num, v.body] rfl rfl rfl) (by have := HLO6.out; simp; omega) (by have h1 := dotOk_iff.1 HVO.out.dot; have h2 := pt_bounds HVO.out.pt; have h3 := body_bounds HVO.out.body; simp; omega)).mono ?_
    rintro e w7 ⟨rfl, hwn, hc⟩
    replace hc := (Chg.of_ext (B := w.heap.size) (ts := [5, 213]) hxa).trans hc
    replace hcc := hcc.trans hc
    replace hcx := hcx.trans hc
    replace hbb := hbb.chg hc (by decide)
    replace hbv := hbv.chg hc (by decide)
    replace hV := hV.chg (hc.down hBw) (by decide) (by decide)
    obtain ⟨O8, hO8⟩ : ∃ O, O = O6 ++ nums [v.dot.site, v.dot.count, v.pt.tags, v.pt.num, v.body] := ⟨_, rfl⟩
    rw [← hO8] at hwn
    have HO8 := hid hO8
    have HLO8 := hid (show O8.length ≤ 25835 by
     rw [hO8, List.length_append]
     have := HLO6.out
     have : (nums [v.dot.site, v.dot.count, v.pt.tags, v.pt.num, v.body]).length = 15 := by rw [nums_len]; rfl
     omega)
    clear hw
    have hw := hwn
    clear hwn hc hO8 hxa
    clear z1 z2 z3 z4 z5
    have z6 := hbv.cell (i := 6) (u := .slice Av v.past.vec.length cv) rfl
    have z7 := hbv.cell (i := 7) (u := .slice Am v.past.more.length cm) rfl
    go_wp2_with fail
    clear z6 z7
    refine (wire_know w.heap.size p B v.past Av cv Am cm O8 _ hw hBw hV.k HVO.out.k (by have := HLO8.out; omega)).mono ?_
    rintro e w9 ⟨rfl, hwn, hc⟩
    replace hcc := hcc.trans hc
    replace hcx := hcx.trans hc
    replace hbb := hbb.chg hc (by decide)
    replace hbv := hbv.chg hc (by decide)
    replace hV := hV.chg (hc.down hBw) (by decide) (by decide)
    obtain ⟨O10, hO10⟩ : ∃ O, O = O8 ++ knowB v.past := ⟨_, rfl⟩
    rw [← hO10] at hwn
    have HO10 := hid hO10
    have HLO10 := hid (show O10.length ≤ 26235 by
     rw [hO10, List.length_append]
     have := HLO8.out
     have := knowB_len HVO.out.k
     omega)
    clear hw
    have hw := hwn
    clear hwn hc hO10
    have hwe : Wr w.heap.size p w9 (O4 ++ verB v) := by
     rw [verB, ← List.append_assoc, ← List.append_assoc, ← HO6.out, ← HO8.out, ← HO10.out]
     exact hw
    rw [← HSO4.out] at hwe
    go_wp2_with fail
    go_roundw
    case rel => exact ⟨k36 + 1, hlt, by go_num, hwe, hcx⟩
    case measure => simp [intOf]; omega
   ·obtain rfl : k36 = b.vers.length := by omega
    rw [List.take_length] at hw
    obtain ⟨O11, hO11⟩ : ∃ O, O = O2 ++ b.vers.flatMap verB := ⟨_, rfl⟩
    rw [← hO11] at hw
    have HO11 := hid hO11
    have HLO11 := hid (show O11.length ≤ 25809 by
     rw [hO11, List.length_append]
     have := HLO2.out
     have h1 := hTake b.vers.length
     rw [List.take_length] at h1
     omega)
    clear hO11 hTake hk hlt hcx
    have y0 := hbb.cell (i := 3) (u := .slice Ag b.gone.length cg) rfl
    go_wp2_with fail
    have hxa := (Ext.refl wr36).alloc (.cells #[.int .i64 (b.gone.length : Int)] 3)
    refine (wire_nums w.heap.size p _ 1 [(b.gone.length : Int)] O11 _ (hw.ext hxa) (ints_lit w.heap.size [(b.gone.length : Int)] rfl rfl rfl) (by have := HLO11.out; simp; omega) (by simp; omega)).mono ?_
    rintro e w12 ⟨rfl, hwn, hc⟩
    replace hc := (Chg.of_ext (B := w.heap.size) (ts := [5, 213]) hxa).trans hc
    replace hcc := hcc.trans hc
    replace hbb := hbb.chg hc (by decide)
    obtain ⟨O13, hO13⟩ : ∃ O, O = O11 ++ nums [(b.gone.length : Int)] := ⟨_, rfl⟩
    rw [← hO13] at hwn
    have HO13 := hid hO13
    have HLO13 := hid (show O13.length ≤ 25812 by
     rw [hO13, List.length_append]
     have := HLO11.out
     have : (nums [(b.gone.length : Int)]).length = 3 := by rw [nums_len]; rfl
     omega)
    have hw := hwn
    clear hwn hc hO13 hxa
    clear y0
    have y0 := hbb.cell (i := 3) (u := .slice Ag b.gone.length cg) rfl
    go_wp2_with fail
    clear y0
    have HShbb75 := hid hbb
    have HCC75 := hid hcc
    go_loopw [75] (fun i wr => ∃ k75 : Nat, k75 ≤ b.gone.length ∧ i = .int .i64 k75 ∧ Wr w.heap.size p wr (O13 ++ (b.gone.take k75).flatMap goneB) ∧ Chg w.heap.size [5, 213] w12 wr) (fun i _ => b.gone.length - (intOf i).toNat)
    case atStart => exact ⟨0, Nat.zero_le _, rfl, by simpa using hw, Chg.refl _⟩
    case round =>
     clear hw hcc hbb
     obtain ⟨k75, hk, rfl, hw, hcx⟩ := hrel
     obtain ⟨wr75, hwq⟩ : ∃ x, x = wr := ⟨_, rfl⟩
     subst hwq
     have hcc := HCC75.out.trans hcx
     have hbb := HShbb75.out.chg hcx (by decide)
     have hTake := take_len goneB 430 b.gone HLG.out
     by_cases hlt : k75 < b.gone.length
     ·have HSO15 := hid (show O13 ++ (b.gone.take (k75 + 1)).flatMap goneB = (O13 ++ (b.gone.take k75).flatMap goneB) ++ goneB b.gone[k75] by rw [flat_take _ _ _ hlt, List.append_assoc])
      obtain ⟨O15, hO15⟩ : ∃ O, O = O13 ++ (b.gone.take k75).flatMap goneB := ⟨_, rfl⟩
      rw [← hO15] at hw HSO15
      have HLO15 := hid (show O15.length ≤ 51612 by
       rw [hO15, List.length_append]
       have := HLO13.out
       have := hTake k75
       omega)
      clear hO15 hTake
      obtain ⟨eb, eo, Av, cv, Am, cm, hA, heb, hrow, hV⟩ := (HI.out.sg.chg (RGone.mono (by decide) (by decide)) (by decide) (hcc.down hBw)).gone hlt
      subst hA
      obtain ⟨v, hv⟩ : ∃ v, v = b.gone[k75] := ⟨_, rfl⟩
      rw [← hv] at hrow hV HSO15
      have HVO := hid (show GoneOk v by rw [hv]; exact HOK.out.gone _ (List.getElem_mem hlt))
      have hsz : ([.string v.id, .slice Av v.past.vec.length cv, .slice Am v.past.more.length cm] : List Value).length = 3 := rfl
      have hbv := Blk.new wr75 103 #[.string v.id, .slice Av v.past.vec.length cv, .slice Am v.past.more.length cm]
      have hxv := (Ext.refl wr75).alloc (.cells #[.string v.id, .slice Av v.past.vec.length cv, .slice Am v.past.more.length cm] 103)
      clear hv heb
      go_wp2_with ((with_reducible refine wpList_loadL (o := ⟨some 78, _, _, _, _, _⟩) ri_gone _ rfl rfl rfl hrow hsz ?_))
      clear hrow hsz
      replace hV := hV.ext hxv
      replace hbb := hbb.ext hxv
      replace hcc := hcc.trans (Chg.of_ext hxv)
      replace hcx := hcx.trans (Chg.of_ext hxv)
      replace hw := hw.ext hxv
      obtain ⟨ev, hev⟩ : ∃ x, x = wr75.heap.size := ⟨_, rfl⟩
      obtain ⟨wv, hwv⟩ : ∃ x, x = wr75.alloc (.cells #[.string v.id, .slice Av v.past.vec.length cv, .slice Am v.past.more.length cm] 103) := ⟨_, rfl⟩
      rw [← hwv] at hV hbb hcc hcx hw
      rw [← hwv, ← hev] at hbv
      rw [← hwv, ← hev]
      clear hwv hev hxv
      refine (wire_text w.heap.size p v.id O15 _ hw (by have := (textB_len HVO.out.id).2; omega) (by have := HLO15.out; omega)).mono ?_
      rintro e w16 ⟨rfl, hwn, hc⟩
      replace hcc := hcc.trans hc
      replace hcx := hcx.trans hc
      replace hbb := hbb.chg hc (by decide)
      replace hbv := hbv.chg hc (by decide)
      replace hV := hV.chg (hc.down hBw) (by decide) (by decide)
      obtain ⟨O17, hO17⟩ : ∃ O, O = O15 ++ textB v.id := ⟨_, rfl⟩
      rw [← hO17] at hwn
      have HO17 := hid hO17
      have HLO17 := hid (show O17.length ≤ 51623 by
       rw [hO17, List.length_append]
       have := HLO15.out
       have := (textB_len HVO.out.id).1
       omega)
      clear hw
      have hw := hwn
      clear hwn hc hO17
      have z6 := hbv.cell (i := 1) (u := .slice Av v.past.vec.length cv) rfl
      have z7 := hbv.cell (i := 2) (u := .slice Am v.past.more.length cm) rfl
      go_wp2_with fail
      clear z6 z7
      refine (wire_know w.heap.size p B v.past Av cv Am cm O17 _ hw hBw hV.k HVO.out.k (by have := HLO17.out; omega)).mono ?_
      rintro e w18 ⟨rfl, hwn, hc⟩
      replace hcc := hcc.trans hc
      replace hcx := hcx.trans hc
      replace hbb := hbb.chg hc (by decide)
      replace hbv := hbv.chg hc (by decide)
      replace hV := hV.chg (hc.down hBw) (by decide) (by decide)
      obtain ⟨O19, hO19⟩ : ∃ O, O = O17 ++ knowB v.past := ⟨_, rfl⟩
      rw [← hO19] at hwn
      have HO19 := hid hO19
      have HLO19 := hid (show O19.length ≤ 52023 by
       rw [hO19, List.length_append]
       have := HLO17.out
       have := knowB_len HVO.out.k
       omega)
      clear hw
      have hw := hwn
      clear hwn hc hO19
      have hwe : Wr w.heap.size p w18 (O15 ++ goneB v) := by
       rw [goneB, ← List.append_assoc, ← HO17.out, ← HO19.out]
       exact hw
      rw [← HSO15.out] at hwe
      go_wp2_with fail
      go_roundw
      case rel => exact ⟨k75 + 1, hlt, by go_num, hwe, hcx⟩
      case measure => simp [intOf]; omega
     ·obtain rfl : k75 = b.gone.length := by omega
      rw [List.take_length] at hw
      obtain ⟨O20, hO20⟩ : ∃ O, O = O13 ++ b.gone.flatMap goneB := ⟨_, rfl⟩
      rw [← hO20] at hw
      have HO20 := hid hO20
      have HLO20 := hid (show O20.length ≤ 51612 by
       rw [hO20, List.length_append]
       have := HLO13.out
       have h1 := hTake b.gone.length
       rw [List.take_length] at h1
       omega)
      clear hO20 hTake hk hlt hcx
      have y0 := hbb.cell (i := 4) (u := .slice Ap b.parts.length cp) rfl
      go_wp2_with fail
      have hxa := (Ext.refl wr75).alloc (.cells #[.int .i64 (b.parts.length : Int)] 3)
      refine (wire_nums w.heap.size p _ 1 [(b.parts.length : Int)] O20 _ (hw.ext hxa) (ints_lit w.heap.size [(b.parts.length : Int)] rfl rfl rfl) (by have := HLO20.out; simp; omega) (by simp; omega)).mono ?_
      rintro e w21 ⟨rfl, hwn, hc⟩
      replace hc := (Chg.of_ext (B := w.heap.size) (ts := [5, 213]) hxa).trans hc
      replace hcc := hcc.trans hc
      replace hbb := hbb.chg hc (by decide)
      obtain ⟨O22, hO22⟩ : ∃ O, O = O20 ++ nums [(b.parts.length : Int)] := ⟨_, rfl⟩
      rw [← hO22] at hwn
      have HO22 := hid hO22
      have HLO22 := hid (show O22.length ≤ 51615 by
       rw [hO22, List.length_append]
       have := HLO20.out
       have : (nums [(b.parts.length : Int)]).length = 3 := by rw [nums_len]; rfl
       omega)
      have hw := hwn
      clear hwn hc hO22 hxa
      clear y0
      have y0 := hbb.cell (i := 4) (u := .slice Ap b.parts.length cp) rfl
      go_wp2_with fail
      clear y0
      have HShbb97 := hid hbb
      have HCC97 := hid hcc
      go_loopw [97] (fun i wr => ∃ k97 : Nat, k97 ≤ b.parts.length ∧ i = .int .i64 k97 ∧ Wr w.heap.size p wr (O22 ++ (b.parts.take k97).flatMap partB) ∧ Chg w.heap.size [5, 213] w21 wr) (fun i _ => b.parts.length - (intOf i).toNat)
      case atStart => exact ⟨0, Nat.zero_le _, rfl, by simpa using hw, Chg.refl _⟩
      case round =>
       clear hw hcc hbb
       obtain ⟨k97, hk, rfl, hw, hcx⟩ := hrel
       obtain ⟨wr97, hwq⟩ : ∃ x, x = wr := ⟨_, rfl⟩
       subst hwq
       have hcc := HCC97.out.trans hcx
       have hbb := HShbb97.out.chg hcx (by decide)
       have hTake := take_len partB 4603 b.parts HLP.out
       by_cases hlt : k97 < b.parts.length
       ·have HSO24 := hid (show O22 ++ (b.parts.take (k97 + 1)).flatMap partB = (O22 ++ (b.parts.take k97).flatMap partB) ++ partB b.parts[k97] by rw [flat_take _ _ _ hlt, List.append_assoc])
        obtain ⟨O24, hO24⟩ : ∃ O, O = O22 ++ (b.parts.take k97).flatMap partB := ⟨_, rfl⟩
        rw [← hO24] at hw HSO24
        have HLO24 := hid (show O24.length ≤ 189705 by
         rw [hO24, List.length_append]
         have := HLO22.out
         have := hTake k97
         omega)
        clear hO24 hTake
        have hlt0 := hlt
        obtain ⟨eb, eo, Af, cf, Av, cv, Am, cm, hA, heb, g0, g1, g2, hV⟩ := (HI.out.sp.chg (RPart.mono (by decide) (by decide) (by decide) (by decide)) (by decide) (hcc.down hBw)).part hlt
        subst hA
        obtain ⟨v, hv⟩ : ∃ v, v = b.parts[k97] := ⟨_, rfl⟩
        rw [← hv] at g0 g1 g2 hV HSO24
        have HVO := hid (show PartOk v by rw [hv]; exact HOK.out.parts _ (List.getElem_mem hlt))
        have HFO := hid (filterCheck_ok HVO.out.f)
        have hf40 : v.filter.length ≤ 40 := HFO.out.1
        have HLB := hid (fun x hx => boxB_len (HFO.out.2 x hx))
        have hbv := Blk.new wr97 181 #[.slice Af v.filter.length cf, .slice Av v.know.vec.length cv, .slice Am v.know.more.length cm]
        have hxv := (Ext.refl wr97).alloc (.cells #[.slice Af v.filter.length cf, .slice Av v.know.vec.length cv, .slice Am v.know.more.length cm] 181)
        clear hv heb
        go_wp2_with fail
        have hxa := ((Ext.refl wr97).alloc (.cells #[.slice Af v.filter.length cf, .slice Av v.know.vec.length cv, .slice Am v.know.more.length cm] 181)).alloc (.cells #[.int .i64 (v.filter.length : Int)] 3)
        replace hbv := hbv.ext ((Ext.refl _).alloc (.cells #[.int .i64 v.filter.length] 3))
        replace hbb := hbb.ext hxa
        replace hV := hV.ext hxa
        clear g0 g1 g2
        obtain ⟨ev, hev⟩ : ∃ x, x = wr97.heap.size := ⟨_, rfl⟩
        rw [← hev] at hbv
        clear hxv
        refine (wire_nums w.heap.size p _ 1 [(v.filter.length : Int)] O24 _ (hw.ext hxa) (ints_lit w.heap.size [(v.filter.length : Int)] rfl (World.size_alloc _ _).symm rfl) (by have := HLO24.out; simp; omega) (by simp; omega)).mono ?_
        rintro e w25 ⟨rfl, hwn, hc⟩
        rw [← hev]
        clear hev
        replace hbv := hbv.chg hc (by decide)
        replace hbb := hbb.chg hc (by decide)
        replace hV := hV.chg (hc.down hBw) (by decide) (by decide) (by decide) (by decide)
        replace hc := (Chg.of_ext (B := w.heap.size) (ts := [5, 213]) hxa).trans hc
        replace hcc := hcc.trans hc
        replace hcx := hcx.trans hc
        obtain ⟨O26, hO26⟩ : ∃ O, O = O24 ++ nums [(v.filter.length : Int)] := ⟨_, rfl⟩
        rw [← hO26] at hwn
        have HO26 := hid hO26
        have HLO26 := hid (show O26.length ≤ 189708 by
         rw [hO26, List.length_append]
         have := HLO24.out
         have : (nums [(v.filter.length : Int)]).length = 3 := by rw [nums_len]; rfl
         omega)
        clear hw
        have hw := hwn
        clear hwn hc hO26 hxa
        have z0 := hbv.cell (i := 0) (u := .slice Af v.filter.length cf) rfl
        go_wp2_with fail
        clear z0
        have HCXO24 := hid hcx
        clear hcx
        have HShbb110 := hid hbb
        have HShbv110 := hid hbv
        have HShV110 := hid hV
        have HCC110 := hid hcc
        go_loopw [110] (fun i wr => ∃ k110 : Nat, k110 ≤ v.filter.length ∧ i = .int .i64 k110 ∧ Wr w.heap.size p wr (O26 ++ (v.filter.take k110).flatMap boxB) ∧ Chg w.heap.size [5, 213] w25 wr) (fun i _ => v.filter.length - (intOf i).toNat)
        case atStart => exact ⟨0, Nat.zero_le _, rfl, by simpa using hw, Chg.refl _⟩
        case round =>
         clear hw hcc hbb hbv hV
         obtain ⟨k110, hk, rfl, hw, hcx⟩ := hrel
         obtain ⟨wr110, hwq⟩ : ∃ x, x = wr := ⟨_, rfl⟩
         subst hwq
         have hcc := HCC110.out.trans hcx
         have hbb := HShbb110.out.chg hcx (by decide)
         have hbv := HShbv110.out.chg hcx (by decide)
         have hV := HShV110.out.chg (hcx.down hBw) (by decide) (by decide) (by decide) (by decide)
         have hTake := take_len boxB 105 v.filter HLB.out
         by_cases hlt : k110 < v.filter.length
         ·have HSO28 := hid (show O26 ++ (v.filter.take (k110 + 1)).flatMap boxB = (O26 ++ (v.filter.take k110).flatMap boxB) ++ boxB v.filter[k110] by rw [flat_take _ _ _ hlt, List.append_assoc])
          obtain ⟨O28, hO28⟩ : ∃ O, O = O26 ++ (v.filter.take k110).flatMap boxB := ⟨_, rfl⟩
          rw [← hO28] at hw HSO28
          have HLO28 := hid (show O28.length ≤ 193908 by
           rw [hO28, List.length_append]
           have := HLO26.out
           have := hTake k110
           omega)
          clear hO28 hTake
          have hlt1 := hlt
          obtain ⟨fb, fo, As, cs, hAf, hfb, f0, f1, f2, hsl, hS⟩ := hV.sf.box hlt
          subst hAf
          obtain ⟨x, hx⟩ : ∃ x, x = v.filter[k110] := ⟨_, rfl⟩
          rw [← hx] at f0 f1 f2 hsl hS HSO28
          have HXO := hid (box_nums (show BoxOk x by rw [hx]; exact HFO.out.2 _ (List.getElem_mem hlt)))
          have hs16 : x.spans.length ≤ 16 := HXO.out.2.2.1
          have hbx := Blk.new wr110 142 #[.int .i64 x.cube.yes, .int .i64 x.cube.no, .slice As x.spans.length cs]
          clear hx hfb
          go_wp2_with fail
          have hxa := ((Ext.refl wr110).alloc (.cells #[.int .i64 x.cube.yes, .int .i64 x.cube.no, .slice As x.spans.length cs] 142)).alloc (.cells #[.int .i64 x.cube.yes, .int .i64 x.cube.no, .int .i64 (x.spans.length : Int)] 3)
          replace hbx := hbx.ext ((Ext.refl _).alloc (.cells #[.int .i64 x.cube.yes, .int .i64 x.cube.no, .int .i64 x.spans.length] 3))
          replace hbb := hbb.ext hxa
          replace hbv := hbv.ext hxa
          replace hV := hV.ext hxa
          replace hS := hS.ext RPair.mono hxa
          clear f0 f1 f2
          obtain ⟨ex, hex⟩ : ∃ y, y = wr110.heap.size := ⟨_, rfl⟩
          rw [← hex] at hbx
          refine (wire_nums w.heap.size p _ 3 [x.cube.yes, x.cube.no, (x.spans.length : Int)] O28 _ (hw.ext hxa) (ints_lit w.heap.size [x.cube.yes, x.cube.no, (x.spans.length : Int)] rfl (World.size_alloc _ _).symm rfl) (by have := HLO28.out; simp; omega) (by have := HXO.out.1; have := HXO.out.2.1; simp; omega)).mono ?_
          rintro e w29 ⟨rfl, hwn, hc⟩
          rw [← hex]
          clear hex
          replace hbx := hbx.chg hc (by decide)
          replace hbv := hbv.chg hc (by decide)
          replace hbb := hbb.chg hc (by decide)
          replace hV := hV.chg (hc.down hBw) (by decide) (by decide) (by decide) (by decide)
          replace hS := hS.chg RPair.mono (by decide) (hc.down hBw)
          replace hc := (Chg.of_ext (B := w.heap.size) (ts := [5, 213]) hxa).trans hc
          replace hcc := hcc.trans hc
          replace hcx := hcx.trans hc
          obtain ⟨O30, hO30⟩ : ∃ O, O = O28 ++ nums [x.cube.yes, x.cube.no, (x.spans.length : Int)] := ⟨_, rfl⟩
          rw [← hO30] at hwn
          have HO30 := hid hO30
          have HLO30 := hid (show O30.length ≤ 193917 by
           rw [hO30, List.length_append]
           have := HLO28.out
           have : (nums [x.cube.yes, x.cube.no, (x.spans.length : Int)]).length = 9 := by rw [nums_len]; rfl
           omega)
          clear hw
          have hw := hwn
          clear hwn hc hO30 hxa
          have z0 := hbx.cell (i := 2) (u := .slice As x.spans.length cs) rfl
          go_wp2_with fail
          clear z0
          have HCXO28 := hid hcx
          clear hcx
          have HShbb129 := hid hbb
          have HShbv129 := hid hbv
          have HShV129 := hid hV
          have HShbx129 := hid hbx
          have HShS129 := hid hS
          have HCC129 := hid hcc
          go_loopw [129] (fun i wr => ∃ k129 : Nat, k129 ≤ x.spans.length ∧ i = .int .i64 k129 ∧ Wr w.heap.size p wr (O30 ++ (x.spans.take k129).flatMap (fun s => nums [s.fr, s.to])) ∧ Chg w.heap.size [5, 213] w29 wr) (fun i _ => x.spans.length - (intOf i).toNat)
          case atStart => exact ⟨0, Nat.zero_le _, rfl, by simpa using hw, Chg.refl _⟩
          case round =>
           clear hw hcc hbb hbv hV hbx hS
           obtain ⟨k129, hk, rfl, hw, hcx⟩ := hrel
           obtain ⟨wr129, hwq⟩ : ∃ x, x = wr := ⟨_, rfl⟩
           subst hwq
           have hcc := HCC129.out.trans hcx
           have hbb := HShbb129.out.chg hcx (by decide)
           have hbv := HShbv129.out.chg hcx (by decide)
           have hV := HShV129.out.chg (hcx.down hBw) (by decide) (by decide) (by decide) (by decide)
           have hbx := HShbx129.out.chg hcx (by decide)
           have hS := HShS129.out.chg RPair.mono (by decide) (hcx.down hBw)
           have hTake := take_len (fun s => nums [s.fr, s.to]) 6 x.spans (fun s _ => Nat.le_of_eq (nums_len [s.fr, s.to]))
           by_cases hlt : k129 < x.spans.length
           ·have HSO32 := hid (show O30 ++ (x.spans.take (k129 + 1)).flatMap (fun s => nums [s.fr, s.to]) = (O30 ++ (x.spans.take k129).flatMap (fun s => nums [s.fr, s.to])) ++ (fun s => nums [s.fr, s.to]) x.spans[k129] by rw [flat_take _ _ _ hlt, List.append_assoc])
            obtain ⟨O32, hO32⟩ : ∃ O, O = O30 ++ (x.spans.take k129).flatMap (fun s => nums [s.fr, s.to]) := ⟨_, rfl⟩
            rw [← hO32] at hw HSO32
            have HLO32 := hid (show O32.length ≤ 194013 by
             rw [hO32, List.length_append]
             have := HLO30.out
             have := hTake k129
             omega)
            clear hO32 hTake
            obtain ⟨sb, so, hAs, hsb, e0, e1⟩ := hS.pair hlt
            subst hAs
            obtain ⟨u, hu⟩ : ∃ u, u = x.spans[k129] := ⟨_, rfl⟩
            rw [← hu] at e0 e1 HSO32
            have HUO := hid (HXO.out.2.2.2 u (by rw [hu]; exact List.getElem_mem hlt))
            clear hu hsb
            go_wp2_with fail
            have hxa := ((Ext.refl wr129).alloc (.cells #[.int .i64 u.fr, .int .i64 u.to] 137)).alloc (.cells #[.int .i64 u.fr, .int .i64 u.to] 3)
            clear e0 e1
            refine (wire_nums w.heap.size p _ 2 [u.fr, u.to] O32 _ (hw.ext hxa) (ints_lit w.heap.size [u.fr, u.to] rfl (World.size_alloc _ _).symm rfl) (by have := HLO32.out; simp; omega) (by have := HUO.out; simp; omega)).mono ?_
            rintro e w33 ⟨rfl, hwn, hc⟩
            replace hc := (Chg.of_ext (B := w.heap.size) (ts := [5, 213]) hxa).trans hc
            replace hcc := hcc.trans hc
            replace hcx := hcx.trans hc
            replace hbb := hbb.chg hc (by decide)
            replace hbv := hbv.chg hc (by decide)
            replace hV := hV.chg (hc.down hBw) (by decide) (by decide) (by decide) (by decide)
            replace hbx := hbx.chg hc (by decide)
            replace hS := hS.chg RPair.mono (by decide) (hc.down hBw)
            obtain ⟨O34, hO34⟩ : ∃ O, O = O32 ++ nums [u.fr, u.to] := ⟨_, rfl⟩
            rw [← hO34] at hwn
            have HO34 := hid hO34
            have HLO34 := hid (show O34.length ≤ 194019 by
             rw [hO34, List.length_append]
             have := HLO32.out
             have : (nums [u.fr, u.to]).length = 6 := by rw [nums_len]; rfl
             omega)
            clear hw
            have hw := hwn
            clear hwn hc hO34 hxa
            have hwe := hw
            rw [HO34.out, ← HSO32.out] at hwe
            go_wp2_with fail
            go_roundw
            case rel => exact ⟨k129 + 1, hlt, by go_num, hwe, hcx⟩
            case measure => simp [intOf]; omega
           ·obtain rfl : k129 = x.spans.length := by omega
            rw [List.take_length] at hw
            obtain ⟨O35, hO35⟩ : ∃ O, O = O30 ++ x.spans.flatMap (fun s => nums [s.fr, s.to]) := ⟨_, rfl⟩
            rw [← hO35] at hw
            have HO35 := hid hO35
            have HLO35 := hid (show O35.length ≤ 194013 by
             rw [hO35, List.length_append]
             have := HLO30.out
             have h1 := hTake x.spans.length
             rw [List.take_length] at h1
             omega)
            clear hO35 hTake hk hlt
            have hcy := HCXO28.out.trans hcx
            clear hcx
            have hcx := hcy
            clear hcy
            have hwe : Wr w.heap.size p wr129 (O28 ++ boxB x) := by
             rw [boxB, spansB, ← List.append_assoc, ← HO30.out, ← HO35.out]
             exact hw
            rw [← HSO28.out] at hwe
            go_wp2_with fail
            go_roundw
            case rel => exact ⟨k110 + 1, hlt1, by go_num, hwe, hcx⟩
            case measure => simp [intOf]; omega
         ·obtain rfl : k110 = v.filter.length := by omega
          rw [List.take_length] at hw
          obtain ⟨O36, hO36⟩ : ∃ O, O = O26 ++ v.filter.flatMap boxB := ⟨_, rfl⟩
          rw [← hO36] at hw
          have HO36 := hid hO36
          have HLO36 := hid (show O36.length ≤ 193908 by
           rw [hO36, List.length_append]
           have := HLO26.out
           have h1 := hTake v.filter.length
           rw [List.take_length] at h1
           omega)
          clear hO36 hTake hk hlt
          have hcy := HCXO24.out.trans hcx
          clear hcx
          have hcx := hcy
          clear hcy
          have z6 := hbv.cell (i := 1) (u := .slice Av v.know.vec.length cv) rfl
          have z7 := hbv.cell (i := 2) (u := .slice Am v.know.more.length cm) rfl
          go_wp2_with fail
          clear z6 z7
          refine (wire_know w.heap.size p B v.know Av cv Am cm O36 _ hw hBw hV.k HVO.out.k (by have := HLO36.out; omega)).mono ?_
          rintro e w37 ⟨rfl, hwn, hc⟩
          replace hcc := hcc.trans hc
          replace hcx := hcx.trans hc
          replace hbb := hbb.chg hc (by decide)
          replace hbv := hbv.chg hc (by decide)
          replace hV := hV.chg (hc.down hBw) (by decide) (by decide) (by decide) (by decide)
          obtain ⟨O38, hO38⟩ : ∃ O, O = O36 ++ knowB v.know := ⟨_, rfl⟩
          rw [← hO38] at hwn
          have HO38 := hid hO38
          have HLO38 := hid (show O38.length ≤ 194308 by
           rw [hO38, List.length_append]
           have := HLO36.out
           have := knowB_len HVO.out.k
           omega)
          clear hw
          have hw := hwn
          clear hwn hc hO38
          have hwe : Wr w.heap.size p w37 (O24 ++ partB v) := by
           rw [partB, boxesB, ← List.append_assoc, ← List.append_assoc, show three v.filter.length = nums [(v.filter.length : Int)] by simp [nums], ← HO26.out, ← HO36.out, ← HO38.out]
           exact hw
          rw [← HSO24.out] at hwe
          go_wp2_with fail
          go_roundw
          case rel => exact ⟨k97 + 1, hlt0, by go_num, hwe, hcx⟩
          case measure => simp [intOf]; omega
       ·obtain rfl : k97 = b.parts.length := by omega
        rw [List.take_length] at hw
        obtain ⟨O39, hO39⟩ : ∃ O, O = O22 ++ b.parts.flatMap partB := ⟨_, rfl⟩
        rw [← hO39] at hw
        have HO39 := hid hO39
        have HLO39 := hid (show O39.length ≤ 189705 by
         rw [hO39, List.length_append]
         have := HLO22.out
         have h1 := hTake b.parts.length
         rw [List.take_length] at h1
         omega)
        clear hO39 hTake hk hlt hcx
        have HBody := hid (show O39 = bodyB b by
         rw [HO39.out, HO22.out, HO20.out, HO13.out, HO11.out, HO2.out, HO0'.out]
         simp [bodyB, nums, List.append_assoc])
        obtain ⟨hp, vv, hbp, hov⟩ := hw
        obtain ⟨Aw, cw, rfl, _, _⟩ := hov.len
        have y0 := hbp.cell (i := 0) (u := .slice Aw O39.length cw) rfl
        have hcv : (convert 211 9 (.slice Aw O39.length cw)).run Tryz.prog wr97 = .ok (.string (bstr O39)) wr97 := run_bytes_string hov
        go_wp2_with fail
        refine (wire_Sum (bstr O39) (by rw [bstr_size]; have := HLO39.out; omega) _).mono ?_
        rintro e wq ⟨rfl, rfl⟩
        rw [bstr_data]
        have hw : Wr w.heap.size p wq O39 := ⟨hp, _, hbp, hov⟩
        clear hcv
        go_wp2_with fail
        have hxa := (Ext.refl wq).alloc (.cells #[.int .i64 (sumB O39)] 3)
        refine (wire_nums w.heap.size p _ 1 [(sumB O39)] O39 _ (hw.ext hxa) (ints_lit w.heap.size [(sumB O39)] rfl rfl rfl) (by have := HLO39.out; simp; omega) (by have := sumB_range O39; simp; omega)).mono ?_
        rintro e w40 ⟨rfl, hwn, hc⟩
        replace hc := (Chg.of_ext (B := w.heap.size) (ts := [5, 213]) hxa).trans hc
        replace hcc := hcc.trans hc
        obtain ⟨O41, hO41⟩ : ∃ O, O = O39 ++ nums [(sumB O39)] := ⟨_, rfl⟩
        rw [← hO41] at hwn
        have HO41 := hid hO41
        have HLO41 := hid (show O41.length ≤ 189708 by
         rw [hO41, List.length_append]
         have := HLO39.out
         have : (nums [(sumB O39)]).length = 3 := by rw [nums_len]; rfl
         omega)
        have hw := hwn
        clear hwn hc hO41 hxa
        obtain ⟨_, v2, hbp2, hov2⟩ := hw
        obtain ⟨A2, c2, rfl, _, _⟩ := hov2.len
        clear hbp hov y0
        have y0 := hbp2.cell (i := 0) (u := .slice A2 O41.length c2) rfl
        have HPk := hid (show packB b = O41 by
         rw [HO41.out, packB, ← HBody.out]
         simp [nums])
        have hxe := hcc.ext (Nat.le_refl _)
        by_cases hm : O41.length ≤ 20000
        ·have hd : decide ((20000 : Int) < O41.length) = false := decide_eq_false (by omega)
         have HE2 := hid (show packErr b = 0 by rw [HE1.out, HPk.out, if_pos hm])
         have HO2 := hid (show packOut b = bstr O41 by rw [HO0.out, if_pos HE2.out, HPk.out])
         have hcv : (convert 211 9 (.slice A2 O41.length c2)).run Tryz.prog w40 = .ok (.string (bstr O41)) w40 := run_bytes_string hov2
         clear hm
         go_wp2_with fail
         go_ret2
         exact ⟨ret_str HO2.out.symm HE2.out.symm, hxe⟩
        ·have hd : decide ((20000 : Int) < O41.length) = true := decide_eq_true (by omega)
         have HE2 := hid (show packErr b = 2 by rw [HE1.out, HPk.out, if_neg hm])
         have HO2 := hid (show packOut b = ⟨#[]⟩ by rw [HO0.out, if_neg (by rw [HE2.out]; decide)])
         clear hm
         go_wp2_with fail
         go_ret2
         exact ⟨ret_str HO2.out.symm HE2.out.symm, hxe⟩
 ·have hne : (wireErr b != 0) = true := by simpa using h0
  have HE1 := hid (show packErr b = wireErr b by rw [HE0.out, if_neg h0])
  have HO1 := hid (show packOut b = ⟨#[]⟩ by rw [HO0.out, if_neg (by rw [HE1.out]; exact h0)])
  clear h0
  go_wp2_with fail
  go_ret2
  exact ⟨ret_str HO1.out.symm HE1.out.symm, hx⟩
end Go.Proofs.YtngbfdogiciahaaGreat
