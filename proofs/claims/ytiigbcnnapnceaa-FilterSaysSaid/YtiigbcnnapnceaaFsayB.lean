/- The walk of the law FilterSays, where the second filter may not be. -/
import Derived.Test.YtiigbcnnapnceaaFilH
import Derived.Test.YtiigbcnnapnceaaFilM
import Derived.Test.YtiigbcnnapnceaaFsayQ
import Derived.Test.YtiigbcnnapnceaaQext
namespace Go.Proofs.Ytiigbcnnapnceaa
open Go Go.RowKit

set_option maxRecDepth 100000 in
set_option maxHeartbeats 8000000 in
theorem law_FilterSays_two0 (B : Nat) (A A' : Option Addr) (c c' : Nat) (f g : List Box) (p : Point) (w : World) (hB : B ≤ w.heap.size) (hlf : f.length ≤ maxLen) (hlg : g.length ≤ maxLen) (hsf : SlBoxes B w A f) (hsg : SlBoxes B w A' g) (h0 : filterCheck f = 0) (hp : pointOk p = false) (h1 : filterCheck g ≠ 0) :
    Calls Try.prog 6 #[.slice A f.length c, .slice A' g.length c', .agg #[.int .i64 p.tags, .int .i64 p.num]] w fun e w' => e = .returned (.bool true) ∧ Ext w w' := by
  have HOf := hid (filterCheck_ok h0).2
  have hN : filterCount f = countTo (pts f) 512 := count_pts h0
  have hT : filterTwo f g = filterCheck g := by rw [filterTwo, if_pos h0]
  have hW : filterNone less32 f g = false := filterNone_err (by rw [hT]; exact h1)
  have hS : filterNone (fun a b => a ^^^ b) f g = false := filterNone_err (by rw [hT]; exact h1)
  have e1 : (filterCheck g != 0) = true := by simpa using h1
  have e2 : (filterCheck g == 0) = false := by simpa using h1
  clear h1
  have hHe : filterHasErr f p = 1 := by rw [filterHasErr, if_pos h0, hp]; rfl
  have hH : filterHas f p = false := by rw [filterHas, hHe]; rfl
  obtain ⟨E, hE⟩ : ∃ E, everyF = E := ⟨_, rfl⟩
  have HE1 := hid (show E.length ≤ maxLen by rw [← hE]; decide)
  have hE0 : filterCheck E = 0 := by rw [← hE]; exact every_check
  have hEl : decide ((16 : Int) < (E.length : Int)) = false := by rw [← hE]; rfl
  have HE2 := hid (filterCheck_ok hE0).2
  have hEp : rowB 512 (pts E) = rowB 512 (fun _ => true) := rowB_congr fun i hi => by rw [← hE, every_pts i hi]
  have hMany : countTo (fun _ => true) 512 = 512 := count_true 512
  have hz0 : pointOk ⟨0, 0⟩ = true := by decide
  go_enter Try.func6, Try.ntmps6
  go_wp2_with fail
  have hx0 := (Ext.refl w).alloc (.cells #[.int .i64 p.tags, .int .i64 p.num] 59)
  have hsf0 := hid hsf
  have hsg0 := hid hsg
  refine (filter_Has B A c f p _ hlf (hsf.ext RBox.monoE hx0)).mono ?_
  rintro e w1 ⟨rfl, hx⟩
  have q1 : w1.cell? ⟨w.heap.size, 0, none⟩ = some (.int .i64 p.tags) := hx.cell (by go_simp)
  have q2 : w1.cell? ⟨w.heap.size, 1, none⟩ = some (.int .i64 p.num) := hx.cell (by go_simp)
  have hx1 := hx0.trans hx
  have hz : w.heap.size < w1.heap.size := World.block_lt_of_cell? _ _ q1
  replace hsf := hsf.ext RBox.monoE hx1
  replace hsg := hsg.ext RBox.monoE hx1
  replace hB := Nat.le_trans hB hx1.size
  clear hx hx0 hsf0 hsg0
  go_wp2_with fail
  refine (filter_Within B A A' c c' f g _ hB hlf hlg hsf hsg).mono ?_
  rintro e w2 ⟨rfl, hx⟩
  replace q1 := hx.cell q1
  replace q2 := hx.cell q2
  replace hz := Nat.lt_of_lt_of_le hz hx.size
  replace hsf := hsf.ext RBox.monoE hx
  replace hsg := hsg.ext RBox.monoE hx
  replace hx1 := hx1.trans hx
  replace hB := Nat.le_trans hB hx.size
  clear hx
  go_wp2_with fail
  refine (filter_Same B A A' c c' f g _ hB hlf hlg hsf hsg).mono ?_
  rintro e w3 ⟨rfl, hx⟩
  replace q1 := hx.cell q1
  replace q2 := hx.cell q2
  replace hz := Nat.lt_of_lt_of_le hz hx.size
  replace hsf := hsf.ext RBox.monoE hx
  replace hsg := hsg.ext RBox.monoE hx
  replace hx1 := hx1.trans hx
  replace hB := Nat.le_trans hB hx.size
  clear hx
  go_wp2_with fail
  refine (filter_Count B A c f _ hlf hsf).mono ?_
  rintro e w4 ⟨rfl, hx⟩
  replace q1 := hx.cell q1
  replace q2 := hx.cell q2
  replace hz := Nat.lt_of_lt_of_le hz hx.size
  replace hsf := hsf.ext RBox.monoE hx
  replace hsg := hsg.ext RBox.monoE hx
  replace hx1 := hx1.trans hx
  replace hB := Nat.le_trans hB hx.size
  clear hx
  go_wp2_with fail
  refine (ref_Filter B A c f _ hlf hsf).mono ?_
  rintro e w5 ⟨rfl, hx⟩
  replace q1 := hx.cell q1
  replace q2 := hx.cell q2
  replace hz := Nat.lt_of_lt_of_le hz hx.size
  replace hsf := hsf.ext RBox.monoE hx
  replace hsg := hsg.ext RBox.monoE hx
  replace hx1 := hx1.trans hx
  replace hB := Nat.le_trans hB hx.size
  clear hx
  go_wp2_with fail
  refine (ref_Filter B A c f _ hlf hsf).mono ?_
  rintro e w6 ⟨rfl, hx⟩
  replace q1 := hx.cell q1
  replace q2 := hx.cell q2
  replace hz := Nat.lt_of_lt_of_le hz hx.size
  replace hsf := hsf.ext RBox.monoE hx
  replace hsg := hsg.ext RBox.monoE hx
  replace hx1 := hx1.trans hx
  replace hB := Nat.le_trans hB hx.size
  clear hx
  have HS := hid hsf
  have hd0 : Ext w6 w6.drew := (Ext.refl w6).drew
  go_upto_region 6 with fail
  go_region_held3 (fun w' => Ext w6 w' ∧ w'.cell? ⟨w.heap.size, 0, none⟩ = some (.int .i64 p.tags) ∧ w'.cell? ⟨w.heap.size, 1, none⟩ = some (.int .i64 p.num))
    (refine ⟨?_, ?_, ?_⟩ <;> first | go_keep | exact hyn | exact hxn.cell (by go_split_ands; assumption))
    (first
      | (go_at_call 39; refine (ref_Point p _).mono ?_; rintro e w8 ⟨rfl, hxn⟩; have hyn : Ext w6 w8 := Ext.trans (by go_split_ands; assumption) hxn)
      | (go_at_call 40; refine (filter_Check B A c f _ hlf (HS.out.ext RBox.monoE (by go_split_ands; assumption))).mono ?_; rintro e w9 ⟨rfl, hxn⟩; have hyn : Ext w6 w9 := Ext.trans (by go_split_ands; assumption) hxn)
      | (go_at_call_of 38 (Value.agg #[Value.int IntKind.i64 0, Value.int IntKind.i64 0]); refine (filter_Point ⟨0, 0⟩ _).mono ?_; rintro e w10 ⟨rfl, hxn⟩; have hyn : Ext w6 w10 := Ext.trans (by go_split_ands; assumption) hxn)
      | (go_at_call 38; refine (filter_Point p _).mono ?_; rintro e w7 ⟨rfl, hxn⟩; have hyn : Ext w6 w7 := Ext.trans (by go_split_ands; assumption) hxn))
  have hx := hyn
  clear HS hd0
  replace q1 := hx.cell q1
  replace q2 := hx.cell q2
  replace hz := Nat.lt_of_lt_of_le hz hx.size
  replace hsf := hsf.ext RBox.monoE hx
  replace hsg := hsg.ext RBox.monoE hx
  replace hx1 := hx1.trans hx
  replace hB := Nat.le_trans hB hx.size
  clear hx
  go_wp2_with fail
  refine (filter_Every B _ hB).mono ?_
  rintro e w11 ⟨v11, rfl, hv11, hx⟩
  rw [hE] at hv11
  obtain ⟨A1, c1, rfl, k1, m1, hs1⟩ := hv11
  replace q1 := hx.cell q1
  replace q2 := hx.cell q2
  replace hz := Nat.lt_of_lt_of_le hz hx.size
  replace hsf := hsf.ext RBox.monoE hx
  replace hsg := hsg.ext RBox.monoE hx
  replace hx1 := hx1.trans hx
  replace hB := Nat.le_trans hB hx.size
  clear hx
  go_wp2_with fail
  refine (ref_Filter B A1 c1 E _ HE1.out hs1).mono ?_
  rintro e w12 ⟨rfl, hx⟩
  replace q1 := hx.cell q1
  replace q2 := hx.cell q2
  replace hz := Nat.lt_of_lt_of_le hz hx.size
  replace hsf := hsf.ext RBox.monoE hx
  replace hsg := hsg.ext RBox.monoE hx
  replace hs1 := hs1.ext RBox.monoE hx
  replace hx1 := hx1.trans hx
  replace hB := Nat.le_trans hB hx.size
  clear hx
  go_wp2_with fail
  refine (ref_Of B A1 c1 E _ HE1.out HE2.out hs1).mono ?_
  rintro e w13 ⟨rfl, hx⟩
  replace q1 := hx.cell q1
  replace q2 := hx.cell q2
  replace hz := Nat.lt_of_lt_of_le hz hx.size
  replace hsf := hsf.ext RBox.monoE hx
  replace hsg := hsg.ext RBox.monoE hx
  replace hx1 := hx1.trans hx
  replace hB := Nat.le_trans hB hx.size
  clear hx
  rw [hEp]
  go_wp2_with fail
  refine (ref_Many _ _).mono ?_
  rintro e w14 ⟨rfl, hx⟩
  replace q1 := hx.cell q1
  replace q2 := hx.cell q2
  replace hz := Nat.lt_of_lt_of_le hz hx.size
  replace hsf := hsf.ext RBox.monoE hx
  replace hsg := hsg.ext RBox.monoE hx
  replace hx1 := hx1.trans hx
  replace hB := Nat.le_trans hB hx.size
  clear hx
  go_wp2_with fail
  refine (ref_Filter B A' c' g _ hlg hsg).mono ?_
  rintro e w15 ⟨rfl, hx⟩
  replace q1 := hx.cell q1
  replace q2 := hx.cell q2
  replace hz := Nat.lt_of_lt_of_le hz hx.size
  replace hsf := hsf.ext RBox.monoE hx
  replace hsg := hsg.ext RBox.monoE hx
  replace hx1 := hx1.trans hx
  replace hB := Nat.le_trans hB hx.size
  clear hx
  go_wp2_with fail
  refine (ref_Of B A c f _ hlf HOf.out hsf).mono ?_
  rintro e w16 ⟨rfl, hx⟩
  replace q1 := hx.cell q1
  replace q2 := hx.cell q2
  replace hz := Nat.lt_of_lt_of_le hz hx.size
  replace hsf := hsf.ext RBox.monoE hx
  replace hsg := hsg.ext RBox.monoE hx
  replace hx1 := hx1.trans hx
  replace hB := Nat.le_trans hB hx.size
  clear hx
  obtain ⟨x, hxx⟩ : ∃ x, pts f = x := ⟨_, rfl⟩
  rw [hxx]
  go_upto_region 16 with (first
    | ((with_reducible refine wpList_allocArr (o := ⟨some 18, _, _, _, _, _⟩) zi_points rfl rfl ?_); intro w17 hx17 hb17 hs17)
    | ((with_reducible refine at_op none (.store _ (.tmp 18) _) ?_); refine wpList_storeArr ai_points _ _ rfl rfl rfl rfl hb17 (rowB_size _ _) (rowB_size _ _) (rowB_all _ _) ?_; intro w18 hx18 hbx hs18 ho18))
  have hx : Ext w16 w18 := hx17.below hx18 (Nat.le_refl _)
  clear hx17 hb17 hx18 hs18 ho18
  replace q1 := hx.cell q1
  replace q2 := hx.cell q2
  replace hz := Nat.lt_of_lt_of_le hz hx.size
  replace hsf := hsf.ext RBox.monoE hx
  replace hsg := hsg.ext RBox.monoE hx
  replace hx1 := hx1.trans hx
  replace hB := Nat.le_trans hB hx.size
  clear hx
  go_wp2_with (first
    | ((with_reducible refine wpList_loadArr (o := ⟨some 124, _, _, _, _, _⟩) ai_points _ rfl rfl rfl hbx (rowB_size _ _) ?_))
    | ((with_reducible refine wp_loadArr (o := ⟨some 124, _, _, _, _, _⟩) ai_points _ rfl rfl hbx (rowB_size _ _) ?_)))
  refine (ref_Many _ _).mono ?_
  rintro e w19 ⟨rfl, hx⟩
  replace q1 := hx.cell q1
  replace q2 := hx.cell q2
  replace hz := Nat.lt_of_lt_of_le hz hx.size
  replace hsf := hsf.ext RBox.monoE hx
  replace hsg := hsg.ext RBox.monoE hx
  replace hx1 := hx1.trans hx
  replace hbx := hbx.ext hx
  replace hB := Nat.le_trans hB hx.size
  clear hx
  go_wp2_with fail
  refine (ref_Point p _).mono ?_
  rintro e w20 ⟨rfl, hx⟩
  replace q1 := hx.cell q1
  replace q2 := hx.cell q2
  replace hz := Nat.lt_of_lt_of_le hz hx.size
  replace hsf := hsf.ext RBox.monoE hx
  replace hsg := hsg.ext RBox.monoE hx
  replace hx1 := hx1.trans hx
  replace hbx := hbx.ext hx
  replace hB := Nat.le_trans hB hx.size
  clear hx
  go_wp2_with fail
  go_ret
  exact ⟨ret_bool (by simp), hx1⟩

set_option maxRecDepth 100000 in
set_option maxHeartbeats 8000000 in
theorem law_FilterSays_two1 (B : Nat) (A A' : Option Addr) (c c' : Nat) (f g : List Box) (p : Point) (w : World) (hB : B ≤ w.heap.size) (hlf : f.length ≤ maxLen) (hlg : g.length ≤ maxLen) (hsf : SlBoxes B w A f) (hsg : SlBoxes B w A' g) (h0 : filterCheck f = 0) (hp : pointOk p = true) (h1 : filterCheck g ≠ 0) :
    Calls Try.prog 6 #[.slice A f.length c, .slice A' g.length c', .agg #[.int .i64 p.tags, .int .i64 p.num]] w fun e w' => e = .returned (.bool true) ∧ Ext w w' := by
  have HOf := hid (filterCheck_ok h0).2
  have hN : filterCount f = countTo (pts f) 512 := count_pts h0
  have hT : filterTwo f g = filterCheck g := by rw [filterTwo, if_pos h0]
  have hW : filterNone less32 f g = false := filterNone_err (by rw [hT]; exact h1)
  have hS : filterNone (fun a b => a ^^^ b) f g = false := filterNone_err (by rw [hT]; exact h1)
  have e1 : (filterCheck g != 0) = true := by simpa using h1
  have e2 : (filterCheck g == 0) = false := by simpa using h1
  clear h1
  have hHe : filterHasErr f p = 0 := by rw [filterHasErr, if_pos h0, hp]; rfl
  obtain ⟨bh, hbh⟩ : ∃ b, pts f (32 * p.tags + p.num).toNat = b := ⟨_, rfl⟩
  have hH : filterHas f p = bh := by rw [filterHas, hHe, ← hbh, filterIn_pts f hp]; rfl
  have HP := hid hp
  have HBH := hid hbh
  clear hbh
  obtain ⟨E, hE⟩ : ∃ E, everyF = E := ⟨_, rfl⟩
  have HE1 := hid (show E.length ≤ maxLen by rw [← hE]; decide)
  have hE0 : filterCheck E = 0 := by rw [← hE]; exact every_check
  have hEl : decide ((16 : Int) < (E.length : Int)) = false := by rw [← hE]; rfl
  have HE2 := hid (filterCheck_ok hE0).2
  have hEp : rowB 512 (pts E) = rowB 512 (fun _ => true) := rowB_congr fun i hi => by rw [← hE, every_pts i hi]
  have hMany : countTo (fun _ => true) 512 = 512 := count_true 512
  have hz0 : pointOk ⟨0, 0⟩ = true := by decide
  go_enter Try.func6, Try.ntmps6
  go_wp2_with fail
  have hx0 := (Ext.refl w).alloc (.cells #[.int .i64 p.tags, .int .i64 p.num] 59)
  have hsf0 := hid hsf
  have hsg0 := hid hsg
  refine (filter_Has B A c f p _ hlf (hsf.ext RBox.monoE hx0)).mono ?_
  rintro e w1 ⟨rfl, hx⟩
  have q1 : w1.cell? ⟨w.heap.size, 0, none⟩ = some (.int .i64 p.tags) := hx.cell (by go_simp)
  have q2 : w1.cell? ⟨w.heap.size, 1, none⟩ = some (.int .i64 p.num) := hx.cell (by go_simp)
  have hx1 := hx0.trans hx
  have hz : w.heap.size < w1.heap.size := World.block_lt_of_cell? _ _ q1
  replace hsf := hsf.ext RBox.monoE hx1
  replace hsg := hsg.ext RBox.monoE hx1
  replace hB := Nat.le_trans hB hx1.size
  clear hx hx0 hsf0 hsg0
  go_wp2_with fail
  refine (filter_Within B A A' c c' f g _ hB hlf hlg hsf hsg).mono ?_
  rintro e w2 ⟨rfl, hx⟩
  replace q1 := hx.cell q1
  replace q2 := hx.cell q2
  replace hz := Nat.lt_of_lt_of_le hz hx.size
  replace hsf := hsf.ext RBox.monoE hx
  replace hsg := hsg.ext RBox.monoE hx
  replace hx1 := hx1.trans hx
  replace hB := Nat.le_trans hB hx.size
  clear hx
  go_wp2_with fail
  refine (filter_Same B A A' c c' f g _ hB hlf hlg hsf hsg).mono ?_
  rintro e w3 ⟨rfl, hx⟩
  replace q1 := hx.cell q1
  replace q2 := hx.cell q2
  replace hz := Nat.lt_of_lt_of_le hz hx.size
  replace hsf := hsf.ext RBox.monoE hx
  replace hsg := hsg.ext RBox.monoE hx
  replace hx1 := hx1.trans hx
  replace hB := Nat.le_trans hB hx.size
  clear hx
  go_wp2_with fail
  refine (filter_Count B A c f _ hlf hsf).mono ?_
  rintro e w4 ⟨rfl, hx⟩
  replace q1 := hx.cell q1
  replace q2 := hx.cell q2
  replace hz := Nat.lt_of_lt_of_le hz hx.size
  replace hsf := hsf.ext RBox.monoE hx
  replace hsg := hsg.ext RBox.monoE hx
  replace hx1 := hx1.trans hx
  replace hB := Nat.le_trans hB hx.size
  clear hx
  go_wp2_with fail
  refine (ref_Filter B A c f _ hlf hsf).mono ?_
  rintro e w5 ⟨rfl, hx⟩
  replace q1 := hx.cell q1
  replace q2 := hx.cell q2
  replace hz := Nat.lt_of_lt_of_le hz hx.size
  replace hsf := hsf.ext RBox.monoE hx
  replace hsg := hsg.ext RBox.monoE hx
  replace hx1 := hx1.trans hx
  replace hB := Nat.le_trans hB hx.size
  clear hx
  go_wp2_with fail
  refine (ref_Filter B A c f _ hlf hsf).mono ?_
  rintro e w6 ⟨rfl, hx⟩
  replace q1 := hx.cell q1
  replace q2 := hx.cell q2
  replace hz := Nat.lt_of_lt_of_le hz hx.size
  replace hsf := hsf.ext RBox.monoE hx
  replace hsg := hsg.ext RBox.monoE hx
  replace hx1 := hx1.trans hx
  replace hB := Nat.le_trans hB hx.size
  clear hx
  have HS := hid hsf
  have hd0 : Ext w6 w6.drew := (Ext.refl w6).drew
  go_upto_region 6 with fail
  go_region_held3 (fun w' => Ext w6 w' ∧ w'.cell? ⟨w.heap.size, 0, none⟩ = some (.int .i64 p.tags) ∧ w'.cell? ⟨w.heap.size, 1, none⟩ = some (.int .i64 p.num))
    (refine ⟨?_, ?_, ?_⟩ <;> first | go_keep | exact hyn | exact hxn.cell (by go_split_ands; assumption))
    (first
      | (go_at_call 39; refine (ref_Point p _).mono ?_; rintro e w8 ⟨rfl, hxn⟩; have hyn : Ext w6 w8 := Ext.trans (by go_split_ands; assumption) hxn)
      | (go_at_call 40; refine (filter_Check B A c f _ hlf (HS.out.ext RBox.monoE (by go_split_ands; assumption))).mono ?_; rintro e w9 ⟨rfl, hxn⟩; have hyn : Ext w6 w9 := Ext.trans (by go_split_ands; assumption) hxn)
      | (go_at_call_of 38 (Value.agg #[Value.int IntKind.i64 0, Value.int IntKind.i64 0]); refine (filter_Point ⟨0, 0⟩ _).mono ?_; rintro e w10 ⟨rfl, hxn⟩; have hyn : Ext w6 w10 := Ext.trans (by go_split_ands; assumption) hxn)
      | (go_at_call 38; refine (filter_Point p _).mono ?_; rintro e w7 ⟨rfl, hxn⟩; have hyn : Ext w6 w7 := Ext.trans (by go_split_ands; assumption) hxn))
  have hx := hyn
  clear HS hd0
  replace q1 := hx.cell q1
  replace q2 := hx.cell q2
  replace hz := Nat.lt_of_lt_of_le hz hx.size
  replace hsf := hsf.ext RBox.monoE hx
  replace hsg := hsg.ext RBox.monoE hx
  replace hx1 := hx1.trans hx
  replace hB := Nat.le_trans hB hx.size
  clear hx
  go_wp2_with fail
  refine (filter_Every B _ hB).mono ?_
  rintro e w11 ⟨v11, rfl, hv11, hx⟩
  rw [hE] at hv11
  obtain ⟨A1, c1, rfl, k1, m1, hs1⟩ := hv11
  replace q1 := hx.cell q1
  replace q2 := hx.cell q2
  replace hz := Nat.lt_of_lt_of_le hz hx.size
  replace hsf := hsf.ext RBox.monoE hx
  replace hsg := hsg.ext RBox.monoE hx
  replace hx1 := hx1.trans hx
  replace hB := Nat.le_trans hB hx.size
  clear hx
  go_wp2_with fail
  refine (ref_Filter B A1 c1 E _ HE1.out hs1).mono ?_
  rintro e w12 ⟨rfl, hx⟩
  replace q1 := hx.cell q1
  replace q2 := hx.cell q2
  replace hz := Nat.lt_of_lt_of_le hz hx.size
  replace hsf := hsf.ext RBox.monoE hx
  replace hsg := hsg.ext RBox.monoE hx
  replace hs1 := hs1.ext RBox.monoE hx
  replace hx1 := hx1.trans hx
  replace hB := Nat.le_trans hB hx.size
  clear hx
  go_wp2_with fail
  refine (ref_Of B A1 c1 E _ HE1.out HE2.out hs1).mono ?_
  rintro e w13 ⟨rfl, hx⟩
  replace q1 := hx.cell q1
  replace q2 := hx.cell q2
  replace hz := Nat.lt_of_lt_of_le hz hx.size
  replace hsf := hsf.ext RBox.monoE hx
  replace hsg := hsg.ext RBox.monoE hx
  replace hx1 := hx1.trans hx
  replace hB := Nat.le_trans hB hx.size
  clear hx
  rw [hEp]
  go_wp2_with fail
  refine (ref_Many _ _).mono ?_
  rintro e w14 ⟨rfl, hx⟩
  replace q1 := hx.cell q1
  replace q2 := hx.cell q2
  replace hz := Nat.lt_of_lt_of_le hz hx.size
  replace hsf := hsf.ext RBox.monoE hx
  replace hsg := hsg.ext RBox.monoE hx
  replace hx1 := hx1.trans hx
  replace hB := Nat.le_trans hB hx.size
  clear hx
  go_wp2_with fail
  refine (ref_Filter B A' c' g _ hlg hsg).mono ?_
  rintro e w15 ⟨rfl, hx⟩
  replace q1 := hx.cell q1
  replace q2 := hx.cell q2
  replace hz := Nat.lt_of_lt_of_le hz hx.size
  replace hsf := hsf.ext RBox.monoE hx
  replace hsg := hsg.ext RBox.monoE hx
  replace hx1 := hx1.trans hx
  replace hB := Nat.le_trans hB hx.size
  clear hx
  go_wp2_with fail
  refine (ref_Of B A c f _ hlf HOf.out hsf).mono ?_
  rintro e w16 ⟨rfl, hx⟩
  replace q1 := hx.cell q1
  replace q2 := hx.cell q2
  replace hz := Nat.lt_of_lt_of_le hz hx.size
  replace hsf := hsf.ext RBox.monoE hx
  replace hsg := hsg.ext RBox.monoE hx
  replace hx1 := hx1.trans hx
  replace hB := Nat.le_trans hB hx.size
  clear hx
  obtain ⟨x, hxx⟩ : ∃ x, pts f = x := ⟨_, rfl⟩
  rw [hxx]
  go_upto_region 16 with (first
    | ((with_reducible refine wpList_allocArr (o := ⟨some 18, _, _, _, _, _⟩) zi_points rfl rfl ?_); intro w17 hx17 hb17 hs17)
    | ((with_reducible refine at_op none (.store _ (.tmp 18) _) ?_); refine wpList_storeArr ai_points _ _ rfl rfl rfl rfl hb17 (rowB_size _ _) (rowB_size _ _) (rowB_all _ _) ?_; intro w18 hx18 hbx hs18 ho18))
  have hx : Ext w16 w18 := hx17.below hx18 (Nat.le_refl _)
  clear hx17 hb17 hx18 hs18 ho18
  replace q1 := hx.cell q1
  replace q2 := hx.cell q2
  replace hz := Nat.lt_of_lt_of_le hz hx.size
  replace hsf := hsf.ext RBox.monoE hx
  replace hsg := hsg.ext RBox.monoE hx
  replace hx1 := hx1.trans hx
  replace hB := Nat.le_trans hB hx.size
  clear hx
  go_wp2_with (first
    | ((with_reducible refine wpList_loadArr (o := ⟨some 124, _, _, _, _, _⟩) ai_points _ rfl rfl rfl hbx (rowB_size _ _) ?_))
    | ((with_reducible refine wp_loadArr (o := ⟨some 124, _, _, _, _, _⟩) ai_points _ rfl rfl hbx (rowB_size _ _) ?_)))
  refine (ref_Many _ _).mono ?_
  rintro e w19 ⟨rfl, hx⟩
  replace q1 := hx.cell q1
  replace q2 := hx.cell q2
  replace hz := Nat.lt_of_lt_of_le hz hx.size
  replace hsf := hsf.ext RBox.monoE hx
  replace hsg := hsg.ext RBox.monoE hx
  replace hx1 := hx1.trans hx
  replace hbx := hbx.ext hx
  replace hB := Nat.le_trans hB hx.size
  clear hx
  go_wp2_with fail
  refine (ref_Point p _).mono ?_
  rintro e w20 ⟨rfl, hx⟩
  replace q1 := hx.cell q1
  replace q2 := hx.cell q2
  replace hz := Nat.lt_of_lt_of_le hz hx.size
  replace hsf := hsf.ext RBox.monoE hx
  replace hsg := hsg.ext RBox.monoE hx
  replace hx1 := hx1.trans hx
  replace hbx := hbx.ext hx
  replace hB := Nat.le_trans hB hx.size
  clear hx
  go_wp2_with (first
    | ((with_reducible refine wpList_loadArr (o := ⟨some 140, _, _, _, _, _⟩) ai_points _ rfl rfl rfl hbx (rowB_size _ _) ?_))
    | ((with_reducible refine wp_loadArr (o := ⟨some 140, _, _, _, _, _⟩) ai_points _ rfl rfl hbx (rowB_size _ _) ?_)))
  refine (ref_At x p HP.out _).mono ?_
  rintro e w21 ⟨rfl, hx⟩
  rw [show x (32 * p.tags + p.num).toNat = bh by rw [← hxx]; exact HBH.out]
  replace q1 := hx.cell q1
  replace q2 := hx.cell q2
  replace hz := Nat.lt_of_lt_of_le hz hx.size
  replace hsf := hsf.ext RBox.monoE hx
  replace hsg := hsg.ext RBox.monoE hx
  replace hx1 := hx1.trans hx
  replace hbx := hbx.ext hx
  replace hB := Nat.le_trans hB hx.size
  clear hx
  go_wp2_with fail
  go_ret
  exact ⟨ret_bool (by simp), hx1⟩

end Go.Proofs.Ytiigbcnnapnceaa
