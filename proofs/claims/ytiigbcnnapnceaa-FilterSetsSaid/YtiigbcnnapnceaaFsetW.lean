/- The walk of the law FilterSets. -/
import Derived.Test.YtiigbcnnapnceaaFilE
import Derived.Test.YtiigbcnnapnceaaFilM
namespace Go.Proofs.Ytiigbcnnapnceaa
open Go Go.RowKit

theorem fset1 (a b : Bool) (wn : World) : Calls Try.prog 31 #[.bool a, .bool b] wn fun e w' => e = .returned (.bool (a || b)) ∧ wn = w' := by
  cases a
  all_goals
    go_enter Try.func31, Try.ntmps31
    go_wp2_with fail
    go_ret
    exact ⟨ret_bool (by simp), rfl⟩
theorem fset2 (a b : Bool) (wn : World) : Calls Try.prog 32 #[.bool a, .bool b] wn fun e w' => e = .returned (.bool (a && b)) ∧ wn = w' := by
  cases a
  all_goals
    go_enter Try.func32, Try.ntmps32
    go_wp2_with fail
    go_ret
    exact ⟨ret_bool (by simp), rfl⟩
theorem fset3 (a b : Bool) (wn : World) : Calls Try.prog 33 #[.bool a, .bool b] wn fun e w' => e = .returned (.bool (a && !b)) ∧ wn = w' := by
  cases a
  all_goals
    go_enter Try.func33, Try.ntmps33
    go_wp2_with fail
    go_ret
    exact ⟨ret_bool (by simp), rfl⟩

set_option maxRecDepth 100000 in
set_option maxHeartbeats 8000000 in
theorem law_FilterSets_one (B : Nat) (A A' : Option Addr) (c c' : Nat) (f g : List Box) (w : World) (hB : B ≤ w.heap.size) (hlf : f.length ≤ maxLen) (hlg : g.length ≤ maxLen) (hsf : SlBoxes B w A f) (hsg : SlBoxes B w A' g) (h0 : filterCheck f ≠ 0) :
    Calls Try.prog 5 #[.slice A f.length c, .slice A' g.length c'] w fun e w' => e = .returned (.bool true) ∧ Ext w w' := by
  have hW : filterTwo f g ≠ 0 := by rw [filterTwo, if_neg h0]; exact h0
  have hJ : filterOp (fun a b => a ||| b) f g = [] := filterOp_err hW
  have hM : filterOp (fun a b => a &&& b) f g = [] := filterOp_err hW
  have hL : filterOp less32 f g = [] := filterOp_err hW
  have hT : filterTwo f g = filterCheck f := by rw [filterTwo, if_neg h0]
  have e1 : (filterCheck f != 0) = true := by simpa using h0
  have e2 : (filterCheck f == 0) = false := by simpa using h0
  clear hW h0
  obtain ⟨E, hE⟩ : ∃ E, everyF = E := ⟨_, rfl⟩
  have HE1 := hid (show E.length ≤ maxLen by rw [← hE]; decide)
  have hE2 : filterTwo E [] = 0 := by rw [← hE]; decide +kernel
  obtain ⟨X, hXX⟩ : ∃ X, filterOp less32 E [] = X := ⟨_, rfl⟩
  have hsay := filterOp_says bits_less hE2
  have HX1 := hid (show X.length ≤ maxLen by have := hsay.len; rw [hXX] at this; unfold maxLen; omega)
  have hX0 : filterCheck X = 0 := by rw [← hXX]; exact hsay.ok
  have HX2 := hid (filterCheck_ok hX0).2
  have hXp : rowB 512 (pts X) = rowB 512 (fun _ => true) := rowB_congr fun i hi => by
    rw [← hXX, hsay.pts i hi, ← hE, every_pts i hi]
    rfl
  have hMany : countTo (fun _ => true) 512 = 512 := count_true 512
  clear hsay
  go_enter Try.func5, Try.ntmps5
  go_wp2_with fail
  refine (filter_Join B A A' c c' f g _ hB hlf hlg hsf hsg).mono ?_
  rintro e w1 ⟨v1, rfl, hv1, hx⟩
  rw [hJ] at hv1
  obtain ⟨A1, c1, rfl, k1, m1, hs1⟩ := hv1
  have hx1 := hx
  replace hsf := hsf.ext RBox.monoE hx
  replace hsg := hsg.ext RBox.monoE hx
  replace hB := Nat.le_trans hB hx.size
  clear hx
  go_wp2_with fail
  refine (filter_Meet B A A' c c' f g _ hB hlf hlg hsf hsg).mono ?_
  rintro e w2 ⟨v2, rfl, hv2, hx⟩
  rw [hM] at hv2
  obtain ⟨A2, c2, rfl, k2, m2, hs2⟩ := hv2
  replace hsf := hsf.ext RBox.monoE hx
  replace hsg := hsg.ext RBox.monoE hx
  replace hs1 := hs1.ext RBox.monoE hx
  replace hx1 := hx1.trans hx
  replace hB := Nat.le_trans hB hx.size
  clear hx
  go_wp2_with fail
  refine (filter_Less B A A' c c' f g _ hB hlf hlg hsf hsg).mono ?_
  rintro e w3 ⟨v3, rfl, hv3, hx⟩
  rw [hL] at hv3
  obtain ⟨A3, c3, rfl, k3, m3, hs3⟩ := hv3
  replace hsf := hsf.ext RBox.monoE hx
  replace hsg := hsg.ext RBox.monoE hx
  replace hs1 := hs1.ext RBox.monoE hx
  replace hs2 := hs2.ext RBox.monoE hx
  replace hx1 := hx1.trans hx
  replace hB := Nat.le_trans hB hx.size
  clear hx
  go_wp2_with fail
  refine (filter_Every B _ hB).mono ?_
  rintro e w4 ⟨v4, rfl, hv4, hx⟩
  rw [hE] at hv4
  obtain ⟨A4, c4, rfl, k4, m4, hs4⟩ := hv4
  replace hsf := hsf.ext RBox.monoE hx
  replace hsg := hsg.ext RBox.monoE hx
  replace hs1 := hs1.ext RBox.monoE hx
  replace hs2 := hs2.ext RBox.monoE hx
  replace hs3 := hs3.ext RBox.monoE hx
  replace hx1 := hx1.trans hx
  replace hB := Nat.le_trans hB hx.size
  clear hx
  go_wp2_with fail
  refine (filter_Less B A4 none c4 0 E [] _ hB HE1.out (by decide) hs4 Sl.nil).mono ?_
  rintro e w5 ⟨v5, rfl, hv5, hx⟩
  rw [hXX] at hv5
  obtain ⟨A5, c5, rfl, k5, m5, hs5⟩ := hv5
  replace hsf := hsf.ext RBox.monoE hx
  replace hsg := hsg.ext RBox.monoE hx
  replace hs1 := hs1.ext RBox.monoE hx
  replace hs2 := hs2.ext RBox.monoE hx
  replace hs3 := hs3.ext RBox.monoE hx
  replace hx1 := hx1.trans hx
  replace hB := Nat.le_trans hB hx.size
  clear hx
  go_wp2_with fail
  refine (ref_Filter B A5 c5 X _ HX1.out hs5).mono ?_
  rintro e w6 ⟨rfl, hx⟩
  replace hsf := hsf.ext RBox.monoE hx
  replace hsg := hsg.ext RBox.monoE hx
  replace hs1 := hs1.ext RBox.monoE hx
  replace hs2 := hs2.ext RBox.monoE hx
  replace hs3 := hs3.ext RBox.monoE hx
  replace hs5 := hs5.ext RBox.monoE hx
  replace hx1 := hx1.trans hx
  replace hB := Nat.le_trans hB hx.size
  clear hx
  go_wp2_with fail
  refine (ref_Of B A5 c5 X _ HX1.out HX2.out hs5).mono ?_
  rintro e w7 ⟨rfl, hx⟩
  replace hsf := hsf.ext RBox.monoE hx
  replace hsg := hsg.ext RBox.monoE hx
  replace hs1 := hs1.ext RBox.monoE hx
  replace hs2 := hs2.ext RBox.monoE hx
  replace hs3 := hs3.ext RBox.monoE hx
  replace hs5 := hs5.ext RBox.monoE hx
  replace hx1 := hx1.trans hx
  replace hB := Nat.le_trans hB hx.size
  clear hx
  rw [hXp]
  go_wp2_with fail
  refine (ref_Many _ _).mono ?_
  rintro e w8 ⟨rfl, hx⟩
  replace hsf := hsf.ext RBox.monoE hx
  replace hsg := hsg.ext RBox.monoE hx
  replace hs1 := hs1.ext RBox.monoE hx
  replace hs2 := hs2.ext RBox.monoE hx
  replace hs3 := hs3.ext RBox.monoE hx
  replace hx1 := hx1.trans hx
  replace hB := Nat.le_trans hB hx.size
  clear hx
  go_wp2_with fail
  refine (ref_Filter B A c f _ hlf hsf).mono ?_
  rintro e w9 ⟨rfl, hx⟩
  replace hsf := hsf.ext RBox.monoE hx
  replace hsg := hsg.ext RBox.monoE hx
  replace hs1 := hs1.ext RBox.monoE hx
  replace hs2 := hs2.ext RBox.monoE hx
  replace hs3 := hs3.ext RBox.monoE hx
  replace hx1 := hx1.trans hx
  replace hB := Nat.le_trans hB hx.size
  clear hx
  go_wp2_with fail
  go_ret
  exact ⟨ret_bool (by simp), hx1⟩

set_option maxRecDepth 100000 in
set_option maxHeartbeats 8000000 in
theorem law_FilterSets_two (B : Nat) (A A' : Option Addr) (c c' : Nat) (f g : List Box) (w : World) (hB : B ≤ w.heap.size) (hlf : f.length ≤ maxLen) (hlg : g.length ≤ maxLen) (hsf : SlBoxes B w A f) (hsg : SlBoxes B w A' g) (h0 : filterCheck f = 0) (h1 : filterCheck g ≠ 0) :
    Calls Try.prog 5 #[.slice A f.length c, .slice A' g.length c'] w fun e w' => e = .returned (.bool true) ∧ Ext w w' := by
  have hT : filterTwo f g = filterCheck g := by rw [filterTwo, if_pos h0]
  have hW : filterTwo f g ≠ 0 := by rw [hT]; exact h1
  have hJ : filterOp (fun a b => a ||| b) f g = [] := filterOp_err hW
  have hM : filterOp (fun a b => a &&& b) f g = [] := filterOp_err hW
  have hL : filterOp less32 f g = [] := filterOp_err hW
  have e1 : (filterCheck g != 0) = true := by simpa using h1
  have e2 : (filterCheck g == 0) = false := by simpa using h1
  clear hW h1
  obtain ⟨E, hE⟩ : ∃ E, everyF = E := ⟨_, rfl⟩
  have HE1 := hid (show E.length ≤ maxLen by rw [← hE]; decide)
  have hE2 : filterTwo E [] = 0 := by rw [← hE]; decide +kernel
  obtain ⟨X, hXX⟩ : ∃ X, filterOp less32 E [] = X := ⟨_, rfl⟩
  have hsay := filterOp_says bits_less hE2
  have HX1 := hid (show X.length ≤ maxLen by have := hsay.len; rw [hXX] at this; unfold maxLen; omega)
  have hX0 : filterCheck X = 0 := by rw [← hXX]; exact hsay.ok
  have HX2 := hid (filterCheck_ok hX0).2
  have hXp : rowB 512 (pts X) = rowB 512 (fun _ => true) := rowB_congr fun i hi => by
    rw [← hXX, hsay.pts i hi, ← hE, every_pts i hi]
    rfl
  have hMany : countTo (fun _ => true) 512 = 512 := count_true 512
  clear hsay
  go_enter Try.func5, Try.ntmps5
  go_wp2_with fail
  refine (filter_Join B A A' c c' f g _ hB hlf hlg hsf hsg).mono ?_
  rintro e w1 ⟨v1, rfl, hv1, hx⟩
  rw [hJ] at hv1
  obtain ⟨A1, c1, rfl, k1, m1, hs1⟩ := hv1
  have hx1 := hx
  replace hsf := hsf.ext RBox.monoE hx
  replace hsg := hsg.ext RBox.monoE hx
  replace hB := Nat.le_trans hB hx.size
  clear hx
  go_wp2_with fail
  refine (filter_Meet B A A' c c' f g _ hB hlf hlg hsf hsg).mono ?_
  rintro e w2 ⟨v2, rfl, hv2, hx⟩
  rw [hM] at hv2
  obtain ⟨A2, c2, rfl, k2, m2, hs2⟩ := hv2
  replace hsf := hsf.ext RBox.monoE hx
  replace hsg := hsg.ext RBox.monoE hx
  replace hs1 := hs1.ext RBox.monoE hx
  replace hx1 := hx1.trans hx
  replace hB := Nat.le_trans hB hx.size
  clear hx
  go_wp2_with fail
  refine (filter_Less B A A' c c' f g _ hB hlf hlg hsf hsg).mono ?_
  rintro e w3 ⟨v3, rfl, hv3, hx⟩
  rw [hL] at hv3
  obtain ⟨A3, c3, rfl, k3, m3, hs3⟩ := hv3
  replace hsf := hsf.ext RBox.monoE hx
  replace hsg := hsg.ext RBox.monoE hx
  replace hs1 := hs1.ext RBox.monoE hx
  replace hs2 := hs2.ext RBox.monoE hx
  replace hx1 := hx1.trans hx
  replace hB := Nat.le_trans hB hx.size
  clear hx
  go_wp2_with fail
  refine (filter_Every B _ hB).mono ?_
  rintro e w4 ⟨v4, rfl, hv4, hx⟩
  rw [hE] at hv4
  obtain ⟨A4, c4, rfl, k4, m4, hs4⟩ := hv4
  replace hsf := hsf.ext RBox.monoE hx
  replace hsg := hsg.ext RBox.monoE hx
  replace hs1 := hs1.ext RBox.monoE hx
  replace hs2 := hs2.ext RBox.monoE hx
  replace hs3 := hs3.ext RBox.monoE hx
  replace hx1 := hx1.trans hx
  replace hB := Nat.le_trans hB hx.size
  clear hx
  go_wp2_with fail
  refine (filter_Less B A4 none c4 0 E [] _ hB HE1.out (by decide) hs4 Sl.nil).mono ?_
  rintro e w5 ⟨v5, rfl, hv5, hx⟩
  rw [hXX] at hv5
  obtain ⟨A5, c5, rfl, k5, m5, hs5⟩ := hv5
  replace hsf := hsf.ext RBox.monoE hx
  replace hsg := hsg.ext RBox.monoE hx
  replace hs1 := hs1.ext RBox.monoE hx
  replace hs2 := hs2.ext RBox.monoE hx
  replace hs3 := hs3.ext RBox.monoE hx
  replace hx1 := hx1.trans hx
  replace hB := Nat.le_trans hB hx.size
  clear hx
  go_wp2_with fail
  refine (ref_Filter B A5 c5 X _ HX1.out hs5).mono ?_
  rintro e w6 ⟨rfl, hx⟩
  replace hsf := hsf.ext RBox.monoE hx
  replace hsg := hsg.ext RBox.monoE hx
  replace hs1 := hs1.ext RBox.monoE hx
  replace hs2 := hs2.ext RBox.monoE hx
  replace hs3 := hs3.ext RBox.monoE hx
  replace hs5 := hs5.ext RBox.monoE hx
  replace hx1 := hx1.trans hx
  replace hB := Nat.le_trans hB hx.size
  clear hx
  go_wp2_with fail
  refine (ref_Of B A5 c5 X _ HX1.out HX2.out hs5).mono ?_
  rintro e w7 ⟨rfl, hx⟩
  replace hsf := hsf.ext RBox.monoE hx
  replace hsg := hsg.ext RBox.monoE hx
  replace hs1 := hs1.ext RBox.monoE hx
  replace hs2 := hs2.ext RBox.monoE hx
  replace hs3 := hs3.ext RBox.monoE hx
  replace hs5 := hs5.ext RBox.monoE hx
  replace hx1 := hx1.trans hx
  replace hB := Nat.le_trans hB hx.size
  clear hx
  rw [hXp]
  go_wp2_with fail
  refine (ref_Many _ _).mono ?_
  rintro e w8 ⟨rfl, hx⟩
  replace hsf := hsf.ext RBox.monoE hx
  replace hsg := hsg.ext RBox.monoE hx
  replace hs1 := hs1.ext RBox.monoE hx
  replace hs2 := hs2.ext RBox.monoE hx
  replace hs3 := hs3.ext RBox.monoE hx
  replace hx1 := hx1.trans hx
  replace hB := Nat.le_trans hB hx.size
  clear hx
  go_wp2_with fail
  refine (ref_Filter B A c f _ hlf hsf).mono ?_
  rintro e w9 ⟨rfl, hx⟩
  replace hsf := hsf.ext RBox.monoE hx
  replace hsg := hsg.ext RBox.monoE hx
  replace hs1 := hs1.ext RBox.monoE hx
  replace hs2 := hs2.ext RBox.monoE hx
  replace hs3 := hs3.ext RBox.monoE hx
  replace hx1 := hx1.trans hx
  replace hB := Nat.le_trans hB hx.size
  clear hx
  go_wp2_with fail
  refine (ref_Filter B A' c' g _ hlg hsg).mono ?_
  rintro e w10 ⟨rfl, hx⟩
  replace hsf := hsf.ext RBox.monoE hx
  replace hx1 := hx1.trans hx
  replace hB := Nat.le_trans hB hx.size
  clear hx
  go_wp2_with fail
  go_ret
  exact ⟨ret_bool (by simp), hx1⟩

set_option maxRecDepth 100000 in
set_option maxHeartbeats 8000000 in
theorem law_FilterSets_ok (B : Nat) (A A' : Option Addr) (c c' : Nat) (f g : List Box) (w : World) (hB : B ≤ w.heap.size) (hlf : f.length ≤ maxLen) (hlg : g.length ≤ maxLen) (hsf : SlBoxes B w A f) (hsg : SlBoxes B w A' g) (h0 : filterCheck f = 0) (h1 : filterCheck g = 0) :
    Calls Try.prog 5 #[.slice A f.length c, .slice A' g.length c'] w fun e w' => e = .returned (.bool true) ∧ Ext w w' := by
  have hT : filterTwo f g = 0 := by rw [filterTwo, if_pos h0]; exact h1
  have HOf := hid (filterCheck_ok h0).2
  have HOg := hid (filterCheck_ok h1).2
  obtain ⟨J, hJ⟩ : ∃ J, filterOp (fun a b => a ||| b) f g = J := ⟨_, rfl⟩
  have HJ := hid (show J.length ≤ 16 ∧ filterCheck J = 0 ∧ ∀ i, i < 512 → pts J i = (fun a b => a || b) (pts f i) (pts g i) from hJ ▸ ⟨(filterOp_says bits_or hT).len, (filterOp_says bits_or hT).ok, (filterOp_says bits_or hT).pts⟩)
  obtain ⟨M, hM⟩ : ∃ J, filterOp (fun a b => a &&& b) f g = J := ⟨_, rfl⟩
  have HM := hid (show M.length ≤ 16 ∧ filterCheck M = 0 ∧ ∀ i, i < 512 → pts M i = (fun a b => a && b) (pts f i) (pts g i) from hM ▸ ⟨(filterOp_says bits_and hT).len, (filterOp_says bits_and hT).ok, (filterOp_says bits_and hT).pts⟩)
  obtain ⟨L, hL⟩ : ∃ J, filterOp less32 f g = J := ⟨_, rfl⟩
  have HL := hid (show L.length ≤ 16 ∧ filterCheck L = 0 ∧ ∀ i, i < 512 → pts L i = (fun a b => a && !b) (pts f i) (pts g i) from hL ▸ ⟨(filterOp_says bits_less hT).len, (filterOp_says bits_less hT).ok, (filterOp_says bits_less hT).pts⟩)
  obtain ⟨E, hE⟩ : ∃ E, everyF = E := ⟨_, rfl⟩
  have HE1 := hid (show E.length ≤ maxLen by rw [← hE]; decide)
  have hE2 : filterTwo E [] = 0 := by rw [← hE]; decide +kernel
  obtain ⟨X, hXX⟩ : ∃ X, filterOp less32 E [] = X := ⟨_, rfl⟩
  have hsay := filterOp_says bits_less hE2
  have HX1 := hid (show X.length ≤ maxLen by have := hsay.len; rw [hXX] at this; unfold maxLen; omega)
  have hX0 : filterCheck X = 0 := by rw [← hXX]; exact hsay.ok
  have HX2 := hid (filterCheck_ok hX0).2
  have hXp : rowB 512 (pts X) = rowB 512 (fun _ => true) := rowB_congr fun i hi => by
    rw [← hXX, hsay.pts i hi, ← hE, every_pts i hi]
    rfl
  have hMany : countTo (fun _ => true) 512 = 512 := count_true 512
  clear hsay
  go_enter Try.func5, Try.ntmps5
  go_wp2_with fail
  refine (filter_Join B A A' c c' f g _ hB hlf hlg hsf hsg).mono ?_
  rintro e w1 ⟨v1, rfl, hv1, hx⟩
  rw [hJ] at hv1
  obtain ⟨A1, c1, rfl, k1, m1, hs1⟩ := hv1
  have hx1 := hx
  replace hsf := hsf.ext RBox.monoE hx
  replace hsg := hsg.ext RBox.monoE hx
  replace hB := Nat.le_trans hB hx.size
  clear hx
  go_wp2_with fail
  refine (filter_Meet B A A' c c' f g _ hB hlf hlg hsf hsg).mono ?_
  rintro e w2 ⟨v2, rfl, hv2, hx⟩
  rw [hM] at hv2
  obtain ⟨A2, c2, rfl, k2, m2, hs2⟩ := hv2
  replace hsf := hsf.ext RBox.monoE hx
  replace hsg := hsg.ext RBox.monoE hx
  replace hs1 := hs1.ext RBox.monoE hx
  replace hx1 := hx1.trans hx
  replace hB := Nat.le_trans hB hx.size
  clear hx
  go_wp2_with fail
  refine (filter_Less B A A' c c' f g _ hB hlf hlg hsf hsg).mono ?_
  rintro e w3 ⟨v3, rfl, hv3, hx⟩
  rw [hL] at hv3
  obtain ⟨A3, c3, rfl, k3, m3, hs3⟩ := hv3
  replace hsf := hsf.ext RBox.monoE hx
  replace hsg := hsg.ext RBox.monoE hx
  replace hs1 := hs1.ext RBox.monoE hx
  replace hs2 := hs2.ext RBox.monoE hx
  replace hx1 := hx1.trans hx
  replace hB := Nat.le_trans hB hx.size
  clear hx
  go_wp2_with fail
  refine (filter_Every B _ hB).mono ?_
  rintro e w4 ⟨v4, rfl, hv4, hx⟩
  rw [hE] at hv4
  obtain ⟨A4, c4, rfl, k4, m4, hs4⟩ := hv4
  replace hsf := hsf.ext RBox.monoE hx
  replace hsg := hsg.ext RBox.monoE hx
  replace hs1 := hs1.ext RBox.monoE hx
  replace hs2 := hs2.ext RBox.monoE hx
  replace hs3 := hs3.ext RBox.monoE hx
  replace hx1 := hx1.trans hx
  replace hB := Nat.le_trans hB hx.size
  clear hx
  go_wp2_with fail
  refine (filter_Less B A4 none c4 0 E [] _ hB HE1.out (by decide) hs4 Sl.nil).mono ?_
  rintro e w5 ⟨v5, rfl, hv5, hx⟩
  rw [hXX] at hv5
  obtain ⟨A5, c5, rfl, k5, m5, hs5⟩ := hv5
  replace hsf := hsf.ext RBox.monoE hx
  replace hsg := hsg.ext RBox.monoE hx
  replace hs1 := hs1.ext RBox.monoE hx
  replace hs2 := hs2.ext RBox.monoE hx
  replace hs3 := hs3.ext RBox.monoE hx
  replace hx1 := hx1.trans hx
  replace hB := Nat.le_trans hB hx.size
  clear hx
  go_wp2_with fail
  refine (ref_Filter B A5 c5 X _ HX1.out hs5).mono ?_
  rintro e w6 ⟨rfl, hx⟩
  replace hsf := hsf.ext RBox.monoE hx
  replace hsg := hsg.ext RBox.monoE hx
  replace hs1 := hs1.ext RBox.monoE hx
  replace hs2 := hs2.ext RBox.monoE hx
  replace hs3 := hs3.ext RBox.monoE hx
  replace hs5 := hs5.ext RBox.monoE hx
  replace hx1 := hx1.trans hx
  replace hB := Nat.le_trans hB hx.size
  clear hx
  go_wp2_with fail
  refine (ref_Of B A5 c5 X _ HX1.out HX2.out hs5).mono ?_
  rintro e w7 ⟨rfl, hx⟩
  replace hsf := hsf.ext RBox.monoE hx
  replace hsg := hsg.ext RBox.monoE hx
  replace hs1 := hs1.ext RBox.monoE hx
  replace hs2 := hs2.ext RBox.monoE hx
  replace hs3 := hs3.ext RBox.monoE hx
  replace hs5 := hs5.ext RBox.monoE hx
  replace hx1 := hx1.trans hx
  replace hB := Nat.le_trans hB hx.size
  clear hx
  rw [hXp]
  go_wp2_with fail
  refine (ref_Many _ _).mono ?_
  rintro e w8 ⟨rfl, hx⟩
  replace hsf := hsf.ext RBox.monoE hx
  replace hsg := hsg.ext RBox.monoE hx
  replace hs1 := hs1.ext RBox.monoE hx
  replace hs2 := hs2.ext RBox.monoE hx
  replace hs3 := hs3.ext RBox.monoE hx
  replace hx1 := hx1.trans hx
  replace hB := Nat.le_trans hB hx.size
  clear hx
  go_wp2_with fail
  refine (ref_Filter B A c f _ hlf hsf).mono ?_
  rintro e w9 ⟨rfl, hx⟩
  replace hsf := hsf.ext RBox.monoE hx
  replace hsg := hsg.ext RBox.monoE hx
  replace hs1 := hs1.ext RBox.monoE hx
  replace hs2 := hs2.ext RBox.monoE hx
  replace hs3 := hs3.ext RBox.monoE hx
  replace hx1 := hx1.trans hx
  replace hB := Nat.le_trans hB hx.size
  clear hx
  go_wp2_with fail
  refine (ref_Filter B A' c' g _ hlg hsg).mono ?_
  rintro e w10 ⟨rfl, hx⟩
  replace hsf := hsf.ext RBox.monoE hx
  replace hsg := hsg.ext RBox.monoE hx
  replace hs1 := hs1.ext RBox.monoE hx
  replace hs2 := hs2.ext RBox.monoE hx
  replace hs3 := hs3.ext RBox.monoE hx
  replace hx1 := hx1.trans hx
  replace hB := Nat.le_trans hB hx.size
  clear hx
  go_wp2_with fail
  refine (ref_Of B A c f _ hlf HOf.out hsf).mono ?_
  rintro e w11 ⟨rfl, hx⟩
  replace hsf := hsf.ext RBox.monoE hx
  replace hsg := hsg.ext RBox.monoE hx
  replace hs1 := hs1.ext RBox.monoE hx
  replace hs2 := hs2.ext RBox.monoE hx
  replace hs3 := hs3.ext RBox.monoE hx
  replace hx1 := hx1.trans hx
  replace hB := Nat.le_trans hB hx.size
  clear hx
  go_wp2_with fail
  refine (ref_Of B A' c' g _ hlg HOg.out hsg).mono ?_
  rintro e w12 ⟨rfl, hx⟩
  replace hs1 := hs1.ext RBox.monoE hx
  replace hs2 := hs2.ext RBox.monoE hx
  replace hs3 := hs3.ext RBox.monoE hx
  replace hx1 := hx1.trans hx
  replace hB := Nat.le_trans hB hx.size
  clear hx
  generalize pts f = p at *
  generalize pts g = q at *
  go_upto_region 13 with (first
    | ((with_reducible refine wpList_allocArr (o := ⟨some 14, _, _, _, _, _⟩) zi_points rfl rfl ?_); intro w13 hx13 hb13 hs13)
    | ((with_reducible refine wpList_allocArr (o := ⟨some 15, _, _, _, _, _⟩) zi_points rfl rfl ?_); intro w14 hx14 hb14 hs14; have hb14r := hb14; rw [hs13] at hb14r)
    | ((with_reducible refine at_op none (.store _ (.tmp 14) _) ?_); refine wpList_storeArr ai_points _ _ rfl rfl rfl rfl (hb13.ext hx14) (rowB_size _ _) (rowB_size _ _) (rowB_all _ _) ?_; intro w15 hx15 hb15 hs15 ho15)
    | ((with_reducible refine at_op none (.store _ (.tmp 15) _) ?_); (first | refine wpList_storeArr ai_points _ _ rfl rfl rfl rfl (hb14r.other ho15 (show w12.heap.size + 1 ≠ w12.heap.size by omega)) (rowB_size _ _) (rowB_size _ _) (rowB_all _ _) ?_ | refine wpList_storeArr ai_points _ _ rfl rfl rfl rfl (hb14.other ho15 (show w13.heap.size ≠ w12.heap.size by omega)) (rowB_size _ _) (rowB_size _ _) (rowB_all _ _) ?_); intro w16 hx16 hb16 hs16 ho16))
  have hbp : Blk w16 w12.heap.size 31 (rowB 512 p) := hb15.other ho16 (by omega)
  have hbq : Blk w16 (w12.heap.size + 1) 31 (rowB 512 q) := by rw [← hs13]; exact hb16
  have hx : Ext w12 w16 := ((hx13.trans hx14).below hx15 (Nat.le_refl _)).below hx16 (by omega)
  clear hb13 hb14 hb14r hb15 hb16 hx13 hx14 hx15 hx16 hs14 hs15 hs16 ho15 ho16
  replace hs1 := hs1.ext RBox.monoE hx
  replace hs2 := hs2.ext RBox.monoE hx
  replace hs3 := hs3.ext RBox.monoE hx
  replace hx1 := hx1.trans hx
  replace hB := Nat.le_trans hB hx.size
  clear hx
  go_wp2_with (first
    | ((with_reducible refine wpList_loadArr (o := ⟨some 104, _, _, _, _, _⟩) ai_points _ rfl rfl rfl hbp (rowB_size _ _) ?_))
    | ((with_reducible refine wpList_loadArr (o := ⟨some 105, _, _, _, _, _⟩) ai_points _ rfl rfl rfl hbq (rowB_size _ _) ?_))
    | ((with_reducible refine wp_loadArr (o := ⟨some 104, _, _, _, _, _⟩) ai_points _ rfl rfl hbp (rowB_size _ _) ?_))
    | ((with_reducible refine wp_loadArr (o := ⟨some 105, _, _, _, _, _⟩) ai_points _ rfl rfl hbq (rowB_size _ _) ?_)))
  refine (ref_Each 31 (fun a b => a || b) p q _ Try.call31 (fun a b wn => fset1 a b wn)).mono ?_
  rintro e w20 ⟨rfl, hx⟩
  replace hs1 := hs1.ext RBox.monoE hx
  replace hs2 := hs2.ext RBox.monoE hx
  replace hs3 := hs3.ext RBox.monoE hx
  replace hx1 := hx1.trans hx
  replace hbp := hbp.ext hx
  replace hbq := hbq.ext hx
  replace hB := Nat.le_trans hB hx.size
  clear hx
  go_wp2_with fail
  refine (ref_Means B A1 c1 J _ _ HJ.out.1 HJ.out.2.1 HJ.out.2.2 hs1).mono ?_
  rintro e w30 ⟨rfl, hx⟩
  replace hs1 := hs1.ext RBox.monoE hx
  replace hs2 := hs2.ext RBox.monoE hx
  replace hs3 := hs3.ext RBox.monoE hx
  replace hx1 := hx1.trans hx
  replace hbp := hbp.ext hx
  replace hbq := hbq.ext hx
  replace hB := Nat.le_trans hB hx.size
  clear hx
  go_wp2_with (first
    | ((with_reducible refine wpList_loadArr (o := ⟨some 111, _, _, _, _, _⟩) ai_points _ rfl rfl rfl hbp (rowB_size _ _) ?_))
    | ((with_reducible refine wpList_loadArr (o := ⟨some 112, _, _, _, _, _⟩) ai_points _ rfl rfl rfl hbq (rowB_size _ _) ?_))
    | ((with_reducible refine wp_loadArr (o := ⟨some 111, _, _, _, _, _⟩) ai_points _ rfl rfl hbp (rowB_size _ _) ?_))
    | ((with_reducible refine wp_loadArr (o := ⟨some 112, _, _, _, _, _⟩) ai_points _ rfl rfl hbq (rowB_size _ _) ?_)))
  refine (ref_Each 32 (fun a b => a && b) p q _ Try.call32 (fun a b wn => fset2 a b wn)).mono ?_
  rintro e w21 ⟨rfl, hx⟩
  replace hs1 := hs1.ext RBox.monoE hx
  replace hs2 := hs2.ext RBox.monoE hx
  replace hs3 := hs3.ext RBox.monoE hx
  replace hx1 := hx1.trans hx
  replace hbp := hbp.ext hx
  replace hbq := hbq.ext hx
  replace hB := Nat.le_trans hB hx.size
  clear hx
  go_wp2_with fail
  refine (ref_Means B A2 c2 M _ _ HM.out.1 HM.out.2.1 HM.out.2.2 hs2).mono ?_
  rintro e w31 ⟨rfl, hx⟩
  replace hs1 := hs1.ext RBox.monoE hx
  replace hs2 := hs2.ext RBox.monoE hx
  replace hs3 := hs3.ext RBox.monoE hx
  replace hx1 := hx1.trans hx
  replace hbp := hbp.ext hx
  replace hbq := hbq.ext hx
  replace hB := Nat.le_trans hB hx.size
  clear hx
  go_wp2_with (first
    | ((with_reducible refine wpList_loadArr (o := ⟨some 118, _, _, _, _, _⟩) ai_points _ rfl rfl rfl hbp (rowB_size _ _) ?_))
    | ((with_reducible refine wpList_loadArr (o := ⟨some 119, _, _, _, _, _⟩) ai_points _ rfl rfl rfl hbq (rowB_size _ _) ?_))
    | ((with_reducible refine wp_loadArr (o := ⟨some 118, _, _, _, _, _⟩) ai_points _ rfl rfl hbp (rowB_size _ _) ?_))
    | ((with_reducible refine wp_loadArr (o := ⟨some 119, _, _, _, _, _⟩) ai_points _ rfl rfl hbq (rowB_size _ _) ?_)))
  refine (ref_Each 33 (fun a b => a && !b) p q _ Try.call33 (fun a b wn => fset3 a b wn)).mono ?_
  rintro e w22 ⟨rfl, hx⟩
  replace hs1 := hs1.ext RBox.monoE hx
  replace hs2 := hs2.ext RBox.monoE hx
  replace hs3 := hs3.ext RBox.monoE hx
  replace hx1 := hx1.trans hx
  replace hbp := hbp.ext hx
  replace hbq := hbq.ext hx
  replace hB := Nat.le_trans hB hx.size
  clear hx
  go_wp2_with fail
  refine (ref_Means B A3 c3 L _ _ HL.out.1 HL.out.2.1 HL.out.2.2 hs3).mono ?_
  rintro e w32 ⟨rfl, hx⟩
  replace hs1 := hs1.ext RBox.monoE hx
  replace hs2 := hs2.ext RBox.monoE hx
  replace hs3 := hs3.ext RBox.monoE hx
  replace hx1 := hx1.trans hx
  replace hbp := hbp.ext hx
  replace hbq := hbq.ext hx
  replace hB := Nat.le_trans hB hx.size
  clear hx
  go_wp2_with fail
  go_ret
  exact ⟨ret_bool (by simp), hx1⟩

theorem law_FilterSets (B : Nat) (A A' : Option Addr) (c c' : Nat) (f g : List Box) (w : World) (hB : B ≤ w.heap.size) (hlf : f.length ≤ maxLen) (hlg : g.length ≤ maxLen) (hsf : SlBoxes B w A f) (hsg : SlBoxes B w A' g) :
    Calls Try.prog 5 #[.slice A f.length c, .slice A' g.length c'] w fun e w' => e = .returned (.bool true) ∧ Ext w w' := by
  by_cases h0 : filterCheck f = 0
  · by_cases h1 : filterCheck g = 0
    · exact law_FilterSets_ok B A A' c c' f g w hB hlf hlg hsf hsg h0 h1
    · exact law_FilterSets_two B A A' c c' f g w hB hlf hlg hsf hsg h0 h1
  · exact law_FilterSets_one B A A' c c' f g w hB hlf hlg hsf hsg h0

end Go.Proofs.Ytiigbcnnapnceaa
