/- The walk of the law FormTells. -/
import Derived.Test.YtiigbcnnapnceaaFormR
import Derived.Test.YtiigbcnnapnceaaFormW
import Derived.Test.YtiigbcnnapnceaaFormN
import Derived.Test.YtiigbcnnapnceaaSayV
import Derived.Test.YtiigbcnnapnceaaFilM
namespace Go.Proofs.Ytiigbcnnapnceaa
open Go Go.RowKit

set_option maxRecDepth 100000 in
set_option maxHeartbeats 8000000 in
theorem law_FormTells_err (B : Nat) (A : Option Addr) (c : Nat) (f : List Box) (w : World) (hB : B ≤ w.heap.size) (hlf : f.length ≤ maxLen) (hsf : SlBoxes B w A f) (h0 : filterCheck f ≠ 0) :
    Calls Try.prog 3 #[.slice A f.length c] w fun e w' => e = .returned (.bool true) ∧ Ext w w' := by
  have e1 : (filterCheck f != 0) = true := by simpa using h0
  obtain ⟨X, hX⟩ : ∃ X, formRes [] = X := ⟨_, rfl⟩
  have hXe : formErr [] = 0 := by decide
  have hXl : ((X.length : Int) != 2) = false := by rw [← hX]; decide
  have hXc : formCheck X = 0 := by rw [← hX]; decide
  have HXm := hid (show X.length ≤ maxLen by rw [← hX]; decide)
  have hN0 : filterCheck [] = 0 := by decide
  go_enter Try.func3, Try.ntmps3
  go_wp2_with fail
  refine (formula_Of_err B A c f _ hlf h0 hsf).mono ?_
  rintro e w1 ⟨rfl, hx⟩
  clear h0
  have hx1 := hx
  replace hsf := hsf.ext RBox.monoE hx
  clear hx
  go_wp2_with fail
  refine (formula_Of B none 0 [] _ (Nat.le_trans hB hx1.size) (by decide) hN0 Sl.nil).mono ?_
  rintro e w2 ⟨v2, rfl, hv2, hx⟩
  rw [hX] at hv2
  obtain ⟨A2, c2, rfl, k2, m2, hs2⟩ := hv2
  replace hsf := hsf.ext RBox.monoE hx
  replace hx1 := hx1.trans hx
  clear hx
  go_wp2_with fail
  refine (ref_Sentence B A2 c2 X _ HXm.out hs2).mono ?_
  rintro e w3 ⟨rfl, hx⟩
  replace hsf := hsf.ext RBox.monoE hx
  replace hx1 := hx1.trans hx
  clear hx
  go_wp2_with fail
  refine (ref_Filter B A c f _ hlf hsf).mono ?_
  rintro e w4 ⟨rfl, hx⟩
  replace hsf := hsf.ext RBox.monoE hx
  replace hx1 := hx1.trans hx
  clear hx
  go_wp2_with fail
  go_ret
  exact ⟨ret_bool (by simp), hx1⟩

set_option maxRecDepth 100000 in
set_option maxHeartbeats 8000000 in
theorem law_FormTells_big (B : Nat) (A : Option Addr) (c : Nat) (f : List Box) (w : World) (hB : B ≤ w.heap.size) (hlf : f.length ≤ maxLen) (hsf : SlBoxes B w A f) (h0 : filterCheck f = 0) (h30 : 30 < (formF f).1.length) :
    Calls Try.prog 3 #[.slice A f.length c] w fun e w' => e = .returned (.bool true) ∧ Ext w w' := by
  have HOK := hid (filterCheck_ok h0).2
  have H40 := hid (filterCheck_ok h0).1
  have hinv := (form_says HOK.out).len
  have hE : formErr f = 2 := by rw [formErr, if_pos h30]
  have hR : formRes f = [] := by rw [formRes, if_pos h30]
  have hd : decide ((30 : Int) < filterNodes f) = true := by simp; omega
  clear hinv h30
  obtain ⟨X, hX⟩ : ∃ X, formRes [] = X := ⟨_, rfl⟩
  have hXe : formErr [] = 0 := by decide
  have hXl : ((X.length : Int) != 2) = false := by rw [← hX]; decide
  have hXc : formCheck X = 0 := by rw [← hX]; decide
  have HXm := hid (show X.length ≤ maxLen by rw [← hX]; decide)
  have hN0 : filterCheck [] = 0 := by decide
  go_enter Try.func3, Try.ntmps3
  go_wp2_with fail
  refine (formula_Of B A c f _ hB hlf h0 hsf).mono ?_
  rintro e w1 ⟨v1, rfl, hv1, hx⟩
  rw [hR] at hv1
  obtain ⟨A1, c1, rfl, k1, m1, hs1⟩ := hv1
  have hx1 := hx
  replace hsf := hsf.ext RBox.monoE hx
  clear hx
  go_wp2_with fail
  refine (formula_Of B none 0 [] _ (Nat.le_trans hB hx1.size) (by decide) hN0 Sl.nil).mono ?_
  rintro e w2 ⟨v2, rfl, hv2, hx⟩
  rw [hX] at hv2
  obtain ⟨A2, c2, rfl, k2, m2, hs2⟩ := hv2
  replace hsf := hsf.ext RBox.monoE hx
  replace hx1 := hx1.trans hx
  clear hx
  go_wp2_with fail
  refine (ref_Sentence B A2 c2 X _ HXm.out hs2).mono ?_
  rintro e w3 ⟨rfl, hx⟩
  replace hsf := hsf.ext RBox.monoE hx
  replace hx1 := hx1.trans hx
  clear hx
  go_wp2_with fail
  refine (ref_Filter B A c f _ hlf hsf).mono ?_
  rintro e w4 ⟨rfl, hx⟩
  replace hsf := hsf.ext RBox.monoE hx
  replace hx1 := hx1.trans hx
  clear hx
  go_wp2_with fail
  refine (ref_Nodes B A c f _ H40.out HOK.out hsf).mono ?_
  rintro e w5 ⟨rfl, hx⟩
  replace hx1 := hx1.trans hx
  clear hx
  go_wp2_with fail
  go_ret
  exact ⟨ret_bool (by simp), hx1⟩

set_option maxRecDepth 100000 in
set_option maxHeartbeats 8000000 in
theorem law_FormTells_ok (B : Nat) (A : Option Addr) (c : Nat) (f : List Box) (w : World) (hB : B ≤ w.heap.size) (hlf : f.length ≤ maxLen) (hsf : SlBoxes B w A f) (h0 : filterCheck f = 0) (h30 : ¬ 30 < (formF f).1.length) :
    Calls Try.prog 3 #[.slice A f.length c] w fun e w' => e = .returned (.bool true) ∧ Ext w w' := by
  have HOK := hid (filterCheck_ok h0).2
  have H40 := hid (filterCheck_ok h0).1
  have hinv := form_says HOK.out
  have hE : formErr f = 0 := by rw [formErr, if_neg h30]
  have hd : decide ((30 : Int) < filterNodes f) = false := by have := hinv.len; simp; omega
  obtain ⟨L, hR⟩ : ∃ L, formRes f = L := ⟨_, rfl⟩
  have hL : (formF f).1 = L := by rw [← hR, formRes, if_neg h30]
  have hlo := hinv.lo
  have hgo := hinv.good
  have hto := hinv.top
  have hsa := hinv.say
  have hle := hinv.len
  rw [hL] at hlo hgo hto hsa hle h30
  have HFO := hid (show FormOk L from ⟨by omega, by omega, hgo⟩)
  have hLc : formCheck L = 0 := formCheck_iff.2 HFO.out
  have HLm := hid (show L.length ≤ maxLen by unfold maxLen; omega)
  have hLn : ((L.length : Int) == filterNodes f) = true := by rw [beq_iff_eq]; exact hle
  have heq : ∀ w, (Op.equalIn 10000 31 (.agg (rowB 512 (sayAt L (L.length - 1)))) (.agg (rowB 512 (pts f)))).run Try.prog w = .ok true w := fun w => by
    rw [eq_points]
    congr 1
    rw [allTo_iff]
    intro i hi
    rw [show L.length - 1 = (formF f).2 by omega, hsa i hi]
    simp
  clear hinv hlo hgo hto hsa hle h30 hL
  obtain ⟨X, hX⟩ : ∃ X, formRes [] = X := ⟨_, rfl⟩
  have hXe : formErr [] = 0 := by decide
  have hXl : ((X.length : Int) != 2) = false := by rw [← hX]; decide
  have hXc : formCheck X = 0 := by rw [← hX]; decide
  have HXm := hid (show X.length ≤ maxLen by rw [← hX]; decide)
  have hN0 : filterCheck [] = 0 := by decide
  go_enter Try.func3, Try.ntmps3
  go_wp2_with fail
  refine (formula_Of B A c f _ hB hlf h0 hsf).mono ?_
  rintro e w1 ⟨v1, rfl, hv1, hx⟩
  rw [hR] at hv1
  obtain ⟨A1, c1, rfl, k1, m1, hs1⟩ := hv1
  have hx1 := hx
  replace hsf := hsf.ext RBox.monoE hx
  clear hx
  go_wp2_with fail
  refine (formula_Of B none 0 [] _ (Nat.le_trans hB hx1.size) (by decide) hN0 Sl.nil).mono ?_
  rintro e w2 ⟨v2, rfl, hv2, hx⟩
  rw [hX] at hv2
  obtain ⟨A2, c2, rfl, k2, m2, hs2⟩ := hv2
  replace hsf := hsf.ext RBox.monoE hx
  replace hs1 := hs1.ext RTrip.mono hx
  replace hx1 := hx1.trans hx
  clear hx
  go_wp2_with fail
  refine (ref_Sentence B A2 c2 X _ HXm.out hs2).mono ?_
  rintro e w3 ⟨rfl, hx⟩
  replace hsf := hsf.ext RBox.monoE hx
  replace hs1 := hs1.ext RTrip.mono hx
  replace hx1 := hx1.trans hx
  clear hx
  go_wp2_with fail
  refine (ref_Filter B A c f _ hlf hsf).mono ?_
  rintro e w4 ⟨rfl, hx⟩
  replace hsf := hsf.ext RBox.monoE hx
  replace hs1 := hs1.ext RTrip.mono hx
  replace hx1 := hx1.trans hx
  clear hx
  go_wp2_with fail
  refine (ref_Nodes B A c f _ H40.out HOK.out hsf).mono ?_
  rintro e w5 ⟨rfl, hx⟩
  replace hsf := hsf.ext RBox.monoE hx
  replace hs1 := hs1.ext RTrip.mono hx
  replace hx1 := hx1.trans hx
  clear hx
  go_wp2_with fail
  refine (ref_Nodes B A c f _ H40.out HOK.out hsf).mono ?_
  rintro e w6 ⟨rfl, hx⟩
  replace hsf := hsf.ext RBox.monoE hx
  replace hs1 := hs1.ext RTrip.mono hx
  replace hx1 := hx1.trans hx
  clear hx
  go_wp2_with fail
  refine (ref_Sentence B A1 c1 L _ HLm.out hs1).mono ?_
  rintro e w7 ⟨rfl, hx⟩
  replace hsf := hsf.ext RBox.monoE hx
  replace hs1 := hs1.ext RTrip.mono hx
  replace hx1 := hx1.trans hx
  clear hx
  go_wp2_with fail
  refine (ref_Says B A1 c1 L _ HFO.out hs1).mono ?_
  rintro e w8 ⟨rfl, hx⟩
  replace hsf := hsf.ext RBox.monoE hx
  replace hx1 := hx1.trans hx
  clear hx
  go_wp2_with fail
  refine (ref_Of B A c f _ hlf HOK.out hsf).mono ?_
  rintro e w9 ⟨rfl, hx⟩
  replace hx1 := hx1.trans hx
  clear hx
  go_wp2_with fail
  go_ret
  exact ⟨ret_bool (by simp), hx1⟩

theorem law_FormTells (B : Nat) (A : Option Addr) (c : Nat) (f : List Box) (w : World) (hB : B ≤ w.heap.size) (hlf : f.length ≤ maxLen) (hsf : SlBoxes B w A f) :
    Calls Try.prog 3 #[.slice A f.length c] w fun e w' => e = .returned (.bool true) ∧ Ext w w' := by
  by_cases h0 : filterCheck f = 0
  · by_cases h30 : 30 < (formF f).1.length
    · exact law_FormTells_big B A c f w hB hlf hsf h0 h30
    · exact law_FormTells_ok B A c f w hB hlf hsf h0 h30
  · exact law_FormTells_err B A c f w hB hlf hsf h0

end Go.Proofs.Ytiigbcnnapnceaa
