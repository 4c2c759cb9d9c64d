/- The walk of the law TopText. -/
import Derived.Test.YtbkmgbckeaimdaaDoorTextQ
import Derived.Test.YtbkmgbckeaimdaaDoorTextT
import Derived.Test.YtbkmgbckeaimdaaDoorFfW
import Derived.Test.YtbkmgbckeaimdaaDoorFormR
import Derived.Test.YtbkmgbckeaimdaaDoorFilE
namespace Go.Proofs.YtbkmgbckeaimdaaDoor
open Go Go.RowKit

theorem text_begun (B : Nat) (w : World) (hB : B ≤ w.heap.size) : Calls Tryd.prog 5 #[] w fun e w' => e = .returned (.bool true) ∧ Ext w w' := by
  go_enter Tryd.func5, Tryd.ntmps5
  go_wp2_with fail
  refine (filter_Every B _ hB).mono ?_
  rintro e w1 ⟨v1, rfl, hv1, hx1⟩
  obtain ⟨E, hE⟩ : ∃ E, E = everyF := ⟨_, rfl⟩
  rw [← hE] at hv1
  obtain ⟨A1, c1, rfl, h1, h2, hv1⟩ := hv1
  have hc : filterCount E = 512 := by rw [hE]; decide +kernel
  have hk : filterCheck E = 0 := by rw [hE]; exact every_check
  clear hE
  go_wp2_with fail
  refine (filter_Count B A1 c1 E _ (Nat.le_trans h1 h2) hv1).mono ?_
  rintro e w2 ⟨rfl, hx2⟩
  rw [hc, hk]
  go_wp2_with fail
  go_ret
  exact ⟨rfl, hx1.trans hx2⟩

theorem form_res {f : List Box} (h : filterCheck f = 0) : (formErr f = 2) ∨ (formErr f = 0 ∧ FormOk (formRes f) ∧ ∀ j, j < 512 → sayAt (formRes f) ((formRes f).length - 1) j = pts f j) := by
  have hi := form_says (filterCheck_ok h).2
  by_cases h30 : 30 < (formF f).1.length
  · exact .inl (by rw [formErr, if_pos h30])
  · refine .inr ⟨by rw [formErr, if_neg h30], ?_⟩
    rw [formRes, if_neg h30]
    exact ⟨⟨by have := hi.lo; omega, by omega, hi.good⟩, fun j hj => by rw [show (formF f).1.length - 1 = (formF f).2 by have := hi.top; omega]; exact hi.say j hj⟩
theorem same_same {f g : List Box} (h : filterTwo f g = 0) (hp : ∀ j, j < 512 → pts f j = pts g j) : filterNone (fun a b => a ^^^ b) f g = true := by
  rw [same_says h, allTo_iff]
  intro i hi
  rw [hp i hi]; simp
theorem within_same {f g h : List Box} (h1 : filterTwo f g = 0) (h2 : filterTwo h g = 0) (hp : ∀ j, j < 512 → pts f j = pts h j) : filterNone less32 h g = filterNone less32 f g := by
  rw [within_says h1, within_says h2, Bool.eq_iff_iff, allTo_iff, allTo_iff]
  constructor <;> intro k i hi <;> have := k i hi <;> first | rwa [hp i hi] | rwa [← hp i hi]
theorem two_ok' {f g : List Box} (h1 : filterCheck f = 0) (h2 : filterCheck g = 0) : filterTwo f g = 0 := by rw [filterTwo, if_pos h1, h2]
theorem show_res {l : List Node} (h : FormOk l) : showErr l = 2 ∨ (showErr l = 0 ∧ (textAt l (l.length - 1)).length ≤ 400 ∧ showT l = tstr (textAt l (l.length - 1))) := by
  have h0 := formCheck_iff.2 h
  by_cases h4 : 400 < (textAt l (l.length - 1)).length
  · exact .inl (by rw [showErr, if_pos h0, if_pos h4])
  · have hE : showErr l = 0 := by rw [showErr, if_pos h0, if_neg h4]
    exact .inr ⟨hE, by omega, by rw [showT, if_pos hE]⟩

set_option maxRecDepth 100000 in
set_option maxHeartbeats 4000000 in
theorem law_TopText (A : Option Addr) (c : Nat) (f : List Box) (A' : Option Addr) (c' : Nat) (g : List Box) (w : World) (hlf : f.length ≤ maxLen) (hlg : g.length ≤ maxLen) (hf : SlBoxes w.heap.size w A f) (hg : SlBoxes w.heap.size w A' g) (hv : ErrV w.heap.size w) :
    Calls Tryd.prog 3 #[.slice A f.length c, .slice A' g.length c'] w fun e w' => e = .returned (.bool true) ∧ Ext w w' := by
  obtain ⟨B, hBd⟩ : ∃ B, B = w.heap.size := ⟨_, rfl⟩
  rw [← hBd] at hf hg hv
  have HB := hid (Nat.le_of_eq hBd)
  have HF := hid (And.intro hlf hf)
  have HG := hid (And.intro hlg hg)
  have HV := hid hv
  clear hBd hlf hf hlg hg hv
  go_enter Tryd.func3, Tryd.ntmps3
  go_wp2_with fail
  refine (text_begun B w HB.out).mono ?_
  rintro e w1 ⟨rfl, hx1⟩
  have HX1 := hid hx1
  go_wp2_with fail
  refine (filter_Check B A c f w1 HF.out.1 (HF.out.2.ext RBox.monoE hx1)).mono ?_
  rintro e w2 ⟨rfl, hx2⟩
  have HX2 := hid (HX1.out.trans hx2)
  clear hx1 hx2 HX1
  by_cases h0 : filterCheck f = 0
  case neg =>
    have hne : (filterCheck f != 0) = true := by simpa using h0
    clear h0
    go_wp2_with fail
    go_ret
    exact ⟨rfl, HX2.out⟩
  have H0 := hid h0
  rw [h0]
  clear h0
  go_wp2_with fail
  refine (filter_Check B A' c' g w2 HG.out.1 (HG.out.2.ext RBox.monoE HX2.out)).mono ?_
  rintro e w3 ⟨rfl, hx3⟩
  have HX3 := hid (HX2.out.trans hx3)
  clear hx3 HX2
  by_cases h1 : filterCheck g = 0
  case neg =>
    have hne : (filterCheck g != 0) = true := by simpa using h1
    clear h1
    go_wp2_with fail
    go_ret
    exact ⟨rfl, HX3.out⟩
  have H1 := hid h1
  rw [h1]
  clear h1
  go_wp2_with fail
  refine (formula_Of B A c f w3 (Nat.le_trans HB.out HX3.out.size) HF.out.1 H0.out (HF.out.2.ext RBox.monoE HX3.out)).mono ?_
  rintro e w4 ⟨v4, rfl, hv4, hx4⟩
  have HX4 := hid (HX3.out.trans hx4)
  clear hx4 HX3
  obtain ⟨l, hl⟩ : ∃ l, l = formRes f := ⟨_, rfl⟩
  have hr := form_res H0.out
  rw [← hl] at hv4 hr
  clear hl
  obtain ⟨A4, c4, rfl, hl4, hm4, hs4⟩ := hv4
  have HLM := hid (Nat.le_trans hl4 hm4)
  clear hl4 hm4
  rcases hr with hr | ⟨hr, hok, hsay⟩
  · rw [hr]
    clear hr
    go_wp2_with fail
    go_ret
    exact ⟨rfl, HX4.out⟩
  rw [hr]
  have HSAY := hid hsay
  have HOK := hid hok
  clear hr hsay hok
  go_wp2_with fail
  refine (text_Show B A4 c4 l w4 HLM.out hs4).mono ?_
  rintro e w5 ⟨rfl, hx5⟩
  have HX5 := hid (HX4.out.trans hx5)
  clear hx5 HX4 hs4
  rcases show_res HOK.out with hr | ⟨hr, h400, hT⟩
  · rw [hr]
    clear hr
    go_wp2_with fail
    go_ret
    exact ⟨rfl, HX5.out⟩
  rw [hr, hT]
  obtain ⟨t, ht⟩ : ∃ t, t = textAt l (l.length - 1) := ⟨_, rfl⟩
  have hrd := read_text HOK.out h400
  rw [← ht] at hrd ⊢
  obtain ⟨S, hS⟩ : ∃ S, S = tstr t := ⟨_, rfl⟩
  have hSd : S.data.toList = t := by rw [hS, tstr_data]
  rw [← hS]
  have HSD := hid hSd
  clear hr hT ht hS hSd h400
  go_wp2_with fail
  refine (text_Read B S w5 (Nat.le_trans HB.out HX5.out.size) ⟨(HV.out.chg (Chg.of_ext (ts := []) HX5.out)).sx, (HV.out.chg (Chg.of_ext (ts := []) HX5.out)).rg, Nat.lt_of_lt_of_le HV.out.lo (Nat.le_trans HB.out HX5.out.size), Nat.lt_of_lt_of_le HV.out.lo (Nat.le_trans HB.out HX5.out.size)⟩).mono ?_
  rintro e w6 ⟨v6, rfl, hv6, hx6⟩
  have HX6 := hid (HX5.out.trans hx6)
  clear hx6 HX5
  rw [HSD.out] at hv6 ⊢
  rcases hrd with hr | ⟨hr, hmok, hmsay⟩
  · have hn : readN t = [] := readN_no hr (by decide)
    rw [hn] at hv6
    obtain ⟨A6, c6, rfl, hl6, hm6, hs6⟩ := hv6
    rw [hr]
    clear hr hn
    go_wp2_with fail
    go_ret
    exact ⟨rfl, HX6.out⟩
  have hn : readN t = readL t := by unfold readN; rw [if_pos hr]
  rw [hn] at hv6
  obtain ⟨m, hm⟩ : ∃ m, m = readL t := ⟨_, rfl⟩
  rw [← hm] at hv6 hmok hmsay
  rw [hr]
  obtain ⟨A6, c6, rfl, hl6, hm6, hs6⟩ := hv6
  have HMM := hid (Nat.le_trans hl6 hm6)
  have HMC := hid (formCheck_iff.2 hmok)
  have HMS := hid hmsay
  clear hr hn hm hl6 hm6 hmok hmsay
  go_wp2_with fail
  refine (formula_Filter B A6 c6 m w6 (Nat.le_trans HB.out HX6.out.size) HMM.out hs6 HMC.out).mono ?_
  rintro e w7 ⟨v7, h, rfl, hv7, hfs, hx7⟩
  have HX7 := hid (HX6.out.trans hx7)
  have HFS := hid hfs
  obtain ⟨A7, c7, rfl, hl7, hm7, hs7⟩ := hv7
  have HHM := hid (Nat.le_trans hl7 hm7)
  have hp := hid (show ∀ j, j < 512 → pts f j = pts h j from fun j hj => by rw [HFS.out.says j hj, HMS.out, HSAY.out j hj])
  have t1 := two_ok' H0.out HFS.out.ok
  have t2 := two_ok' H0.out H1.out
  have t3 := two_ok' HFS.out.ok H1.out
  have HS1 := hid (same_same t1 hp.out)
  have HS2 := hid (within_same t2 t3 hp.out)
  have HT1 := hid t1
  have HT2 := hid t2
  have HT3 := hid t3
  clear hx7 hfs hl7 hm7 HX6 hs6 t1 t2 t3
  go_wp2_with fail
  refine (filter_Same B A A7 c c7 f h w7 (Nat.le_trans HB.out HX7.out.size) HF.out.1 HHM.out (HF.out.2.ext RBox.monoE HX7.out) hs7).mono ?_
  rintro e w8 ⟨rfl, hx8⟩
  have hs8 := hs7.ext RBox.monoE hx8
  have HX8 := hid (HX7.out.trans hx8)
  clear hx8 hs7 HX7
  rw [HS1.out, HT1.out]
  go_wp2_with fail
  refine (filter_Within B A A' c c' f g w8 (Nat.le_trans HB.out HX8.out.size) HF.out.1 HG.out.1 (HF.out.2.ext RBox.monoE HX8.out) (HG.out.2.ext RBox.monoE HX8.out)).mono ?_
  rintro e w9 ⟨rfl, hx9⟩
  have hs9 := hs8.ext RBox.monoE hx9
  have HX9 := hid (HX8.out.trans hx9)
  clear hx9 hs8 HX8
  rw [HT2.out]
  obtain ⟨b, hb⟩ : ∃ b, b = filterNone less32 f g := ⟨_, rfl⟩
  rw [← hb]
  have HBB := hid hb
  clear hb
  go_wp2_with fail
  refine (filter_Within B A7 A' c7 c' h g w9 (Nat.le_trans HB.out HX9.out.size) HHM.out HG.out.1 hs9 (HG.out.2.ext RBox.monoE HX9.out)).mono ?_
  rintro e w10 ⟨rfl, hx10⟩
  have HX10 := hid (HX9.out.trans hx10)
  clear hx10 hs9 HX9
  rw [HT3.out, HS2.out, ← HBB.out]
  cases b
  all_goals
    go_wp2_with fail
    go_ret
    exact ⟨rfl, HX10.out⟩

end Go.Proofs.YtbkmgbckeaimdaaDoor
