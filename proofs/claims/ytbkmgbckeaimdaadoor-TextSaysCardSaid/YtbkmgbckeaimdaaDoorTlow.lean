/- The walk of the law TextSays. -/
import Derived.Test.YtbkmgbckeaimdaaDoorTextQ
import Derived.Test.YtbkmgbckeaimdaaDoorTextT
import Derived.Test.YtbkmgbckeaimdaaDoorTextH
import Derived.Test.YtbkmgbckeaimdaaDoorTextJ
import Derived.Test.YtbkmgbckeaimdaaDoorFormR
namespace Go.Proofs.YtbkmgbckeaimdaaDoor
open Go Go.RowKit

theorem lit_read : readErr [33, 35, 49] = 0 ∧ readN [33, 35, 49] = [⟨2, 1, 0⟩, ⟨4, 0, 0⟩] := by decide +kernel
theorem show_res' {l : List Node} (h : FormOk l) : showErr l = 0 ∨ showErr l = 2 := by
  have h0 := formCheck_iff.2 h
  by_cases h4 : 400 < (textAt l (l.length - 1)).length
  · exact .inr (by rw [showErr, if_pos h0, if_pos h4])
  · exact .inl (by rw [showErr, if_pos h0, if_neg h4])
theorem Own.slT {α : Type} {R : World → List Value → α → Prop} {sz : Nat} {e : TypeId} {w : World} {base n c : Nat} {A : Option Addr} {l : List α} (B : Nat) (h : Own R sz e w base (.slice A n c) l) : Sl B e R sz w A l := by
  obtain ⟨A', c', hv, _, _, hs⟩ := h.isSl B
  injection hv with h1 _ _
  rw [h1]
  exact hs
theorem lit2n {w : World} : Own RNode 3 39 (w.alloc (.cells #[.int .i64 2, .int .i64 1, .int .i64 0, .int .i64 4, .int .i64 0, .int .i64 0] 39)) w.heap.size (.slice (some ⟨w.heap.size, 0, none⟩) 2 2) [⟨2, 1, 0⟩, ⟨4, 0, 0⟩] := by
  refine ⟨[[.int .i64 2, .int .i64 1, .int .i64 0], [.int .i64 4, .int .i64 0, .int .i64 0]], rfl, ?_, rfl, .inr ⟨w.heap.size, 2, #[.int .i64 2, .int .i64 1, .int .i64 0, .int .i64 4, .int .i64 0, .int .i64 0], rfl, Nat.le_refl _, heap_alloc_new w _, Nat.le_refl _, by simp [maxLen], rfl, ?_⟩⟩
  · intro i c x h1 h2
    match i, h1, h2 with
    | 0, h1, h2 => simp at h1 h2; subst h1 h2; exact ⟨rfl, rfl⟩
    | 1, h1, h2 => simp at h1 h2; subst h1 h2; exact ⟨rfl, rfl⟩
  · simp

set_option maxRecDepth 100000 in
set_option maxHeartbeats 4000000 in
theorem law_TextSays (A : Option Addr) (c : Nat) (l : List Node) (s : ByteArray) (w : World) (hl : l.length ≤ maxLen) (h : Sl w.heap.size 39 RNode 3 w A l) (hv : ErrV w.heap.size w) :
    Calls Tryd.prog 4 #[.slice A l.length c, .string s] w fun e w' => e = .returned (.bool true) ∧ Ext w w' := by
  obtain ⟨B, hBd⟩ : ∃ B, B = w.heap.size := ⟨_, rfl⟩
  rw [← hBd] at h hv
  have HB := hid (Nat.le_of_eq hBd)
  have HL := hid (And.intro hl h)
  have HV := hid hv
  have hread : ∀ (x : ByteArray) (w1 : World), Ext w w1 → Calls Tryd.prog 9 #[.string x] w1 fun e w' => ∃ v, e = .returned (.tuple #[v, .int .i64 (readErr x.data.toList)]) ∧ IsNodes B w' v (readN x.data.toList) ∧ Ext w w' := fun x w1 hx =>
    (text_Read B x w1 (Nat.le_trans HB.out hx.size) ⟨(HV.out.chg (Chg.of_ext (ts := []) hx)).sx, (HV.out.chg (Chg.of_ext (ts := []) hx)).rg, Nat.lt_of_lt_of_le HV.out.lo (Nat.le_trans HB.out hx.size), Nat.lt_of_lt_of_le HV.out.lo (Nat.le_trans HB.out hx.size)⟩).mono fun e w2 ⟨v, h1, h2, h3⟩ => ⟨v, h1, h2, hx.trans h3⟩
  have HR := hid hread
  clear hBd hl h hv hread
  go_enter Tryd.func4, Tryd.ntmps4
  go_wp2_with fail
  refine (text_Show B A c l w HL.out.1 HL.out.2).mono ?_
  rintro e w1 ⟨rfl, hx1⟩
  have HX1 := hid hx1
  clear hx1
  obtain ⟨T, hT⟩ : ∃ T, T = showT l := ⟨_, rfl⟩
  obtain ⟨E, hE⟩ : ∃ E, E = showErr l := ⟨_, rfl⟩
  rw [← hT, ← hE]
  have HT := hid hT
  have HE := hid hE
  clear hT hE
  go_wp2_with fail
  refine (HR.out s w1 HX1.out).mono ?_
  rintro e w2 ⟨v2, rfl, hv2, hx2⟩
  have HX2 := hid hx2
  obtain ⟨M, hM⟩ : ∃ M, M = readN s.data.toList := ⟨_, rfl⟩
  obtain ⟨R, hR⟩ : ∃ R, R = readErr s.data.toList := ⟨_, rfl⟩
  rw [← hM] at hv2
  rw [← hR]
  obtain ⟨A2, c2, rfl, hl2, hm2, hs2⟩ := hv2
  have HS2 := hid (And.intro (Nat.le_trans hl2 hm2) hs2)
  have HM := hid hM
  have HRR := hid hR
  clear hx2 hl2 hm2 hs2 HX1 hM hR
  go_wp2_with fail
  refine (text_Read B ⟨#[33, 35, 49]⟩ w2 (Nat.le_trans HB.out HX2.out.size) ⟨(HV.out.chg (Chg.of_ext (ts := []) HX2.out)).sx, (HV.out.chg (Chg.of_ext (ts := []) HX2.out)).rg, Nat.lt_of_lt_of_le HV.out.lo (Nat.le_trans HB.out HX2.out.size), Nat.lt_of_lt_of_le HV.out.lo (Nat.le_trans HB.out HX2.out.size)⟩).mono ?_
  rintro e w3 ⟨v3, rfl, hv3, hx3⟩
  have HX3 := hid (HX2.out.trans hx3)
  have HM3 := hid (HS2.out.2.ext RTrip.mono hx3)
  replace hv3 : IsNodes B w3 v3 [⟨2, 1, 0⟩, ⟨4, 0, 0⟩] := by rw [← lit_read.2]; exact hv3
  rw [show readErr (⟨#[33, 35, 49]⟩ : ByteArray).data.toList = 0 from lit_read.1]
  obtain ⟨A3, c3, rfl, hl3, hm3, hs3⟩ := hv3
  have HS3 := hid hs3
  clear hx3 hl3 hm3 hs3
  simp only [List.length_cons, List.length_nil]
  go_wp2_with fail
  refine (law_nodes B B A3 c3 (some ⟨w3.heap.size, 0, none⟩) 2 [⟨2, 1, 0⟩, ⟨4, 0, 0⟩] _ (by simp [maxLen]) (HS3.out.ext RTrip.mono ((Ext.refl w3).alloc _)) (Own.slT B lit2n)).mono ?_
  rintro e w4 ⟨rfl, hx4⟩
  have HX4 := hid (HX3.out.trans (((Ext.refl w3).alloc _).trans hx4))
  have HM4 := hid (HM3.out.ext RTrip.mono (((Ext.refl w3).alloc _).trans hx4))
  clear HM3
  clear hx4 HX3 HS3
  go_wp2_with fail
  refine (ref_Sentence B A c l w4 HL.out.1 (HL.out.2.ext RTrip.mono HX4.out)).mono ?_
  rintro e w5 ⟨rfl, hx5⟩
  have HX5 := hid (HX4.out.trans hx5)
  have HM5 := hid (HM4.out.ext RTrip.mono hx5)
  clear HM4
  clear hx5 HX4
  by_cases h0 : formCheck l = 0
  case neg =>
    have hE : E = formCheck l := by rw [HE.out, showErr, if_neg h0]
    have hT : T = ByteArray.empty := by rw [HT.out, showT, if_neg (by rw [← HE.out, hE]; exact h0)]
    have hne : (formCheck l == 0) = false := by simpa using h0
    subst hT
    subst hE
    obtain ⟨F, hF⟩ : ∃ F, F = formCheck l := ⟨_, rfl⟩
    rw [← hF] at hne ⊢
    clear h0 hF
    go_wp2_with fail
    refine (ref_Read B s w5).mono ?_
    rintro e w8 ⟨v6, rfl, hv6, hx6⟩
    rw [← HM.out] at hv6
    rw [← HRR.out]
    obtain ⟨A6, c6, rfl, hl6, hm6, hs6⟩ := hv6
    have HX8 := hid (HX5.out.trans hx6)
    have HS8 := hid (And.intro (HM5.out.ext RTrip.mono hx6) hs6)
    clear hx6 hl6 hm6 hs6
    go_wp2_with fail
    refine (law_nodes B B A2 c2 A6 c6 M w8 HS2.out.1 HS8.out.1 HS8.out.2).mono ?_
    rintro e w9 ⟨rfl, hx7⟩
    have HX9 := hid (HX8.out.trans hx7)
    clear hx7
    go_wp2_with fail
    go_ret
    exact ⟨rfl, HX9.out⟩
  have HOK := hid (formCheck_iff.1 h0)
  rw [h0]
  clear h0
  go_wp2_with fail
  refine (ref_Show B A c l w5 HOK.out (HL.out.2.ext RTrip.mono HX5.out)).mono ?_
  rintro e w6 ⟨rfl, hx6⟩
  have HX6 := hid (HX5.out.trans hx6)
  have HM6 := hid (HM5.out.ext RTrip.mono hx6)
  clear hx6 HX5 HM5
  have h02 : E = 0 ∨ E = 2 := by rw [HE.out]; rcases show_res' HOK.out with h | h <;> simp [h]
  rw [← HT.out, ← HE.out]
  clear HT HE
  rcases h02 with rfl | rfl
  · rw [decide_eq_true (rfl : (0 : Int) = 0)]
    go_wp2_with fail
    refine (ref_Read B s w6).mono ?_
    rintro e w8 ⟨v6, rfl, hv6, hx6⟩
    rw [← HM.out] at hv6
    rw [← HRR.out]
    obtain ⟨A6, c6, rfl, hl6, hm6, hs6⟩ := hv6
    have HX8 := hid (HX6.out.trans hx6)
    have HS8 := hid (And.intro (HM6.out.ext RTrip.mono hx6) hs6)
    clear hx6 hl6 hm6 hs6
    go_wp2_with fail
    refine (law_nodes B B A2 c2 A6 c6 M w8 HS2.out.1 HS8.out.1 HS8.out.2).mono ?_
    rintro e w9 ⟨rfl, hx7⟩
    have HX9 := hid (HX8.out.trans hx7)
    clear hx7
    go_wp2_with fail
    go_ret
    exact ⟨rfl, HX9.out⟩
  · rw [decide_eq_false (show ¬ (2 : Int) = 0 by decide)]
    go_wp2_with fail
    refine (ref_Read B s w6).mono ?_
    rintro e w8 ⟨v6, rfl, hv6, hx6⟩
    rw [← HM.out] at hv6
    rw [← HRR.out]
    obtain ⟨A6, c6, rfl, hl6, hm6, hs6⟩ := hv6
    have HX8 := hid (HX6.out.trans hx6)
    have HS8 := hid (And.intro (HM6.out.ext RTrip.mono hx6) hs6)
    clear hx6 hl6 hm6 hs6
    go_wp2_with fail
    refine (law_nodes B B A2 c2 A6 c6 M w8 HS2.out.1 HS8.out.1 HS8.out.2).mono ?_
    rintro e w9 ⟨rfl, hx7⟩
    have HX9 := hid (HX8.out.trans hx7)
    clear hx7
    go_wp2_with fail
    go_ret
    exact ⟨rfl, HX9.out⟩

end Go.Proofs.YtbkmgbckeaimdaaDoor
