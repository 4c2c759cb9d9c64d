/- The walk of the law FormSays. -/
import Derived.Test.YtiigbcnnapnceaaIsW
import Derived.Test.YtiigbcnnapnceaaFfW
import Derived.Test.YtiigbcnnapnceaaSayV
import Derived.Test.YtiigbcnnapnceaaFilM
namespace Go.Proofs.Ytiigbcnnapnceaa
open Go Go.RowKit

set_option maxRecDepth 100000 in
set_option maxHeartbeats 8000000 in
theorem law_FormSays_err (B : Nat) (A : Option Addr) (c : Nat) (l : List Node) (p : Point) (w : World) (_hB : B ≤ w.heap.size) (hl : l.length ≤ maxLen) (hs : SlNodes B w A l) (h0 : formCheck l ≠ 0) :
    Calls Try.prog 7 #[.slice A l.length c, .agg #[.int .i64 p.tags, .int .i64 p.num]] w fun e w' => e = .returned (.bool true) ∧ Ext w w' := by
  have hE : formIsErr l p = formCheck l := by rw [formIsErr, if_neg h0]
  have hH : formIs l p = false := by rw [formIs, hE]; simp [h0]
  have hne : (formCheck l != 0) = true := by simpa using h0
  have hx0 := (Ext.refl w).alloc (.cells #[.int .i64 p.tags, .int .i64 p.num] 59)
  have hC0 : formCheck [] = 2 := by decide
  go_enter Try.func7, Try.ntmps7
  go_wp2_with fail
  refine (formula_Is B A c l p _ hl (hs.ext RTrip.mono hx0)).mono ?_
  rintro e w1 ⟨rfl, hx1⟩
  have q1 := hx1.cell (show (w.alloc (.cells #[.int .i64 p.tags, .int .i64 p.num] 59)).cell? ⟨w.heap.size, 0, none⟩ = some (.int .i64 p.tags) by go_simp)
  have q2 := hx1.cell (show (w.alloc (.cells #[.int .i64 p.tags, .int .i64 p.num] 59)).cell? ⟨w.heap.size, 1, none⟩ = some (.int .i64 p.num) by go_simp)
  replace hx1 := hx0.trans hx1
  replace hs := hs.ext RTrip.mono hx1
  rw [hE, hH]
  clear hE hH
  go_wp2_with fail
  refine (formula_FilterE B A c l _ hl hs h0).mono ?_
  rintro e w2 ⟨rfl, hx⟩
  replace hs := hs.ext RTrip.mono hx
  replace hx1 := hx1.trans hx
  clear hx
  go_wp2_with fail
  refine (ref_Sentence B A c l _ hl hs).mono ?_
  rintro e w3 ⟨rfl, hx⟩
  replace hs := hs.ext RTrip.mono hx
  replace hx1 := hx1.trans hx
  clear hx
  go_wp2_with fail
  refine (formula_Check B A c l _ hl hs).mono ?_
  rintro e w4 ⟨rfl, hx⟩
  replace hs := hs.ext RTrip.mono hx
  replace hx1 := hx1.trans hx
  clear hx
  go_wp2_with fail
  refine (formula_Check B none 0 [] _ (by decide) Sl.nil).mono ?_
  rintro e w5 ⟨rfl, hx⟩
  replace hs := hs.ext RTrip.mono hx
  replace hx1 := hx1.trans hx
  clear hx
  rw [hC0]
  go_wp2_with fail
  go_ret
  exact ⟨ret_bool (by simp), hx1⟩

set_option maxRecDepth 100000 in
set_option maxHeartbeats 8000000 in
theorem law_FormSays_ok (B : Nat) (A : Option Addr) (c : Nat) (l : List Node) (p : Point) (w : World) (hB : B ≤ w.heap.size) (hl : l.length ≤ maxLen) (hs : SlNodes B w A l) (h0 : formCheck l = 0) (hp : pointOk p = true) :
    Calls Try.prog 7 #[.slice A l.length c, .agg #[.int .i64 p.tags, .int .i64 p.num]] w fun e w' => e = .returned (.bool true) ∧ Ext w w' := by
  have hf := formCheck_iff.1 h0
  have hlo := hf.lo
  have HFO := hid hf
  have HL0 := hid h0
  have hE : formIsErr l p = 0 := by rw [formIsErr, if_pos h0, hp]; rfl
  have hH : formIs l p = sayAt l (l.length - 1) (32 * p.tags + p.num).toNat := by rw [formIs, hE]; rfl
  have HP := hid hp
  have hx0 := (Ext.refl w).alloc (.cells #[.int .i64 p.tags, .int .i64 p.num] 59)
  have hC0 : formCheck [] = 2 := by decide
  go_enter Try.func7, Try.ntmps7
  go_wp2_with fail
  refine (formula_Is B A c l p _ hl (hs.ext RTrip.mono hx0)).mono ?_
  rintro e w1 ⟨rfl, hx1⟩
  have q1 := hx1.cell (show (w.alloc (.cells #[.int .i64 p.tags, .int .i64 p.num] 59)).cell? ⟨w.heap.size, 0, none⟩ = some (.int .i64 p.tags) by go_simp)
  have q2 := hx1.cell (show (w.alloc (.cells #[.int .i64 p.tags, .int .i64 p.num] 59)).cell? ⟨w.heap.size, 1, none⟩ = some (.int .i64 p.num) by go_simp)
  replace hx1 := hx0.trans hx1
  replace hs := hs.ext RTrip.mono hx1
  rw [hE, hH]
  clear hE hH hf
  go_wp2_with fail
  refine (formula_Filter B A c l _ (Nat.le_trans hB hx1.size) hl hs HL0.out).mono ?_
  rintro e w2 ⟨v, f, rfl, hfv, hfs, hx⟩
  replace hs := hs.ext RTrip.mono hx
  replace q1 := hx.cell q1
  replace q2 := hx.cell q2
  replace hx1 := hx1.trans hx
  clear hx
  obtain ⟨Af, cf, rfl, hf1, hf2, hfv⟩ := hfv
  have HFS := hid hfs
  clear hfs
  go_wp2_with fail
  refine (ref_Sentence B A c l _ hl hs).mono ?_
  rintro e w3 ⟨rfl, hx⟩
  replace hs := hs.ext RTrip.mono hx
  replace hfv := hfv.ext RBox.monoE hx
  replace q1 := hx.cell q1
  replace q2 := hx.cell q2
  replace hx1 := hx1.trans hx
  clear hx
  rw [h0]
  go_wp2_with fail
  refine (formula_Check B A c l _ hl hs).mono ?_
  rintro e w4 ⟨rfl, hx⟩
  replace hs := hs.ext RTrip.mono hx
  replace hfv := hfv.ext RBox.monoE hx
  replace q1 := hx.cell q1
  replace q2 := hx.cell q2
  replace hx1 := hx1.trans hx
  clear hx
  rw [h0]
  go_wp2_with fail
  refine (formula_Check B none 0 [] _ (by decide) Sl.nil).mono ?_
  rintro e w5 ⟨rfl, hx⟩
  replace hs := hs.ext RTrip.mono hx
  replace hfv := hfv.ext RBox.monoE hx
  replace q1 := hx.cell q1
  replace q2 := hx.cell q2
  replace hx1 := hx1.trans hx
  clear hx
  rw [hC0]
  go_wp2_with fail
  refine (ref_Says B A c l _ HFO.out hs).mono ?_
  rintro e w6 ⟨rfl, hx⟩
  replace hfv := hfv.ext RBox.monoE hx
  replace q1 := hx.cell q1
  replace q2 := hx.cell q2
  replace hx1 := hx1.trans hx
  clear hx
  go_wp2_with (first
    | ((with_reducible refine wpList_allocArr (o := ⟨some 10, _, _, _, _, _⟩) zi_points rfl rfl ?_); intro w7 hx7 hb7 hs7)
    | ((with_reducible refine at_op none (.store _ (.tmp 10) _) ?_); refine wpList_storeArr ai_points _ _ rfl rfl rfl rfl hb7 (rowB_size _ _) (rowB_size _ _) (rowB_all _ _) ?_; intro w8 hx8 hb hs8 ho8)
    | ((with_reducible refine wpList_loadArr (o := ⟨some 57, _, _, _, _, _⟩) ai_points _ rfl rfl rfl hb (rowB_size _ _) ?_))
    | ((with_reducible refine wp_loadArr (o := ⟨some 57, _, _, _, _, _⟩) ai_points _ rfl rfl hb (rowB_size _ _) ?_)))
  have hx := hx7.below hx8 (Nat.le_refl _)
  clear hx7 hx8 hb7 hs7 hs8 ho8
  replace q1 := hx.cell q1
  replace q2 := hx.cell q2
  replace hfv := hfv.ext RBox.monoE hx
  replace hx1 := hx1.trans hx
  clear hx
  refine (ref_Means B Af cf f (sayAt l (l.length - 1)) _ HFS.out.len HFS.out.ok HFS.out.says hfv).mono ?_
  rintro e w9 ⟨rfl, hx⟩
  replace q1 := hx.cell q1
  replace q2 := hx.cell q2
  replace hb := hb.ext hx
  replace hx1 := hx1.trans hx
  clear hx
  go_wp2_with fail
  refine (ref_Point p _).mono ?_
  rintro e w10 ⟨rfl, hx⟩
  replace q1 := hx.cell q1
  replace q2 := hx.cell q2
  replace hb := hb.ext hx
  replace hx1 := hx1.trans hx
  clear hx
  rw [hp]
  clear hp
  go_wp2_with (first
    | ((with_reducible refine wpList_loadArr (o := ⟨some 74, _, _, _, _, _⟩) ai_points _ rfl rfl rfl hb (rowB_size _ _) ?_))
    | ((with_reducible refine wp_loadArr (o := ⟨some 74, _, _, _, _, _⟩) ai_points _ rfl rfl hb (rowB_size _ _) ?_)))
  refine (ref_At (sayAt l (l.length - 1)) p HP.out _).mono ?_
  rintro e w11 ⟨rfl, hx⟩
  replace hx1 := hx1.trans hx
  go_wp2_with fail
  go_ret
  exact ⟨ret_bool (by simp), hx1⟩

set_option maxRecDepth 100000 in
set_option maxHeartbeats 8000000 in
theorem law_FormSays_pt (B : Nat) (A : Option Addr) (c : Nat) (l : List Node) (p : Point) (w : World) (hB : B ≤ w.heap.size) (hl : l.length ≤ maxLen) (hs : SlNodes B w A l) (h0 : formCheck l = 0) (hp : pointOk p = false) :
    Calls Try.prog 7 #[.slice A l.length c, .agg #[.int .i64 p.tags, .int .i64 p.num]] w fun e w' => e = .returned (.bool true) ∧ Ext w w' := by
  have hf := formCheck_iff.1 h0
  have hlo := hf.lo
  have HFO := hid hf
  have HL0 := hid h0
  have hE : formIsErr l p = 1 := by rw [formIsErr, if_pos h0, hp]; rfl
  have hH : formIs l p = false := by rw [formIs, hE]; rfl
  have hx0 := (Ext.refl w).alloc (.cells #[.int .i64 p.tags, .int .i64 p.num] 59)
  have hC0 : formCheck [] = 2 := by decide
  go_enter Try.func7, Try.ntmps7
  go_wp2_with fail
  refine (formula_Is B A c l p _ hl (hs.ext RTrip.mono hx0)).mono ?_
  rintro e w1 ⟨rfl, hx1⟩
  have q1 := hx1.cell (show (w.alloc (.cells #[.int .i64 p.tags, .int .i64 p.num] 59)).cell? ⟨w.heap.size, 0, none⟩ = some (.int .i64 p.tags) by go_simp)
  have q2 := hx1.cell (show (w.alloc (.cells #[.int .i64 p.tags, .int .i64 p.num] 59)).cell? ⟨w.heap.size, 1, none⟩ = some (.int .i64 p.num) by go_simp)
  replace hx1 := hx0.trans hx1
  replace hs := hs.ext RTrip.mono hx1
  rw [hE, hH]
  clear hE hH hf
  go_wp2_with fail
  refine (formula_Filter B A c l _ (Nat.le_trans hB hx1.size) hl hs HL0.out).mono ?_
  rintro e w2 ⟨v, f, rfl, hfv, hfs, hx⟩
  replace hs := hs.ext RTrip.mono hx
  replace q1 := hx.cell q1
  replace q2 := hx.cell q2
  replace hx1 := hx1.trans hx
  clear hx
  obtain ⟨Af, cf, rfl, hf1, hf2, hfv⟩ := hfv
  have HFS := hid hfs
  clear hfs
  go_wp2_with fail
  refine (ref_Sentence B A c l _ hl hs).mono ?_
  rintro e w3 ⟨rfl, hx⟩
  replace hs := hs.ext RTrip.mono hx
  replace hfv := hfv.ext RBox.monoE hx
  replace q1 := hx.cell q1
  replace q2 := hx.cell q2
  replace hx1 := hx1.trans hx
  clear hx
  rw [h0]
  go_wp2_with fail
  refine (formula_Check B A c l _ hl hs).mono ?_
  rintro e w4 ⟨rfl, hx⟩
  replace hs := hs.ext RTrip.mono hx
  replace hfv := hfv.ext RBox.monoE hx
  replace q1 := hx.cell q1
  replace q2 := hx.cell q2
  replace hx1 := hx1.trans hx
  clear hx
  rw [h0]
  go_wp2_with fail
  refine (formula_Check B none 0 [] _ (by decide) Sl.nil).mono ?_
  rintro e w5 ⟨rfl, hx⟩
  replace hs := hs.ext RTrip.mono hx
  replace hfv := hfv.ext RBox.monoE hx
  replace q1 := hx.cell q1
  replace q2 := hx.cell q2
  replace hx1 := hx1.trans hx
  clear hx
  rw [hC0]
  go_wp2_with fail
  refine (ref_Says B A c l _ HFO.out hs).mono ?_
  rintro e w6 ⟨rfl, hx⟩
  replace hfv := hfv.ext RBox.monoE hx
  replace q1 := hx.cell q1
  replace q2 := hx.cell q2
  replace hx1 := hx1.trans hx
  clear hx
  go_wp2_with (first
    | ((with_reducible refine wpList_allocArr (o := ⟨some 10, _, _, _, _, _⟩) zi_points rfl rfl ?_); intro w7 hx7 hb7 hs7)
    | ((with_reducible refine at_op none (.store _ (.tmp 10) _) ?_); refine wpList_storeArr ai_points _ _ rfl rfl rfl rfl hb7 (rowB_size _ _) (rowB_size _ _) (rowB_all _ _) ?_; intro w8 hx8 hb hs8 ho8)
    | ((with_reducible refine wpList_loadArr (o := ⟨some 57, _, _, _, _, _⟩) ai_points _ rfl rfl rfl hb (rowB_size _ _) ?_))
    | ((with_reducible refine wp_loadArr (o := ⟨some 57, _, _, _, _, _⟩) ai_points _ rfl rfl hb (rowB_size _ _) ?_)))
  have hx := hx7.below hx8 (Nat.le_refl _)
  clear hx7 hx8 hb7 hs7 hs8 ho8
  replace q1 := hx.cell q1
  replace q2 := hx.cell q2
  replace hfv := hfv.ext RBox.monoE hx
  replace hx1 := hx1.trans hx
  clear hx
  refine (ref_Means B Af cf f (sayAt l (l.length - 1)) _ HFS.out.len HFS.out.ok HFS.out.says hfv).mono ?_
  rintro e w9 ⟨rfl, hx⟩
  replace q1 := hx.cell q1
  replace q2 := hx.cell q2
  replace hb := hb.ext hx
  replace hx1 := hx1.trans hx
  clear hx
  go_wp2_with fail
  refine (ref_Point p _).mono ?_
  rintro e w10 ⟨rfl, hx⟩
  replace q1 := hx.cell q1
  replace q2 := hx.cell q2
  replace hb := hb.ext hx
  replace hx1 := hx1.trans hx
  clear hx
  rw [hp]
  clear hp
  go_wp2_with fail
  go_ret
  exact ⟨ret_bool (by simp), hx1⟩

theorem law_FormSays (B : Nat) (A : Option Addr) (c : Nat) (l : List Node) (p : Point) (w : World) (hB : B ≤ w.heap.size) (hl : l.length ≤ maxLen) (hs : SlNodes B w A l) :
    Calls Try.prog 7 #[.slice A l.length c, .agg #[.int .i64 p.tags, .int .i64 p.num]] w fun e w' => e = .returned (.bool true) ∧ Ext w w' := by
  by_cases h0 : formCheck l = 0
  · cases hp : pointOk p
    · exact law_FormSays_pt B A c l p w hB hl hs h0 hp
    · exact law_FormSays_ok B A c l p w hB hl hs h0 hp
  · exact law_FormSays_err B A c l p w hB hl hs h0

end Go.Proofs.Ytiigbcnnapnceaa
