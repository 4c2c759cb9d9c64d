/- The walks of filter.Join, Meet, Less, Within, Same, Count, Every, Point, Has. -/
import Derived.Test.YtbkmgbckeaimdaaDoorFilC
import Derived.Test.YtbkmgbckeaimdaaDoorBase
import Derived.Laws.BitsAllLaws
namespace Go.Proofs.YtbkmgbckeaimdaaDoor
open Go Go.RowKit

theorem filter_Join1 (a b : Nat) (w : World) (ha : U32 a) (hb : U32 b) : Calls Tryd.prog 47 #[.int .u32 a, .int .u32 b] w fun e w' => e = .returned (.int .u32 ((a ||| b : Nat) : Int)) ∧ w = w' := by
  have e4 := u32_or_nat a b ha hb
  go_enter Tryd.func47, Tryd.ntmps47
  go_wp2_with fail
  go_ret
  exact ⟨rfl, rfl⟩
theorem filter_Meet1 (a b : Nat) (w : World) (ha : U32 a) (hb : U32 b) : Calls Tryd.prog 46 #[.int .u32 a, .int .u32 b] w fun e w' => e = .returned (.int .u32 ((a &&& b : Nat) : Int)) ∧ w = w' := by
  have e4 := u32_and_nat a b ha hb
  go_enter Tryd.func46, Tryd.ntmps46
  go_wp2_with fail
  go_ret
  exact ⟨rfl, rfl⟩
theorem filter_Less1 (a b : Nat) (w : World) (ha : U32 a) (hb : U32 b) : Calls Tryd.prog 45 #[.int .u32 a, .int .u32 b] w fun e w' => e = .returned (.int .u32 ((less32 a b : Nat) : Int)) ∧ w = w' := by
  have e4 := u32_andNot_nat a b ha hb
  go_enter Tryd.func45, Tryd.ntmps45
  go_wp2_with fail
  go_ret
  exact ⟨rfl, rfl⟩
theorem filter_Same1 (a b : Nat) (w : World) (ha : U32 a) (hb : U32 b) : Calls Tryd.prog 31 #[.int .u32 a, .int .u32 b] w fun e w' => e = .returned (.int .u32 ((a ^^^ b : Nat) : Int)) ∧ w = w' := by
  have e4 := u32_xor_nat a b ha hb
  go_enter Tryd.func31, Tryd.ntmps31
  go_wp2_with fail
  go_ret
  exact ⟨rfl, rfl⟩

theorem filter_Join (B : Nat) (A A' : Option Addr) (c c' : Nat) (f g : List Box) (w : World) (hB : B ≤ w.heap.size) (hlf : f.length ≤ maxLen) (hlg : g.length ≤ maxLen) (hsf : SlBoxes B w A f) (hsg : SlBoxes B w A' g) :
    Calls Tryd.prog 28 #[.slice A f.length c, .slice A' g.length c'] w fun e w' => ∃ v, e = .returned (.tuple #[v, .int .i64 (filterTwo f g)]) ∧ IsBoxes B w' v (filterOp (fun a b => a ||| b) f g) ∧ Ext w w' := by
  go_enter Tryd.func28, Tryd.ntmps28
  go_wp2_with fail
  refine (filter_both B 47 (fun a b => a ||| b) A A' c c' f g _ hB hlf hlg hsf hsg Tryd.call47 (fun a b wn ha hb => filter_Join1 a b wn ha hb) (fun a b ha hb => or32_lt ha hb)).mono ?_
  rintro e w1 ⟨v, rfl, hv, hx⟩
  go_wp2_with fail
  go_ret2
  exact ⟨v, rfl, hv, hx⟩

theorem filter_Meet (B : Nat) (A A' : Option Addr) (c c' : Nat) (f g : List Box) (w : World) (hB : B ≤ w.heap.size) (hlf : f.length ≤ maxLen) (hlg : g.length ≤ maxLen) (hsf : SlBoxes B w A f) (hsg : SlBoxes B w A' g) :
    Calls Tryd.prog 27 #[.slice A f.length c, .slice A' g.length c'] w fun e w' => ∃ v, e = .returned (.tuple #[v, .int .i64 (filterTwo f g)]) ∧ IsBoxes B w' v (filterOp (fun a b => a &&& b) f g) ∧ Ext w w' := by
  go_enter Tryd.func27, Tryd.ntmps27
  go_wp2_with fail
  refine (filter_both B 46 (fun a b => a &&& b) A A' c c' f g _ hB hlf hlg hsf hsg Tryd.call46 (fun a b wn ha hb => filter_Meet1 a b wn ha hb) (fun a b ha hb => and32_lt ha)).mono ?_
  rintro e w1 ⟨v, rfl, hv, hx⟩
  go_wp2_with fail
  go_ret2
  exact ⟨v, rfl, hv, hx⟩

theorem filter_Less (B : Nat) (A A' : Option Addr) (c c' : Nat) (f g : List Box) (w : World) (hB : B ≤ w.heap.size) (hlf : f.length ≤ maxLen) (hlg : g.length ≤ maxLen) (hsf : SlBoxes B w A f) (hsg : SlBoxes B w A' g) :
    Calls Tryd.prog 26 #[.slice A f.length c, .slice A' g.length c'] w fun e w' => ∃ v, e = .returned (.tuple #[v, .int .i64 (filterTwo f g)]) ∧ IsBoxes B w' v (filterOp less32 f g) ∧ Ext w w' := by
  go_enter Tryd.func26, Tryd.ntmps26
  go_wp2_with fail
  refine (filter_both B 45 less32 A A' c c' f g _ hB hlf hlg hsf hsg Tryd.call45 (fun a b wn ha hb => filter_Less1 a b wn ha hb) (fun a b ha hb => and32_lt ha)).mono ?_
  rintro e w1 ⟨v, rfl, hv, hx⟩
  go_wp2_with fail
  go_ret2
  exact ⟨v, rfl, hv, hx⟩

theorem filter_Within (B : Nat) (A A' : Option Addr) (c c' : Nat) (f g : List Box) (w : World) (hB : B ≤ w.heap.size) (hlf : f.length ≤ maxLen) (hlg : g.length ≤ maxLen) (hsf : SlBoxes B w A f) (hsg : SlBoxes B w A' g) :
    Calls Tryd.prog 12 #[.slice A f.length c, .slice A' g.length c'] w fun e w' => e = .returned (.tuple #[.bool (filterNone less32 f g), .int .i64 (filterTwo f g)]) ∧ Ext w w' := by
  go_enter Tryd.func12, Tryd.ntmps12
  go_wp2_with fail
  refine (filter_Less B A A' c c' f g _ hB hlf hlg hsf hsg).mono ?_
  rintro e w1 ⟨v, rfl, hv, hx⟩
  obtain ⟨A1, c1, rfl, k1, m1, hs1⟩ := hv
  by_cases h0 : filterTwo f g = 0
  · have HN := hid (show filterNone less32 f g = decide (filterOp less32 f g = []) by rw [filterNone, decide_eq_true h0, Bool.true_and])
    rw [h0]
    have H0 := hid h0
    clear h0
    generalize filterOp less32 f g = L at *
    go_wp2_with fail
    go_ret2
    exact ⟨by simp [HN.out, H0.out, len_beq], hx⟩
  · have hne : (filterTwo f g == 0) = false := by simpa using h0
    have HN := hid (filterNone_err (d := less32) h0)
    clear h0
    go_wp2_with fail
    go_ret2
    exact ⟨by rw [HN.out]; rfl, hx⟩

theorem filter_Same (B : Nat) (A A' : Option Addr) (c c' : Nat) (f g : List Box) (w : World) (hB : B ≤ w.heap.size) (hlf : f.length ≤ maxLen) (hlg : g.length ≤ maxLen) (hsf : SlBoxes B w A f) (hsg : SlBoxes B w A' g) :
    Calls Tryd.prog 11 #[.slice A f.length c, .slice A' g.length c'] w fun e w' => e = .returned (.tuple #[.bool (filterNone (fun a b => a ^^^ b) f g), .int .i64 (filterTwo f g)]) ∧ Ext w w' := by
  go_enter Tryd.func11, Tryd.ntmps11
  go_wp2_with fail
  refine (filter_both B 31 (fun a b => a ^^^ b) A A' c c' f g _ hB hlf hlg hsf hsg Tryd.call31 (fun a b wn ha hb => filter_Same1 a b wn ha hb) (fun a b ha hb => xor32_lt ha hb)).mono ?_
  rintro e w1 ⟨v, rfl, hv, hx⟩
  obtain ⟨A1, c1, rfl, k1, m1, hs1⟩ := hv
  by_cases h0 : filterTwo f g = 0
  · have HN := hid (show filterNone (fun a b => a ^^^ b) f g = decide (filterOp (fun a b => a ^^^ b) f g = []) by rw [filterNone, decide_eq_true h0, Bool.true_and])
    rw [h0]
    have H0 := hid h0
    clear h0
    generalize filterOp (fun a b => a ^^^ b) f g = L at *
    go_wp2_with fail
    go_ret2
    exact ⟨by simp [HN.out, H0.out, len_beq], hx⟩
  · have hne : (filterTwo f g == 0) = false := by simpa using h0
    have HN := hid (filterNone_err (d := (fun a b => a ^^^ b)) h0)
    clear h0
    go_wp2_with fail
    go_ret2
    exact ⟨by rw [HN.out]; rfl, hx⟩

theorem filter_Every (B : Nat) (w : World) (_hB : B ≤ w.heap.size) :
    Calls Tryd.prog 18 #[] w fun e w' => ∃ v, e = .returned v ∧ IsBoxes B w' v everyF ∧ Ext w w' := by
  go_enter Tryd.func18, Tryd.ntmps18
  go_wp2_with fail
  go_ret
  refine ⟨_, rfl, ⟨some ⟨w.heap.size + 1, 0, none⟩, 1, rfl, Nat.le_refl _, by decide, ?_⟩, ((Ext.refl w).alloc (.cells #[.int .i64 0, .int .i64 32] 56)).alloc (.cells #[.int .i64 0, .int .i64 0, .slice (some ⟨w.heap.size, 0, none⟩) 1 1] 51)⟩
  have h1 : SlSpans B (w.alloc (.cells #[.int .i64 0, .int .i64 32] 56)) (some ⟨w.heap.size, 0, none⟩) [⟨0, 32⟩] := Sl.one rfl rfl rfl
  have h2 := Sl.one (R := RBox B) (B := B) (e := 51) (sz := 3) (w := w.alloc (.cells #[.int .i64 0, .int .i64 32] 56)) (cs := [.int .i64 0, .int .i64 0, .slice (some ⟨w.heap.size, 0, none⟩) 1 1]) (y := ⟨⟨0, 0⟩, [⟨0, 32⟩]⟩) rfl rfl ⟨_, rfl, _, _, rfl, Nat.le_refl _, by decide, h1.ext RPair.mono ((Ext.refl _).alloc _)⟩
  rw [show (w.alloc (.cells #[.int .i64 0, .int .i64 32] 56)).heap.size = w.heap.size + 1 by simp] at h2
  exact h2

set_option maxHeartbeats 1000000 in
theorem filter_Count (B : Nat) (A : Option Addr) (c : Nat) (f : List Box) (w : World) (hlf : f.length ≤ maxLen) (hsf : SlBoxes B w A f) :
    Calls Tryd.prog 17 #[.slice A f.length c] w fun e w' => e = .returned (.tuple #[.int .i64 (filterCount f), .int .i64 (filterCheck f)]) ∧ Ext w w' := by
  go_enter Tryd.func17, Tryd.ntmps17
  go_wp2_with fail
  refine (filter_Check B A c f _ hlf hsf).mono ?_
  rintro e w1 ⟨rfl, hx1⟩
  by_cases h0 : filterCheck f = 0
  · have HN := hid (show filterCount f = popSum (tab f) 16 by rw [filterCount, if_pos h0])
    have hok := (filterCheck_ok h0).2
    rw [h0]
    have H0 := hid h0
    clear h0
    go_wp2_with fail
    refine (filter_tabled B A c f _ hlf hok (hsf.ext RBox.monoE hx1)).mono ?_
    rintro e w2 ⟨rfl, hx2⟩
    have hx := hx1.trans hx2
    clear hx1 hx2 hsf
    have HT := hid (fun t => tab_lt hok t)
    generalize tab f = T at *
    clear hok
    go_wp2_with fail
    go_loopw [5, 15] (fun n i wr => ∃ k : Nat, k ≤ 16 ∧ i = .int .i64 k ∧ n = .int .i64 (popSum T k) ∧ Ext w wr) (fun _ i _ => 16 - (intOf i).toNat)
    case atStart => exact ⟨0, Nat.zero_le _, rfl, rfl, hx⟩
    case round =>
      clear hx
      obtain ⟨k, hk, rfl, rfl, hx⟩ := hrel
      by_cases hlt : k < 16
      · have k0 : (0 : Int) ≤ k := by omega
        have k4 : (k : Int) < 16 := by omega
        have hix : ∀ w, (Instr.index 79 (.agg (rowU 16 T)) (.int .i64 k)).run Tryd.prog w = .ok (.int .u32 (T k)) w := run_index_row Tryd.underlying79 (fun _ => by kernel_rfl) (fun _ => by kernel_rfl) hlt
        have HS := hid (show popSum T (k + 1) = popSum T k + popTo (T k) 32 from rfl)
        have hbd := popSum_bd T k
        have htk := HT.out k
        go_wp2_with fail
        obtain ⟨wo, rfl⟩ : ∃ wo, wo = wr := ⟨_, rfl⟩
        go_loopw [5, 7] (fun n l ws => ∃ v : Nat, v < 4294967296 ∧ l = .int .u32 v ∧ n = .int .i64 (popSum T k + popTo (T k) 32 - popTo v 32) ∧ Ext w ws) (fun _ l _ => (intOf l).toNat)
        case atStart => exact ⟨T k, htk, rfl, by congr 1; omega, hx⟩
        case round =>
          clear hx
          obtain ⟨v, hv, rfl, rfl, hx⟩ := hrel
          have hb1 := popTo_bd v 32
          have hb2 := popTo_bd (T k) 32
          by_cases hz : v = 0
          · subst hz
            rw [popTo_zero]
            clear hb1 hv
            go_wp2_with fail
            go_roundw
            case rel => exact ⟨k + 1, by omega, by go_num, by rw [HS.out]; congr 1; omega, hx⟩
            case measure => simp [intOf]; omega
          · have hv0 : ((v : Int) != 0) = true := by simpa using hz
            obtain ⟨v1, hv1⟩ : ∃ v1, v1 = v &&& (v - 1) := ⟨_, rfl⟩
            have HL := hid (show popTo v1 32 + 1 = popTo v 32 by rw [hv1]; exact popTo_low v hz hv)
            have e4 : bits .and .u32 (v : Int) (((v : Int) - 1) % 4294967296) = (v1 : Int) := by rw [hv1, show ((v : Int) - 1) % 4294967296 = ((v - 1 : Nat) : Int) by omega]; exact u32_and_nat v (v - 1) hv (by omega)
            have HV := hid (show v1 < v by rw [hv1]; exact Nat.lt_of_le_of_lt Nat.and_le_right (by omega))
            clear hv1
            have HZ := hid hz
            clear hz
            go_wp2_with fail
            go_roundw
            case rel => exact ⟨v1, Nat.lt_trans HV.out hv, by go_num, by congr 1; have := HL.out; omega, hx⟩
            case measure => have := HV.out; simp [intOf]; omega
      · obtain rfl : k = 16 := by omega
        go_wp2_with fail
        go_ret2
        exact ⟨by simp [HN.out, H0.out], hx⟩
  · have hne : (filterCheck f != 0) = true := by simpa using h0
    have HN := hid (show filterCount f = 0 by rw [filterCount, if_neg h0])
    clear h0
    go_wp2_with fail
    go_ret2
    exact ⟨by simp [HN.out], hx1⟩

end Go.Proofs.YtbkmgbckeaimdaaDoor
