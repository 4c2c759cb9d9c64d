/- Several texts in one: data, readings, plain laws, walks. No condition. -/
import Derived.Test.YtngbfdogiciahaaGreatFilB
import Derived.Test.YtngbfdogiciahaaGreatBase
import Derived.Laws.BitsAllLaws
namespace Go.Proofs.YtngbfdogiciahaaGreat
open Go Go.RowKit
def U32 (n : Nat) : Prop := n < 4294967296
set_option maxRecDepth 100000 in
set_option maxHeartbeats 4000000 in
theorem filter_both (B : Nat) (fn : FuncId) (d : Nat → Nat → Nat) (A A' : Option Addr) (c c' : Nat) (f g : List Box) (w : World) (hB : B ≤ w.heap.size) (hlf : f.length ≤ maxLen) (hlg : g.length ≤ maxLen) (hsf : SlBoxes B w A f) (hsg : SlBoxes B w A' g)
  (hc : ∀ (args : Array Value) (wn : World), (callFunc fn args).run Tryz.prog wn = .ok (.enter fn args) wn)
  (hf : ∀ (a b : Nat) (wn : World), U32 a → U32 b → Calls Tryz.prog fn #[.int .u32 a, .int .u32 b] wn fun e w' => e = .returned (.int .u32 (d a b : Nat)) ∧ wn = w') (hd : ∀ a b, U32 a → U32 b → U32 (d a b)) :
  Calls Tryz.prog 187 #[.slice A f.length c, .slice A' g.length c', .func (.func fn) #[] #[]] w fun e w' => ∃ v, e = .returned (.tuple #[v, .int .i64 (filterTwo f g)]) ∧ IsBoxes B w' v (filterOp d f g) ∧ Ext w w' := by
 have HF := hid hf
 have HD := hid hd
 clear hf hd
 go_enter Tryz.func187, Tryz.ntmps187
 go_wp2_with fail
 refine (filter_Check B A c f _ hlf hsf).mono ?_
 rintro e w1 ⟨rfl, hx1⟩
 by_cases h0 : filterCheck f = 0
 ·rw [h0]
  have H0 := hid h0
  clear h0
  go_wp2_with fail
  refine (filter_Check B A' c' g _ hlg (hsg.ext RBox.monoE hx1)).mono ?_
  rintro e w2 ⟨rfl, hx2⟩
  have hx := hx1.trans hx2
  clear hx1 hx2
  by_cases h1 : filterCheck g = 0
  ·rw [h1]
   have H1 := hid h1
   clear h1
   have HTw := hid (show filterTwo f g = 0 by rw [filterTwo, if_pos H0.out, H1.out])
   have HOf := hid (filterCheck_ok H0.out).2
   have HOg := hid (filterCheck_ok H1.out).2
   go_wp2_with fail
   refine (filter_tabled B A c f _ hlf HOf.out (hsf.ext RBox.monoE hx)).mono ?_
   rintro e w3 ⟨rfl, hx3⟩
   replace hx := hx.trans hx3
   go_wp2_with fail
   refine (filter_tabled B A' c' g _ hlg HOg.out (hsg.ext RBox.monoE hx)).mono ?_
   rintro e w4 ⟨rfl, hx4⟩
   replace hx := hx.trans hx4
   clear hx3 hx4
   have HTf := hid (fun t => tab_lt HOf.out t)
   have HTg := hid (fun t => tab_lt HOg.out t)
   have HRes := hid (show filterOp d f g = mkBoxes fun t => d (tab f t) (tab g t) by rw [filterOp, if_pos HTw.out])
   generalize tab f = T at *
   generalize tab g = U at *
   go_wp2_with (first
    | ((with_reducible refine wpList_allocArr (o := ⟨some 10, _, _, _, _, _⟩) zi_table rfl rfl ?_); intro w5 hx5 hb5 hs5)
    | ((with_reducible refine wpList_allocArr (o := ⟨some 11, _, _, _, _, _⟩) zi_table rfl rfl ?_); intro w6 hx6 hb6 hs6; have hb6r := hb6; rw [hs5] at hb6r)
    | ((with_reducible refine at_op none (.store _ (.tmp 10) _) ?_); refine wpList_storeArr ai_table _ _ rfl rfl rfl rfl (hb5.ext hx6) (rowU_size _ _) (rowU_size _ _) (rowU_all _ _) ?_; intro w7 hx7 hb7 hs7 ho7)
    | ((with_reducible refine at_op none (.store _ (.tmp 11) _) ?_); (first | refine wpList_storeArr ai_table _ _ rfl rfl rfl rfl (hb6r.other ho7 (show w4.heap.size + 1 ≠ w4.heap.size by omega)) (rowU_size _ _) (rowU_size _ _) (rowU_all _ _) ?_ | refine wpList_storeArr ai_table _ _ rfl rfl rfl rfl (hb6.other ho7 (show w5.heap.size ≠ w4.heap.size by omega)) (rowU_size _ _) (rowU_size _ _) (rowU_all _ _) ?_ ); intro w8 hx8 hb8 hs8 ho8))
   have hbt : Blk w8 w4.heap.size 208 (rowU 16 T) := hb7.other ho8 (by omega)
   have hbu : Blk w8 (w4.heap.size + 1) 208 (rowU 16 U) := by rw [← hs5]; exact hb8
   have hx9 : Ext w4 w8 := ((hx5.trans hx6).below hx7 (Nat.le_refl _)).below hx8 (by omega)
   have hz : w.heap.size ≤ w4.heap.size := hx.size
   replace hx := hx.trans hx9
   clear hb8 hb5 hb6 hx5 hx6 hs5 hs6 hx7 hb7 hs7 ho7 hb6r hx8 hs8 ho8
   go_wp2_with fail
   obtain ⟨wo, rfl⟩ : ∃ wo, wo = w8 := ⟨_, rfl⟩
   go_loopw [27] (fun i wr => ∃ k : Nat, k ≤ 16 ∧ i = .int .i64 k ∧ Blk wr w4.heap.size 208 (rowU 16 fun i => if i < k then d (T i) (U i) else T i) ∧ Blk wr (w4.heap.size + 1) 208 (rowU 16 U) ∧ Ext w wr) (fun i _ => 16 - (intOf i).toNat)
   case atStart =>
    refine ⟨0, by omega, rfl, ?_, hbu, hx⟩
    rwa [rowU_congr (U := fun i => if i < 0 then d (T i) (U i) else T i) (fun i _ => by simp)] at hbt
   case round =>
    clear hbt hbu hx hx9
    obtain ⟨k, hk, rfl, hb1, hb2, hx⟩ := hrel
    by_cases hlt : k < 16
    ·have k0 : (0 : Int) ≤ k := by omega
     have k4 : (k : Int) < 16 := by omega
     have c1 := hb1.cell (rowU_get _ hlt)
     have c2 := hb2.cell (rowU_get _ hlt)
     rw [if_neg (by omega)] at c1
     have z1 := hb1.frozen k
     have HC := hid (fun wn => HF.out (T k) (U k) wn (HTf.out k) (HTg.out k))
     go_upto_region 11 with fail
     go_region_with ((with_reducible refine (HC.out _).mono ?_); rintro e w7 ⟨rfl, rfl⟩)
     all_goals
      go_wp2_with fail
      have hs' := hb1.setU k (d (T k) (U k))
      have hdr := (Ext.refl (wr.setCell ⟨w4.heap.size, k, none⟩ (.int .u32 (d (T k) (U k) : Nat)))).drew
      go_roundw
      case rel =>
       refine ⟨k + 1, by omega, by go_num, ?_, (hb2.far (by simp) _).ext hdr, (hx.setCell (by show w.heap.size ≤ w4.heap.size; omega) _).trans hdr⟩
       refine Blk.ext ?_ hdr
       rwa [rowU_congr (U := fun i => if i < k + 1 then d (T i) (U i) else T i) (fun i _ => by
        by_cases hi : i = k
        ·subst hi; simp
        ·have e : (i < k) = (i < k + 1) := by rw [eq_iff_iff]; omega
         simp only [hi, if_false, e])] at hs'
      case measure => simp [intOf]; omega
    ·obtain rfl : k = 16 := by omega
     rw [rowU_congr (U := fun i => d (T i) (U i)) (fun i hi => by rw [if_pos hi])] at hb1
     go_wp2_with (((with_reducible refine wpList_loadArr (o := ⟨some 41, _, _, _, _, _⟩) ai_table _ rfl rfl rfl hb1 (rowU_size _ _) ?_)))
     refine (filter_boxes B (fun i => d (T i) (U i)) (fun i => HD.out _ _ (HTf.out i) (HTg.out i)) _ (Nat.le_trans hB hx.size)).mono ?_
     rintro e w9 ⟨v, rfl, hv, hx9⟩
     obtain ⟨A9, c9, rfl, k9, m9, hs9⟩ := hv
     have hxx := hx.trans hx9
     go_wp2_with fail
     go_ret2
     exact ⟨.slice A9 (filterOp d f g).length c9, by rw [HTw.out, HRes.out]; rfl, ⟨A9, c9, rfl, by rw [HRes.out]; exact k9, m9, by rw [HRes.out]; exact hs9⟩, hxx⟩
  ·have hne : (filterCheck g != 0) = true := by simpa using h1
   have H1 := hid h1
   clear h1
   go_wp2_with fail
   go_ret2
   have e : filterTwo f g = filterCheck g := by rw [filterTwo, if_pos H0.out]
   exact ⟨_, by rw [e]; rfl, by rw [filterOp, e, if_neg H1.out]; exact IsSl.nil, hx⟩
 ·have hne : (filterCheck f != 0) = true := by simpa using h0
  have H0 := hid h0
  clear h0
  go_wp2_with fail
  go_ret2
  have e : filterTwo f g = filterCheck f := by rw [filterTwo, if_neg H0.out]
  exact ⟨_, by rw [e]; rfl, by rw [filterOp, e, if_neg H0.out]; exact IsSl.nil, hx1⟩
end Go.Proofs.YtngbfdogiciahaaGreat
namespace Go.Proofs.YtngbfdogiciahaaGreat
open Go Go.RowKit
theorem filter_Meet1 (a b : Nat) (w : World) (ha : U32 a) (hb : U32 b) : Calls Tryz.prog 188 #[.int .u32 a, .int .u32 b] w fun e w' => e = .returned (.int .u32 ((a &&& b : Nat) : Int)) ∧ w = w' := by
 have e4 := u32_and_nat a b ha hb
 go_enter Tryz.func188, Tryz.ntmps188
 go_wp2_with fail
 go_ret
 exact ⟨rfl, rfl⟩
theorem filter_Less1 (a b : Nat) (w : World) (ha : U32 a) (hb : U32 b) : Calls Tryz.prog 240 #[.int .u32 a, .int .u32 b] w fun e w' => e = .returned (.int .u32 ((less32 a b : Nat) : Int)) ∧ w = w' := by
 have e4 := u32_andNot_nat a b ha hb
 go_enter Tryz.func240, Tryz.ntmps240
 go_wp2_with fail
 go_ret
 exact ⟨rfl, rfl⟩
theorem filter_Meet (B : Nat) (A A' : Option Addr) (c c' : Nat) (f g : List Box) (w : World) (hB : B ≤ w.heap.size) (hlf : f.length ≤ maxLen) (hlg : g.length ≤ maxLen) (hsf : SlBoxes B w A f) (hsg : SlBoxes B w A' g) :
  Calls Tryz.prog 140 #[.slice A f.length c, .slice A' g.length c'] w fun e w' => ∃ v, e = .returned (.tuple #[v, .int .i64 (filterTwo f g)]) ∧ IsBoxes B w' v (filterOp (fun a b => a &&& b) f g) ∧ Ext w w' := by
 go_enter Tryz.func140, Tryz.ntmps140
 go_wp2_with fail
 refine (filter_both B 188 (fun a b => a &&& b) A A' c c' f g _ hB hlf hlg hsf hsg Tryz.call188 (fun a b wn ha hb => filter_Meet1 a b wn ha hb) (fun a b ha hb => and32_lt ha)).mono ?_
 rintro e w1 ⟨v, rfl, hv, hx⟩
 go_wp2_with fail
 go_ret2
 exact ⟨v, rfl, hv, hx⟩
theorem filter_Less (B : Nat) (A A' : Option Addr) (c c' : Nat) (f g : List Box) (w : World) (hB : B ≤ w.heap.size) (hlf : f.length ≤ maxLen) (hlg : g.length ≤ maxLen) (hsf : SlBoxes B w A f) (hsg : SlBoxes B w A' g) :
  Calls Tryz.prog 224 #[.slice A f.length c, .slice A' g.length c'] w fun e w' => ∃ v, e = .returned (.tuple #[v, .int .i64 (filterTwo f g)]) ∧ IsBoxes B w' v (filterOp less32 f g) ∧ Ext w w' := by
 go_enter Tryz.func224, Tryz.ntmps224
 go_wp2_with fail
 refine (filter_both B 240 less32 A A' c c' f g _ hB hlf hlg hsf hsg Tryz.call240 (fun a b wn ha hb => filter_Less1 a b wn ha hb) (fun a b ha hb => and32_lt ha)).mono ?_
 rintro e w1 ⟨v, rfl, hv, hx⟩
 go_wp2_with fail
 go_ret2
 exact ⟨v, rfl, hv, hx⟩
theorem filter_Within (B : Nat) (A A' : Option Addr) (c c' : Nat) (f g : List Box) (w : World) (hB : B ≤ w.heap.size) (hlf : f.length ≤ maxLen) (hlg : g.length ≤ maxLen) (hsf : SlBoxes B w A f) (hsg : SlBoxes B w A' g) :
  Calls Tryz.prog 207 #[.slice A f.length c, .slice A' g.length c'] w fun e w' => e = .returned (.tuple #[.bool (filterNone less32 f g), .int .i64 (filterTwo f g)]) ∧ Ext w w' := by
 go_enter Tryz.func207, Tryz.ntmps207
 go_wp2_with fail
 refine (filter_Less B A A' c c' f g _ hB hlf hlg hsf hsg).mono ?_
 rintro e w1 ⟨v, rfl, hv, hx⟩
 obtain ⟨A1, c1, rfl, k1, m1, hs1⟩ := hv
 by_cases h0 : filterTwo f g = 0
 ·have HN := hid (show filterNone less32 f g = decide (filterOp less32 f g = []) by rw [filterNone, decide_eq_true h0, Bool.true_and])
  rw [h0]
  have H0 := hid h0
  clear h0
  generalize filterOp less32 f g = L at *
  go_wp2_with fail
  go_ret2
  exact ⟨by simp [HN.out, H0.out, len_beq], hx⟩
 ·have hne : (filterTwo f g == 0) = false := by simpa using h0
  have HN := hid (filterNone_err (d := less32) h0)
  clear h0
  go_wp2_with fail
  go_ret2
  exact ⟨by rw [HN.out]; rfl, hx⟩
theorem filter_Every (B : Nat) (w : World) (_hB : B ≤ w.heap.size) :
  Calls Tryz.prog 12 #[] w fun e w' => ∃ v, e = .returned v ∧ IsBoxes B w' v everyF ∧ Ext w w' := by
 go_enter Tryz.func12, Tryz.ntmps12
 go_wp2_with fail
 go_ret
 refine ⟨_, rfl, ⟨some ⟨w.heap.size + 1, 0, none⟩, 1, rfl, Nat.le_refl _, by decide, ?_⟩, ((Ext.refl w).alloc (.cells #[.int .i64 0, .int .i64 32] 137)).alloc (.cells #[.int .i64 0, .int .i64 0, .slice (some ⟨w.heap.size, 0, none⟩) 1 1] 142)⟩
 have h1 : SlSpans B (w.alloc (.cells #[.int .i64 0, .int .i64 32] 137)) (some ⟨w.heap.size, 0, none⟩) [⟨0, 32⟩] := Sl.one rfl rfl rfl
 have h2 := Sl.one (R := RBox B) (B := B) (e := 142) (sz := 3) (w := w.alloc (.cells #[.int .i64 0, .int .i64 32] 137)) (cs := [.int .i64 0, .int .i64 0, .slice (some ⟨w.heap.size, 0, none⟩) 1 1]) (y := ⟨⟨0, 0⟩, [⟨0, 32⟩]⟩) rfl rfl ⟨_, rfl, _, _, rfl, Nat.le_refl _, by decide, h1.ext RPair.mono ((Ext.refl _).alloc _)⟩
 rw [show (w.alloc (.cells #[.int .i64 0, .int .i64 32] 137)).heap.size = w.heap.size + 1 by simp] at h2
 exact h2
theorem filter_Point (p : Point) (w : World) :
  Calls Tryz.prog 93 #[.agg #[.int .i64 p.tags, .int .i64 p.num]] w fun e w' => e = .returned (.bool (pointOk p)) ∧ Ext w w' := by
 have HP := hid (show pointOk p = (tagsOk p.tags && (decide (0 ≤ p.num) && decide (p.num ≤ 31))) from rfl)
 cases h1 : tagsOk p.tags
 ·have H1 := hid h1
  go_enter Tryz.func93, Tryz.ntmps93
  go_wp2_with fail
  refine (cube_Tags _ _).mono ?_
  rintro e w1 ⟨rfl, rfl⟩
  rw [h1]
  clear h1
  go_wp2_with fail
  go_ret
  exact ⟨ret_bool (by rw [HP.out, H1.out]; rfl), (Ext.refl w).alloc _⟩
 ·have H1 := hid h1
  rcases Int.lt_or_le p.num 0 with hn | hn
  ·go_enter Tryz.func93, Tryz.ntmps93
   go_wp2_with fail
   refine (cube_Tags _ _).mono ?_
   rintro e w1 ⟨rfl, rfl⟩
   rw [h1]
   clear h1
   go_wp2_with fail
   go_ret
   exact ⟨ret_bool (by rw [HP.out, H1.out, decide_eq_false (show ¬ 0 ≤ p.num by omega)]; rfl), (Ext.refl w).alloc _⟩
  ·go_enter Tryz.func93, Tryz.ntmps93
   go_wp2_with fail
   refine (cube_Tags _ _).mono ?_
   rintro e w1 ⟨rfl, rfl⟩
   rw [h1]
   clear h1
   go_wp2_with fail
   go_ret
   exact ⟨ret_bool (by rw [HP.out, H1.out, decide_eq_true hn, Bool.true_and, Bool.true_and, decide_eq_decide]; omega), (Ext.refl w).alloc _⟩
set_option maxHeartbeats 1000000 in
theorem filter_Count (B : Nat) (A : Option Addr) (c : Nat) (f : List Box) (w : World) (hlf : f.length ≤ maxLen) (hsf : SlBoxes B w A f) :
  Calls Tryz.prog 71 #[.slice A f.length c] w fun e w' => e = .returned (.tuple #[.int .i64 (filterCount f), .int .i64 (filterCheck f)]) ∧ Ext w w' := by
 go_enter Tryz.func71, Tryz.ntmps71
 go_wp2_with fail
 refine (filter_Check B A c f _ hlf hsf).mono ?_
 rintro e w1 ⟨rfl, hx1⟩
 by_cases h0 : filterCheck f = 0
 ·have HN := hid (show filterCount f = popSum (tab f) 16 by rw [filterCount, if_pos h0])
  have hok := (filterCheck_ok h0).2
  rw [h0]
  have H0 := hid h0
  clear h0
  go_wp2_with fail
  refine (filter_tabled B A c f _ hlf hok (hsf.ext RBox.monoE hx1)).mono ?_
  rintro e w2 ⟨rfl, hx2⟩
  have hx := hx1.trans hx2
  clear hx1 hx2 hsf
  have HT := hid (fun t => tab_lt hok t)
  generalize tab f = T at *
  clear hok
  go_wp2_with fail
  go_loopw [5, 15] (fun n i wr => ∃ k : Nat, k ≤ 16 ∧ i = .int .i64 k ∧ n = .int .i64 (popSum T k) ∧ Ext w wr) (fun _ i _ => 16 - (intOf i).toNat)
  case atStart => exact ⟨0, Nat.zero_le _, rfl, rfl, hx⟩
  case round =>
   clear hx
   obtain ⟨k, hk, rfl, rfl, hx⟩ := hrel
   by_cases hlt : k < 16
   ·have k0 : (0 : Int) ≤ k := by omega
    have k4 : (k : Int) < 16 := by omega
    have hix : ∀ w, (Instr.index 208 (.agg (rowU 16 T)) (.int .i64 k)).run Tryz.prog w = .ok (.int .u32 (T k)) w := run_index_row Tryz.underlying208 (fun _ => by kernel_rfl) (fun _ => by kernel_rfl) hlt
    have HS := hid (show popSum T (k + 1) = popSum T k + popTo (T k) 32 from rfl)
    have hbd := popSum_bd T k
    have htk := HT.out k
    go_wp2_with fail
    obtain ⟨wo, rfl⟩ : ∃ wo, wo = wr := ⟨_, rfl⟩
    go_loopw [5, 7] (fun n l ws => ∃ v : Nat, v < 4294967296 ∧ l = .int .u32 v ∧ n = .int .i64 (popSum T k + popTo (T k) 32 - popTo v 32) ∧ Ext w ws) (fun _ l _ => (intOf l).toNat)
    case atStart => exact ⟨T k, htk, rfl, by congr 1; omega, hx⟩
    case round =>
     clear hx
     obtain ⟨v, hv, rfl, rfl, hx⟩ := hrel
     have hb1 := popTo_bd v 32
     have hb2 := popTo_bd (T k) 32
     by_cases hz : v = 0
     ·subst hz
      rw [popTo_zero]
      clear hb1 hv
      go_wp2_with fail
      go_roundw
      case rel => exact ⟨k + 1, by omega, by go_num, by rw [HS.out]; congr 1; omega, hx⟩
      case measure => simp [intOf]; omega
     ·have hv0 : ((v : Int) != 0) = true := by simpa using hz
      obtain ⟨v1, hv1⟩ : ∃ v1, v1 = v &&& (v - 1) := ⟨_, rfl⟩
      have HL := hid (show popTo v1 32 + 1 = popTo v 32 by rw [hv1]; exact popTo_low v hz hv)
      have e4 : bits .and .u32 (v : Int) (((v : Int) - 1) % 4294967296) = (v1 : Int) := by rw [hv1, show ((v : Int) - 1) % 4294967296 = ((v - 1 : Nat) : Int) by omega]; exact u32_and_nat v (v - 1) hv (by omega)
      have HV := hid (show v1 < v by rw [hv1]; exact Nat.lt_of_le_of_lt Nat.and_le_right (by omega))
      clear hv1
      have HZ := hid hz
      clear hz
      go_wp2_with fail
      go_roundw
      case rel => exact ⟨v1, Nat.lt_trans HV.out hv, by go_num, by congr 1; have := HL.out; omega, hx⟩
      case measure => have := HV.out; simp [intOf]; omega
   ·obtain rfl : k = 16 := by omega
    go_wp2_with fail
    go_ret2
    exact ⟨by simp [HN.out, H0.out], hx⟩
 ·have hne : (filterCheck f != 0) = true := by simpa using h0
  have HN := hid (show filterCount f = 0 by rw [filterCount, if_neg h0])
  clear h0
  go_wp2_with fail
  go_ret2
  exact ⟨by simp [HN.out], hx1⟩
end Go.Proofs.YtngbfdogiciahaaGreat
namespace Go.Proofs.YtngbfdogiciahaaGreat
open Go Go.RowKit
theorem cube_InB (b : Box) (h : cubeCheck b.cube = 0) (t : Nat) (ht : t < 16) (w : World) : Calls Tryz.prog 144 #[.agg #[.int .i64 b.cube.yes, .int .i64 b.cube.no], .int .i64 t] w fun e w' => e = .returned (.bool (boxIn b t)) ∧ Ext w w' := by
 obtain ⟨y, n, hc⟩ := cubeOk_of h
 rw [show boxIn b t = cubeIn y n t by rw [boxIn, hc.yes, hc.no, Int.toNat_natCast, Int.toNat_natCast]]
 exact cube_In b.cube y n t hc ht w
theorem filter_In1 (B b0 : Nat) (b : Box) (A' : Option Addr) (c' t : Nat) (num : Int) (w : World) (ht : t < 16) (hb : BoxOk b) (hl : b.spans.length ≤ maxLen) (hs : SlSpans B w A' b.spans)
  (h0 : w.cell? ⟨b0, 0, none⟩ = some (.int .i64 t)) (h1 : w.cell? ⟨b0, 1, none⟩ = some (.int .i64 num)) :
  Calls Tryz.prog 143 #[.agg #[.int .i64 b.cube.yes, .int .i64 b.cube.no, .slice A' b.spans.length c'], .pointer (some ⟨b0, 0, none⟩)] w fun e w' => e = .returned (.bool (boxIn b t && spanIn b.spans num)) ∧ Ext w w' := by
 have hz : b0 < w.heap.size := World.block_lt_of_cell? _ _ h0
 have HB := hid hb.1
 clear hb
 go_enter Tryz.func143, Tryz.ntmps143
 go_wp2_with fail
 refine (cube_InB b HB.out t ht _).mono ?_
 rintro e w1 ⟨rfl, hx1⟩
 have g2 : w1.cell? ⟨w.heap.size, 2, none⟩ = some (.slice A' b.spans.length c') := hx1.cell (by go_simp)
 have hxa := ((Ext.refl w).alloc (.cells #[.int .i64 b.cube.yes, .int .i64 b.cube.no, .slice A' b.spans.length c'] 142)).trans hx1
 replace h1 := hxa.cell h1
 clear hx1
 cases hI : boxIn b t
 ·have HI := hid hI
  clear hI
  go_wp2_with fail
  go_ret
  exact ⟨ret_bool (by rw [HI.out]; rfl), hxa⟩
 ·have HI := hid hI
  clear hI
  go_wp2_with fail
  refine (span_In B A' c' b.spans num _ hl (hs.ext RPair.mono hxa)).mono ?_
  rintro e w2 ⟨rfl, hx2⟩
  go_wp2_with fail
  go_ret
  exact ⟨ret_bool (by rw [HI.out]; rfl), hxa.trans hx2⟩
theorem any_take (p : Box → Bool) (f : List Box) (k : Nat) (hk : k < f.length) : (f.take (k + 1)).any p = ((f.take k).any p || p f[k]) := by
 rw [List.take_succ_eq_append_getElem hk, List.any_append]; simp
theorem index_boxes (B : Nat) (fn : FuncId) (cap : Array Value) (A : Option Addr) (c : Nat) (f : List Box) (p : Box → Bool) (w : World) (hl : f.length ≤ maxLen) (h : SlBoxes B w A f)
  (hc : ∀ (args : Array Value) (wn : World), (callFunc fn args).run Tryz.prog wn = .ok (.enter fn args) wn)
  (hf : ∀ (k : Nat) (hk : k < f.length) (A' : Option Addr) (c' : Nat) (wn : World), Ext w wn → f[k].spans.length ≤ maxLen → SlSpans B wn A' f[k].spans →
   Calls Tryz.prog fn (#[.agg #[.int .i64 f[k].cube.yes, .int .i64 f[k].cube.no, .slice A' f[k].spans.length c']] ++ cap) wn fun e w' => e = .returned (.bool (p f[k])) ∧ Ext wn w') :
  Calls Tryz.prog 189 #[.slice A f.length c, .func (.func fn) #[] cap] w fun e w' => ∃ i : Int, e = .returned (.int .i64 i) ∧ decide (0 ≤ i) = f.any p ∧ Ext w w' := by
 unfold maxLen at hl
 have HF := hid hf
 clear hf
 go_enter Tryz.func189, Tryz.ntmps189
 go_wp2_with fail
 go_loopw [8] (fun i wr => ∃ k : Nat, k ≤ f.length ∧ i = .int .i64 k ∧ (f.take k).any p = false ∧ Ext w wr) (fun i _ => f.length - (intOf i).toNat)
 case atStart => exact ⟨0, Nat.zero_le _, rfl, rfl, Ext.refl _⟩
 case round =>
  obtain ⟨k, hk, rfl, hG, hx⟩ := hrel
  have HG := hid hG
  clear hG
  by_cases hlt : k < f.length
  ·obtain ⟨b, off, A', c', rfl, hb, g0, g1, g2, hsl, hs⟩ := (h.ext RBox.monoE hx).box hlt
   have HS := hid (any_take p f k hlt)
   go_wp2_with fail
   refine (HF.out k hlt A' c' _ hx hsl hs).mono ?_
   rintro e w1 ⟨rfl, hx1⟩
   cases hp : p f[k]
   ·have HP := hid hp
    clear hp
    go_wp2_with fail
    go_roundw
    case rel => exact ⟨k + 1, hlt, by go_num, by rw [HS.out, HG.out, HP.out]; rfl, hx.trans hx1⟩
    case measure => simp [intOf]; omega
   ·have HP := hid hp
    clear hp
    go_wp2_with fail
    go_ret
    exact ⟨k, rfl, by rw [List.any_eq_true.2 ⟨f[k], List.getElem_mem hlt, HP.out⟩]; simp, hx.trans hx1⟩
  ·obtain rfl : k = f.length := by omega
   rw [List.take_length] at HG
   go_wp2_with fail
   go_ret
   exact ⟨-1, rfl, by rw [HG.out]; rfl, hx⟩
theorem contains_boxes (B : Nat) (fn : FuncId) (cap : Array Value) (A : Option Addr) (c : Nat) (f : List Box) (p : Box → Bool) (w : World) (hl : f.length ≤ maxLen) (h : SlBoxes B w A f)
  (hc : ∀ (args : Array Value) (wn : World), (callFunc fn args).run Tryz.prog wn = .ok (.enter fn args) wn)
  (hf : ∀ (k : Nat) (hk : k < f.length) (A' : Option Addr) (c' : Nat) (wn : World), Ext w wn → f[k].spans.length ≤ maxLen → SlSpans B wn A' f[k].spans →
   Calls Tryz.prog fn (#[.agg #[.int .i64 f[k].cube.yes, .int .i64 f[k].cube.no, .slice A' f[k].spans.length c']] ++ cap) wn fun e w' => e = .returned (.bool (p f[k])) ∧ Ext wn w') :
  Calls Tryz.prog 142 #[.slice A f.length c, .func (.func fn) #[] cap] w fun e w' => e = .returned (.bool (f.any p)) ∧ Ext w w' := by
 have HF := hid hf
 clear hf
 go_enter Tryz.func142, Tryz.ntmps142
 go_wp2_with fail
 refine (index_boxes B fn cap A c f p _ hl h hc HF.out).mono ?_
 rintro e w1 ⟨i, rfl, hi, hx⟩
 go_wp2_with fail
 go_ret
 exact ⟨ret_bool rfl, hx⟩
theorem filter_In (B : Nat) (A : Option Addr) (c : Nat) (f : List Box) (p : Point) (w : World) (hl : f.length ≤ maxLen) (hok : ∀ b ∈ f, BoxOk b) (hp : pointOk p = true) (h : SlBoxes B w A f) :
  Calls Tryz.prog 87 #[.slice A f.length c, .agg #[.int .i64 p.tags, .int .i64 p.num]] w fun e w' => e = .returned (.bool (filterIn f p)) ∧ Ext w w' := by
 obtain ⟨h1, h2, h3, h4⟩ := pointOk_iff.1 hp
 obtain ⟨tags, num⟩ := p
 obtain ⟨t, rfl⟩ := Int.eq_ofNat_of_zero_le h1
 have ht : t < 16 := by simp at h2; omega
 have HOK := hid hok
 have HE := hid (show filterIn f ⟨t, num⟩ = f.any fun b => boxIn b t && spanIn b.spans num by simp [filterIn])
 clear hok hp h1 h2 h3 h4
 go_enter Tryz.func87, Tryz.ntmps87
 go_wp2_with fail
 have hx0 := (Ext.refl w).alloc (.cells #[.int .i64 t, .int .i64 num] 40)
 refine (contains_boxes B 143 #[.pointer (some ⟨w.heap.size, 0, none⟩)] A c f (fun b => boxIn b t && spanIn b.spans num) _ hl (h.ext RBox.monoE hx0) Tryz.call143 (fun k hk A' c' wn hxn hsl hs => filter_In1 B w.heap.size f[k] A' c' t num wn ht (HOK.out _ (List.getElem_mem hk)) hsl hs (hxn.cell (by go_simp)) (hxn.cell (by go_simp)))).mono ?_
 rintro e w1 ⟨rfl, hx⟩
 go_wp2_with fail
 go_ret
 exact ⟨ret_bool HE.out.symm, hx0.trans hx⟩
end Go.Proofs.YtngbfdogiciahaaGreat
