/- The walks of filter.both and of what stands on it. -/
import Derived.Test.YtbkmgbckeaimdaaDoorFilB
namespace Go.Proofs.YtbkmgbckeaimdaaDoor
open Go Go.RowKit

def U32 (n : Nat) : Prop := n < 4294967296

set_option maxRecDepth 100000 in
set_option maxHeartbeats 4000000 in
theorem filter_both (B : Nat) (fn : FuncId) (d : Nat → Nat → Nat) (A A' : Option Addr) (c c' : Nat) (f g : List Box) (w : World) (hB : B ≤ w.heap.size) (hlf : f.length ≤ maxLen) (hlg : g.length ≤ maxLen) (hsf : SlBoxes B w A f) (hsg : SlBoxes B w A' g)
    (hc : ∀ (args : Array Value) (wn : World), (callFunc fn args).run Tryd.prog wn = .ok (.enter fn args) wn)
    (hf : ∀ (a b : Nat) (wn : World), U32 a → U32 b → Calls Tryd.prog fn #[.int .u32 a, .int .u32 b] wn fun e w' => e = .returned (.int .u32 (d a b : Nat)) ∧ wn = w') (hd : ∀ a b, U32 a → U32 b → U32 (d a b)) :
    Calls Tryd.prog 30 #[.slice A f.length c, .slice A' g.length c', .func (.func fn) #[] #[]] w fun e w' => ∃ v, e = .returned (.tuple #[v, .int .i64 (filterTwo f g)]) ∧ IsBoxes B w' v (filterOp d f g) ∧ Ext w w' := by
  have HF := hid hf
  have HD := hid hd
  clear hf hd
  go_enter Tryd.func30, Tryd.ntmps30
  go_wp2_with fail
  refine (filter_Check B A c f _ hlf hsf).mono ?_
  rintro e w1 ⟨rfl, hx1⟩
  by_cases h0 : filterCheck f = 0
  · rw [h0]
    have H0 := hid h0
    clear h0
    go_wp2_with fail
    refine (filter_Check B A' c' g _ hlg (hsg.ext RBox.monoE hx1)).mono ?_
    rintro e w2 ⟨rfl, hx2⟩
    have hx := hx1.trans hx2
    clear hx1 hx2
    by_cases h1 : filterCheck g = 0
    · rw [h1]
      have H1 := hid h1
      clear h1
      have HTw := hid (show filterTwo f g = 0 by rw [filterTwo, if_pos H0.out, H1.out])
      have HOf := hid (filterCheck_ok H0.out).2
      have HOg := hid (filterCheck_ok H1.out).2
      go_wp2_with fail
      refine (filter_tabled B A c f _ hlf HOf.out (hsf.ext RBox.monoE hx)).mono ?_
      rintro e w3 ⟨rfl, hx3⟩
      replace hx := hx.trans hx3
      go_wp2_with fail
      refine (filter_tabled B A' c' g _ hlg HOg.out (hsg.ext RBox.monoE hx)).mono ?_
      rintro e w4 ⟨rfl, hx4⟩
      replace hx := hx.trans hx4
      clear hx3 hx4
      have HTf := hid (fun t => tab_lt HOf.out t)
      have HTg := hid (fun t => tab_lt HOg.out t)
      have HRes := hid (show filterOp d f g = mkBoxes fun t => d (tab f t) (tab g t) by rw [filterOp, if_pos HTw.out])
      generalize tab f = T at *
      generalize tab g = U at *
      go_wp2_with (first
        | ((with_reducible refine wpList_allocArr (o := ⟨some 10, _, _, _, _, _⟩) zi_table rfl rfl ?_); intro w5 hx5 hb5 hs5)
        | ((with_reducible refine wpList_allocArr (o := ⟨some 11, _, _, _, _, _⟩) zi_table rfl rfl ?_); intro w6 hx6 hb6 hs6; have hb6r := hb6; rw [hs5] at hb6r)
        | ((with_reducible refine at_op none (.store _ (.tmp 10) _) ?_); refine wpList_storeArr ai_table _ _ rfl rfl rfl rfl (hb5.ext hx6) (rowU_size _ _) (rowU_size _ _) (rowU_all _ _) ?_; intro w7 hx7 hb7 hs7 ho7)
        | ((with_reducible refine at_op none (.store _ (.tmp 11) _) ?_); (first | refine wpList_storeArr ai_table _ _ rfl rfl rfl rfl (hb6r.other ho7 (show w4.heap.size + 1 ≠ w4.heap.size by omega)) (rowU_size _ _) (rowU_size _ _) (rowU_all _ _) ?_ | refine wpList_storeArr ai_table _ _ rfl rfl rfl rfl (hb6.other ho7 (show w5.heap.size ≠ w4.heap.size by omega)) (rowU_size _ _) (rowU_size _ _) (rowU_all _ _) ?_ ); intro w8 hx8 hb8 hs8 ho8))
      have hbt : Blk w8 w4.heap.size 79 (rowU 16 T) := hb7.other ho8 (by omega)
      have hbu : Blk w8 (w4.heap.size + 1) 79 (rowU 16 U) := by rw [← hs5]; exact hb8
      have hx9 : Ext w4 w8 := ((hx5.trans hx6).below hx7 (Nat.le_refl _)).below hx8 (by omega)
      have hz : w.heap.size ≤ w4.heap.size := hx.size
      replace hx := hx.trans hx9
      clear hb8 hb5 hb6 hx5 hx6 hs5 hs6 hx7 hb7 hs7 ho7 hb6r hx8 hs8 ho8
      go_wp2_with fail
      obtain ⟨wo, rfl⟩ : ∃ wo, wo = w8 := ⟨_, rfl⟩
      go_loopw [27] (fun i wr => ∃ k : Nat, k ≤ 16 ∧ i = .int .i64 k ∧ Blk wr w4.heap.size 79 (rowU 16 fun i => if i < k then d (T i) (U i) else T i) ∧ Blk wr (w4.heap.size + 1) 79 (rowU 16 U) ∧ Ext w wr) (fun i _ => 16 - (intOf i).toNat)
      case atStart =>
        refine ⟨0, by omega, rfl, ?_, hbu, hx⟩
        rwa [rowU_congr (U := fun i => if i < 0 then d (T i) (U i) else T i) (fun i _ => by simp)] at hbt
      case round =>
        clear hbt hbu hx hx9
        obtain ⟨k, hk, rfl, hb1, hb2, hx⟩ := hrel
        by_cases hlt : k < 16
        · have k0 : (0 : Int) ≤ k := by omega
          have k4 : (k : Int) < 16 := by omega
          have c1 := hb1.cell (rowU_get _ hlt)
          have c2 := hb2.cell (rowU_get _ hlt)
          rw [if_neg (by omega)] at c1
          have z1 := hb1.frozen k
          have HC := hid (fun wn => HF.out (T k) (U k) wn (HTf.out k) (HTg.out k))
          go_upto_region 11 with fail
          go_region_with ((with_reducible refine (HC.out _).mono ?_); rintro e w7 ⟨rfl, rfl⟩)
          all_goals
            go_wp2_with fail
            have hs' := hb1.setU k (d (T k) (U k))
            have hdr := (Ext.refl (wr.setCell ⟨w4.heap.size, k, none⟩ (.int .u32 (d (T k) (U k) : Nat)))).drew
            go_roundw
            case rel =>
              refine ⟨k + 1, by omega, by go_num, ?_, (hb2.far (by simp) _).ext hdr, (hx.setCell (by show w.heap.size ≤ w4.heap.size; omega) _).trans hdr⟩
              refine Blk.ext ?_ hdr
              rwa [rowU_congr (U := fun i => if i < k + 1 then d (T i) (U i) else T i) (fun i _ => by
                by_cases hi : i = k
                · subst hi; simp
                · have e : (i < k) = (i < k + 1) := by rw [eq_iff_iff]; omega
                  simp only [hi, if_false, e])] at hs'
            case measure => simp [intOf]; omega
        · obtain rfl : k = 16 := by omega
          rw [rowU_congr (U := fun i => d (T i) (U i)) (fun i hi => by rw [if_pos hi])] at hb1
          go_wp2_with (((with_reducible refine wpList_loadArr (o := ⟨some 41, _, _, _, _, _⟩) ai_table _ rfl rfl rfl hb1 (rowU_size _ _) ?_)))
          refine (filter_boxes B (fun i => d (T i) (U i)) (fun i => HD.out _ _ (HTf.out i) (HTg.out i)) _ (Nat.le_trans hB hx.size)).mono ?_
          rintro e w9 ⟨v, rfl, hv, hx9⟩
          obtain ⟨A9, c9, rfl, k9, m9, hs9⟩ := hv
          have hxx := hx.trans hx9
          go_wp2_with fail
          go_ret2
          exact ⟨.slice A9 (filterOp d f g).length c9, by rw [HTw.out, HRes.out]; rfl, ⟨A9, c9, rfl, by rw [HRes.out]; exact k9, m9, by rw [HRes.out]; exact hs9⟩, hxx⟩
    · have hne : (filterCheck g != 0) = true := by simpa using h1
      have H1 := hid h1
      clear h1
      go_wp2_with fail
      go_ret2
      have e : filterTwo f g = filterCheck g := by rw [filterTwo, if_pos H0.out]
      exact ⟨_, by rw [e]; rfl, by rw [filterOp, e, if_neg H1.out]; exact IsSl.nil, hx⟩
  · have hne : (filterCheck f != 0) = true := by simpa using h0
    have H0 := hid h0
    clear h0
    go_wp2_with fail
    go_ret2
    have e : filterTwo f g = filterCheck f := by rw [filterTwo, if_neg H0.out]
    exact ⟨_, by rw [e]; rfl, by rw [filterOp, e, if_neg H0.out]; exact IsSl.nil, hx1⟩
end Go.Proofs.YtbkmgbckeaimdaaDoor
