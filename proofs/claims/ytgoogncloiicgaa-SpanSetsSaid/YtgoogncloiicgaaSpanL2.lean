/- The walk of the law SpanSets where both sets may be. -/
import Derived.Test.YtgoogncloiicgaaSpanL
namespace Go.Proofs.Ytgoogncloiicgaa
open Go Go.RowKit

theorem sets_step {w20 wr : World} {N k : Nat} {t : TypeId} {pa pb : Nat → Bool} {x y : Bool} (hk : k < 32) (hx : pa k = x) (hy : pb k = y) (f0 : Blk wr N t (rowB 32 pa)) (f1 : Blk wr (N + 1) t (rowB 32 pb))
    (f2 : Blk wr (N + 1 + 1) t (rowB 32 fun i => decide (i < k) && (pa i || pb i))) (f3 : Blk wr (N + 1 + 1 + 1) t (rowB 32 fun i => decide (i < k) && (pa i && pb i))) (f4 : Blk wr (N + 1 + 1 + 1 + 1) t (rowB 32 fun i => decide (i < k) && (pa i && !pb i)))
    (hb : Below N w20 wr) :
    Blk (((wr.setCell ⟨N + 1 + 1, k, none⟩ (.bool (x || y))).setCell ⟨N + 1 + 1 + 1, k, none⟩ (.bool (x && y))).setCell ⟨N + 1 + 1 + 1 + 1, k, none⟩ (.bool (x && !y))).drew N t (rowB 32 pa) ∧
    Blk (((wr.setCell ⟨N + 1 + 1, k, none⟩ (.bool (x || y))).setCell ⟨N + 1 + 1 + 1, k, none⟩ (.bool (x && y))).setCell ⟨N + 1 + 1 + 1 + 1, k, none⟩ (.bool (x && !y))).drew (N + 1) t (rowB 32 pb) ∧
    Blk (((wr.setCell ⟨N + 1 + 1, k, none⟩ (.bool (x || y))).setCell ⟨N + 1 + 1 + 1, k, none⟩ (.bool (x && y))).setCell ⟨N + 1 + 1 + 1 + 1, k, none⟩ (.bool (x && !y))).drew (N + 1 + 1) t (rowB 32 fun i => decide (i < k + 1) && (pa i || pb i)) ∧
    Blk (((wr.setCell ⟨N + 1 + 1, k, none⟩ (.bool (x || y))).setCell ⟨N + 1 + 1 + 1, k, none⟩ (.bool (x && y))).setCell ⟨N + 1 + 1 + 1 + 1, k, none⟩ (.bool (x && !y))).drew (N + 1 + 1 + 1) t (rowB 32 fun i => decide (i < k + 1) && (pa i && pb i)) ∧
    Blk (((wr.setCell ⟨N + 1 + 1, k, none⟩ (.bool (x || y))).setCell ⟨N + 1 + 1 + 1, k, none⟩ (.bool (x && y))).setCell ⟨N + 1 + 1 + 1 + 1, k, none⟩ (.bool (x && !y))).drew (N + 1 + 1 + 1 + 1) t (rowB 32 fun i => decide (i < k + 1) && (pa i && !pb i)) ∧
    Below N w20 (((wr.setCell ⟨N + 1 + 1, k, none⟩ (.bool (x || y))).setCell ⟨N + 1 + 1 + 1, k, none⟩ (.bool (x && y))).setCell ⟨N + 1 + 1 + 1 + 1, k, none⟩ (.bool (x && !y))).drew := by
  have up : ∀ (f : Nat → Bool) (v : Bool), v = f k → (rowB 32 fun j => if j = k then v else (decide (j < k) && f j)) = rowB 32 fun i => decide (i < k + 1) && f i := by
    intro f v hv
    refine rowB_congr fun i _ => ?_
    by_cases h : i = k
    · subst h; simp [hv]
    · have : decide (i < k) = decide (i < k + 1) := by rw [decide_eq_decide]; omega
      simp [h, this]
  refine ⟨((f0.far (show N ≠ N + 1 + 1 by omega) _).far (show N ≠ N + 1 + 1 + 1 by omega) _).far (show N ≠ N + 1 + 1 + 1 + 1 by omega) _, ((f1.far (show N + 1 ≠ N + 1 + 1 by omega) _).far (show N + 1 ≠ N + 1 + 1 + 1 by omega) _).far (show N + 1 ≠ N + 1 + 1 + 1 + 1 by omega) _, ?_, ?_, ?_, ?_⟩
  · have := ((f2.setB k (x || y)).far (p := ⟨N + 1 + 1 + 1, k, none⟩) (show _ ≠ N + 1 + 1 + 1 by omega) (.bool (x && y))).far (p := ⟨N + 1 + 1 + 1 + 1, k, none⟩) (show _ ≠ N + 1 + 1 + 1 + 1 by omega) (.bool (x && !y))
    rwa [up (fun i => pa i || pb i) _ (by rw [hx, hy])] at this
  · have := ((f3.far (p := ⟨N + 1 + 1, k, none⟩) (show N + 1 + 1 + 1 ≠ N + 1 + 1 by omega) (.bool (x || y))).setB k (x && y)).far (p := ⟨N + 1 + 1 + 1 + 1, k, none⟩) (show _ ≠ N + 1 + 1 + 1 + 1 by omega) (.bool (x && !y))
    rwa [up (fun i => pa i && pb i) _ (by rw [hx, hy])] at this
  · have := ((f4.far (p := ⟨N + 1 + 1, k, none⟩) (show N + 1 + 1 + 1 + 1 ≠ N + 1 + 1 by omega) (.bool (x || y))).far (p := ⟨N + 1 + 1 + 1, k, none⟩) (show N + 1 + 1 + 1 + 1 ≠ N + 1 + 1 + 1 by omega) (.bool (x && y))).setB k (x && !y)
    rwa [up (fun i => pa i && !pb i) _ (by rw [hx, hy])] at this
  · exact (((hb.setCell (p := ⟨N + 1 + 1, k, none⟩) (show N ≤ N + 1 + 1 by omega) _).setCell (p := ⟨N + 1 + 1 + 1, k, none⟩) (show N ≤ N + 1 + 1 + 1 by omega) _).setCell (p := ⟨N + 1 + 1 + 1 + 1, k, none⟩) (show N ≤ N + 1 + 1 + 1 + 1 by omega) _).drew

set_option maxRecDepth 100000 in
set_option maxHeartbeats 8000000 in
theorem law_SpanSets_ok (B : Nat) (A A' : Option Addr) (c c' : Nat) (a b : List Span) (w : World) (hB : B ≤ w.heap.size) (hla : a.length ≤ maxLen) (hlb : b.length ≤ maxLen) (ha : SlSpans B w A a) (hb : SlSpans B w A' b) (h0 : spanCheck a = 0) (h1 : spanCheck b = 0) (J M L : List Span) (W : Bool) (hJ : spanOp or a b = J) (hM : spanOp and a b = M) (hL : spanOp (fun x y => x && !y) a b = L) (hW : decide (L = []) = W)
    (HJ : Hid (J = told (fun i => spanIn a i || spanIn b i))) (HM : Hid (M = told (fun i => spanIn a i && spanIn b i))) (HL : Hid (L = told (fun i => spanIn a i && !spanIn b i))) (HW : Hid (W = allTo (fun i => !spanIn a i || spanIn b i) 32)) :
    Calls Try.prog 4 #[.slice A a.length c, .slice A' b.length c'] w fun e w' => e = .returned (.bool true) ∧ Ext w w' := by
  have hT : spanTwo a b = 0 := by simp [spanTwo, h0, h1]
  have hc0 : spanTwo [⟨1, 2⟩] [⟨2, 4⟩] = 0 := by decide
  have hc1 : spanOp or [⟨1, 2⟩] [⟨2, 4⟩] = [⟨1, 4⟩] := by decide
  go_enter Try.func4, Try.ntmps4
  go_wp2_with fail
  refine (span_Join B A A' c c' a b _ hB hla hlb ha hb).mono ?_
  rintro e w1 ⟨v1, rfl, hv1, hx1⟩
  obtain ⟨A1, c1, rfl, k1, m1, hs1⟩ := hv1
  go_wp2_with fail
  refine (span_Meet B A A' c c' a b _ (Nat.le_trans hB hx1.size) hla hlb (ha.ext RPair.mono hx1) (hb.ext RPair.mono hx1)).mono ?_
  rintro e w2 ⟨v2, rfl, hv2, hx⟩
  have hx2 := hx1.trans hx
  replace hs1 := hs1.ext RPair.mono hx
  obtain ⟨A2, c2, rfl, k2, m2, hs2⟩ := hv2
  clear hx
  go_wp2_with fail
  refine (span_Less B A A' c c' a b _ (Nat.le_trans hB hx2.size) hla hlb (ha.ext RPair.mono hx2) (hb.ext RPair.mono hx2)).mono ?_
  rintro e w3 ⟨v3, rfl, hv3, hx⟩
  have hx3 := hx2.trans hx
  replace hs1 := hs1.ext RPair.mono hx
  replace hs2 := hs2.ext RPair.mono hx
  obtain ⟨A3, c3, rfl, k3, m3, hs3⟩ := hv3
  clear hx
  go_wp2_with fail
  refine (span_Within B A A' c c' a b _ (Nat.le_trans hB hx3.size) hla hlb (ha.ext RPair.mono hx3) (hb.ext RPair.mono hx3)).mono ?_
  rintro e w4 ⟨rfl, hx⟩
  have hx4 := hx3.trans hx
  replace hs1 := hs1.ext RPair.mono hx
  replace hs2 := hs2.ext RPair.mono hx
  replace hs3 := hs3.ext RPair.mono hx
  clear hx
  go_wp2_with fail
  have q1 := Sl.one (B := B) (R := RSpan) (e := 41) (w := w4) (cs := [.int .i64 1, .int .i64 2]) (y := (⟨1, 2⟩ : Span)) rfl rfl rfl
  have q2 := Sl.one (B := B) (R := RSpan) (e := 41) (w := w4.alloc (.cells #[.int .i64 1, .int .i64 2] 41)) (cs := [.int .i64 2, .int .i64 4]) (y := (⟨2, 4⟩ : Span)) rfl rfl rfl
  rw [World.size_alloc] at q2
  have hxa : Ext w4 ((w4.alloc (.cells #[.int .i64 1, .int .i64 2] 41)).alloc (.cells #[.int .i64 2, .int .i64 4] 41)) := ((Ext.refl _).alloc _).alloc _
  refine (span_Join B _ _ 1 1 [⟨1, 2⟩] [⟨2, 4⟩] _ (Nat.le_trans hB (hx4.trans hxa).size) (by simp [maxLen]) (by simp [maxLen]) (q1.ext RPair.mono ((Ext.refl _).alloc _)) q2).mono ?_
  clear q1 q2
  rintro e w5 ⟨v5, rfl, hv5, hx⟩
  have hx5 := hx4.trans (hxa.trans hx)
  replace hs1 := hs1.ext RPair.mono (hxa.trans hx)
  replace hs2 := hs2.ext RPair.mono (hxa.trans hx)
  replace hs3 := hs3.ext RPair.mono (hxa.trans hx)
  clear hx hxa
  rw [hc1] at hv5
  obtain ⟨A5, c5, rfl, _, _, hs5⟩ := hv5
  rw [hc0]
  go_wp2_with fail
  have q1 := Sl.one (B := B) (R := RSpan) (e := 41) (w := w5) (cs := [.int .i64 1, .int .i64 4]) (y := (⟨1, 4⟩ : Span)) rfl rfl rfl
  refine (eq_spans B B _ _ c5 1 [⟨1, 4⟩] [⟨1, 4⟩] _ (by simp [maxLen]) (by simp [maxLen]) (hs5.ext RPair.mono ((Ext.refl _).alloc _)) q1).mono ?_
  clear q1 hs5
  rintro e w6 ⟨rfl, hx⟩
  have hxa : Ext w5 w6 := ((Ext.refl _).alloc _).trans hx
  have hx6 := hx5.trans hxa
  replace hs1 := hs1.ext RPair.mono hxa
  replace hs2 := hs2.ext RPair.mono hxa
  replace hs3 := hs3.ext RPair.mono hxa
  clear hx hxa
  go_wp2_with fail
  refine (ref_Spans B A c a _ hla (ha.ext RPair.mono hx6)).mono ?_
  rintro e w7 ⟨rfl, hx⟩
  have hx7 := hx6.trans hx
  replace hs1 := hs1.ext RPair.mono hx
  replace hs2 := hs2.ext RPair.mono hx
  replace hs3 := hs3.ext RPair.mono hx
  clear hx
  rw [h0]
  go_wp2_with fail
  refine (ref_Spans B A' c' b _ hlb (hb.ext RPair.mono hx7)).mono ?_
  rintro e w8 ⟨rfl, hx⟩
  have hx8 := hx7.trans hx
  replace hs1 := hs1.ext RPair.mono hx
  replace hs2 := hs2.ext RPair.mono hx
  replace hs3 := hs3.ext RPair.mono hx
  clear hx
  rw [h1]
  go_wp2_with fail
  refine (ref_Set B A c a _ hla (spanCheck_ok h0).1 (ha.ext RPair.mono hx8)).mono ?_
  rintro e w9 ⟨rfl, hx⟩
  have hx9 := hx8.trans hx
  replace hs1 := hs1.ext RPair.mono hx
  replace hs2 := hs2.ext RPair.mono hx
  replace hs3 := hs3.ext RPair.mono hx
  clear hx
  go_wp2_with fail
  refine (ref_Set B A' c' b _ hlb (spanCheck_ok h1).1 (hb.ext RPair.mono hx9)).mono ?_
  rintro e w10 ⟨rfl, hx⟩
  have hx10 := hx9.trans hx
  replace hs1 := hs1.ext RPair.mono hx
  replace hs2 := hs2.ext RPair.mono hx
  replace hs3 := hs3.ext RPair.mono hx
  clear hx
  go_wp2_with (first
    | ((with_reducible refine at_op (some 16) (.alloc _) ?_); refine wpList_allocArr zi_nums rfl rfl ?_; intro w16 hx16 hb16 hz16; go_simp)
    | ((with_reducible refine at_op (some 17) (.alloc _) ?_); refine wpList_allocArr zi_nums rfl rfl ?_; intro w17 hx17 hb17 hz17; rw [hz16] at hb17 hz17; have hb16' := hb16.ext hx17; go_simp)
    | ((with_reducible refine at_op none (.store _ (.tmp 16) _) ?_); refine wpList_storeArr (cs := rowB 32 fun i => spanIn a i) (old := rowB 32 fun _ => false) (b := w10.heap.size) (n := 32) ai_nums _ _ rfl rfl rfl rfl hb16' (rowB_size _ _) (rowB_size _ _) (rowB_all _ _) ?_; intro w13 hx13 hb13 hz13 ho13; have hb17' := hb17.other ho13 (by omega); rw [hz17] at hz13; go_simp)
    | ((with_reducible refine at_op none (.store _ (.tmp 17) _) ?_); refine wpList_storeArr (cs := rowB 32 fun i => spanIn b i) (old := rowB 32 fun _ => false) (b := w10.heap.size + 1) (n := 32) ai_nums _ _ rfl rfl rfl rfl hb17' (rowB_size _ _) (rowB_size _ _) (rowB_all _ _) ?_; intro w14 hx14 hb14 hz14 ho14; have hb13' := hb13.other ho14 (by omega); rw [hz13] at hz14; go_simp)
    | ((with_reducible refine at_op (some 18) (.alloc _) ?_); refine wpList_allocArr zi_nums rfl rfl ?_; intro w18 hx18 hb18 hz18; rw [hz14] at hb18 hz18; go_simp)
    | ((with_reducible refine at_op (some 19) (.alloc _) ?_); refine wpList_allocArr zi_nums rfl rfl ?_; intro w19 hx19 hb19 hz19; rw [hz18] at hb19 hz19; go_simp)
    | ((with_reducible refine at_op (some 20) (.alloc _) ?_); refine wpList_allocArr zi_nums rfl rfl ?_; intro w20 hx20 hb20 hz20; rw [hz19] at hb20 hz20; go_simp))
  have hxw : Ext w w20 := by
    refine ((((((hx10.trans hx16).trans hx17).below hx13 ?_).below hx14 ?_).trans hx18).trans hx19).trans hx20
    · exact hx10.size
    · have := hx10.size; omega
  have g16 := ((hb13'.ext hx18).ext hx19).ext hx20
  have g17 := ((hb14.ext hx18).ext hx19).ext hx20
  have g18 := (hb18.ext hx19).ext hx20
  have g19 := hb19.ext hx20
  have g20 := hb20
  have hxx : Ext w10 w20 := ((((((Ext.refl w10).trans hx16).trans hx17).below hx13 (Nat.le_refl _)).below hx14 (by omega)).trans hx18).trans (hx19.trans hx20)
  have hNw := hx10.size
  clear hx1 hx2 hx3 hx4 hx5 hx6 hx7 hx8 hx9 hx10 hx13 hx14 hx16 hx17 hx18 hx19 hx20 hb13' hb14 hb18 hb19 hb20 hz16 hz17 hz13 hz14 hz18 hz19 hb16 hb16' hb17 hb17' hb13 ho13 ho14
  go_loopw [21, 113] (fun wi i wr => ∃ k : Nat, k ≤ 32 ∧ i = .int .i64 k ∧ wi = .bool (allTo (fun i => !spanIn a i || spanIn b i) k) ∧ Blk wr w10.heap.size 45 (rowB 32 fun i => spanIn a i) ∧ Blk wr (w10.heap.size + 1) 45 (rowB 32 fun i => spanIn b i) ∧
      Blk wr (w10.heap.size + 1 + 1) 45 (rowB 32 fun i => decide (i < k) && (spanIn a i || spanIn b i)) ∧ Blk wr (w10.heap.size + 1 + 1 + 1) 45 (rowB 32 fun i => decide (i < k) && (spanIn a i && spanIn b i)) ∧
      Blk wr (w10.heap.size + 1 + 1 + 1 + 1) 45 (rowB 32 fun i => decide (i < k) && (spanIn a i && !spanIn b i)) ∧ Below w10.heap.size w20 wr) (fun _ i _ => 32 - (intOf i).toNat)
  case atStart => exact ⟨0, by omega, rfl, rfl, g16, g17, by simpa using g18, by simpa using g19, by simpa using g20, Below.refl _ _⟩
  case round =>
    obtain ⟨k, hk, rfl, rfl, f16, f17, f18, f19, f20, hbx⟩ := hrel
    by_cases hlt : k < 32
    · have hq1 := f16.cell (rowB_get _ hlt)
      have hq2 := f17.cell (rowB_get _ hlt)
      have hq3 := f18.cell (rowB_get _ hlt)
      have hq4 := f19.cell (rowB_get _ hlt)
      have hq5 := f20.cell (rowB_get _ hlt)
      have hz3 := f18.frozen k
      have hz4 := f19.frozen k
      have hz5 := f20.frozen k
      obtain ⟨x, hx⟩ : ∃ x, x = spanIn a k := ⟨_, rfl⟩
      obtain ⟨y, hy⟩ : ∃ y, y = spanIn b k := ⟨_, rfl⟩
      rw [← hx] at hq1
      rw [← hy] at hq2
      have HX := hid hx
      have HY := hid hy
      clear hx hy
      have HA := hid (show allTo (fun i => !spanIn a i || spanIn b i) (k + 1) = (allTo (fun i => !spanIn a i || spanIn b i) k && (!x || y)) by rw [allTo, ← HX.out, ← HY.out])
      have R := hid (sets_step (t := 45) hlt HX.out.symm HY.out.symm f16 f17 f18 f19 f20 hbx)
      obtain ⟨t, ht⟩ : ∃ t, t = allTo (fun i => !spanIn a i || spanIn b i) k := ⟨_, rfl⟩
      rw [← ht] at HA ⊢
      clear ht f16 f17 f18 f19 f20 hbx
      cases x <;> cases y
      all_goals
        go_wp2_with fail
        go_region
        go_wp2_with fail
        all_goals
          go_roundw
          case rel => exact ⟨k + 1, by omega, by go_num, by rw [HA.out]; simp [*], R.out⟩
          case measure => simp [intOf]; omega
    · obtain rfl : k = 32 := by omega
      rw [rowB_congr (q := fun i => spanIn a i || spanIn b i) (fun i hi => by simp [hi])] at f18
      rw [rowB_congr (q := fun i => spanIn a i && spanIn b i) (fun i hi => by simp [hi])] at f19
      rw [rowB_congr (q := fun i => spanIn a i && !spanIn b i) (fun i hi => by simp [hi])] at f20
      have hxr : Ext w10 wr := hxx.below hbx (Nat.le_refl _)
      have hxw' : Ext w wr := hxw.below hbx hNw
      have k1' : J.length ≤ c1 := by rw [hJ] at k1; exact k1
      have k2' : M.length ≤ c2 := by rw [hM] at k2; exact k2
      have k3' : L.length ≤ c3 := by rw [hL] at k3; exact k3
      rw [hJ] at hs1
      rw [hM] at hs2
      rw [hL] at hs3
      go_wp2_with ((with_reducible refine at_op (some 176) (.load _ _) ?_); refine wpList_loadArr (b := w10.heap.size + 1 + 1) ai_nums _ rfl rfl rfl f18 (rowB_size _ _) ?_)
      refine (ref_Told B _ _ (Nat.le_trans hB hxw'.size)).mono ?_
      rintro e u1 ⟨v1, rfl, hv1, hy1⟩
      obtain ⟨E1, d1, rfl, p1, q1, ht1⟩ := hv1
      have y1 : Ext wr u1 := hy1
      clear hy1
      go_wp2_with fail
      refine (eq_spans B B _ _ _ _ J _ _ (Nat.le_trans k1' m1) (Nat.le_trans p1 q1) (hs1.ext RPair.mono (hxr.trans y1)) ht1).mono ?_
      rintro e r1 ⟨rfl, hy⟩
      have z1 : Ext wr r1 := y1.trans hy
      clear hy y1 ht1 p1 q1
      rw [decide_eq_true HJ.out]
      go_wp2_with ((with_reducible refine at_op (some 182) (.load _ _) ?_); refine wpList_loadArr (b := w10.heap.size + 1 + 1 + 1) ai_nums _ rfl rfl rfl (f19.ext z1) (rowB_size _ _) ?_)
      refine (ref_Told B _ _ (Nat.le_trans hB (hxw'.trans z1).size)).mono ?_
      rintro e u2 ⟨v2, rfl, hv2, hy2⟩
      obtain ⟨E2, d2, rfl, p2, q2, ht2⟩ := hv2
      have y2 : Ext wr u2 := z1.trans hy2
      clear hy2
      go_wp2_with fail
      refine (eq_spans B B _ _ _ _ M _ _ (Nat.le_trans k2' m2) (Nat.le_trans p2 q2) (hs2.ext RPair.mono (hxr.trans y2)) ht2).mono ?_
      rintro e r2 ⟨rfl, hy⟩
      have z2 : Ext wr r2 := y2.trans hy
      clear hy y2 ht2 p2 q2
      rw [decide_eq_true HM.out]
      go_wp2_with ((with_reducible refine at_op (some 188) (.load _ _) ?_); refine wpList_loadArr (b := w10.heap.size + 1 + 1 + 1 + 1) ai_nums _ rfl rfl rfl (f20.ext z2) (rowB_size _ _) ?_)
      refine (ref_Told B _ _ (Nat.le_trans hB (hxw'.trans z2).size)).mono ?_
      rintro e u3 ⟨v3, rfl, hv3, hy3⟩
      obtain ⟨E3, d3, rfl, p3, q3, ht3⟩ := hv3
      have y3 : Ext wr u3 := z2.trans hy3
      clear hy3
      go_wp2_with fail
      refine (eq_spans B B _ _ _ _ L _ _ (Nat.le_trans k3' m3) (Nat.le_trans p3 q3) (hs3.ext RPair.mono (hxr.trans y3)) ht3).mono ?_
      rintro e r3 ⟨rfl, hy⟩
      have z3 : Ext wr r3 := y3.trans hy
      clear hy y3 ht3 p3 q3
      rw [decide_eq_true HL.out]
      go_wp2_with fail
      go_ret
      exact ⟨ret_bool (by simp [HW.out]), hxw'.trans z3⟩

end Go.Proofs.Ytgoogncloiicgaa
