/- The walk of the law SpanSets. -/
import Derived.Test.YtgoogncloiicgaaSpanE
import Derived.Test.YtgoogncloiicgaaSpanP
import Derived.StillTailTactics
namespace Go.Proofs.Ytgoogncloiicgaa
open Go Go.RowKit

set_option maxRecDepth 100000 in
set_option maxHeartbeats 4000000 in
theorem law_SpanSets_err1 (B : Nat) (A A' : Option Addr) (c c' : Nat) (a b : List Span) (w : World) (hB : B ≤ w.heap.size) (hla : a.length ≤ maxLen) (hlb : b.length ≤ maxLen) (ha : SlSpans B w A a) (hb : SlSpans B w A' b) (herr : spanTwo a b ≠ 0) (h0 : spanCheck a ≠ 0) :
    Calls Try.prog 4 #[.slice A a.length c, .slice A' b.length c'] w fun e w' => e = .returned (.bool true) ∧ Ext w w' := by
  have hJ : spanOp or a b = [] := by simp [spanOp, herr]
  have hM : spanOp and a b = [] := by simp [spanOp, herr]
  have hL : spanOp (fun x y => x && !y) a b = [] := by simp [spanOp, herr]
  have hne : (spanTwo a b != 0) = true := by simpa using herr
  have heq : (spanTwo a b == 0) = false := by simpa using herr
  have hT : spanTwo a b = spanCheck a := by simp [spanTwo, h0]
  have hne0 : (spanCheck a != 0) = true := by simpa using h0
  have heq0 : (spanCheck a == 0) = false := by simpa using h0
  have hc0 : spanTwo [⟨1, 2⟩] [⟨2, 4⟩] = 0 := by decide
  have hc1 : spanOp or [⟨1, 2⟩] [⟨2, 4⟩] = [⟨1, 4⟩] := by decide
  go_enter Try.func4, Try.ntmps4
  go_wp2_with fail
  refine (span_Join B A A' c c' a b _ hB hla hlb ha hb).mono ?_
  rintro e w1 ⟨v1, rfl, hv1, hx1⟩
  obtain ⟨A1, c1, rfl, k1, m1, hs1⟩ := hv1
  go_wp2_with fail
  refine (span_Meet B A A' c c' a b _ (Nat.le_trans hB hx1.size) hla hlb (ha.ext RPair.mono hx1) (hb.ext RPair.mono hx1)).mono ?_
  rintro e w2 ⟨v2, rfl, hv2, hx⟩
  have hx2 := hx1.trans hx
  replace hs1 := hs1.ext RPair.mono hx
  obtain ⟨A2, c2, rfl, k2, m2, hs2⟩ := hv2
  clear hx
  go_wp2_with fail
  refine (span_Less B A A' c c' a b _ (Nat.le_trans hB hx2.size) hla hlb (ha.ext RPair.mono hx2) (hb.ext RPair.mono hx2)).mono ?_
  rintro e w3 ⟨v3, rfl, hv3, hx⟩
  have hx3 := hx2.trans hx
  replace hs1 := hs1.ext RPair.mono hx
  replace hs2 := hs2.ext RPair.mono hx
  obtain ⟨A3, c3, rfl, k3, m3, hs3⟩ := hv3
  clear hx
  go_wp2_with fail
  refine (span_Within B A A' c c' a b _ (Nat.le_trans hB hx3.size) hla hlb (ha.ext RPair.mono hx3) (hb.ext RPair.mono hx3)).mono ?_
  rintro e w4 ⟨rfl, hx⟩
  have hx4 := hx3.trans hx
  replace hs1 := hs1.ext RPair.mono hx
  replace hs2 := hs2.ext RPair.mono hx
  replace hs3 := hs3.ext RPair.mono hx
  clear hx
  go_wp2_with fail
  have q1 := Sl.one (B := B) (R := RSpan) (e := 41) (w := w4) (cs := [.int .i64 1, .int .i64 2]) (y := (⟨1, 2⟩ : Span)) rfl rfl rfl
  have q2 := Sl.one (B := B) (R := RSpan) (e := 41) (w := w4.alloc (.cells #[.int .i64 1, .int .i64 2] 41)) (cs := [.int .i64 2, .int .i64 4]) (y := (⟨2, 4⟩ : Span)) rfl rfl rfl
  rw [World.size_alloc] at q2
  have hxa : Ext w4 ((w4.alloc (.cells #[.int .i64 1, .int .i64 2] 41)).alloc (.cells #[.int .i64 2, .int .i64 4] 41)) := ((Ext.refl _).alloc _).alloc _
  refine (span_Join B _ _ 1 1 [⟨1, 2⟩] [⟨2, 4⟩] _ (Nat.le_trans hB (hx4.trans hxa).size) (by simp [maxLen]) (by simp [maxLen]) (q1.ext RPair.mono ((Ext.refl _).alloc _)) q2).mono ?_
  clear q1 q2
  rintro e w5 ⟨v5, rfl, hv5, hx⟩
  have hx5 := hx4.trans (hxa.trans hx)
  replace hs1 := hs1.ext RPair.mono (hxa.trans hx)
  replace hs2 := hs2.ext RPair.mono (hxa.trans hx)
  replace hs3 := hs3.ext RPair.mono (hxa.trans hx)
  clear hx hxa
  rw [hc1] at hv5
  obtain ⟨A5, c5, rfl, _, _, hs5⟩ := hv5
  rw [hc0]
  go_wp2_with fail
  have q1 := Sl.one (B := B) (R := RSpan) (e := 41) (w := w5) (cs := [.int .i64 1, .int .i64 4]) (y := (⟨1, 4⟩ : Span)) rfl rfl rfl
  refine (eq_spans B B _ _ c5 1 [⟨1, 4⟩] [⟨1, 4⟩] _ (by simp [maxLen]) (by simp [maxLen]) (hs5.ext RPair.mono ((Ext.refl _).alloc _)) q1).mono ?_
  clear q1 hs5
  rintro e w6 ⟨rfl, hx⟩
  have hxa : Ext w5 w6 := ((Ext.refl _).alloc _).trans hx
  have hx6 := hx5.trans hxa
  replace hs1 := hs1.ext RPair.mono hxa
  replace hs2 := hs2.ext RPair.mono hxa
  replace hs3 := hs3.ext RPair.mono hxa
  clear hx hxa
  go_wp2_with fail
  refine (ref_Spans B A c a _ hla (ha.ext RPair.mono hx6)).mono ?_
  rintro e w7 ⟨rfl, hx⟩
  have hx7 := hx6.trans hx
  replace hs1 := hs1.ext RPair.mono hx
  replace hs2 := hs2.ext RPair.mono hx
  replace hs3 := hs3.ext RPair.mono hx
  clear hx
  go_wp2_with fail
  go_ret
  exact ⟨ret_bool (by simp), hx7⟩

set_option maxRecDepth 100000 in
set_option maxHeartbeats 4000000 in
theorem law_SpanSets_err2 (B : Nat) (A A' : Option Addr) (c c' : Nat) (a b : List Span) (w : World) (hB : B ≤ w.heap.size) (hla : a.length ≤ maxLen) (hlb : b.length ≤ maxLen) (ha : SlSpans B w A a) (hb : SlSpans B w A' b) (herr : spanTwo a b ≠ 0) (h0 : spanCheck a = 0) :
    Calls Try.prog 4 #[.slice A a.length c, .slice A' b.length c'] w fun e w' => e = .returned (.bool true) ∧ Ext w w' := by
  have hJ : spanOp or a b = [] := by simp [spanOp, herr]
  have hM : spanOp and a b = [] := by simp [spanOp, herr]
  have hL : spanOp (fun x y => x && !y) a b = [] := by simp [spanOp, herr]
  have hne : (spanTwo a b != 0) = true := by simpa using herr
  have heq : (spanTwo a b == 0) = false := by simpa using herr
  have hT : spanTwo a b = spanCheck b := by simp [spanTwo, h0]
  have hne0 : (spanCheck b != 0) = true := by have := herr; rw [hT] at this; simpa using this
  have hc0 : spanTwo [⟨1, 2⟩] [⟨2, 4⟩] = 0 := by decide
  have hc1 : spanOp or [⟨1, 2⟩] [⟨2, 4⟩] = [⟨1, 4⟩] := by decide
  go_enter Try.func4, Try.ntmps4
  go_wp2_with fail
  refine (span_Join B A A' c c' a b _ hB hla hlb ha hb).mono ?_
  rintro e w1 ⟨v1, rfl, hv1, hx1⟩
  obtain ⟨A1, c1, rfl, k1, m1, hs1⟩ := hv1
  go_wp2_with fail
  refine (span_Meet B A A' c c' a b _ (Nat.le_trans hB hx1.size) hla hlb (ha.ext RPair.mono hx1) (hb.ext RPair.mono hx1)).mono ?_
  rintro e w2 ⟨v2, rfl, hv2, hx⟩
  have hx2 := hx1.trans hx
  replace hs1 := hs1.ext RPair.mono hx
  obtain ⟨A2, c2, rfl, k2, m2, hs2⟩ := hv2
  clear hx
  go_wp2_with fail
  refine (span_Less B A A' c c' a b _ (Nat.le_trans hB hx2.size) hla hlb (ha.ext RPair.mono hx2) (hb.ext RPair.mono hx2)).mono ?_
  rintro e w3 ⟨v3, rfl, hv3, hx⟩
  have hx3 := hx2.trans hx
  replace hs1 := hs1.ext RPair.mono hx
  replace hs2 := hs2.ext RPair.mono hx
  obtain ⟨A3, c3, rfl, k3, m3, hs3⟩ := hv3
  clear hx
  go_wp2_with fail
  refine (span_Within B A A' c c' a b _ (Nat.le_trans hB hx3.size) hla hlb (ha.ext RPair.mono hx3) (hb.ext RPair.mono hx3)).mono ?_
  rintro e w4 ⟨rfl, hx⟩
  have hx4 := hx3.trans hx
  replace hs1 := hs1.ext RPair.mono hx
  replace hs2 := hs2.ext RPair.mono hx
  replace hs3 := hs3.ext RPair.mono hx
  clear hx
  go_wp2_with fail
  have q1 := Sl.one (B := B) (R := RSpan) (e := 41) (w := w4) (cs := [.int .i64 1, .int .i64 2]) (y := (⟨1, 2⟩ : Span)) rfl rfl rfl
  have q2 := Sl.one (B := B) (R := RSpan) (e := 41) (w := w4.alloc (.cells #[.int .i64 1, .int .i64 2] 41)) (cs := [.int .i64 2, .int .i64 4]) (y := (⟨2, 4⟩ : Span)) rfl rfl rfl
  rw [World.size_alloc] at q2
  have hxa : Ext w4 ((w4.alloc (.cells #[.int .i64 1, .int .i64 2] 41)).alloc (.cells #[.int .i64 2, .int .i64 4] 41)) := ((Ext.refl _).alloc _).alloc _
  refine (span_Join B _ _ 1 1 [⟨1, 2⟩] [⟨2, 4⟩] _ (Nat.le_trans hB (hx4.trans hxa).size) (by simp [maxLen]) (by simp [maxLen]) (q1.ext RPair.mono ((Ext.refl _).alloc _)) q2).mono ?_
  clear q1 q2
  rintro e w5 ⟨v5, rfl, hv5, hx⟩
  have hx5 := hx4.trans (hxa.trans hx)
  replace hs1 := hs1.ext RPair.mono (hxa.trans hx)
  replace hs2 := hs2.ext RPair.mono (hxa.trans hx)
  replace hs3 := hs3.ext RPair.mono (hxa.trans hx)
  clear hx hxa
  rw [hc1] at hv5
  obtain ⟨A5, c5, rfl, _, _, hs5⟩ := hv5
  rw [hc0]
  go_wp2_with fail
  have q1 := Sl.one (B := B) (R := RSpan) (e := 41) (w := w5) (cs := [.int .i64 1, .int .i64 4]) (y := (⟨1, 4⟩ : Span)) rfl rfl rfl
  refine (eq_spans B B _ _ c5 1 [⟨1, 4⟩] [⟨1, 4⟩] _ (by simp [maxLen]) (by simp [maxLen]) (hs5.ext RPair.mono ((Ext.refl _).alloc _)) q1).mono ?_
  clear q1 hs5
  rintro e w6 ⟨rfl, hx⟩
  have hxa : Ext w5 w6 := ((Ext.refl _).alloc _).trans hx
  have hx6 := hx5.trans hxa
  replace hs1 := hs1.ext RPair.mono hxa
  replace hs2 := hs2.ext RPair.mono hxa
  replace hs3 := hs3.ext RPair.mono hxa
  clear hx hxa
  go_wp2_with fail
  refine (ref_Spans B A c a _ hla (ha.ext RPair.mono hx6)).mono ?_
  rintro e w7 ⟨rfl, hx⟩
  have hx7 := hx6.trans hx
  replace hs1 := hs1.ext RPair.mono hx
  replace hs2 := hs2.ext RPair.mono hx
  replace hs3 := hs3.ext RPair.mono hx
  clear hx
  rw [h0]
  go_wp2_with fail
  refine (ref_Spans B A' c' b _ hlb (hb.ext RPair.mono hx7)).mono ?_
  rintro e w8 ⟨rfl, hx⟩
  have hx8 := hx7.trans hx
  go_wp2_with fail
  go_ret
  exact ⟨ret_bool (by have := herr; rw [hT] at this; simp [this]), hx8⟩

end Go.Proofs.Ytgoogncloiicgaa
