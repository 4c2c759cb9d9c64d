/- The walks of slices.Equal over spans, span.Count and span.Of. -/
import Derived.Test.YtgoogncloiicgaaSpanR
namespace Go.Proofs.Ytgoogncloiicgaa
open Go Go.RowKit

theorem eq_of_take {α : Type} {a b : List α} (hl : a.length = b.length) (h : a.take a.length = b.take a.length) : a = b := by
  rw [List.take_length, hl, List.take_length] at h; exact h
theorem take_eq_succ {α : Type} {a b : List α} {k : Nat} (ha : k < a.length) (hb : k < b.length) (h : a.take k = b.take k) (e : a[k] = b[k]) : a.take (k + 1) = b.take (k + 1) := by
  rw [List.take_succ_eq_append_getElem ha, List.take_succ_eq_append_getElem hb, h, e]
theorem ne_of_get {α : Type} {a b : List α} {k : Nat} (ha : k < a.length) (hb : k < b.length) (e : a[k] ≠ b[k]) : a ≠ b := by
  rintro rfl; exact e rfl

theorem run_ne_span (s t : Span) (b : Bool) (h : decide (s = t) = !b) (w : World) : (binOp .neq 41 (.agg #[.int .i64 s.fr, .int .i64 s.to]) (.agg #[.int .i64 t.fr, .int .i64 t.to])).run Try.prog w = .ok (.bool b) w := by
  obtain ⟨x1, y1⟩ := s
  obtain ⟨x2, y2⟩ := t
  go_simp
  simp only [Span.mk.injEq] at h
  by_cases h1 : x1 = x2 <;> by_cases h2 : y1 = y2 <;> simp [h1, h2] at h ⊢ <;> simp [h]

set_option maxHeartbeats 1000000 in
theorem eq_spans (B B' : Nat) (A A' : Option Addr) (c c' : Nat) (a b : List Span) (w : World) (hla : a.length ≤ maxLen) (hlb : b.length ≤ maxLen) (ha : SlSpans B w A a) (hb : SlSpans B' w A' b) :
    Calls Try.prog 28 #[.slice A a.length c, .slice A' b.length c'] w fun e w' => e = .returned (.bool (decide (a = b))) ∧ Ext w w' := by
  unfold maxLen at hla hlb
  by_cases hl : a.length = b.length
  · have hlne : ((a.length : Int) != (b.length : Int)) = false := by simp [hl]
    have HL := hid hl
    clear hl
    go_enter Try.func28, Try.ntmps28
    go_wp2_with fail
    go_loopw [13] (fun i wr => ∃ k : Nat, k ≤ a.length ∧ i = .int .i64 k ∧ a.take k = b.take k ∧ Ext w wr) (fun i _ => a.length - (intOf i).toNat)
    case atStart => exact ⟨0, Nat.zero_le _, rfl, rfl, Ext.refl _⟩
    case round =>
      obtain ⟨k, hk, rfl, hG, hx⟩ := hrel
      have HG := hid hG
      clear hG
      by_cases hlt : k < a.length
      · have hltb : k < b.length := by have := HL.out; omega
        obtain ⟨b1, o1, rfl, hb1, h1, h2⟩ := (ha.ext RPair.mono hx).pair hlt
        obtain ⟨b2, o2, rfl, hb2, h3, h4⟩ := (hb.ext RPair.mono hx).pair hltb
        have q1 : (k : Int) < a.length := by omega
        have q2 : (k : Int) < b.length := by omega
        by_cases hst : a[k] = b[k]
        · have he := run_ne_span a[k] b[k] false (by simp [hst])
          have HT := hid hst
          clear hst
          go_wp2_with fail
          go_quiet (fail)
          go_wp2_with fail
          go_roundw
          case rel => exact ⟨k + 1, by omega, by go_num, take_eq_succ hlt hltb HG.out HT.out, hx.drewN _⟩
          case measure => simp [intOf]; omega
        · have he := run_ne_span a[k] b[k] true (by simp [hst])
          have HT := hid hst
          clear hst
          go_wp2_with fail
          go_quiet (fail)
          go_wp2_with fail
          go_ret
          exact ⟨ret_bool (by simp [ne_of_get hlt hltb HT.out]), hx.drewN _⟩
      · go_wp2_with fail
        go_ret
        obtain rfl : k = a.length := by omega
        have : a = b := eq_of_take HL.out HG.out
        exact ⟨ret_bool (by simp [this]), hx⟩
  · have hlne : ((a.length : Int) != (b.length : Int)) = true := by simp; omega
    go_enter Try.func28, Try.ntmps28
    go_wp2_with fail
    go_ret
    have : a ≠ b := by rintro rfl; exact hl rfl
    exact ⟨ret_bool (by simp [this]), Ext.refl _⟩

set_option maxHeartbeats 1000000 in
theorem span_Count (B : Nat) (A : Option Addr) (c : Nat) (l : List Span) (w : World) (hl : l.length ≤ maxLen) (h : SlSpans B w A l) :
    Calls Try.prog 34 #[.slice A l.length c] w fun e w' => e = .returned (.tuple #[.int .i64 (spanCount l), .int .i64 (spanCheck l)]) ∧ Ext w w' := by
  go_enter Try.func34, Try.ntmps34
  go_wp2_with fail
  refine (span_Check B A c l _ hl h).mono ?_
  rintro e w1 ⟨rfl, hx1⟩
  by_cases h0 : spanCheck l = 0
  · rw [h0]
    have hb := spanSum_bd l (spanCheck_ok h0).1
    have hok := (spanCheck_ok h0).1
    have hlen := (spanCheck_ok h0).2
    have H0 := hid h0
    clear h0
    go_wp2_with fail
    go_loopw [5, 15] (fun s i wr => ∃ k : Nat, k ≤ l.length ∧ i = .int .i64 k ∧ s = .int .i64 (spanSum (l.take k)) ∧ Ext w wr) (fun _ i _ => l.length - (intOf i).toNat)
    case atStart => exact ⟨0, Nat.zero_le _, rfl, rfl, hx1⟩
    case round =>
      obtain ⟨k, hk, rfl, rfl, hx⟩ := hrel
      have hb1 := hb k hk
      by_cases hlt : k < l.length
      · obtain ⟨b, off, rfl, hbl, h1, h2⟩ := (h.ext RPair.mono hx).pair hlt
        have f := hok _ (List.getElem_mem hlt)
        have HS := hid (spanSum_take l k hlt)
        clear hb hok
        go_wp2_with fail
        go_roundw
        case rel => exact ⟨k + 1, by omega, by go_num, by rw [HS.out], hx.alloc _⟩
        case measure => simp [intOf]; omega
      · obtain rfl : k = l.length := by omega
        rw [List.take_length]
        go_wp2_with fail
        go_ret2
        exact ⟨by simp [spanCount, H0.out], hx⟩
  · have hne : (spanCheck l != 0) = true := by simpa using h0
    have H0 := hid h0
    clear h0
    go_wp2_with fail
    go_ret2
    exact ⟨by simp [spanCount, H0.out], hx1⟩

set_option maxHeartbeats 400000 in
theorem span_Of1 (b : Nat) (p : Nat → Bool) (n : Nat) (w : World) (hn : n < 32) (hb : Blk w b 44 (rowB 32 p)) :
    Calls Try.prog 134 #[.int .i64 n, .pointer (some ⟨b, 0, none⟩)] w fun e w' => e = .returned (.bool (p n)) ∧ Ext w w' := by
  have hc := hb.cell (rowB_get p hn)
  go_enter Try.func134, Try.ntmps134
  go_wp2_with fail
  go_ret
  exact ⟨rfl, Ext.refl _⟩

theorem zi_32b : ZeroInfo Try.prog 44 (rowB 32 fun _ => false) := fun w => by kernel_rfl

set_option maxHeartbeats 1000000 in
theorem span_Of (B : Nat) (A : Option Addr) (c : Nat) (l : List Int) (w : World) (hB : B ≤ w.heap.size) (hl : l.length ≤ maxLen) (h : Sl B 3 RInt 1 w A l) :
    Calls Try.prog 32 #[.slice A l.length c] w fun e w' => ∃ v, e = .returned (.tuple #[v, .int .i64 (ofErr l)]) ∧ IsSpans B w' v (ofSpans l) ∧ Ext w w' := by
  unfold maxLen at hl
  by_cases h4 : 400 < l.length
  · go_enter Try.func32, Try.ntmps32
    go_wp2_with fail
    go_ret2
    have : ofErr l = 2 := by simp [ofErr, h4]
    exact ⟨_, by rw [this]; rfl, by rw [ofSpans, this]; exact IsSl.nil, Ext.refl _⟩
  have HE := hid (show ofErr l = ofGo l by simp [ofErr, h4])
  go_enter Try.func32, Try.ntmps32
  go_wp2_with ((with_reducible refine wpList_allocArr (o := ⟨some 4, _, _, _, _, _⟩) zi_32b rfl rfl ?_); intro w1 hx1 hb1 hs1)
  go_loopw [12] (fun i wr => ∃ k : Nat, k ≤ l.length ∧ i = .int .i64 k ∧ ofGo (l.drop k) = ofGo l ∧ Blk wr w.heap.size 44 (rowB 32 (hasIn (l.take k))) ∧ Ext w wr) (fun i _ => l.length - (intOf i).toNat)
  case atStart => exact ⟨0, Nat.zero_le _, rfl, rfl, hb1, hx1⟩
  case round =>
    obtain ⟨k, hk, rfl, hG, hb, hx⟩ := hrel
    have HG := hid hG
    clear hG
    by_cases hlt : k < l.length
    · obtain ⟨b, off, rfl, hbl, h1⟩ := (h.ext RInt.mono hx).int hlt
      have HS := hid (ofGo_drop l k hlt)
      by_cases hr : l[k] < 0 ∨ 32 ≤ l[k]
      · have HR := hid hr
        rcases hr with hr | hr
        · go_wp2_with fail
          go_ret2
          have : ofErr l = 1 := by rw [HE.out, ← HG.out, HS.out, if_pos HR.out]
          exact ⟨_, by rw [this]; rfl, by rw [ofSpans, this]; exact IsSl.nil, hx⟩
        · go_wp2_with fail
          go_ret2
          have : ofErr l = 1 := by rw [HE.out, ← HG.out, HS.out, if_pos HR.out]
          exact ⟨_, by rw [this]; rfl, by rw [ofSpans, this]; exact IsSl.nil, hx⟩
      · obtain ⟨n, hn⟩ := Int.eq_ofNat_of_zero_le (show 0 ≤ l[k] by omega)
        have HR := hid hr
        clear hr
        rw [hn] at h1
        have hn2 : n < 32 := by have := HR.out; omega
        have HN := hid hn
        clear hn
        have hc := hb.cell (i := n) (rowB_get _ hn2)
        have hz := hb.frozen n
        go_wp2_with fail
        have hs := hb.setB n true
        go_roundw
        case rel =>
          refine ⟨k + 1, by omega, by go_num, by rw [← HG.out, HS.out, if_neg HR.out], ?_, hx.setCell (by simp) _⟩
          rwa [rowB_congr (q := hasIn (l.take (k + 1))) (fun i _ => by
            rw [hasIn_take l k hlt, HN.out]
            by_cases hin : i = n
            · subst hin; simp
            · have : ((n : Int) == (i : Int)) = false := by simp; omega
              rw [if_neg hin, this, Bool.or_false])] at hs
        case measure => simp [intOf]; omega
    · obtain rfl : k = l.length := by omega
      rw [List.take_length] at hb
      go_wp2_with fail
      refine (span_Make B _ _ (fun n => hasIn l n.toNat) _ (Nat.le_trans hB hx.size) Try.call134 ?_).mono ?_
      · intro n wn hn hxn
        exact span_Of1 _ _ n wn hn (hb.ext hxn)
      · rintro e w2 ⟨v, rfl, hv, hx3⟩
        go_wp2_with fail
        go_ret2
        have : ofErr l = 0 := by rw [HE.out, ← HG.out]; simp [ofGo]
        exact ⟨v, by rw [this]; rfl, by rw [ofSpans, this]; exact hv, hx.trans hx3⟩

end Go.Proofs.Ytgoogncloiicgaa
