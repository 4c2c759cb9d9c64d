/- The walks of package span that stand on Check, In and Make. -/
import Derived.Test.YtgoogncloiicgaaSpanM
namespace Go.Proofs.Ytgoogncloiicgaa
open Go Go.RowKit

set_option maxHeartbeats 400000 in
theorem span_two (B : Nat) (A A' : Option Addr) (c c' : Nat) (a b : List Span) (w : World) (hla : a.length ≤ maxLen) (hlb : b.length ≤ maxLen) (ha : SlSpans B w A a) (hb : SlSpans B w A' b) :
    Calls Try.prog 128 #[.slice A a.length c, .slice A' b.length c'] w fun e w' => e = .returned (.int .i64 (spanTwo a b)) ∧ Ext w w' := by
  go_enter Try.func128, Try.ntmps128
  go_wp2_with fail
  refine (span_Check B A c a _ hla ha).mono ?_
  rintro e w1 ⟨rfl, hx1⟩
  by_cases h0 : spanCheck a = 0
  · rw [h0]
    have H0 := hid h0
    clear h0
    go_wp2_with fail
    refine (span_Check B A' c' b _ hlb (hb.ext RPair.mono hx1)).mono ?_
    rintro e w2 ⟨rfl, hx2⟩
    go_wp2_with fail
    go_ret
    exact ⟨ret_int (by simp [spanTwo, H0.out]), hx1.trans hx2⟩
  · have hne : (spanCheck a != 0) = true := by simpa using h0
    have H0 := hid h0
    clear h0
    go_wp2_with fail
    go_ret
    exact ⟨ret_int (by simp [spanTwo, H0.out]), hx1⟩

set_option maxHeartbeats 400000 in
theorem span_Has (B : Nat) (A : Option Addr) (c : Nat) (a : List Span) (n : Int) (w : World) (hla : a.length ≤ maxLen) (ha : SlSpans B w A a) :
    Calls Try.prog 33 #[.slice A a.length c, .int .i64 n] w fun e w' => e = .returned (.tuple #[.bool (decide (spanCheck a = 0) && spanIn a n), .int .i64 (spanCheck a)]) ∧ Ext w w' := by
  go_enter Try.func33, Try.ntmps33
  go_wp2_with fail
  refine (span_Check B A c a _ hla ha).mono ?_
  rintro e w1 ⟨rfl, hx1⟩
  by_cases h0 : spanCheck a = 0
  · rw [h0]
    have H0 := hid h0
    clear h0
    go_wp2_with fail
    refine (span_In B A c a n _ hla (ha.ext RPair.mono hx1)).mono ?_
    rintro e w2 ⟨rfl, hx2⟩
    go_wp2_with fail
    go_ret2
    exact ⟨by simp [H0.out], hx1.trans hx2⟩
  · have hne : (spanCheck a != 0) = true := by simpa using h0
    have H0 := hid h0
    clear h0
    go_wp2_with fail
    go_ret2
    exact ⟨by simp [H0.out], hx1⟩

set_option maxHeartbeats 400000 in
theorem span_Join1 (B ba bb : Nat) (A A' : Option Addr) (c c' : Nat) (a b : List Span) (n : Int) (w : World) (hla : a.length ≤ maxLen) (hlb : b.length ≤ maxLen) (ha : SlSpans B w A a) (hb : SlSpans B w A' b)
    (h1 : w.cell? ⟨ba, 0, none⟩ = some (.slice A a.length c)) (h2 : w.cell? ⟨bb, 0, none⟩ = some (.slice A' b.length c')) :
    Calls Try.prog 130 #[.int .i64 n, .pointer (some ⟨ba, 0, none⟩), .pointer (some ⟨bb, 0, none⟩)] w fun e w' => e = .returned (.bool (or (spanIn a n) (spanIn b n))) ∧ Ext w w' := by
  go_enter Try.func130, Try.ntmps130
  go_wp2_with fail
  refine (span_In B A c a n _ hla ha).mono ?_
  rintro e w1 ⟨rfl, hx1⟩
  have h2' := hx1.cell h2
  by_cases hp : spanIn a n = false
  · rw [hp]
    have HP := hid hp
    clear hp
    go_wp2_with fail
    refine (span_In B A' c' b n _ hlb (hb.ext RPair.mono hx1)).mono ?_
    rintro e w2 ⟨rfl, hx2⟩
    go_wp2_with fail
    go_ret
    exact ⟨ret_bool (by simp [HP.out]), hx1.trans hx2⟩
  · rw [show spanIn a n = true by simpa using hp]
    have HP := hid hp
    clear hp
    go_wp2_with fail
    go_ret
    exact ⟨ret_bool (by simp [HP.out]), hx1⟩

set_option maxHeartbeats 1000000 in
theorem span_Join (B : Nat) (A A' : Option Addr) (c c' : Nat) (a b : List Span) (w : World) (hB : B ≤ w.heap.size) (hla : a.length ≤ maxLen) (hlb : b.length ≤ maxLen) (ha : SlSpans B w A a) (hb : SlSpans B w A' b) :
    Calls Try.prog 24 #[.slice A a.length c, .slice A' b.length c'] w fun e w' => ∃ v, e = .returned (.tuple #[v, .int .i64 (spanTwo a b)]) ∧ IsSpans B w' v (spanOp or a b) ∧ Ext w w' := by
  have hx0 : Ext w ((w.alloc (.cells #[.slice A a.length c] 35)).alloc (.cells #[.slice A' b.length c'] 35)) := ((Ext.refl w).alloc _).alloc _
  go_enter Try.func24, Try.ntmps24
  go_wp2_with fail
  refine (span_two B A A' c c' a b _ hla hlb (ha.ext RPair.mono hx0) (hb.ext RPair.mono hx0)).mono ?_
  rintro e w1 ⟨rfl, hx1⟩
  by_cases h0 : spanTwo a b = 0
  · rw [h0]
    have H0 := hid h0
    clear h0
    have hx2 := hx0.trans hx1
    have h1 : w1.cell? ⟨w.heap.size, 0, none⟩ = some (.slice A a.length c) := hx1.cell (by go_simp)
    have h2 : w1.cell? ⟨w.heap.size + 1, 0, none⟩ = some (.slice A' b.length c') := hx1.cell (by go_simp)
    go_wp2_with fail
    refine (span_Make B _ _ (fun n => or (spanIn a n) (spanIn b n)) _ (Nat.le_trans hB hx2.size) Try.call130 ?_).mono ?_
    · intro n wn hn hx
      exact span_Join1 B _ _ A A' c c' a b n wn hla hlb (ha.ext RPair.mono (hx2.trans hx)) (hb.ext RPair.mono (hx2.trans hx)) (hx.cell h1) (hx.cell h2)
    · rintro e w2 ⟨v, rfl, hv, hx3⟩
      go_wp2_with fail
      go_ret2
      exact ⟨v, by rw [H0.out]; rfl, by rw [spanOp, if_pos H0.out]; exact hv, hx2.trans hx3⟩
  · have hne : (spanTwo a b != 0) = true := by simpa using h0
    have H0 := hid h0
    clear h0
    go_wp2_with fail
    go_ret2
    exact ⟨_, rfl, by rw [spanOp, if_neg H0.out]; exact IsSl.nil, hx0.trans hx1⟩

set_option maxHeartbeats 400000 in
theorem span_Meet1 (B ba bb : Nat) (A A' : Option Addr) (c c' : Nat) (a b : List Span) (n : Int) (w : World) (hla : a.length ≤ maxLen) (hlb : b.length ≤ maxLen) (ha : SlSpans B w A a) (hb : SlSpans B w A' b)
    (h1 : w.cell? ⟨ba, 0, none⟩ = some (.slice A a.length c)) (h2 : w.cell? ⟨bb, 0, none⟩ = some (.slice A' b.length c')) :
    Calls Try.prog 132 #[.int .i64 n, .pointer (some ⟨ba, 0, none⟩), .pointer (some ⟨bb, 0, none⟩)] w fun e w' => e = .returned (.bool (and (spanIn a n) (spanIn b n))) ∧ Ext w w' := by
  go_enter Try.func132, Try.ntmps132
  go_wp2_with fail
  refine (span_In B A c a n _ hla ha).mono ?_
  rintro e w1 ⟨rfl, hx1⟩
  have h2' := hx1.cell h2
  by_cases hp : spanIn a n = true
  · rw [hp]
    have HP := hid hp
    clear hp
    go_wp2_with fail
    refine (span_In B A' c' b n _ hlb (hb.ext RPair.mono hx1)).mono ?_
    rintro e w2 ⟨rfl, hx2⟩
    go_wp2_with fail
    go_ret
    exact ⟨ret_bool (by simp [HP.out]), hx1.trans hx2⟩
  · rw [show spanIn a n = false by simpa using hp]
    have HP := hid hp
    clear hp
    go_wp2_with fail
    go_ret
    exact ⟨ret_bool (by simp [HP.out]), hx1⟩

set_option maxHeartbeats 1000000 in
theorem span_Meet (B : Nat) (A A' : Option Addr) (c c' : Nat) (a b : List Span) (w : World) (hB : B ≤ w.heap.size) (hla : a.length ≤ maxLen) (hlb : b.length ≤ maxLen) (ha : SlSpans B w A a) (hb : SlSpans B w A' b) :
    Calls Try.prog 25 #[.slice A a.length c, .slice A' b.length c'] w fun e w' => ∃ v, e = .returned (.tuple #[v, .int .i64 (spanTwo a b)]) ∧ IsSpans B w' v (spanOp and a b) ∧ Ext w w' := by
  have hx0 : Ext w ((w.alloc (.cells #[.slice A a.length c] 35)).alloc (.cells #[.slice A' b.length c'] 35)) := ((Ext.refl w).alloc _).alloc _
  go_enter Try.func25, Try.ntmps25
  go_wp2_with fail
  refine (span_two B A A' c c' a b _ hla hlb (ha.ext RPair.mono hx0) (hb.ext RPair.mono hx0)).mono ?_
  rintro e w1 ⟨rfl, hx1⟩
  by_cases h0 : spanTwo a b = 0
  · rw [h0]
    have H0 := hid h0
    clear h0
    have hx2 := hx0.trans hx1
    have h1 : w1.cell? ⟨w.heap.size, 0, none⟩ = some (.slice A a.length c) := hx1.cell (by go_simp)
    have h2 : w1.cell? ⟨w.heap.size + 1, 0, none⟩ = some (.slice A' b.length c') := hx1.cell (by go_simp)
    go_wp2_with fail
    refine (span_Make B _ _ (fun n => and (spanIn a n) (spanIn b n)) _ (Nat.le_trans hB hx2.size) Try.call132 ?_).mono ?_
    · intro n wn hn hx
      exact span_Meet1 B _ _ A A' c c' a b n wn hla hlb (ha.ext RPair.mono (hx2.trans hx)) (hb.ext RPair.mono (hx2.trans hx)) (hx.cell h1) (hx.cell h2)
    · rintro e w2 ⟨v, rfl, hv, hx3⟩
      go_wp2_with fail
      go_ret2
      exact ⟨v, by rw [H0.out]; rfl, by rw [spanOp, if_pos H0.out]; exact hv, hx2.trans hx3⟩
  · have hne : (spanTwo a b != 0) = true := by simpa using h0
    have H0 := hid h0
    clear h0
    go_wp2_with fail
    go_ret2
    exact ⟨_, rfl, by rw [spanOp, if_neg H0.out]; exact IsSl.nil, hx0.trans hx1⟩

set_option maxHeartbeats 400000 in
theorem span_Less1 (B ba bb : Nat) (A A' : Option Addr) (c c' : Nat) (a b : List Span) (n : Int) (w : World) (hla : a.length ≤ maxLen) (hlb : b.length ≤ maxLen) (ha : SlSpans B w A a) (hb : SlSpans B w A' b)
    (h1 : w.cell? ⟨ba, 0, none⟩ = some (.slice A a.length c)) (h2 : w.cell? ⟨bb, 0, none⟩ = some (.slice A' b.length c')) :
    Calls Try.prog 133 #[.int .i64 n, .pointer (some ⟨ba, 0, none⟩), .pointer (some ⟨bb, 0, none⟩)] w fun e w' => e = .returned (.bool ((fun x y => x && !y) (spanIn a n) (spanIn b n))) ∧ Ext w w' := by
  go_enter Try.func133, Try.ntmps133
  go_wp2_with fail
  refine (span_In B A c a n _ hla ha).mono ?_
  rintro e w1 ⟨rfl, hx1⟩
  have h2' := hx1.cell h2
  by_cases hp : spanIn a n = true
  · rw [hp]
    have HP := hid hp
    clear hp
    go_wp2_with fail
    refine (span_In B A' c' b n _ hlb (hb.ext RPair.mono hx1)).mono ?_
    rintro e w2 ⟨rfl, hx2⟩
    go_wp2_with fail
    go_ret
    exact ⟨ret_bool (by simp [HP.out]), hx1.trans hx2⟩
  · rw [show spanIn a n = false by simpa using hp]
    have HP := hid hp
    clear hp
    go_wp2_with fail
    go_ret
    exact ⟨ret_bool (by simp [HP.out]), hx1⟩

set_option maxHeartbeats 1000000 in
theorem span_Less (B : Nat) (A A' : Option Addr) (c c' : Nat) (a b : List Span) (w : World) (hB : B ≤ w.heap.size) (hla : a.length ≤ maxLen) (hlb : b.length ≤ maxLen) (ha : SlSpans B w A a) (hb : SlSpans B w A' b) :
    Calls Try.prog 26 #[.slice A a.length c, .slice A' b.length c'] w fun e w' => ∃ v, e = .returned (.tuple #[v, .int .i64 (spanTwo a b)]) ∧ IsSpans B w' v (spanOp (fun x y => x && !y) a b) ∧ Ext w w' := by
  have hx0 : Ext w ((w.alloc (.cells #[.slice A a.length c] 35)).alloc (.cells #[.slice A' b.length c'] 35)) := ((Ext.refl w).alloc _).alloc _
  go_enter Try.func26, Try.ntmps26
  go_wp2_with fail
  refine (span_two B A A' c c' a b _ hla hlb (ha.ext RPair.mono hx0) (hb.ext RPair.mono hx0)).mono ?_
  rintro e w1 ⟨rfl, hx1⟩
  by_cases h0 : spanTwo a b = 0
  · rw [h0]
    have H0 := hid h0
    clear h0
    have hx2 := hx0.trans hx1
    have h1 : w1.cell? ⟨w.heap.size, 0, none⟩ = some (.slice A a.length c) := hx1.cell (by go_simp)
    have h2 : w1.cell? ⟨w.heap.size + 1, 0, none⟩ = some (.slice A' b.length c') := hx1.cell (by go_simp)
    go_wp2_with fail
    refine (span_Make B _ _ (fun n => (fun x y => x && !y) (spanIn a n) (spanIn b n)) _ (Nat.le_trans hB hx2.size) Try.call133 ?_).mono ?_
    · intro n wn hn hx
      exact span_Less1 B _ _ A A' c c' a b n wn hla hlb (ha.ext RPair.mono (hx2.trans hx)) (hb.ext RPair.mono (hx2.trans hx)) (hx.cell h1) (hx.cell h2)
    · rintro e w2 ⟨v, rfl, hv, hx3⟩
      go_wp2_with fail
      go_ret2
      exact ⟨v, by rw [H0.out]; rfl, by rw [spanOp, if_pos H0.out]; exact hv, hx2.trans hx3⟩
  · have hne : (spanTwo a b != 0) = true := by simpa using h0
    have H0 := hid h0
    clear h0
    go_wp2_with fail
    go_ret2
    exact ⟨_, rfl, by rw [spanOp, if_neg H0.out]; exact IsSl.nil, hx0.trans hx1⟩

set_option maxHeartbeats 1000000 in
theorem span_Within (B : Nat) (A A' : Option Addr) (c c' : Nat) (a b : List Span) (w : World) (hB : B ≤ w.heap.size) (hla : a.length ≤ maxLen) (hlb : b.length ≤ maxLen) (ha : SlSpans B w A a) (hb : SlSpans B w A' b) :
    Calls Try.prog 27 #[.slice A a.length c, .slice A' b.length c'] w fun e w' => e = .returned (.tuple #[.bool (decide (spanTwo a b = 0) && decide (spanOp (fun x y => x && !y) a b = [])), .int .i64 (spanTwo a b)]) ∧ Ext w w' := by
  go_enter Try.func27, Try.ntmps27
  go_wp2_with fail
  refine (span_Less B A A' c c' a b _ hB hla hlb ha hb).mono ?_
  rintro e w1 ⟨v, rfl, hv, hx1⟩
  obtain ⟨A1, c1, rfl, _, _, _⟩ := hv
  by_cases h0 : spanTwo a b = 0
  · rw [h0]
    have H0 := hid h0
    clear h0
    go_wp2_with fail
    go_ret2
    exact ⟨by simp [H0.out, len_beq], hx1⟩
  · have hne : (spanTwo a b == 0) = false := by simpa using h0
    have H0 := hid h0
    clear h0
    go_wp2_with fail
    go_ret2
    exact ⟨by simp [H0.out], hx1⟩

end Go.Proofs.Ytgoogncloiicgaa
