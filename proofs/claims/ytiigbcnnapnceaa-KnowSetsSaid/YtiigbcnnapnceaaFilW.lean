/- The walks of filter.Check and of the reference's Filter. -/
import Derived.Test.YtiigbcnnapnceaaSpanE
import Derived.Test.YtiigbcnnapnceaaCubeR2
import Derived.Test.YtiigbcnnapnceaaFilD
namespace Go.Proofs.Ytiigbcnnapnceaa
open Go Go.RowKit

set_option maxHeartbeats 1000000 in
theorem filter_Check (B : Nat) (A : Option Addr) (c : Nat) (f : List Box) (w : World) (hl : f.length ≤ maxLen) (h : SlBoxes B w A f) :
    Calls Try.prog 40 #[.slice A f.length c] w fun e w' => e = .returned (.int .i64 (filterCheck f)) ∧ Ext w w' := by
  unfold maxLen at hl
  by_cases h40 : 40 < f.length
  · go_enter Try.func40, Try.ntmps40
    go_wp2_with fail
    go_ret
    exact ⟨ret_int (by simp [filterCheck, h40]), Ext.refl _⟩
  have HE := hid (show filterCheck f = filterGo f by simp [filterCheck, h40])
  go_enter Try.func40, Try.ntmps40
  go_wp2_with fail
  go_loopw [12] (fun i wr => ∃ k : Nat, k ≤ f.length ∧ i = .int .i64 k ∧ filterGo (f.drop k) = filterGo f ∧ Ext w wr) (fun i _ => f.length - (intOf i).toNat)
  case atStart => exact ⟨0, Nat.zero_le _, rfl, rfl, Ext.refl _⟩
  case round =>
    obtain ⟨k, hk, rfl, hG, hx⟩ := hrel
    have HG := hid hG
    clear hG
    by_cases hlt : k < f.length
    · obtain ⟨b, off, A', c', rfl, hb, g0, g1, g2, hsl, hs⟩ := (h.ext RBox.monoE hx).box hlt
      have HS := hid (filterGo_drop f k hlt)
      go_wp2_with fail
      refine (cube_Check f[k].cube _).mono ?_
      rintro e w1 ⟨rfl, hx1⟩
      have q2 : w1.cell? ⟨wr.heap.size, 2, none⟩ = some (.slice A' f[k].spans.length c') := hx1.cell (by go_simp)
      have hxr : Ext wr w1 := ((Ext.refl wr).alloc _).trans hx1
      have hs1 := hs.ext RPair.mono hxr
      replace hx := hx.trans hxr
      clear hx1 hxr hs
      by_cases hc : cubeCheck f[k].cube = 0
      · rw [hc]
        have HC := hid hc
        clear hc
        go_wp2_with fail
        refine (span_Check B A' c' f[k].spans _ hsl hs1).mono ?_
        rintro e w2 ⟨rfl, hx2⟩
        replace hx := hx.trans hx2
        by_cases hd : spanCheck f[k].spans = 0
        · rw [hd]
          have HD := hid hd
          clear hd
          go_wp2_with fail
          go_roundw
          case rel => exact ⟨k + 1, hlt, by go_num, by rw [← HG.out, HS.out, if_pos HC.out, if_pos HD.out], hx⟩
          case measure => simp [intOf]; omega
        · have hne : (spanCheck f[k].spans != 0) = true := by simpa using hd
          have HD := hid hd
          clear hd
          go_wp2_with fail
          go_ret
          exact ⟨ret_int (by rw [HE.out, ← HG.out, HS.out, if_pos HC.out, if_neg HD.out]), hx⟩
      · have hne : (cubeCheck f[k].cube != 0) = true := by simpa using hc
        have HC := hid hc
        clear hc
        go_wp2_with fail
        go_ret
        exact ⟨ret_int (by rw [HE.out, ← HG.out, HS.out, if_neg HC.out]), hx⟩
    · obtain rfl : k = f.length := by omega
      go_wp2_with fail
      go_ret
      exact ⟨ret_int (by rw [HE.out, ← HG.out]; simp [filterGo]), hx⟩

set_option maxHeartbeats 1000000 in
theorem ref_Filter (B : Nat) (A : Option Addr) (c : Nat) (f : List Box) (w : World) (hl : f.length ≤ maxLen) (h : SlBoxes B w A f) :
    Calls Try.prog 12 #[.slice A f.length c] w fun e w' => e = .returned (.int .i64 (filterCheck f)) ∧ Ext w w' := by
  unfold maxLen at hl
  by_cases h40 : 40 < f.length
  · go_enter Try.func12, Try.ntmps12
    go_wp2_with fail
    go_ret
    exact ⟨ret_int (by simp [filterCheck, h40]), Ext.refl _⟩
  have HE := hid (show filterCheck f = filterGo f by simp [filterCheck, h40])
  go_enter Try.func12, Try.ntmps12
  go_wp2_with fail
  go_loopw [12] (fun i wr => ∃ k : Nat, k ≤ f.length ∧ i = .int .i64 k ∧ filterGo (f.drop k) = filterGo f ∧ Ext w wr) (fun i _ => f.length - (intOf i).toNat)
  case atStart => exact ⟨0, Nat.zero_le _, rfl, rfl, Ext.refl _⟩
  case round =>
    obtain ⟨k, hk, rfl, hG, hx⟩ := hrel
    have HG := hid hG
    clear hG
    by_cases hlt : k < f.length
    · obtain ⟨b, off, A', c', rfl, hb, g0, g1, g2, hsl, hs⟩ := (h.ext RBox.monoE hx).box hlt
      have HS := hid (filterGo_drop f k hlt)
      go_wp2_with fail
      refine (ref_Cube f[k].cube _).mono ?_
      rintro e w1 ⟨rfl, hx1⟩
      have q2 : w1.cell? ⟨wr.heap.size, 2, none⟩ = some (.slice A' f[k].spans.length c') := hx1.cell (by go_simp)
      have hxr : Ext wr w1 := ((Ext.refl wr).alloc _).trans hx1
      have hs1 := hs.ext RPair.mono hxr
      replace hx := hx.trans hxr
      clear hx1 hxr hs
      by_cases hc : cubeCheck f[k].cube = 0
      · rw [hc]
        have HC := hid hc
        clear hc
        go_wp2_with fail
        refine (ref_Spans B A' c' f[k].spans _ hsl hs1).mono ?_
        rintro e w2 ⟨rfl, hx2⟩
        replace hx := hx.trans hx2
        by_cases hd : spanCheck f[k].spans = 0
        · rw [hd]
          have HD := hid hd
          clear hd
          go_wp2_with fail
          go_roundw
          case rel => exact ⟨k + 1, hlt, by go_num, by rw [← HG.out, HS.out, if_pos HC.out, if_pos HD.out], hx⟩
          case measure => simp [intOf]; omega
        · have hne : (spanCheck f[k].spans != 0) = true := by simpa using hd
          have HD := hid hd
          clear hd
          go_wp2_with fail
          go_ret
          exact ⟨ret_int (by rw [HE.out, ← HG.out, HS.out, if_pos HC.out, if_neg HD.out]), hx⟩
      · have hne : (cubeCheck f[k].cube != 0) = true := by simpa using hc
        have HC := hid hc
        clear hc
        go_wp2_with fail
        go_ret
        exact ⟨ret_int (by rw [HE.out, ← HG.out, HS.out, if_neg HC.out]), hx⟩
    · obtain rfl : k = f.length := by omega
      go_wp2_with fail
      go_ret
      exact ⟨ret_int (by rw [HE.out, ← HG.out]; simp [filterGo]), hx⟩

end Go.Proofs.Ytiigbcnnapnceaa
