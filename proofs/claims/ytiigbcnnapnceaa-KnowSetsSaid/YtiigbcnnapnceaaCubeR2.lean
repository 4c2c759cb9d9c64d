/- The walks of reedref.In and cube.Count. -/
import Derived.Test.YtiigbcnnapnceaaCubeR
namespace Go.Proofs.Ytiigbcnnapnceaa
open Go Go.RowKit

set_option maxHeartbeats 4000000 in
theorem ref_In (c : Cube) (y n t : Nat) (hc : CubeOk c y n) (ht : t < 16) (w : World) : Calls Try.prog 23 #[.agg #[.int .i64 c.yes, .int .i64 c.no], .int .i64 t] w fun e w' => e = .returned (.bool (cubeIn y n t)) ∧ Ext w w' := by
  obtain ⟨h1, h2, hy, hn, _⟩ := hc
  rw [h1, h2]
  clear h1 h2
  have HB := hid (cubeIn_bits y hy n hn t ht)
  go_enter Try.func23, Try.ntmps23
  go_wp2_with fail
  go_loopw [7] (fun i wr => ∃ k : Nat, k ≤ 4 ∧ i = .int .i64 k ∧ allTo (goodb y n t) k = true ∧ Ext (w.alloc (.cells #[.int .i64 y, .int .i64 n] 36)) wr) (fun i _ => 4 - (intOf i).toNat)
  case atStart => exact ⟨0, by omega, rfl, rfl, Ext.refl _⟩
  case round =>
    obtain ⟨k, hk, rfl, hg, hx⟩ := hrel
    have HG := hid hg
    clear hg
    have q1 : wr.cell? ⟨w.heap.size, 0, none⟩ = some (.int .i64 y) := hx.cell (by go_simp)
    have q2 : wr.cell? ⟨w.heap.size, 1, none⟩ = some (.int .i64 n) := hx.cell (by go_simp)
    have hxw := ((Ext.refl w).alloc _).trans hx
    by_cases hlt : k < 4
    · have k0 : (0 : Int) ≤ k := by omega
      have k4 : (k : Int) < 4 := by omega
      have e1 := bit_int y k
      have e2 := bit_int n k
      have e3 := bit_int t k
      have HD := hid (show goodb y n t k = !(bitb y k && !bitb t k || bitb n k && bitb t k) from rfl)
      generalize bitb y k = b1 at *
      generalize bitb n k = b2 at *
      generalize bitb t k = b3 at *
      cases b1 <;> cases b2 <;> cases b3
      all_goals
        simp only [Bool.false_eq_true, if_true, if_false] at e1 e2 e3
        go_wp2_with fail
        first
          | (go_ret
             refine ⟨ret_bool ?_, hxw⟩
             rw [HB.out, eq_comm, ← Bool.not_eq_true]
             intro h
             have := (allTo_iff _ 4).1 h k hlt
             rw [HD.out] at this
             exact absurd this (by decide))
          | (go_roundw
             case rel => exact ⟨k + 1, by omega, by go_num, by rw [allTo, HG.out, HD.out]; rfl, hx⟩
             case measure => simp [intOf]; omega)
    · obtain rfl : k = 4 := by omega
      go_wp2_with fail
      go_ret
      exact ⟨ret_bool (by rw [HB.out, HG.out]), hxw⟩

set_option maxRecDepth 100000 in
set_option maxHeartbeats 4000000 in
theorem cube_Count (c : Cube) (w : World) : Calls Try.prog 20 #[.agg #[.int .i64 c.yes, .int .i64 c.no]] w fun e w' => e = .returned (.tuple #[.int .i64 (cubeCount c), .int .i64 (cubeCheck c)]) ∧ Ext w w' := by
  go_enter Try.func20, Try.ntmps20
  go_wp2_with fail
  refine (cube_Check c _).mono ?_
  rintro e w1 ⟨rfl, hx1⟩
  have q1 : w1.cell? ⟨w.heap.size, 0, none⟩ = some (.int .i64 c.yes) := hx1.cell (by go_simp)
  have q2 : w1.cell? ⟨w.heap.size, 1, none⟩ = some (.int .i64 c.no) := hx1.cell (by go_simp)
  have hx0 : Ext w w1 := ((Ext.refl w).alloc _).trans hx1
  clear hx1
  by_cases h0 : cubeCheck c = 0
  · rw [h0]
    obtain ⟨y, n, hc⟩ := cubeOk_of h0
    have e1 := hc.yes
    have e2 := hc.no
    have k1 := or16 y hc.hy n hc.hn
    have k2 := or16_lt y hc.hy n hc.hn
    have HE := hid (show cubeCount c = ((2 ^ (4 - pop (y ||| n)) : Nat) : Int) by rw [cubeCount, if_pos h0, e1, e2, Int.toNat_natCast, Int.toNat_natCast])
    rw [e1] at q1
    rw [e2] at q2
    have H0 := hid h0
    clear h0 e1 e2 hc
    generalize (y ||| n) = v at *
    have hv : v = 0 ∨ v = 1 ∨ v = 2 ∨ v = 3 ∨ v = 4 ∨ v = 5 ∨ v = 6 ∨ v = 7 ∨ v = 8 ∨ v = 9 ∨ v = 10 ∨ v = 11 ∨ v = 12 ∨ v = 13 ∨ v = 14 ∨ v = 15 := by omega
    clear k2
    rcases hv with rfl | rfl | rfl | rfl | rfl | rfl | rfl | rfl | rfl | rfl | rfl | rfl | rfl | rfl | rfl | rfl
    all_goals
      go_wp2_with fail
      refine (ones_int _ (by omega) (by omega) _).mono ?_
      rintro e w2 ⟨rfl, rfl⟩
      simp only [show ∀ k : Nat, (OfNat.ofNat k : Int).toNat = k from fun _ => rfl, pop]
      go_wp2_with fail
      go_ret2
      exact ⟨by rw [HE.out, H0.out]; simp [pop], hx0⟩
  · have hne : (cubeCheck c != 0) = true := by simpa using h0
    have H0 := hid h0
    clear h0
    go_wp2_with fail
    go_ret2
    exact ⟨by simp [cubeCount, H0.out], hx0⟩

end Go.Proofs.Ytiigbcnnapnceaa
