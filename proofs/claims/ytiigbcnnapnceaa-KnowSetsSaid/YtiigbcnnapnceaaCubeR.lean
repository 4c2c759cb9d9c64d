/- The walks of the reference's cubes, and of cube.Count. -/
import Derived.Test.YtiigbcnnapnceaaCubeW2
namespace Go.Proofs.Ytiigbcnnapnceaa
open Go Go.RowKit

/-- in between. -/
def betw (x a b : Int) : Bool := decide (a ≤ x ∧ x ≤ b)

set_option maxHeartbeats 400000 in
theorem ref_within (x a b : Int) (w : World) : Calls Try.prog 65 #[.int .i64 x, .int .i64 a, .int .i64 b] w fun e w' => e = .returned (.bool (betw x a b)) ∧ w = w' := by
  by_cases h1 : a ≤ x
  · have HB := hid (show betw x a b = decide (x ≤ b) by simp [betw, h1])
    go_enter Try.func65, Try.ntmps65
    go_wp2_with fail
    go_ret
    exact ⟨ret_bool HB.out.symm, rfl⟩
  · have HB := hid (show betw x a b = false by simp [betw, h1])
    have h1' : x < a := by omega
    go_enter Try.func65, Try.ntmps65
    go_wp2_with fail
    go_ret
    exact ⟨ret_bool HB.out.symm, rfl⟩

theorem betw_tags (n : Int) : betw n 0 15 = tagsOk n := rfl

set_option maxHeartbeats 400000 in
theorem ref_Cube (c : Cube) (w : World) : Calls Try.prog 21 #[.agg #[.int .i64 c.yes, .int .i64 c.no]] w fun e w' => e = .returned (.int .i64 (cubeCheck c)) ∧ Ext w w' := by
  by_cases h1 : tagsOk c.yes = true
  · by_cases h2 : tagsOk c.no = true
    · have a := tagsOk_iff.1 h1
      have b := tagsOk_iff.1 h2
      obtain ⟨y, hy⟩ := Int.eq_ofNat_of_zero_le a.1
      obtain ⟨m, hm⟩ := Int.eq_ofNat_of_zero_le b.1
      have hk := and16 y (by omega) m (by omega)
      have HC := hid (show cubeCheck c = if y &&& m = 0 then 0 else 3 by rw [cubeCheck, if_pos ⟨h1, h2⟩, hy, hm, Int.toNat_natCast, Int.toNat_natCast])
      rw [hy, hm]
      rw [hy] at h1
      rw [hm] at h2
      clear hy hm a b
      by_cases h0 : y &&& m = 0
      all_goals
        first
          | (rw [h0] at hk)
          | (have hb : (0 : Int) < ((y &&& m : Nat) : Int) := by omega)
        have H0 := hid h0
        clear h0
        go_enter Try.func21, Try.ntmps21
        go_wp2_with fail
        refine (ref_within _ _ _ _).mono ?_
        rintro e w1 ⟨rfl, rfl⟩
        rw [betw_tags, h1]
        go_wp2_with fail
        refine (ref_within _ _ _ _).mono ?_
        rintro e w1 ⟨rfl, rfl⟩
        rw [betw_tags, h2]
        go_wp2_with fail
        go_ret
        refine ⟨ret_int ?_, (Ext.refl w).alloc _⟩
        first
          | (rw [HC.out, if_pos H0.out])
          | (rw [HC.out, if_neg H0.out])
    · have HC := hid (show cubeCheck c = 1 by rw [cubeCheck, if_neg (fun h => h2 h.2)])
      have h2' : tagsOk c.no = false := by simpa using h2
      clear h2
      go_enter Try.func21, Try.ntmps21
      go_wp2_with fail
      refine (ref_within _ _ _ _).mono ?_
      rintro e w1 ⟨rfl, rfl⟩
      rw [betw_tags, h1]
      go_wp2_with fail
      refine (ref_within _ _ _ _).mono ?_
      rintro e w1 ⟨rfl, rfl⟩
      rw [betw_tags, h2']
      go_wp2_with fail
      go_ret
      exact ⟨ret_int HC.out.symm, (Ext.refl w).alloc _⟩
  · have HC := hid (show cubeCheck c = 1 by rw [cubeCheck, if_neg (fun h => h1 h.1)])
    have h1' : tagsOk c.yes = false := by simpa using h1
    clear h1
    go_enter Try.func21, Try.ntmps21
    go_wp2_with fail
    refine (ref_within _ _ _ _).mono ?_
    rintro e w1 ⟨rfl, rfl⟩
    rw [betw_tags, h1']
    go_wp2_with fail
    go_ret
    exact ⟨ret_int HC.out.symm, (Ext.refl w).alloc _⟩

set_option maxRecDepth 100000 in
set_option maxHeartbeats 4000000 in
theorem ones_int (z : Int) (h0 : 0 ≤ z) (h1 : z < 16) (w : World) : Calls Try.prog 75 #[.int .u64 z] w fun e w' => e = .returned (.int .i64 ((pop z.toNat : Nat) : Int)) ∧ w = w' := by
  have hc : z = 0 ∨ z = 1 ∨ z = 2 ∨ z = 3 ∨ z = 4 ∨ z = 5 ∨ z = 6 ∨ z = 7 ∨ z = 8 ∨ z = 9 ∨ z = 10 ∨ z = 11 ∨ z = 12 ∨ z = 13 ∨ z = 14 ∨ z = 15 := by omega
  clear h0 h1
  rcases hc with rfl | rfl | rfl | rfl | rfl | rfl | rfl | rfl | rfl | rfl | rfl | rfl | rfl | rfl | rfl | rfl
  all_goals
    go_enter Try.func75, Try.ntmps75
    go_wp2
    go_ret
    exact ⟨by kernel_rfl, rfl⟩

end Go.Proofs.Ytiigbcnnapnceaa
