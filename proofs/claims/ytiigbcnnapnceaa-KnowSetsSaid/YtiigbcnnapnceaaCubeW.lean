/- The walks of package cube: Tags, Check, In, Has, two. -/
import Derived.Test.YtiigbcnnapnceaaProg
import Derived.Test.YtiigbcnnapnceaaCubeP
import Derived.WalkKit
import Derived.Outline
import Derived.Deep.QuietTactic
import Derived.BigQuiet
namespace Go.Proofs.Ytiigbcnnapnceaa
open Go Go.RowKit

set_option maxHeartbeats 400000 in
theorem cube_Tags (n : Int) (w : World) : Calls Try.prog 72 #[.int .i64 n] w fun e w' => e = .returned (.bool (tagsOk n)) ∧ w = w' := by
  go_enter Try.func72, Try.ntmps72
  go_wp2_with fail
  all_goals
    go_ret
    refine ⟨ret_bool ?_, rfl⟩
    simp only [tagsOk]
    first
      | (rw [eq_comm, decide_eq_true_eq]; omega)
      | (rw [eq_comm, decide_eq_false_iff_not]; omega)
      | (by_cases h : 0 ≤ n ∧ n ≤ 15 <;> simp [h] <;> omega)

set_option maxHeartbeats 400000 in
theorem cube_Check (c : Cube) (w : World) : Calls Try.prog 22 #[.agg #[.int .i64 c.yes, .int .i64 c.no]] w fun e w' => e = .returned (.int .i64 (cubeCheck c)) ∧ Ext w w' := by
  by_cases h1 : tagsOk c.yes = true
  · by_cases h2 : tagsOk c.no = true
    · have a := tagsOk_iff.1 h1
      have b := tagsOk_iff.1 h2
      obtain ⟨y, hy⟩ := Int.eq_ofNat_of_zero_le a.1
      obtain ⟨m, hm⟩ := Int.eq_ofNat_of_zero_le b.1
      have hk := and16 y (by omega) m (by omega)
      have HC := hid (show cubeCheck c = if y &&& m = 0 then 0 else 3 by rw [cubeCheck, if_pos ⟨h1, h2⟩, hy, hm, Int.toNat_natCast, Int.toNat_natCast])
      rw [hy, hm]
      rw [hy] at h1
      rw [hm] at h2
      clear hy hm a b
      by_cases h0 : y &&& m = 0
      · rw [h0] at hk
        have H0 := hid h0
        clear h0
        go_enter Try.func22, Try.ntmps22
        go_wp2_with fail
        refine (cube_Tags _ _).mono ?_
        rintro e w1 ⟨rfl, rfl⟩
        rw [h1]
        go_wp2_with fail
        refine (cube_Tags _ _).mono ?_
        rintro e w1 ⟨rfl, rfl⟩
        rw [h2]
        go_wp2_with fail
        go_ret
        exact ⟨ret_int (by rw [HC.out, if_pos H0.out]), (Ext.refl w).alloc _⟩
      · have hb : (((y &&& m : Nat) : Int) != 0) = true := by simp; omega
        have H0 := hid h0
        clear h0
        go_enter Try.func22, Try.ntmps22
        go_wp2_with fail
        refine (cube_Tags _ _).mono ?_
        rintro e w1 ⟨rfl, rfl⟩
        rw [h1]
        go_wp2_with fail
        refine (cube_Tags _ _).mono ?_
        rintro e w1 ⟨rfl, rfl⟩
        rw [h2]
        go_wp2_with fail
        go_ret
        exact ⟨ret_int (by rw [HC.out, if_neg H0.out]), (Ext.refl w).alloc _⟩
    · have HC := hid (show cubeCheck c = 1 by rw [cubeCheck, if_neg (fun h => h2 h.2)])
      have h2' : tagsOk c.no = false := by simpa using h2
      clear h2
      go_enter Try.func22, Try.ntmps22
      go_wp2_with fail
      refine (cube_Tags _ _).mono ?_
      rintro e w1 ⟨rfl, rfl⟩
      rw [h1]
      go_wp2_with fail
      refine (cube_Tags _ _).mono ?_
      rintro e w1 ⟨rfl, rfl⟩
      rw [h2']
      go_wp2_with fail
      go_ret
      exact ⟨ret_int HC.out.symm, (Ext.refl w).alloc _⟩
  · have HC := hid (show cubeCheck c = 1 by rw [cubeCheck, if_neg (fun h => h1 h.1)])
    have h1' : tagsOk c.yes = false := by simpa using h1
    clear h1
    go_enter Try.func22, Try.ntmps22
    go_wp2_with fail
    refine (cube_Tags _ _).mono ?_
    rintro e w1 ⟨rfl, rfl⟩
    rw [h1']
    go_wp2_with fail
    go_ret
    exact ⟨ret_int HC.out.symm, (Ext.refl w).alloc _⟩

set_option maxHeartbeats 400000 in
theorem cube_In (c : Cube) (y n t : Nat) (hc : CubeOk c y n) (ht : t < 16) (w : World) : Calls Try.prog 73 #[.agg #[.int .i64 c.yes, .int .i64 c.no], .int .i64 t] w fun e w' => e = .returned (.bool (cubeIn y n t)) ∧ Ext w w' := by
  obtain ⟨h1, h2, hy, hn, _⟩ := hc
  rw [h1, h2]
  clear h1 h2
  have k1 := and16 t ht y hy
  have k2 := and16 t ht n hn
  by_cases ha : t &&& y = y
  · rw [ha] at k1
    have HA := hid ha
    clear ha
    go_enter Try.func73, Try.ntmps73
    go_wp2_with fail
    go_ret
    refine ⟨ret_bool ?_, (Ext.refl w).alloc _⟩
    rw [cubeIn, HA.out]
    rw [cast_beq0]; simp
  · have hb : (((t &&& y : Nat) : Int) == (y : Int)) = false := by simp; omega
    have HA := hid ha
    clear ha
    go_enter Try.func73, Try.ntmps73
    go_wp2_with fail
    go_ret
    refine ⟨ret_bool ?_, (Ext.refl w).alloc _⟩
    simp [cubeIn, HA.out]

set_option maxHeartbeats 400000 in
theorem cube_two (a b : Cube) (w : World) : Calls Try.prog 74 #[.agg #[.int .i64 a.yes, .int .i64 a.no], .agg #[.int .i64 b.yes, .int .i64 b.no]] w fun e w' => e = .returned (.int .i64 (cubeTwo a b)) ∧ Ext w w' := by
  go_enter Try.func74, Try.ntmps74
  go_wp2_with fail
  refine (cube_Check a _).mono ?_
  rintro e w1 ⟨rfl, hx1⟩
  have q1 : w1.cell? ⟨w.heap.size + 1, 0, none⟩ = some (.int .i64 b.yes) := hx1.cell (by go_simp)
  have q2 : w1.cell? ⟨w.heap.size + 1, 1, none⟩ = some (.int .i64 b.no) := hx1.cell (by go_simp)
  have hx0 : Ext w w1 := (((Ext.refl w).alloc _).alloc _).trans hx1
  clear hx1
  by_cases h0 : cubeCheck a = 0
  · rw [h0]
    have H0 := hid h0
    clear h0
    go_wp2_with fail
    refine (cube_Check b _).mono ?_
    rintro e w2 ⟨rfl, hx2⟩
    go_wp2_with fail
    go_ret
    exact ⟨ret_int (by rw [cubeTwo, if_pos H0.out]), hx0.trans hx2⟩
  · have hne : (cubeCheck a != 0) = true := by simpa using h0
    have H0 := hid h0
    clear h0
    go_wp2_with fail
    go_ret
    exact ⟨ret_int (by rw [cubeTwo, if_neg H0.out]), hx0⟩

set_option maxHeartbeats 400000 in
theorem cube_Has (c : Cube) (t : Int) (w : World) : Calls Try.prog 16 #[.agg #[.int .i64 c.yes, .int .i64 c.no], .int .i64 t] w fun e w' => e = .returned (.tuple #[.bool (cubeHas c t), .int .i64 (cubeHasErr c t)]) ∧ Ext w w' := by
  go_enter Try.func16, Try.ntmps16
  go_wp2_with fail
  refine (cube_Check c _).mono ?_
  rintro e w1 ⟨rfl, hx1⟩
  have q1 : w1.cell? ⟨w.heap.size, 0, none⟩ = some (.int .i64 c.yes) := hx1.cell (by go_simp)
  have q2 : w1.cell? ⟨w.heap.size, 1, none⟩ = some (.int .i64 c.no) := hx1.cell (by go_simp)
  have hx0 : Ext w w1 := ((Ext.refl w).alloc _).trans hx1
  clear hx1
  by_cases h0 : cubeCheck c = 0
  · rw [h0]
    obtain ⟨y, n, hc⟩ := cubeOk_of h0
    have H0 := hid h0
    clear h0
    go_wp2_with fail
    refine (cube_Tags t _).mono ?_
    rintro e w2 ⟨rfl, rfl⟩
    by_cases ht : tagsOk t = true
    · rw [ht]
      have hb := tagsOk_iff.1 ht
      obtain ⟨u, hu⟩ := Int.eq_ofNat_of_zero_le hb.1
      have HT := hid ht
      subst hu
      clear ht
      go_wp2_with fail
      refine (cube_In c y n u hc (by omega) _).mono ?_
      rintro e w2 ⟨rfl, hx2⟩
      go_wp2_with fail
      go_ret2
      have he : cubeHasErr c u = 0 := by rw [cubeHasErr, if_pos H0.out, if_pos HT.out]
      exact ⟨by simp [cubeHas, he, hc.yes, hc.no], hx0.trans hx2⟩
    · rw [show tagsOk t = false by simpa using ht]
      have HT := hid ht
      clear ht
      go_wp2_with fail
      go_ret2
      have he : cubeHasErr c t = 1 := by rw [cubeHasErr, if_pos H0.out, if_neg HT.out]
      exact ⟨by simp [cubeHas, he], hx0⟩
  · have hne : (cubeCheck c != 0) = true := by simpa using h0
    have H0 := hid h0
    clear h0
    go_wp2_with fail
    go_ret2
    have he : cubeHasErr c t = cubeCheck c := by rw [cubeHasErr, if_neg H0.out]
    exact ⟨by simp [cubeHas, he, H0.out], hx0⟩

end Go.Proofs.Ytiigbcnnapnceaa
