/- The walk of the law CubeSays. -/
import Derived.Test.YtiigbcnnapnceaaCubeL
import Derived.Test.YtiigbcnnapnceaaCubeQ
import Derived.Deep.RegionWith
import Derived.Deep.DeepCutAuto
namespace Go.Proofs.Ytiigbcnnapnceaa
open Go Go.RowKit

set_option maxRecDepth 100000 in
set_option maxHeartbeats 8000000 in
theorem law_CubeSays_one (B : Nat) (a b : Cube) (t : Int) (w : World) (hB : B ≤ w.heap.size) (h1 : cubeCheck a ≠ 0) :
    Calls Try.prog 4 #[.agg #[.int .i64 a.yes, .int .i64 a.no], .agg #[.int .i64 b.yes, .int .i64 b.no], .int .i64 t] w fun e w' => e = .returned (.bool true) ∧ Ext w w' := by
  have hT : cubeTwo a b = cubeCheck a := by rw [cubeTwo, if_neg h1]
  have hM : cubeMeetErr a b = cubeCheck a := by rw [cubeMeetErr, if_neg (by rw [hT]; exact h1), hT]
  have hMy : (cubeMeet a b).yes = 0 := by rw [cubeMeet, if_neg (by rw [hM]; exact h1)]
  have hMn : (cubeMeet a b).no = 0 := by rw [cubeMeet, if_neg (by rw [hM]; exact h1)]
  have hHe : cubeHasErr a t = cubeCheck a := by rw [cubeHasErr, if_neg h1]
  have hH : cubeHas a t = false := by simp [cubeHas, hHe, h1]
  have hW : cubeWithin a b = false := by simp [cubeWithin, hT, h1]
  have hL : cubeLess a b = [] := by rw [cubeLess, if_neg (by rw [hT]; exact h1)]
  have hC : cubeCount a = 0 := by rw [cubeCount, if_neg h1]
  have hne : (cubeCheck a != 0) = true := by simpa using h1
  have heq : (cubeCheck a == 0) = false := by simpa using h1
  have H1 := hid h1
  clear h1
  go_enter Try.func4, Try.ntmps4
  go_wp2_with fail
  refine (cube_Has a t _).mono ?_
  rintro e w1 ⟨rfl, hx⟩
  have q1 : w1.cell? ⟨w.heap.size, 0, none⟩ = some (.int .i64 a.yes) := hx.cell (by go_simp)
  have q2 : w1.cell? ⟨w.heap.size, 1, none⟩ = some (.int .i64 a.no) := hx.cell (by go_simp)
  have q3 : w1.cell? ⟨w.heap.size + 1, 0, none⟩ = some (.int .i64 b.yes) := hx.cell (by go_simp)
  have q4 : w1.cell? ⟨w.heap.size + 1, 1, none⟩ = some (.int .i64 b.no) := hx.cell (by go_simp)
  have hx1 : Ext w w1 := (((Ext.refl w).alloc _).alloc _).trans hx
  have hz1 : w.heap.size + 1 < w1.heap.size := by have := hx.size; simp at this; omega
  have hz2 : w.heap.size < w1.heap.size := by omega
  clear hx
  go_wp2_with fail
  refine (cube_Meet a b _).mono ?_
  rintro e w2 ⟨rfl, hx⟩
  replace q1 := hx.cell q1
  replace q2 := hx.cell q2
  replace q3 := hx.cell q3
  replace q4 := hx.cell q4
  have hx2 := hx1.trans hx
  replace hz1 := Nat.lt_of_lt_of_le hz1 hx.size
  replace hz2 := Nat.lt_of_lt_of_le hz2 hx.size
  clear hx hx1
  go_wp2_with fail
  refine (cube_Within a b _).mono ?_
  rintro e w3 ⟨rfl, hx⟩
  replace q1 := (((Ext.refl w2).alloc _).trans hx).cell q1
  replace q2 := (((Ext.refl w2).alloc _).trans hx).cell q2
  replace q3 := (((Ext.refl w2).alloc _).trans hx).cell q3
  replace q4 := (((Ext.refl w2).alloc _).trans hx).cell q4
  have q5 : w3.cell? ⟨w2.heap.size, 0, none⟩ = some (.int .i64 (cubeMeet a b).yes) := hx.cell (by go_simp)
  have q6 : w3.cell? ⟨w2.heap.size, 1, none⟩ = some (.int .i64 (cubeMeet a b).no) := hx.cell (by go_simp)
  have hz5 : w2.heap.size < w3.heap.size := by have := hx.size; simp at this; omega
  have hx3 : Ext w w3 := hx2.trans (((Ext.refl w2).alloc _).trans hx)
  replace hz1 := Nat.lt_of_lt_of_le hz1 (((Ext.refl w2).alloc _).trans hx).size
  replace hz2 := Nat.lt_of_lt_of_le hz2 (((Ext.refl w2).alloc _).trans hx).size
  clear hx hx2
  go_wp2_with fail
  refine (cube_Less B a b _ (Nat.le_trans hB hx3.size)).mono ?_
  rintro e w4 ⟨v4, rfl, hv4, hx⟩
  obtain ⟨A4, c4, rfl, k4, m4, hs4⟩ := hv4
  replace q1 := (hx).cell q1
  replace q2 := (hx).cell q2
  replace q3 := (hx).cell q3
  replace q4 := (hx).cell q4
  replace q5 := hx.cell q5
  replace q6 := hx.cell q6
  replace hz5 := Nat.lt_of_lt_of_le hz5 hx.size
  have hx4 : Ext w w4 := hx3.trans (hx)
  replace hz1 := Nat.lt_of_lt_of_le hz1 (hx).size
  replace hz2 := Nat.lt_of_lt_of_le hz2 (hx).size
  clear hx hx3
  go_wp2_with fail
  refine (cube_Count a _).mono ?_
  rintro e w5 ⟨rfl, hx⟩
  replace q1 := (hx).cell q1
  replace q2 := (hx).cell q2
  replace q3 := (hx).cell q3
  replace q4 := (hx).cell q4
  replace q5 := hx.cell q5
  replace q6 := hx.cell q6
  replace hz5 := Nat.lt_of_lt_of_le hz5 hx.size
  replace hs4 := hs4.ext RPair.mono hx
  have hx5 : Ext w w5 := hx4.trans (hx)
  replace hz1 := Nat.lt_of_lt_of_le hz1 (hx).size
  replace hz2 := Nat.lt_of_lt_of_le hz2 (hx).size
  clear hx hx4
  go_wp2_with fail
  go_cut [17, 18] (fun s17 s18 wx => s17 = .int .i64 (cubeCheck a) ∧ s18 = .int .i64 (cubeCheck a) ∧ Ext w5 wx)
  case first =>
    go_region_with (go_at_call 21; refine (ref_Cube a _).mono ?_; rintro e w6 ⟨rfl, hx6⟩; try (have q1' := hx6.cell q1; have q2' := hx6.cell q2; have hy6 := hx6))
    all_goals (go_wp2_with fail; go_meet; exact ⟨rfl, rfl, (Ext.refl w5).drew.trans (hy6.trans hx6)⟩)
  case rest =>
    obtain ⟨rfl, rfl, hx⟩ := hcut
    replace q1 := hx.cell q1
    replace q2 := hx.cell q2
    replace q5 := hx.cell q5
    replace q6 := hx.cell q6
    have hxx := hx5.trans hx
    clear hx
    go_wp2_with fail
    refine (cube_Check a _).mono ?_
    rintro e w7 ⟨rfl, hx⟩
    replace q5 := hx.cell q5
    replace q6 := hx.cell q6
    replace hxx := hxx.trans hx
    clear hx
    go_wp2_with fail
    refine (cube_Check ⟨1, 1⟩ _).mono ?_
    rintro e w8 ⟨rfl, hx⟩
    replace q5 := hx.cell q5
    replace q6 := hx.cell q6
    replace hxx := hxx.trans hx
    rw [show cubeCheck ⟨1, 1⟩ = 3 by decide]
    go_wp2_with fail
    go_ret
    exact ⟨ret_bool (by simp), hxx⟩

end Go.Proofs.Ytiigbcnnapnceaa
