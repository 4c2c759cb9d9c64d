/- The walks of package cube: Meet, Within; the reference's Cube and In. -/
import Derived.Test.YtiigbcnnapnceaaCubeW
import Derived.Test.YtiigbcnnapnceaaArr
namespace Go.Proofs.Ytiigbcnnapnceaa
open Go Go.RowKit

theorem ai_cube_size : (Try.prog.info? 36).map (·.size) = some 2 := by kernel_rfl

set_option maxHeartbeats 1000000 in
theorem cube_Within (a b : Cube) (w : World) : Calls Try.prog 18 #[.agg #[.int .i64 a.yes, .int .i64 a.no], .agg #[.int .i64 b.yes, .int .i64 b.no]] w fun e w' => e = .returned (.tuple #[.bool (cubeWithin a b), .int .i64 (cubeTwo a b)]) ∧ Ext w w' := by
  go_enter Try.func18, Try.ntmps18
  go_wp2_with fail
  refine (cube_two a b _).mono ?_
  rintro e w1 ⟨rfl, hx1⟩
  have q1 : w1.cell? ⟨w.heap.size, 0, none⟩ = some (.int .i64 a.yes) := hx1.cell (by go_simp)
  have q2 : w1.cell? ⟨w.heap.size, 1, none⟩ = some (.int .i64 a.no) := hx1.cell (by go_simp)
  have q3 : w1.cell? ⟨w.heap.size + 1, 0, none⟩ = some (.int .i64 b.yes) := hx1.cell (by go_simp)
  have q4 : w1.cell? ⟨w.heap.size + 1, 1, none⟩ = some (.int .i64 b.no) := hx1.cell (by go_simp)
  have hx0 : Ext w w1 := (((Ext.refl w).alloc _).alloc _).trans hx1
  clear hx1
  by_cases h0 : cubeTwo a b = 0
  · rw [h0]
    have ha : cubeCheck a = 0 := by
      unfold cubeTwo at h0
      split at h0 <;> simp_all
    have hb : cubeCheck b = 0 := by rw [cubeTwo, if_pos ha] at h0; exact h0
    obtain ⟨y, n, hca⟩ := cubeOk_of ha
    obtain ⟨z, m, hcb⟩ := cubeOk_of hb
    have H0 := hid h0
    clear h0 ha hb
    have e1 := hca.yes
    have e2 := hca.no
    have e3 := hcb.yes
    have e4 := hcb.no
    have k1 := and16 y hca.hy z hcb.hy
    have k2 := and16 n hca.hn m hcb.hn
    rw [e1] at q1
    rw [e2] at q2
    rw [e3] at q3
    rw [e4] at q4
    have HE := hid (show cubeWithin a b = ((y &&& z == z) && (n &&& m == m)) by simp [cubeWithin, H0.out, e1, e2, e3, e4])
    clear e1 e2 e3 e4 hca hcb
    by_cases hyz : y &&& z = z
    · have HY := hid hyz
      rw [hyz] at k1
      clear hyz
      go_wp2_with fail
      go_ret2
      exact ⟨by rw [HE.out, H0.out, HY.out]; simp [cast_beq], hx0⟩
    · have hb' : (((y &&& z : Nat) : Int) == (z : Int)) = false := by rw [cast_beq]; simpa using hyz
      have HY := hid hyz
      clear hyz
      go_wp2_with fail
      go_ret2
      exact ⟨by rw [HE.out, H0.out]; simp [HY.out], hx0⟩
  · have hne : (cubeTwo a b != 0) = true := by simpa using h0
    have H0 := hid h0
    clear h0
    go_wp2_with fail
    go_ret2
    exact ⟨by simp [cubeWithin, H0.out], hx0⟩

theorem Blk2.first {w : World} {b : Nat} {x y u v : Value} (h0 : w.cell? ⟨b, 0, none⟩ = some x) (_h1 : w.cell? ⟨b, 1, none⟩ = some y) : ((w.setCell ⟨b, 0, none⟩ u).setCell ⟨b, 1, none⟩ v).cell? ⟨b, 0, none⟩ = some u :=
  (World.cell?_setCell_other _ _ _ _ (by intro e; injection e with _ e; cases e)).trans (World.cell?_setCell_same _ _ _ h0)
theorem Blk2.second {w : World} {b : Nat} {x y u v : Value} (_h0 : w.cell? ⟨b, 0, none⟩ = some x) (h1 : w.cell? ⟨b, 1, none⟩ = some y) : ((w.setCell ⟨b, 0, none⟩ u).setCell ⟨b, 1, none⟩ v).cell? ⟨b, 1, none⟩ = some v :=
  World.cell?_setCell_same _ _ _ ((World.cell?_setCell_other _ _ _ _ (by intro e; injection e with _ e; cases e)).trans h1)

theorem res_cube {w : World} {v5 : Value} {b : Nat} {y n : Int} {tmps : Array Value} (h4 : tmps.getD 4 undef = .pointer (some ⟨b, 0, none⟩)) (h5 : tmps.getD 5 undef = v5) (c1 : w.cell? ⟨b, 0, none⟩ = some (.int .i64 y)) (c2 : w.cell? ⟨b, 1, none⟩ = some (.int .i64 n)) :
    (results Try.f17 tmps).run Try.prog w = .ok (.tuple #[.agg #[.int .i64 y, .int .i64 n], v5]) w := by
  have h4' : tmps[4]?.getD undef = .pointer (some ⟨b, 0, none⟩) := by simpa using h4
  have h5' : tmps[5]?.getD undef = v5 := by simpa using h5
  simp [results, Try.results17, go_sem, h4', h5', c1, c2]

set_option maxHeartbeats 1000000 in
theorem cube_Meet (a b : Cube) (w : World) : Calls Try.prog 17 #[.agg #[.int .i64 a.yes, .int .i64 a.no], .agg #[.int .i64 b.yes, .int .i64 b.no]] w fun e w' => e = .returned (.tuple #[.agg #[.int .i64 (cubeMeet a b).yes, .int .i64 (cubeMeet a b).no], .int .i64 (cubeMeetErr a b)]) ∧ Ext w w' := by
  go_enter Try.func17, Try.ntmps17
  go_wp2_with fail
  refine (cube_two a b _).mono ?_
  rintro e w1 ⟨rfl, hx1⟩
  have q1 : w1.cell? ⟨w.heap.size, 0, none⟩ = some (.int .i64 a.yes) := hx1.cell (by go_simp)
  have q2 : w1.cell? ⟨w.heap.size, 1, none⟩ = some (.int .i64 a.no) := hx1.cell (by go_simp)
  have q3 : w1.cell? ⟨w.heap.size + 1, 0, none⟩ = some (.int .i64 b.yes) := hx1.cell (by go_simp)
  have q4 : w1.cell? ⟨w.heap.size + 1, 1, none⟩ = some (.int .i64 b.no) := hx1.cell (by go_simp)
  have q5 : w1.cell? ⟨w.heap.size + 1 + 1, 0, none⟩ = some (.int .i64 0) := hx1.cell (by go_simp)
  have q6 : w1.cell? ⟨w.heap.size + 1 + 1, 1, none⟩ = some (.int .i64 0) := hx1.cell (by go_simp)
  have f1 : w1.frozen? ⟨w.heap.size + 1 + 1, 0, none⟩ = false := (hx1.frozenAt (by simp)).trans (by go_simp)
  have f2 : w1.frozen? ⟨w.heap.size + 1 + 1, 1, none⟩ = false := (hx1.frozenAt (by simp)).trans (by go_simp)
  have hx0 : Ext w w1 := ((((Ext.refl w).alloc _).alloc _).alloc _).trans hx1
  have hz : w.heap.size + 1 + 1 < w1.heap.size := by have := hx1.size; simp at this; omega
  clear hx1
  by_cases h0 : cubeTwo a b = 0
  · rw [h0]
    have ha : cubeCheck a = 0 := by
      unfold cubeTwo at h0
      split at h0 <;> simp_all
    have hb : cubeCheck b = 0 := by rw [cubeTwo, if_pos ha] at h0; exact h0
    obtain ⟨y, n, hca⟩ := cubeOk_of ha
    obtain ⟨z, m, hcb⟩ := cubeOk_of hb
    have H0 := hid h0
    clear h0 ha hb
    have e1 := hca.yes
    have e2 := hca.no
    have e3 := hcb.yes
    have e4 := hcb.no
    have k1 := or16 y hca.hy z hcb.hy
    have k2 := or16 n hca.hn m hcb.hn
    have k3 := and16 _ (or16_lt y hca.hy z hcb.hy) _ (or16_lt n hca.hn m hcb.hn)
    rw [e1] at q1
    rw [e2] at q2
    rw [e3] at q3
    rw [e4] at q4
    have HE := hid (show meets a b = ((y ||| z) &&& (n ||| m) == 0) by simp [meets, e1, e2, e3, e4])
    have HM := hid (show cubeMeetErr a b = 0 → cubeMeet a b = ⟨((y ||| z : Nat) : Int), ((n ||| m : Nat) : Int)⟩ by intro h; simp [cubeMeet, h, e1, e2, e3, e4])
    clear e1 e2 e3 e4 hca hcb
    by_cases hyz : (y ||| z) &&& (n ||| m) = 0
    · have HR : cubeMeetErr a b = 0 := by rw [cubeMeetErr, if_pos H0.out, HE.out, if_pos (by simpa using hyz)]
      have HY := hid HR
      rw [hyz] at k3
      clear hyz HR
      go_wp2_with fail
      refine bodyPost_ret (v := .tuple #[.agg #[.int .i64 ((y ||| z : Nat) : Int), .int .i64 ((n ||| m : Nat) : Int)], .int .i64 0]) ?_ rfl ⟨by rw [HM.out HY.out, HY.out], ?_⟩
      · refine res_cube (b := w.heap.size + 1 + 1) rfl rfl ?_ ?_
        · refine (World.cell?_alloc_lt _ _ _ (by simp; omega)).trans ?_; exact (Blk2.first q5 q6)
        · refine (World.cell?_alloc_lt _ _ _ (by simp; omega)).trans ?_; exact (Blk2.second q5 q6)
      · exact ((hx0.setCell (by show w.heap.size ≤ w.heap.size + 1 + 1; omega) _).setCell (by show w.heap.size ≤ w.heap.size + 1 + 1; omega) _).alloc _
    · have HR : cubeMeetErr a b = 4 := by rw [cubeMeetErr, if_pos H0.out, HE.out, if_neg (by simpa using hyz)]
      have hb' : ((((y ||| z) &&& (n ||| m) : Nat) : Int) != 0) = true := by simp; omega
      have HY := hid HR
      clear hyz HR
      go_wp2_with fail
      refine bodyPost_ret (v := .tuple #[.agg #[.int .i64 0, .int .i64 0], .int .i64 4]) ?_ rfl ⟨by rw [cubeMeet, HY.out]; rfl, ?_⟩
      · refine res_cube (b := w.heap.size + 1 + 1) rfl rfl ?_ ?_
        · refine (World.cell?_alloc_lt _ _ _ (by simp; omega)).trans ?_; exact (Blk2.first q5 q6)
        · refine (World.cell?_alloc_lt _ _ _ (by simp; omega)).trans ?_; exact (Blk2.second q5 q6)
      · exact ((hx0.setCell (by show w.heap.size ≤ w.heap.size + 1 + 1; omega) _).setCell (by show w.heap.size ≤ w.heap.size + 1 + 1; omega) _).alloc _
  · have hne : (cubeTwo a b != 0) = true := by simpa using h0
    have HR := hid (show cubeMeetErr a b = cubeTwo a b by rw [cubeMeetErr, if_neg h0])
    have HC := hid (show cubeMeet a b = ⟨0, 0⟩ by rw [cubeMeet, HR.out, if_neg h0])
    clear h0
    go_wp2_with fail
    refine bodyPost_ret (v := .tuple #[.agg #[.int .i64 0, .int .i64 0], .int .i64 (cubeTwo a b)]) ?_ rfl ⟨by rw [HC.out, HR.out], ?_⟩
    · refine res_cube (b := w.heap.size + 1 + 1) rfl rfl ?_ ?_
      · exact (Blk2.first q5 q6)
      · exact (Blk2.second q5 q6)
    · exact (hx0.setCell (by show w.heap.size ≤ w.heap.size + 1 + 1; omega) _).setCell (by show w.heap.size ≤ w.heap.size + 1 + 1; omega) _

end Go.Proofs.Ytiigbcnnapnceaa
