/- The walk of cube.Less. -/
import Derived.Test.YtiigbcnnapnceaaCubeR2
namespace Go.Proofs.Ytiigbcnnapnceaa
open Go Go.RowKit

abbrev RCube : World → List Value → Cube → Prop := RPair Cube.yes Cube.no
theorem ei_cube : ElemInfo Try.prog 42 36 2 16 := ElemInfo.mk_ (z := .agg #[.int .i64 0, .int .i64 0]) Try.underlying42 (by kernel_rfl) rfl (by decide)

theorem Own.setBelow {α : Type} {R : World → List Value → α → Prop} {sz : Nat} {e : TypeId} {w : World} {base : Nat} {v : Value} {l : List α} (h : Own R sz e w base v l) {a : Addr} (ha : a.block < base) (u : Value) (m : ∀ cs x, R w cs x → R (w.setCell a u) cs x) :
    Own R sz e (w.setCell a u) base v l := by
  obtain ⟨xs, hx, hR, ho⟩ := h
  exact ⟨xs, hx, fun i cs y h1 h2 => ⟨(hR i cs y h1 h2).1, m _ _ (hR i cs y h1 h2).2⟩, ownsRow_setCell_below ho ha u⟩

theorem shl_bit : ∀ k, k < 4 → wrap64 ((2 : Int) ^ k) = ((2 ^ k : Nat) : Int) := by decide +kernel

set_option maxHeartbeats 4000000 in
theorem cube_Less (B : Nat) (a b : Cube) (w : World) (hB : B ≤ w.heap.size) : Calls Try.prog 19 #[.agg #[.int .i64 a.yes, .int .i64 a.no], .agg #[.int .i64 b.yes, .int .i64 b.no]] w fun e w' => ∃ v, e = .returned (.tuple #[v, .int .i64 (cubeTwo a b)]) ∧ IsSl B 36 RCube 2 w' v (cubeLess a b) ∧ Ext w w' := by
  go_enter Try.func19, Try.ntmps19
  go_wp2_with fail
  refine (cube_two a b _).mono ?_
  rintro e w1 ⟨rfl, hx1⟩
  have q1 : w1.cell? ⟨w.heap.size, 0, none⟩ = some (.int .i64 a.yes) := hx1.cell (by go_simp)
  have q2 : w1.cell? ⟨w.heap.size, 1, none⟩ = some (.int .i64 a.no) := hx1.cell (by go_simp)
  have q3 : w1.cell? ⟨w.heap.size + 1, 0, none⟩ = some (.int .i64 b.yes) := hx1.cell (by go_simp)
  have q4 : w1.cell? ⟨w.heap.size + 1, 1, none⟩ = some (.int .i64 b.no) := hx1.cell (by go_simp)
  have f1 : w1.frozen? ⟨w.heap.size, 0, none⟩ = false := (hx1.frozenAt (by simp; omega)).trans (by go_simp)
  have f2 : w1.frozen? ⟨w.heap.size, 1, none⟩ = false := (hx1.frozenAt (by simp; omega)).trans (by go_simp)
  have hx0 : Ext w w1 := (((Ext.refl w).alloc _).alloc _).trans hx1
  have hz : w.heap.size + 1 < w1.heap.size := by have := hx1.size; simp at this; omega
  clear hx1
  by_cases h0 : cubeTwo a b = 0
  · rw [h0]
    have H0 := hid h0
    go_wp2_with fail
    refine (cube_Meet a b _).mono ?_
    rintro e w2 ⟨rfl, hx2⟩
    replace q1 := hx2.cell q1
    replace q2 := hx2.cell q2
    replace q3 := hx2.cell q3
    replace q4 := hx2.cell q4
    replace f1 := (hx2.frozenAt (by omega)).trans f1
    replace f2 := (hx2.frozenAt (by omega)).trans f2
    replace hz := Nat.lt_of_lt_of_le hz hx2.size
    have hxw := hx0.trans hx2
    have hz1 : w.heap.size < w2.heap.size := by omega
    clear hx0 hx2
    have ha : cubeCheck a = 0 := by
      unfold cubeTwo at h0
      split at h0 <;> simp_all
    have hb : cubeCheck b = 0 := by rw [cubeTwo, if_pos ha] at h0; exact h0
    obtain ⟨y0, n0, hca⟩ := cubeOk_of ha
    obtain ⟨z, m, hcb⟩ := cubeOk_of hb
    clear h0 ha hb
    by_cases hm : meets a b = true
    · rw [show cubeMeetErr a b = 0 by rw [cubeMeetErr, if_pos H0.out, if_pos hm]]
      have HL := hid (show cubeLess a b = (lessK y0 n0 z m 4).2.2 by rw [cubeLess, if_pos H0.out, if_pos hm, hca.yes, hca.no, hcb.yes, hcb.no]; rfl)
      rw [hca.yes] at q1
      rw [hca.no] at q2
      rw [hcb.yes] at q3
      rw [hcb.no] at q4
      have hy0 := hca.hy
      have hn0 := hca.hn
      have hz0 := hcb.hy
      have hm0 := hcb.hn
      clear hca hcb hm
      go_wp2_with fail
      go_loopw [9, 28] (fun v i wr => ∃ k : Nat, k ≤ 4 ∧ i = .int .i64 k ∧ ∃ y n out, lessK y0 n0 z m k = (y, n, out) ∧ y < 16 ∧ n < 16 ∧ out.length ≤ k ∧ Own RCube 2 36 wr (w.heap.size + 2) v out ∧
          wr.cell? ⟨w.heap.size, 0, none⟩ = some (.int .i64 y) ∧ wr.cell? ⟨w.heap.size, 1, none⟩ = some (.int .i64 n) ∧ wr.cell? ⟨w.heap.size + 1, 0, none⟩ = some (.int .i64 z) ∧ wr.cell? ⟨w.heap.size + 1, 1, none⟩ = some (.int .i64 m) ∧
          wr.frozen? ⟨w.heap.size, 0, none⟩ = false ∧ wr.frozen? ⟨w.heap.size, 1, none⟩ = false ∧ w.heap.size + 1 < wr.heap.size ∧ Ext w wr) (fun _ i _ => 4 - (intOf i).toNat)
      case atStart =>
        refine ⟨0, by omega, rfl, y0, n0, [], rfl, hy0, hn0, Nat.le_refl _, Own.nil, ?_, ?_, ?_, ?_, ?_, ?_, by simp; omega, hxw.alloc _⟩ <;> go_simp
      case round =>
        obtain ⟨k, hk, rfl, y, n, out, hK, hy, hn, hol, ho, p1, p2, p3, p4, g1, g2, hzz, hx⟩ := hrel
        have HK := hid hK
        clear hK q1 q2 q3 q4 f1 f2 hz
        by_cases hlt : k < 4
        · have k0 : (0 : Int) ≤ k := by omega
          have k4 : (k : Int) < 4 := by omega
          obtain ⟨bit, hbit⟩ : ∃ bit, bit = 2 ^ k := ⟨_, rfl⟩
          have hbl := pow16 k hlt
          have hsh := shl_bit k hlt
          rw [← hbit] at hsh hbl
          have HBIT := hid hbit.symm
          clear hbit
          have j1 := or16 y hy n hn
          have j2 := and16 _ (or16_lt y hy n hn) bit hbl
          have j3 := and16 z hz0 bit hbl
          have j4 := and16 m hm0 bit hbl
          have j5 := or16 n hn bit hbl
          have j6 := or16 y hy bit hbl
          by_cases c1 : (y ||| n) &&& bit = 0
          · rw [c1] at j2
            by_cases c2 : z &&& bit = 0
            · rw [c2] at j3
              by_cases c3 : m &&& bit = 0
              · rw [c3] at j4
                have HC := hid (And.intro c1 (And.intro c2 c3))
                clear c1 c2 c3
                go_wp2_with fail
                go_roundw
                case rel => exact ⟨k + 1, by omega, by go_num, y, n, out, by rw [lessK, HK.out, HBIT.out]; simp [lessStep, HC.out.1, HC.out.2.1, HC.out.2.2], hy, hn, by omega, ho, p1, p2, p3, p4, g1, g2, hzz, hx⟩
                case measure => simp [intOf]; omega
              · have b4 : (((m &&& bit : Nat) : Int) != 0) = true := by simp; omega
                have HC := hid (And.intro c1 (And.intro c2 c3))
                clear c1 c2 c3
                go_wp2_with ((with_reducible refine at_op (some 78) (.call _) ?_); refine wpList_app (B := B) (ys := [(⟨((y ||| bit : Nat) : Int), (n : Int)⟩ : Cube)]) rfl _ _ rfl ei_cube rfl (ho.ext (B := B) RPair.mono ((Ext.refl _).alloc _)) (by omega) (by simp; omega) rfl (Sl.one (B := B) rfl rfl rfl) RPair.oneC RPair.mono ?_ ?_ ?_)
                · simp [maxLen]; omega
                · simp; omega
                · intro v2 w3 ho2 hc2 hb2 _
                  have hb3 := (Below.refl (w.heap.size + 2) wr).trans (((Below.refl (w.heap.size + 2) wr).alloc (by omega) (.cells #[.int .i64 ((y ||| bit : Nat) : Int), .int .i64 (n : Int)] 36)).trans hb2)
                  have hx3 : Ext w w3 := hx.below hb3 (by omega)
                  have r1 := (hb3.cell (p := ⟨w.heap.size, 0, none⟩) (show w.heap.size < w.heap.size + 2 by omega)).trans p1
                  have r2 := (hb3.cell (p := ⟨w.heap.size, 1, none⟩) (show w.heap.size < w.heap.size + 2 by omega)).trans p2
                  have r3 := (hb3.cell (p := ⟨w.heap.size + 1, 0, none⟩) (show w.heap.size + 1 < w.heap.size + 2 by omega)).trans p3
                  have r4 := (hb3.cell (p := ⟨w.heap.size + 1, 1, none⟩) (show w.heap.size + 1 < w.heap.size + 2 by omega)).trans p4
                  have t1 := (hb3.frozen (p := ⟨w.heap.size, 0, none⟩) (show w.heap.size < w.heap.size + 2 by omega)).trans g1
                  have t2 := (hb3.frozen (p := ⟨w.heap.size, 1, none⟩) (show w.heap.size < w.heap.size + 2 by omega)).trans g2
                  have hz3 : w.heap.size + 1 < w3.heap.size := Nat.lt_of_lt_of_le hzz hb3.size
                  clear hc2 hb2 hb3 p1 p2 p3 p4 g1 g2 hzz ho
                  go_wp2_with fail
                  go_roundw
                  case rel =>
                    refine ⟨k + 1, by omega, by go_num, y, (n ||| bit), out ++ [⟨((y ||| bit : Nat) : Int), (n : Int)⟩], by rw [lessK, HK.out, HBIT.out]; simp [lessStep, HC.out.1, HC.out.2.1, HC.out.2.2], hy, or16_lt n hn bit hbl, by simp; omega, ho2.setBelow (show w.heap.size < w.heap.size + 2 by omega) _ (fun _ _ h => h), ?_, ?_, ?_, ?_, ?_, ?_, by simpa using hz3, hx3.setCell (show w.heap.size ≤ w.heap.size by omega) _⟩ <;> go_simp
                  case measure => simp [intOf]; omega
            · have b3 : (((z &&& bit : Nat) : Int) != 0) = true := by simp; omega
              have HC := hid (And.intro c1 c2)
              clear c1 c2
              go_wp2_with ((with_reducible refine at_op (some 57) (.call _) ?_); refine wpList_app (B := B) (ys := [(⟨(y : Int), ((n ||| bit : Nat) : Int)⟩ : Cube)]) rfl _ _ rfl ei_cube rfl (ho.ext (B := B) RPair.mono ((Ext.refl _).alloc _)) (by omega) (by simp; omega) rfl (Sl.one (B := B) rfl rfl rfl) RPair.oneC RPair.mono ?_ ?_ ?_)
              · simp [maxLen]; omega
              · simp; omega
              · intro v2 w3 ho2 hc2 hb2 _
                have hb3 := (Below.refl (w.heap.size + 2) wr).trans (((Below.refl (w.heap.size + 2) wr).alloc (by omega) (.cells #[.int .i64 (y : Int), .int .i64 ((n ||| bit : Nat) : Int)] 36)).trans hb2)
                have hx3 : Ext w w3 := hx.below hb3 (by omega)
                have r1 := (hb3.cell (p := ⟨w.heap.size, 0, none⟩) (show w.heap.size < w.heap.size + 2 by omega)).trans p1
                have r2 := (hb3.cell (p := ⟨w.heap.size, 1, none⟩) (show w.heap.size < w.heap.size + 2 by omega)).trans p2
                have r3 := (hb3.cell (p := ⟨w.heap.size + 1, 0, none⟩) (show w.heap.size + 1 < w.heap.size + 2 by omega)).trans p3
                have r4 := (hb3.cell (p := ⟨w.heap.size + 1, 1, none⟩) (show w.heap.size + 1 < w.heap.size + 2 by omega)).trans p4
                have t1 := (hb3.frozen (p := ⟨w.heap.size, 0, none⟩) (show w.heap.size < w.heap.size + 2 by omega)).trans g1
                have t2 := (hb3.frozen (p := ⟨w.heap.size, 1, none⟩) (show w.heap.size < w.heap.size + 2 by omega)).trans g2
                have hz3 : w.heap.size + 1 < w3.heap.size := Nat.lt_of_lt_of_le hzz hb3.size
                clear hc2 hb2 hb3 p1 p2 p3 p4 g1 g2 hzz ho
                go_wp2_with fail
                go_roundw
                case rel =>
                  refine ⟨k + 1, by omega, by go_num, (y ||| bit), n, out ++ [⟨(y : Int), ((n ||| bit : Nat) : Int)⟩], by rw [lessK, HK.out, HBIT.out]; simp [lessStep, HC.out.1, HC.out.2], or16_lt y hy bit hbl, hn, by simp; omega, ho2.setBelow (show w.heap.size < w.heap.size + 2 by omega) _ (fun _ _ h => h), ?_, ?_, ?_, ?_, ?_, ?_, by simpa using hz3, hx3.setCell (show w.heap.size ≤ w.heap.size by omega) _⟩ <;> go_simp
                case measure => simp [intOf]; omega
          · have b2 : ((((y ||| n) &&& bit : Nat) : Int) != 0) = true := by simp; omega
            have HC := hid c1
            clear c1
            go_wp2_with fail
            go_roundw
            case rel => exact ⟨k + 1, by omega, by go_num, y, n, out, by rw [lessK, HK.out, HBIT.out]; simp [lessStep, HC.out], hy, hn, by omega, ho, p1, p2, p3, p4, g1, g2, hzz, hx⟩
            case measure => simp [intOf]; omega
        · obtain rfl : k = 4 := by omega
          go_wp2_with fail
          go_ret2
          exact ⟨_, by rw [H0.out]; rfl, by rw [HL.out, HK.out]; exact ho.isSl B, hx⟩
    · have HL := hid (show cubeLess a b = [a] by rw [cubeLess, if_pos H0.out, if_neg hm])
      rw [show cubeMeetErr a b = 4 by rw [cubeMeetErr, if_pos H0.out, if_neg hm]]
      clear hm
      go_wp2_with fail
      go_ret2
      refine ⟨_, by rw [H0.out]; rfl, ?_, (hxw.alloc _).alloc _⟩
      rw [HL.out]
      have := Own.lit (R := RCube) (sz := 2) (base := 0) (e := 36) (w := w2.alloc (.cells #[.int .i64 (cubeMeet a b).yes, .int .i64 (cubeMeet a b).no] 36)) (cs := [.int .i64 a.yes, .int .i64 a.no]) (y := a) (by omega) rfl rfl
      rw [World.size_alloc] at this
      exact this.isSl B
  · have hne : (cubeTwo a b != 0) = true := by simpa using h0
    have HL := hid (show cubeLess a b = [] by rw [cubeLess, if_neg h0])
    clear h0
    go_wp2_with fail
    go_ret2
    exact ⟨_, rfl, by rw [HL.out]; exact IsSl.nil, hx0⟩

end Go.Proofs.Ytiigbcnnapnceaa
