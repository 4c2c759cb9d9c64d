/- The walk of know.Within. -/
import Derived.Test.YtmedmfjhpabfdaaKnJ
import Derived.Test.YtmedmfjhpabfdaaKnV
namespace Go.Proofs.Ytmedmfjhpabfdaa
open Go Go.RowKit

def withinIs (k l : Know) : Bool := if twoErr k l = 0 then (if toldErr (joinS k l) = 0 then decide (joinS k l = l) else false) else false
theorem toldErr_or (k : Know) : toldErr k = 0 ∨ toldErr k = 2 := by
  unfold toldErr
  split
  · exact .inl rfl
  · exact .inr rfl
theorem told_zero {k : Know} (h : toldErr k = 0) : toldKn k = k := by
  unfold toldErr at h
  unfold toldKn
  split at h
  · rename_i h1
    rw [if_pos h1]
  · cases h
theorem know_eq (k l : Know) : decide (k = l) = (decide (k.vec = l.vec) && decide (k.more = l.more)) := by
  rw [← Bool.decide_and]
  congr 1
  obtain ⟨a, b⟩ := k
  obtain ⟨c, d⟩ := l
  simp

set_option maxRecDepth 100000 in
set_option maxHeartbeats 1000000 in
theorem know_Within (B : Nat) (va vb : Value) (k l : Know) (w : World) (ha : IsK B w va k) (hb : IsK B w vb l) :
    Calls Try.prog 149 #[va, vb] w fun e w' => e = .returned (.tuple #[.bool (withinIs k l), .int .i64 (twoErr k l)]) ∧ Ext w w' := by
  have HA := hid ha
  have HB := hid hb
  obtain ⟨Av, cv, Am, cm, rfl, ha1, ha2, ha3, ha4, h⟩ := ha
  obtain ⟨Bv, dv, Bm, dm, rfl, hb1, hb2, hb3, hb4, g⟩ := hb
  have hx := ((Ext.refl w).alloc (.cells #[.slice Av k.vec.length cv, .slice Am k.more.length cm] 44)).alloc (.cells #[.slice Bv l.vec.length dv, .slice Bm l.more.length dm] 44)
  have HI := hid (show withinIs k l = if twoErr k l = 0 then (if toldErr (joinS k l) = 0 then decide (joinS k l = l) else false) else false from rfl)
  have HJE := hid (show joinErr k l = if twoErr k l = 0 then toldErr (joinS k l) else twoErr k l from rfl)
  have HJK := hid (show joinK k l = if twoErr k l = 0 then toldKn (joinS k l) else ⟨[], []⟩ from rfl)
  obtain ⟨R, hR⟩ : ∃ R, R = twoErr k l := ⟨_, rfl⟩
  rw [← hR]
  rw [← hR] at HI HJE HJK
  have HR := hid hR
  clear hR
  go_enter Try.func149, Try.ntmps149
  go_wp2_with fail
  refine (know_two B k l Av cv Am cm Bv dv Bm dm _ (h.ext hx) (g.ext hx)).mono ?_
  rintro e w1 ⟨rfl, hx1⟩
  rw [← HR.out]
  have q0 : w1.cell? ⟨w.heap.size, 0, none⟩ = some (.slice Av k.vec.length cv) := hx1.cell (by go_simp)
  have q1 : w1.cell? ⟨w.heap.size, 1, none⟩ = some (.slice Am k.more.length cm) := hx1.cell (by go_simp)
  have d0 : w1.cell? ⟨w.heap.size + 1, 0, none⟩ = some (.slice Bv l.vec.length dv) := hx1.cell (by go_simp)
  have d1 : w1.cell? ⟨w.heap.size + 1, 1, none⟩ = some (.slice Bm l.more.length dm) := hx1.cell (by go_simp)
  replace hx := hx.trans hx1
  clear hx1
  by_cases h0 : R = 0
  · have HJE' := hid (show joinErr k l = toldErr (joinS k l) by rw [HJE.out, if_pos h0])
    have HJK' := hid (show joinK k l = toldKn (joinS k l) by rw [HJK.out, if_pos h0])
    have HI' := hid (show withinIs k l = if toldErr (joinS k l) = 0 then decide (joinS k l = l) else false by rw [HI.out, if_pos h0])
    subst h0
    clear HI HJE HJK
    go_wp2_with fail
    refine (know_Join B _ _ k l w1 (HA.out.ext hx) (HB.out.ext hx)).mono ?_
    rintro e w2 ⟨x, rfl, hk, hx2⟩
    rw [HJE'.out]
    obtain ⟨K1, hK1⟩ : ∃ K1, K1 = joinK k l := ⟨_, rfl⟩
    rw [← hK1] at hk
    have HK1 := hid (hK1.trans HJK'.out)
    obtain ⟨Ax, cx, Ay, cy, rfl, _, _, _, _, hk⟩ := hk
    have g2 := g.ext (hx.trans hx2)
    replace hx := hx.trans hx2
    replace d0 := hx2.cell d0
    replace d1 := hx2.cell d1
    have hw1 : w.heap.size + 1 < w2.heap.size := World.block_lt_of_cell? _ _ d0
    clear hx2 hK1 q0 q1
    have hxa := (Ext.refl w2).alloc (.cells #[.slice Ax K1.vec.length cx, .slice Ay K1.more.length cy] 44)
    have HX := hid hx
    have HXA := hid hxa
    clear hxa hx
    rcases toldErr_or (joinS k l) with h2 | h2
    · have HI2 := hid (show withinIs k l = decide (K1 = l) by rw [HI'.out, if_pos h2, HK1.out, told_zero h2])
      rw [h2]
      clear h2
      have HEq := hid (know_eq K1 l)
      go_wp2_with fail
      refine (equal_ints 0 B Ax cx Bv dv K1.vec l.vec _ (hk.ext HXA.out).sv (g2.ext HXA.out).sv hk.lv).mono ?_
      rintro e w3 ⟨rfl, hx3⟩
      have p1 : w3.cell? ⟨w2.heap.size, 1, none⟩ = some (.slice Ay K1.more.length cy) := hx3.cell (by go_simp)
      replace d1 := hx3.cell (HXA.out.cell d1)
      have hk3 := (hk.ext HXA.out).ext hx3
      have g3 := (g2.ext HXA.out).ext hx3
      have HX3 := hid ((HX.out.trans HXA.out).trans hx3)
      clear hx3 d0 hw1
      generalize decide (K1.vec = l.vec) = b1 at *
      cases b1
      · go_wp2_with fail
        go_ret2
        exact ⟨by rw [HI2.out, HEq.out]; rfl, HX3.out⟩
      · go_wp2_with fail
        refine (equal_dots 0 B Ay cy Bm dm K1.more l.more w3 hk3.sm g3.sm hk3.lm).mono ?_
        rintro e w4 ⟨rfl, hx4⟩
        generalize decide (K1.more = l.more) = b2 at *
        go_wp2_with fail
        go_ret2
        exact ⟨by rw [HI2.out, HEq.out]; rfl, HX3.out.trans hx4⟩
    · have HI2 := hid (show withinIs k l = false by rw [HI'.out, h2]; rfl)
      rw [h2]
      clear h2
      go_wp2_with fail
      go_ret2
      exact ⟨by rw [HI2.out]; rfl, HX.out.trans HXA.out⟩
  · have HI' := hid (show withinIs k l = false by rw [HI.out, if_neg h0])
    have hc : (R != 0) = true := by simpa using h0
    clear h0
    go_wp2_with fail
    go_ret2
    exact ⟨by rw [HI'.out]; rfl, hx⟩

end Go.Proofs.Ytmedmfjhpabfdaa
