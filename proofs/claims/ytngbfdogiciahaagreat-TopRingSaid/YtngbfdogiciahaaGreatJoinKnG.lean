/- Several texts in one: data, readings, plain laws, walks. No condition. -/
import Derived.Test.YtngbfdogiciahaaGreatShort
import Derived.Test.YtngbfdogiciahaaGreatKnJ
import Derived.Test.YtngbfdogiciahaaGreatJoinKnV
namespace Go.Proofs.YtngbfdogiciahaaGreat
open Go Go.RowKit
def withinIs (k l : Know) : Bool := if twoErr k l = 0 then (if toldErr (joinS k l) = 0 then decide (joinS k l = l) else false) else false
theorem toldErr_or (k : Know) : toldErr k = 0 ∨ toldErr k = 2 := by
 unfold toldErr
 split
 ·exact .inl rfl
 ·exact .inr rfl
theorem told_zero {k : Know} (h : toldErr k = 0) : toldKn k = k := by
 unfold toldErr at h
 unfold toldKn
 split at h
 ·rename_i h1
  rw [if_pos h1]
 ·cases h
theorem know_eq (k l : Know) : decide (k = l) = (decide (k.vec = l.vec) && decide (k.more = l.more)) := by
 rw [← Bool.decide_and]
 congr 1
 obtain ⟨a, b⟩ := k
 obtain ⟨c, d⟩ := l
 simp
set_option maxRecDepth 100000 in
set_option maxHeartbeats 1000000 in
theorem know_Within (B : Nat) (va vb : Value) (k l : Know) (w : World) (ha : IsK B w va k) (hb : IsK B w vb l) :
  Calls Tryz.prog 208 #[va, vb] w fun e w' => e = .returned (.tuple #[.bool (withinIs k l), .int .i64 (twoErr k l)]) ∧ Ext w w' := by
 have HA := hid ha
 have HB := hid hb
 obtain ⟨Av, cv, Am, cm, rfl, ha1, ha2, ha3, ha4, h⟩ := ha
 obtain ⟨Bv, dv, Bm, dm, rfl, hb1, hb2, hb3, hb4, g⟩ := hb
 have hx := ((Ext.refl w).alloc (.cells #[.slice Av k.vec.length cv, .slice Am k.more.length cm] 101)).alloc (.cells #[.slice Bv l.vec.length dv, .slice Bm l.more.length dm] 101)
 have HI := hid (show withinIs k l = if twoErr k l = 0 then (if toldErr (joinS k l) = 0 then decide (joinS k l = l) else false) else false from rfl)
 have HJE := hid (show joinErr k l = if twoErr k l = 0 then toldErr (joinS k l) else twoErr k l from rfl)
 have HJK := hid (show joinK k l = if twoErr k l = 0 then toldKn (joinS k l) else ⟨[], []⟩ from rfl)
 obtain ⟨R, hR⟩ : ∃ R, R = twoErr k l := ⟨_, rfl⟩
 rw [← hR]
 rw [← hR] at HI HJE HJK
 have HR := hid hR
 clear hR
 go_enter Tryz.func208, Tryz.ntmps208
 go_wp2_with fail
 refine (know_two B k l Av cv Am cm Bv dv Bm dm _ (h.ext hx) (g.ext hx)).mono ?_
 rintro e w1 ⟨rfl, hx1⟩
 rw [← HR.out]
 have q0 : w1.cell? ⟨w.heap.size, 0, none⟩ = some (.slice Av k.vec.length cv) := hx1.cell (by go_simp)
 have q1 : w1.cell? ⟨w.heap.size, 1, none⟩ = some (.slice Am k.more.length cm) := hx1.cell (by go_simp)
 have d0 : w1.cell? ⟨w.heap.size + 1, 0, none⟩ = some (.slice Bv l.vec.length dv) := hx1.cell (by go_simp)
 have d1 : w1.cell? ⟨w.heap.size + 1, 1, none⟩ = some (.slice Bm l.more.length dm) := hx1.cell (by go_simp)
 replace hx := hx.trans hx1
 clear hx1
 by_cases h0 : R = 0
 ·have HJE' := hid (show joinErr k l = toldErr (joinS k l) by rw [HJE.out, if_pos h0])
  have HJK' := hid (show joinK k l = toldKn (joinS k l) by rw [HJK.out, if_pos h0])
  have HI' := hid (show withinIs k l = if toldErr (joinS k l) = 0 then decide (joinS k l = l) else false by rw [HI.out, if_pos h0])
  subst h0
  clear HI HJE HJK
  go_wp2_with fail
  refine (know_Join B _ _ k l w1 (HA.out.ext hx) (HB.out.ext hx)).mono ?_
  rintro e w2 ⟨x, rfl, hk, hx2⟩
  rw [HJE'.out]
  obtain ⟨K1, hK1⟩ : ∃ K1, K1 = joinK k l := ⟨_, rfl⟩
  rw [← hK1] at hk
  have HK1 := hid (hK1.trans HJK'.out)
  obtain ⟨Ax, cx, Ay, cy, rfl, _, _, _, _, hk⟩ := hk
  have g2 := g.ext (hx.trans hx2)
  replace hx := hx.trans hx2
  replace d0 := hx2.cell d0
  replace d1 := hx2.cell d1
  have hw1 : w.heap.size + 1 < w2.heap.size := World.block_lt_of_cell? _ _ d0
  clear hx2 hK1 q0 q1
  have hxa := (Ext.refl w2).alloc (.cells #[.slice Ax K1.vec.length cx, .slice Ay K1.more.length cy] 101)
  have HX := hid hx
  have HXA := hid hxa
  clear hxa hx
  rcases toldErr_or (joinS k l) with h2 | h2
  ·have HI2 := hid (show withinIs k l = decide (K1 = l) by rw [HI'.out, if_pos h2, HK1.out, told_zero h2])
   rw [h2]
   clear h2
   have HEq := hid (know_eq K1 l)
   go_wp2_with fail
   refine (equal_ints 0 B Ax cx Bv dv K1.vec l.vec _ (hk.ext HXA.out).sv (g2.ext HXA.out).sv hk.lv).mono ?_
   rintro e w3 ⟨rfl, hx3⟩
   have p1 : w3.cell? ⟨w2.heap.size, 1, none⟩ = some (.slice Ay K1.more.length cy) := hx3.cell (by go_simp)
   replace d1 := hx3.cell (HXA.out.cell d1)
   have hk3 := (hk.ext HXA.out).ext hx3
   have g3 := (g2.ext HXA.out).ext hx3
   have HX3 := hid ((HX.out.trans HXA.out).trans hx3)
   clear hx3 d0 hw1
   generalize decide (K1.vec = l.vec) = b1 at *
   cases b1
   ·go_wp2_with fail
    go_ret2
    exact ⟨by rw [HI2.out, HEq.out]; rfl, HX3.out⟩
   ·go_wp2_with fail
    refine (equal_dots 0 B Ay cy Bm dm K1.more l.more w3 hk3.sm g3.sm hk3.lm).mono ?_
    rintro e w4 ⟨rfl, hx4⟩
    generalize decide (K1.more = l.more) = b2 at *
    go_wp2_with fail
    go_ret2
    exact ⟨by rw [HI2.out, HEq.out]; rfl, HX3.out.trans hx4⟩
  ·have HI2 := hid (show withinIs k l = false by rw [HI'.out, h2]; rfl)
   rw [h2]
   clear h2
   go_wp2_with fail
   go_ret2
   exact ⟨by rw [HI2.out]; rfl, HX.out.trans HXA.out⟩
 ·have HI' := hid (show withinIs k l = false by rw [HI.out, if_neg h0])
  have hc : (R != 0) = true := by simpa using h0
  clear h0
  go_wp2_with fail
  go_ret2
  exact ⟨by rw [HI'.out]; rfl, hx⟩
end Go.Proofs.YtngbfdogiciahaaGreat
namespace Go.Proofs.YtngbfdogiciahaaGreat
open Go Go.RowKit
theorem res_kcop {w : World} {v : Value} {b : Nat} {x y : Value} {tmps : Array Value} (h4 : tmps.getD 2 undef = .pointer (some ⟨b, 0, none⟩)) (c1 : w.cell? ⟨b, 0, none⟩ = some x) (c2 : w.cell? ⟨b, 1, none⟩ = some y) (hv : v = .agg #[x, y]) :
  (results Tryz.f134 tmps).run Tryz.prog w = .ok v w := by
 have h4' : tmps[2]?.getD undef = .pointer (some ⟨b, 0, none⟩) := by simpa using h4
 subst hv
 simp [results, Tryz.results134, go_sem, h4', c1, c2]
set_option maxRecDepth 100000 in
set_option maxHeartbeats 2000000 in
theorem know_Copied (B : Nat) (k : Know) (Av : Option Addr) (cv : Nat) (Am : Option Addr) (cm : Nat) (w : World) (hB : B ≤ w.heap.size) (hl : k.vec.length ≤ 1000000 ∧ k.more.length ≤ 1000000) (h : InK B w Av Am k) :
  Calls Tryz.prog 134 #[.agg #[.slice Av k.vec.length cv, .slice Am k.more.length cm]] w fun e w' => ∃ v, e = .returned v ∧ IsK B w' v k ∧ Ext w w' := by
 have hx := ((Ext.refl w).alloc (.cells #[.slice Av k.vec.length cv, .slice Am k.more.length cm] 101)).alloc (.cells #[.slice none 0 0, .slice none 0 0] 101)
 have hb := Blk.new (w.alloc (.cells #[.slice Av k.vec.length cv, .slice Am k.more.length cm] 101)) 101 #[.slice none 0 0, .slice none 0 0]
 rw [World.size_alloc] at hb
 have q0 : ((w.alloc (.cells #[.slice Av k.vec.length cv, .slice Am k.more.length cm] 101)).alloc (.cells #[.slice none 0 0, .slice none 0 0] 101)).cell? ⟨w.heap.size, 0, none⟩ = some (.slice Av k.vec.length cv) := by go_simp
 have q1 : ((w.alloc (.cells #[.slice Av k.vec.length cv, .slice Am k.more.length cm] 101)).alloc (.cells #[.slice none 0 0, .slice none 0 0] 101)).cell? ⟨w.heap.size, 1, none⟩ = some (.slice Am k.more.length cm) := by go_simp
 obtain ⟨w1, hw1⟩ : ∃ w1, w1 = (w.alloc (.cells #[.slice Av k.vec.length cv, .slice Am k.more.length cm] 101)).alloc (.cells #[.slice none 0 0, .slice none 0 0] 101) := ⟨_, rfl⟩
 rw [← hw1] at hx hb q0 q1
 have HX := hid hx
 have HAll := hid (fun w' (x : Ext w1 w') => show w'.cell? ⟨w.heap.size, 0, none⟩ = some (.slice Av k.vec.length cv) ∧ w'.cell? ⟨w.heap.size, 1, none⟩ = some (.slice Am k.more.length cm) from ⟨x.cell q0, x.cell q1⟩)
 have HR := hid (fun w' (x : Ext w1 w') => show w'.cell? ⟨w.heap.size + 1, 0, none⟩ = some (.slice none 0 0) ∧ w'.cell? ⟨w.heap.size + 1, 1, none⟩ = some (.slice none 0 0) ∧ w'.frozen? ⟨w.heap.size + 1, 0, none⟩ = false ∧ w'.frozen? ⟨w.heap.size + 1, 1, none⟩ = false ∧ tyAt w' (w.heap.size + 1) = some 101 from ⟨(hb.ext x).cell rfl, (hb.ext x).cell rfl, (hb.ext x).frozen 0, (hb.ext x).frozen 1, (hb.ext x).ty⟩)
 have HKn := hid (fun w' (x : Ext w1 w') => h.ext (HX.out.trans x))
 clear q0 q1 hb hx
 go_enter Tryz.func134, Tryz.ntmps134
 go_wp2_with fail
 rw [← hw1]
 clear hw1
 have hyn := (Ext.refl w1).drew
 refine wp_region_held_drew (S := fun w' => w'.cell? ⟨w.heap.size, 0, none⟩ = some (.slice Av k.vec.length cv) ∧ w'.cell? ⟨w.heap.size, 1, none⟩ = some (.slice Am k.more.length cm)) (by kernel_rfl) (HAll.out _ hyn) (fun hHeld => ?_)
 obtain ⟨wc, hwc⟩ : ∃ wc, wc = w1.drew := ⟨_, rfl⟩
 rw [← hwc] at hHeld hyn ⊢
 clear hwc
 refine tk 0 ?_ rfl (by kernel_rfl) (fun _ _ _ h => h) (by rfl) ?_ (by assumption) ?_
 rotate_left
 ·intro w' hSw; (try dsimp only at hSw); go_simp <;> with_reducible rfl
 simp only [gq]; try simp only [pq]
 refine tk 1 ?_ rfl (by kernel_rfl) (fun _ _ _ h => h) (by rfl) ?_ (by assumption) ?_
 rotate_left
 ·intro w' hSw; (try dsimp only at hSw); go_simp <;> with_reducible rfl
 simp only [gq]; try simp only [pq]
 refine tk 3 ?_ rfl (by kernel_rfl) (fun _ _ _ h => h) (by rfl) ?_ (by assumption) ?_
 rotate_left
 ·intro w' hSw; (try dsimp only at hSw); go_simp <;> with_reducible rfl
 simp only [gq]; try simp only [pq]
 refine tk 4 ?_ rfl (by kernel_rfl) (fun _ _ _ h => h) (by rfl) ?_ (by assumption) ?_
 rotate_left
 ·intro w' hSw; (try dsimp only at hSw); go_simp <;> with_reducible rfl
 simp only [gq]; try simp only [pq]
 refine wpAnyH_ready (rs := [2]) (by kernel_rfl) (by simp) ?_
 refine AllReadyH.cons rfl (fun K hK => ?_) AllReadyH.nil
 simp only [gq]
 go_simp
 refine (clone_ints B Av cv k.vec wc (by have := hl; omega) (HKn.out _ hyn).sv).mono ?_
 rintro e wn ⟨v2, rfl, hv2, hxa⟩
 dsimp only
 obtain ⟨A2, c2, rfl, u1, u2⟩ := hv2.len
 replace hv2 := hv2.isSl B
 replace hyn := hyn.trans hxa
 clear hxa
 obtain ⟨wc, rfl⟩ : ∃ wc', wc' = wn := ⟨_, rfl⟩
 refine hK.out _ _ (HAll.out _ hyn) (fun hHeld => ?_)
 clear hK K
 try simp only [pq]
 refine wpAnyH_ready (rs := [5]) (by kernel_rfl) (by simp) ?_
 refine AllReadyH.cons rfl (fun K hK => ?_) AllReadyH.nil
 simp only [gq]
 go_simp
 refine (clone_dots B Am cm k.more wc (by have := hl; omega) (HKn.out _ hyn).sm).mono ?_
 rintro e wn ⟨v5, rfl, hv5, hxa⟩
 dsimp only
 obtain ⟨A5, c5, rfl, u3, u4⟩ := hv5.len
 replace hv5 := hv5.isSl B
 replace hv2 := hv2.ext RInt.mono hxa
 replace hyn := hyn.trans hxa
 clear hxa
 obtain ⟨wc, rfl⟩ : ∃ wc', wc' = wn := ⟨_, rfl⟩
 refine hK.out _ _ (HAll.out _ hyn) (fun hHeld => ?_)
 clear hK K
 try simp only [pq]
 refine tk 6 ?_ rfl (by kernel_rfl) (fun _ _ _ h => h) (by rfl) ?_ (by assumption) ?_
 rotate_left
 ·intro w' hSw; (try dsimp only at hSw); go_simp <;> with_reducible rfl
 simp only [gq]; try simp only [pq]
 refine wpAnyH_ready (rs := [7]) (by kernel_rfl) (by simp) ?_
 refine AllReadyH.cons rfl (fun K hK => ?_) AllReadyH.nil
 simp only [gq]
 obtain ⟨r0, r1, f0, f1, t0⟩ := HR.out wc hyn
 go_simp
 have hyz := ((HX.out.trans hyn).setCell (p := ⟨w.heap.size + 1, 0, none⟩) (by first | omega | (dsimp only; omega)) (.slice A2 k.vec.length c2)).setCell (p := ⟨w.heap.size + 1, 1, none⟩) (by first | omega | (dsimp only; omega)) (.slice A5 k.more.length c5)
 have hch := ((Chg.refl (B := B) (ts := [101]) wc).setCell (p := ⟨w.heap.size + 1, 0, none⟩) t0 (by simp) (.slice A2 k.vec.length c2) (by dsimp only; omega)).setCell (p := ⟨w.heap.size + 1, 1, none⟩) (tyAt_put t0) (by simp) (.slice A5 k.more.length c5) (by dsimp only; omega)
 have hyv := hv2.chg RInt.mono (by decide) hch
 have hym := hv5.chg RPair.mono (by decide) hch
 have z0 : ((wc.setCell ⟨w.heap.size + 1, 0, none⟩ (.slice A2 k.vec.length c2)).setCell ⟨w.heap.size + 1, 1, none⟩ (.slice A5 k.more.length c5)).cell? ⟨w.heap.size + 1, 0, none⟩ = some (.slice A2 k.vec.length c2) := by go_simp
 have z1 : ((wc.setCell ⟨w.heap.size + 1, 0, none⟩ (.slice A2 k.vec.length c2)).setCell ⟨w.heap.size + 1, 1, none⟩ (.slice A5 k.more.length c5)).cell? ⟨w.heap.size + 1, 1, none⟩ = some (.slice A5 k.more.length c5) := by go_simp
 obtain ⟨y0, y1⟩ := HAll.out wc hyn
 refine hK.out _ _ ⟨cell_ne (by omega) (cell_ne (by omega) y0), cell_ne (by omega) (cell_ne (by omega) y1)⟩ (fun hHeld => ?_)
 clear y0 y1 r0 r1 f0 f1 t0 hv2 hv5 hch
 obtain ⟨wz, hwz⟩ : ∃ wz, wz = (wc.setCell ⟨w.heap.size + 1, 0, none⟩ (.slice A2 k.vec.length c2)).setCell ⟨w.heap.size + 1, 1, none⟩ (.slice A5 k.more.length c5) := ⟨_, rfl⟩
 rw [← hwz] at hyz hyv hym z0 z1 hHeld ⊢
 clear hwz
 clear hK K
 try simp only [pq]
 refine wpAnyH_done (by kernel_rfl) ?_ _
 go_wp2_with fail
 refine bodyPost_ret (v := .agg #[.slice A2 k.vec.length c2, .slice A5 k.more.length c5]) ?_ rfl ⟨_, rfl, IsK.of hyv hym, hyz⟩
 exact res_kcop (b := w.heap.size + 1) rfl z0 z1 rfl
end Go.Proofs.YtngbfdogiciahaaGreat
