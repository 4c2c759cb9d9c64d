/- The walk of know.Copied. -/
import Derived.Test.YtmedmfjhpabfdaaKnJ
import Derived.Test.YtmedmfjhpabfdaaKnV
namespace Go.Proofs.Ytmedmfjhpabfdaa
open Go Go.RowKit

theorem res_kcop {w : World} {v : Value} {b : Nat} {x y : Value} {tmps : Array Value} (h4 : tmps.getD 2 undef = .pointer (some ⟨b, 0, none⟩)) (c1 : w.cell? ⟨b, 0, none⟩ = some x) (c2 : w.cell? ⟨b, 1, none⟩ = some y) (hv : v = .agg #[x, y]) :
    (results Try.f129 tmps).run Try.prog w = .ok v w := by
  have h4' : tmps[2]?.getD undef = .pointer (some ⟨b, 0, none⟩) := by simpa using h4
  subst hv
  simp [results, Try.results129, go_sem, h4', c1, c2]

set_option maxRecDepth 100000 in
set_option maxHeartbeats 2000000 in
theorem know_Copied (B : Nat) (k : Know) (Av : Option Addr) (cv : Nat) (Am : Option Addr) (cm : Nat) (w : World) (hB : B ≤ w.heap.size) (hl : k.vec.length ≤ 1000000 ∧ k.more.length ≤ 1000000) (h : InK B w Av Am k) :
    Calls Try.prog 129 #[.agg #[.slice Av k.vec.length cv, .slice Am k.more.length cm]] w fun e w' => ∃ v, e = .returned v ∧ IsK B w' v k ∧ Ext w w' := by
  have hx := ((Ext.refl w).alloc (.cells #[.slice Av k.vec.length cv, .slice Am k.more.length cm] 44)).alloc (.cells #[.slice none 0 0, .slice none 0 0] 44)
  have hb := Blk.new (w.alloc (.cells #[.slice Av k.vec.length cv, .slice Am k.more.length cm] 44)) 44 #[.slice none 0 0, .slice none 0 0]
  rw [World.size_alloc] at hb
  have q0 : ((w.alloc (.cells #[.slice Av k.vec.length cv, .slice Am k.more.length cm] 44)).alloc (.cells #[.slice none 0 0, .slice none 0 0] 44)).cell? ⟨w.heap.size, 0, none⟩ = some (.slice Av k.vec.length cv) := by go_simp
  have q1 : ((w.alloc (.cells #[.slice Av k.vec.length cv, .slice Am k.more.length cm] 44)).alloc (.cells #[.slice none 0 0, .slice none 0 0] 44)).cell? ⟨w.heap.size, 1, none⟩ = some (.slice Am k.more.length cm) := by go_simp
  obtain ⟨w1, hw1⟩ : ∃ w1, w1 = (w.alloc (.cells #[.slice Av k.vec.length cv, .slice Am k.more.length cm] 44)).alloc (.cells #[.slice none 0 0, .slice none 0 0] 44) := ⟨_, rfl⟩
  rw [← hw1] at hx hb q0 q1
  have HX := hid hx
  have HAll := hid (fun w' (x : Ext w1 w') => show w'.cell? ⟨w.heap.size, 0, none⟩ = some (.slice Av k.vec.length cv) ∧ w'.cell? ⟨w.heap.size, 1, none⟩ = some (.slice Am k.more.length cm) from ⟨x.cell q0, x.cell q1⟩)
  have HR := hid (fun w' (x : Ext w1 w') => show w'.cell? ⟨w.heap.size + 1, 0, none⟩ = some (.slice none 0 0) ∧ w'.cell? ⟨w.heap.size + 1, 1, none⟩ = some (.slice none 0 0) ∧ w'.frozen? ⟨w.heap.size + 1, 0, none⟩ = false ∧ w'.frozen? ⟨w.heap.size + 1, 1, none⟩ = false ∧ tyAt w' (w.heap.size + 1) = some 44 from ⟨(hb.ext x).cell rfl, (hb.ext x).cell rfl, (hb.ext x).frozen 0, (hb.ext x).frozen 1, (hb.ext x).ty⟩)
  have HKn := hid (fun w' (x : Ext w1 w') => h.ext (HX.out.trans x))
  clear q0 q1 hb hx
  go_enter Try.func129, Try.ntmps129
  go_wp2_with fail
  rw [← hw1]
  clear hw1
  have hyn := (Ext.refl w1).drew
  refine wp_region_held_drew (S := fun w' => w'.cell? ⟨w.heap.size, 0, none⟩ = some (.slice Av k.vec.length cv) ∧ w'.cell? ⟨w.heap.size, 1, none⟩ = some (.slice Am k.more.length cm)) (by kernel_rfl) (HAll.out _ hyn) (fun hHeld => ?_)
  obtain ⟨wc, hwc⟩ : ∃ wc, wc = w1.drew := ⟨_, rfl⟩
  rw [← hwc] at hHeld hyn ⊢
  clear hwc
  refine wpAnyH_take (i := 0) (oi := _) (v := ?_) rfl (by kernel_rfl) (by kernel_rfl) (by kernel_rfl) (fun _ _ _ h => h) (Or.inl ⟨by rfl, ?_⟩) (by assumption) ?_
  rotate_left
  · intro w' hSw
    try dsimp only at hSw
    first
      | (go_simp; done)
      | (go_simp; with_reducible rfl)
  simp only [List.getElem_toArray, List.getElem_cons_zero]
  try simp only [Act.put, List.setIfInBounds_toArray, List.set_cons_zero, List.set_cons_succ]
  refine wpAnyH_take (i := 1) (oi := _) (v := ?_) rfl (by kernel_rfl) (by kernel_rfl) (by kernel_rfl) (fun _ _ _ h => h) (Or.inl ⟨by rfl, ?_⟩) (by assumption) ?_
  rotate_left
  · intro w' hSw
    try dsimp only at hSw
    first
      | (go_simp; done)
      | (go_simp; with_reducible rfl)
  simp only [List.getElem_toArray, List.getElem_cons_zero, List.getElem_cons_succ]
  try simp only [Act.put, List.setIfInBounds_toArray, List.set_cons_zero, List.set_cons_succ]
  refine wpAnyH_take (i := 3) (oi := _) (v := ?_) rfl (by kernel_rfl) (by kernel_rfl) (by kernel_rfl) (fun _ _ _ h => h) (Or.inl ⟨by rfl, ?_⟩) (by assumption) ?_
  rotate_left
  · intro w' hSw
    try dsimp only at hSw
    first
      | (go_simp; done)
      | (go_simp; with_reducible rfl)
  simp only [List.getElem_toArray, List.getElem_cons_zero, List.getElem_cons_succ]
  try simp only [Act.put, List.setIfInBounds_toArray, List.set_cons_zero, List.set_cons_succ]
  refine wpAnyH_take (i := 4) (oi := _) (v := ?_) rfl (by kernel_rfl) (by kernel_rfl) (by kernel_rfl) (fun _ _ _ h => h) (Or.inl ⟨by rfl, ?_⟩) (by assumption) ?_
  rotate_left
  · intro w' hSw
    try dsimp only at hSw
    first
      | (go_simp; done)
      | (go_simp; with_reducible rfl)
  simp only [List.getElem_toArray, List.getElem_cons_zero, List.getElem_cons_succ]
  try simp only [Act.put, List.setIfInBounds_toArray, List.set_cons_zero, List.set_cons_succ]
  refine wpAnyH_ready (rs := [2]) (by kernel_rfl) (by simp) ?_
  refine AllReadyH.cons rfl (fun K hK => ?_) AllReadyH.nil
  simp only [List.getElem_toArray, List.getElem_cons_zero, List.getElem_cons_succ]
  go_simp
  refine (clone_ints B Av cv k.vec wc (by have := hl; omega) (HKn.out _ hyn).sv).mono ?_
  rintro e wn ⟨v2, rfl, hv2, hxa⟩
  dsimp only
  obtain ⟨A2, c2, rfl, u1, u2⟩ := hv2.len
  replace hv2 := hv2.isSl B
  replace hyn := hyn.trans hxa
  clear hxa
  obtain ⟨wc, rfl⟩ : ∃ wc', wc' = wn := ⟨_, rfl⟩
  refine hK.out _ _ (HAll.out _ hyn) (fun hHeld => ?_)
  clear hK K
  try simp only [Act.put, List.setIfInBounds_toArray, List.set_cons_zero, List.set_cons_succ]
  refine wpAnyH_ready (rs := [5]) (by kernel_rfl) (by simp) ?_
  refine AllReadyH.cons rfl (fun K hK => ?_) AllReadyH.nil
  simp only [List.getElem_toArray, List.getElem_cons_zero, List.getElem_cons_succ]
  go_simp
  refine (clone_dots B Am cm k.more wc (by have := hl; omega) (HKn.out _ hyn).sm).mono ?_
  rintro e wn ⟨v5, rfl, hv5, hxa⟩
  dsimp only
  obtain ⟨A5, c5, rfl, u3, u4⟩ := hv5.len
  replace hv5 := hv5.isSl B
  replace hv2 := hv2.ext RInt.mono hxa
  replace hyn := hyn.trans hxa
  clear hxa
  obtain ⟨wc, rfl⟩ : ∃ wc', wc' = wn := ⟨_, rfl⟩
  refine hK.out _ _ (HAll.out _ hyn) (fun hHeld => ?_)
  clear hK K
  try simp only [Act.put, List.setIfInBounds_toArray, List.set_cons_zero, List.set_cons_succ]
  refine wpAnyH_take (i := 6) (oi := _) (v := ?_) rfl (by kernel_rfl) (by kernel_rfl) (by kernel_rfl) (fun _ _ _ h => h) (Or.inl ⟨by rfl, ?_⟩) (by assumption) ?_
  rotate_left
  · intro w' hSw
    try dsimp only at hSw
    first
      | (go_simp; done)
      | (go_simp; with_reducible rfl)
  simp only [List.getElem_toArray, List.getElem_cons_zero, List.getElem_cons_succ]
  try simp only [Act.put, List.setIfInBounds_toArray, List.set_cons_zero, List.set_cons_succ]
  refine wpAnyH_ready (rs := [7]) (by kernel_rfl) (by simp) ?_
  refine AllReadyH.cons rfl (fun K hK => ?_) AllReadyH.nil
  simp only [List.getElem_toArray, List.getElem_cons_zero, List.getElem_cons_succ]
  obtain ⟨r0, r1, f0, f1, t0⟩ := HR.out wc hyn
  go_simp
  have hyz := ((HX.out.trans hyn).setCell (p := ⟨w.heap.size + 1, 0, none⟩) (by first | omega | (dsimp only; omega)) (.slice A2 k.vec.length c2)).setCell (p := ⟨w.heap.size + 1, 1, none⟩) (by first | omega | (dsimp only; omega)) (.slice A5 k.more.length c5)
  have hch := ((Chg.refl (B := B) (ts := [44]) wc).setCell (p := ⟨w.heap.size + 1, 0, none⟩) t0 (by simp) (.slice A2 k.vec.length c2) (by dsimp only; omega)).setCell (p := ⟨w.heap.size + 1, 1, none⟩) (tyAt_put t0) (by simp) (.slice A5 k.more.length c5) (by dsimp only; omega)
  have hyv := hv2.chg RInt.mono (by decide) hch
  have hym := hv5.chg RPair.mono (by decide) hch
  have z0 : ((wc.setCell ⟨w.heap.size + 1, 0, none⟩ (.slice A2 k.vec.length c2)).setCell ⟨w.heap.size + 1, 1, none⟩ (.slice A5 k.more.length c5)).cell? ⟨w.heap.size + 1, 0, none⟩ = some (.slice A2 k.vec.length c2) := by go_simp
  have z1 : ((wc.setCell ⟨w.heap.size + 1, 0, none⟩ (.slice A2 k.vec.length c2)).setCell ⟨w.heap.size + 1, 1, none⟩ (.slice A5 k.more.length c5)).cell? ⟨w.heap.size + 1, 1, none⟩ = some (.slice A5 k.more.length c5) := by go_simp
  obtain ⟨y0, y1⟩ := HAll.out wc hyn
  refine hK.out _ _ ⟨cell_ne (by omega) (cell_ne (by omega) y0), cell_ne (by omega) (cell_ne (by omega) y1)⟩ (fun hHeld => ?_)
  clear y0 y1 r0 r1 f0 f1 t0 hv2 hv5 hch
  obtain ⟨wz, hwz⟩ : ∃ wz, wz = (wc.setCell ⟨w.heap.size + 1, 0, none⟩ (.slice A2 k.vec.length c2)).setCell ⟨w.heap.size + 1, 1, none⟩ (.slice A5 k.more.length c5) := ⟨_, rfl⟩
  rw [← hwz] at hyz hyv hym z0 z1 hHeld ⊢
  clear hwz
  clear hK K
  try simp only [Act.put, List.setIfInBounds_toArray, List.set_cons_zero, List.set_cons_succ]
  refine wpAnyH_done (by kernel_rfl) ?_ _
  go_wp2_with fail
  refine bodyPost_ret (v := .agg #[.slice A2 k.vec.length c2, .slice A5 k.more.length c5]) ?_ rfl ⟨_, rfl, IsK.of hyv hym, hyz⟩
  exact res_kcop (b := w.heap.size + 1) rfl z0 z1 rfl
end Go.Proofs.Ytmedmfjhpabfdaa
