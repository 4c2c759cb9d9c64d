/- The walks of reedref.Over, reedref.SameVersion. -/
import Derived.Test.YtmedmfjhpabfdaaShelfC
namespace Go.Proofs.Ytmedmfjhpabfdaa
open Go Go.RowKit

set_option maxRecDepth 100000 in
set_option maxHeartbeats 2000000 in
theorem ref_Over (B : Nat) (a b : Version) (Aa : Option Addr) (ca : Nat) (Ma : Option Addr) (da : Nat) (Ab : Option Addr) (cb : Nat) (Mb : Option Addr) (db : Nat) (w : World) (hi : InV B w Aa ca Ma da a) (hk : KnowOk a.past) (hb : dotOk b.dot = true) :
    Calls Try.prog 83 #[.agg #[.string a.id, .int .i64 a.dot.site, .int .i64 a.dot.count, .int .i64 a.pt.tags, .int .i64 a.pt.num, .int .i64 a.body, .slice Aa a.past.vec.length ca, .slice Ma a.past.more.length da], .agg #[.string b.id, .int .i64 b.dot.site, .int .i64 b.dot.count, .int .i64 b.pt.tags, .int .i64 b.pt.num, .int .i64 b.body, .slice Ab b.past.vec.length cb, .slice Mb b.past.more.length db]] w fun e w' => e = .returned (.bool (over a b)) ∧ Ext w w' := by
  have hx0 := ((Ext.refl w).alloc (.cells #[.string a.id, .int .i64 a.dot.site, .int .i64 a.dot.count, .int .i64 a.pt.tags, .int .i64 a.pt.num, .int .i64 a.body, .slice Aa a.past.vec.length ca, .slice Ma a.past.more.length da] 46)).alloc (.cells #[.string b.id, .int .i64 b.dot.site, .int .i64 b.dot.count, .int .i64 b.pt.tags, .int .i64 b.pt.num, .int .i64 b.body, .slice Ab b.past.vec.length cb, .slice Mb b.past.more.length db] 46)
  have HI := hid hi
  have HK := hid hk
  have HO := hid (show over a b = (sEq a.id b.id && inK a.past b.dot) from rfl)
  obtain ⟨s, c, hsd, hsc, hds, hdc, hhas⟩ := dot_nat hb a.past
  have HDS := hid hds
  have HDC := hid hdc
  have HHas := hid hhas
  have HSD := hid hsd
  have HSC := hid hsc
  clear hi hk hb hsd hsc hds hdc hhas
  cases h1 : sEq a.id b.id
  · have h1' : (a.id.toList == b.id.toList) = false := h1
    rw [h1] at HO
    clear h1
    go_enter Try.func83, Try.ntmps83
    go_wp2_with fail
    obtain ⟨wa, hwa⟩ : ∃ wa, wa = (w.alloc (.cells #[.string a.id, .int .i64 a.dot.site, .int .i64 a.dot.count, .int .i64 a.pt.tags, .int .i64 a.pt.num, .int .i64 a.body, .slice Aa a.past.vec.length ca, .slice Ma a.past.more.length da] 46)).alloc (.cells #[.string b.id, .int .i64 b.dot.site, .int .i64 b.dot.count, .int .i64 b.pt.tags, .int .i64 b.pt.num, .int .i64 b.body, .slice Ab b.past.vec.length cb, .slice Mb b.past.more.length db] 46) := ⟨_, rfl⟩
    have q0 : wa.cell? ⟨w.heap.size, 0, none⟩ = some (.string a.id) := by rw [hwa]; go_simp
    have q1 : wa.cell? ⟨w.heap.size + 1, 0, none⟩ = some (.string b.id) := by rw [hwa]; go_simp
    rw [← hwa] at hx0 ⊢
    clear hwa
    have HX := hid hx0
    have HAll := hid (fun w' (x : Ext wa w') => show w'.cell? ⟨w.heap.size, 0, none⟩ = some (.string a.id) ∧ w'.cell? ⟨w.heap.size + 1, 0, none⟩ = some (.string b.id) from ⟨x.cell q0, x.cell q1⟩)
    clear q0 q1 hx0
    have hyn := (Ext.refl wa).drew
    refine wp_region_held_drew (S := fun w' => w'.cell? ⟨w.heap.size, 0, none⟩ = some (.string a.id) ∧ w'.cell? ⟨w.heap.size + 1, 0, none⟩ = some (.string b.id)) (by kernel_rfl) (HAll.out _ hyn) (fun hHeld => ?_)
    obtain ⟨wc, hwc⟩ : ∃ wc, wc = wa.drew := ⟨_, rfl⟩
    rw [← hwc] at hHeld hyn ⊢
    clear hwc
    refine wpAnyH_take (i := 0) (oi := _) (v := ?_) rfl (by kernel_rfl) (by kernel_rfl) (by kernel_rfl) (fun _ _ _ h => h) (Or.inl ⟨by rfl, ?_⟩) (by assumption) ?_
    rotate_left
    · intro w' hSw
      try dsimp only at hSw
      first
        | (go_simp; done)
        | (go_simp; with_reducible rfl)
    simp only [List.getElem_toArray, List.getElem_cons_zero]
    try simp only [Act.put, List.setIfInBounds_toArray, List.set_cons_zero, List.set_cons_succ]
    refine wpAnyH_take (i := 1) (oi := _) (v := ?_) rfl (by kernel_rfl) (by kernel_rfl) (by kernel_rfl) (fun _ _ _ h => h) (Or.inl ⟨by rfl, ?_⟩) (by assumption) ?_
    rotate_left
    · intro w' hSw
      try dsimp only at hSw
      first
        | (go_simp; done)
        | (go_simp; with_reducible rfl)
    simp only [List.getElem_toArray, List.getElem_cons_zero, List.getElem_cons_succ]
    try simp only [Act.put, List.setIfInBounds_toArray, List.set_cons_zero, List.set_cons_succ]
    refine wpAnyH_take (i := 2) (oi := _) (v := ?_) rfl (by kernel_rfl) (by kernel_rfl) (by kernel_rfl) (fun _ _ _ h => h) (Or.inl ⟨by rfl, ?_⟩) (by assumption) ?_
    rotate_left
    · intro w' hSw
      try dsimp only at hSw
      first
        | (go_simp; done)
        | (go_simp; with_reducible rfl)
    simp only [List.getElem_toArray, List.getElem_cons_zero, List.getElem_cons_succ]
    try simp only [Act.put, List.setIfInBounds_toArray, List.set_cons_zero, List.set_cons_succ]
    refine wpAnyH_take (i := 3) (oi := _) (v := ?_) rfl (by kernel_rfl) (by kernel_rfl) (by kernel_rfl) (fun _ _ _ h => h) (Or.inl ⟨by rfl, ?_⟩) (by assumption) ?_
    rotate_left
    · intro w' hSw
      try dsimp only at hSw
      first
        | (go_simp; done)
        | (go_simp; with_reducible rfl)
    simp only [List.getElem_toArray, List.getElem_cons_zero, List.getElem_cons_succ]
    try simp only [Act.put, List.setIfInBounds_toArray, List.set_cons_zero, List.set_cons_succ]
    refine wpAnyH_take (i := 4) (oi := _) (v := ?_) rfl (by kernel_rfl) (by kernel_rfl) (by kernel_rfl) (fun _ _ _ h => h) (Or.inl ⟨by rfl, ?_⟩) (by assumption) ?_
    rotate_left
    · intro w' hSw
      try dsimp only at hSw
      first
        | (go_simp; done)
        | (go_simp; with_reducible rfl)
    simp only [List.getElem_toArray, List.getElem_cons_zero, List.getElem_cons_succ]
    try simp only [Act.put, List.setIfInBounds_toArray, List.set_cons_zero, List.set_cons_succ]
    refine wpAnyH_take (i := 5) (oi := _) (v := ?_) rfl (by kernel_rfl) (by kernel_rfl) (by kernel_rfl) (fun _ _ _ h => h) (Or.inl ⟨by rfl, ?_⟩) (by assumption) ?_
    rotate_left
    · intro w' hSw
      try dsimp only at hSw
      first
        | (go_simp; done)
        | (go_simp; with_reducible rfl)
    simp only [List.getElem_toArray, List.getElem_cons_zero, List.getElem_cons_succ]
    try simp only [Act.put, List.setIfInBounds_toArray, List.set_cons_zero, List.set_cons_succ]
    refine wpAnyH_take (i := 6) (oi := _) (v := undef) rfl (by kernel_rfl) (by kernel_rfl) (by kernel_rfl) (fun _ _ _ h => h) (Or.inr ⟨by rfl, rfl⟩) (by assumption) ?_
    simp only [List.getElem_toArray, List.getElem_cons_zero, List.getElem_cons_succ]
    try simp only [Act.put, List.setIfInBounds_toArray, List.set_cons_zero, List.set_cons_succ]
    refine wpAnyH_take (i := 7) (oi := _) (v := undef) rfl (by kernel_rfl) (by kernel_rfl) (by kernel_rfl) (fun _ _ _ h => h) (Or.inr ⟨by rfl, rfl⟩) (by assumption) ?_
    simp only [List.getElem_toArray, List.getElem_cons_zero, List.getElem_cons_succ]
    try simp only [Act.put, List.setIfInBounds_toArray, List.set_cons_zero, List.set_cons_succ]
    refine wpAnyH_take (i := 8) (oi := _) (v := undef) rfl (by kernel_rfl) (by kernel_rfl) (by kernel_rfl) (fun _ _ _ h => h) (Or.inr ⟨by rfl, rfl⟩) (by assumption) ?_
    simp only [List.getElem_toArray, List.getElem_cons_zero, List.getElem_cons_succ]
    try simp only [Act.put, List.setIfInBounds_toArray, List.set_cons_zero, List.set_cons_succ]
    refine wpAnyH_take (i := 9) (oi := _) (v := undef) rfl (by kernel_rfl) (by kernel_rfl) (by kernel_rfl) (fun _ _ _ h => h) (Or.inr ⟨by rfl, rfl⟩) (by assumption) ?_
    simp only [List.getElem_toArray, List.getElem_cons_zero, List.getElem_cons_succ]
    try simp only [Act.put, List.setIfInBounds_toArray, List.set_cons_zero, List.set_cons_succ]
    refine wpAnyH_take (i := 10) (oi := _) (v := undef) rfl (by kernel_rfl) (by kernel_rfl) (by kernel_rfl) (fun _ _ _ h => h) (Or.inr ⟨by rfl, rfl⟩) (by assumption) ?_
    simp only [List.getElem_toArray, List.getElem_cons_zero, List.getElem_cons_succ]
    try simp only [Act.put, List.setIfInBounds_toArray, List.set_cons_zero, List.set_cons_succ]
    refine wpAnyH_take (i := 11) (oi := _) (v := undef) rfl (by kernel_rfl) (by kernel_rfl) (by kernel_rfl) (fun _ _ _ h => h) (Or.inr ⟨by rfl, rfl⟩) (by assumption) ?_
    simp only [List.getElem_toArray, List.getElem_cons_zero, List.getElem_cons_succ]
    try simp only [Act.put, List.setIfInBounds_toArray, List.set_cons_zero, List.set_cons_succ]
    refine wpAnyH_take (i := 12) (oi := _) (v := ?_) rfl (by kernel_rfl) (by kernel_rfl) (by kernel_rfl) (fun _ _ _ h => h) (Or.inl ⟨by rfl, ?_⟩) (by assumption) ?_
    rotate_left
    · intro w' hSw
      try dsimp only at hSw
      first
        | (go_simp; done)
        | (go_simp; with_reducible rfl)
    simp only [List.getElem_toArray, List.getElem_cons_zero, List.getElem_cons_succ]
    try simp only [Act.put, List.setIfInBounds_toArray, List.set_cons_zero, List.set_cons_succ]
    refine wpAnyH_take (i := 13) (oi := _) (v := ?_) rfl (by kernel_rfl) (by kernel_rfl) (by kernel_rfl) (fun _ _ _ h => h) (Or.inl ⟨by rfl, ?_⟩) (by assumption) ?_
    rotate_left
    · intro w' hSw
      try dsimp only at hSw
      first
        | (go_simp; done)
        | (go_simp; with_reducible rfl)
    simp only [List.getElem_toArray, List.getElem_cons_zero, List.getElem_cons_succ]
    try simp only [Act.put, List.setIfInBounds_toArray, List.set_cons_zero, List.set_cons_succ]
    refine wpAnyH_done (by kernel_rfl) ?_ _
    go_wp2_with fail
    go_ret
    exact ⟨ret_bool HO.out.symm, HX.out.trans hyn⟩
  · have h1' : (a.id.toList == b.id.toList) = true := h1
    rw [h1] at HO
    clear h1
    rw [HSD.out, HSC.out] at hx0
    go_enter Try.func83, Try.ntmps83
    rw [HSD.out, HSC.out]
    go_wp2_with fail
    obtain ⟨wa, hwa⟩ : ∃ wa, wa = (w.alloc (.cells #[.string a.id, .int .i64 a.dot.site, .int .i64 a.dot.count, .int .i64 a.pt.tags, .int .i64 a.pt.num, .int .i64 a.body, .slice Aa a.past.vec.length ca, .slice Ma a.past.more.length da] 46)).alloc (.cells #[.string b.id, .int .i64 (s : Int), .int .i64 (c : Int), .int .i64 b.pt.tags, .int .i64 b.pt.num, .int .i64 b.body, .slice Ab b.past.vec.length cb, .slice Mb b.past.more.length db] 46) := ⟨_, rfl⟩
    have q0 : wa.cell? ⟨w.heap.size, 0, none⟩ = some (.string a.id) := by rw [hwa]; go_simp
    have q1 : wa.cell? ⟨w.heap.size, 6, none⟩ = some (.slice Aa a.past.vec.length ca) := by rw [hwa]; go_simp
    have q2 : wa.cell? ⟨w.heap.size, 7, none⟩ = some (.slice Ma a.past.more.length da) := by rw [hwa]; go_simp
    have q3 : wa.cell? ⟨w.heap.size + 1, 0, none⟩ = some (.string b.id) := by rw [hwa]; go_simp
    have q4 : wa.cell? ⟨w.heap.size + 1, 1, none⟩ = some (.int .i64 (s : Int)) := by rw [hwa]; go_simp
    have q5 : wa.cell? ⟨w.heap.size + 1, 2, none⟩ = some (.int .i64 (c : Int)) := by rw [hwa]; go_simp
    rw [← hwa] at hx0 ⊢
    clear hwa
    have HX := hid hx0
    have HAll := hid (fun w' (x : Ext wa w') => show w'.cell? ⟨w.heap.size, 0, none⟩ = some (.string a.id) ∧ w'.cell? ⟨w.heap.size, 6, none⟩ = some (.slice Aa a.past.vec.length ca) ∧ w'.cell? ⟨w.heap.size, 7, none⟩ = some (.slice Ma a.past.more.length da) ∧ w'.cell? ⟨w.heap.size + 1, 0, none⟩ = some (.string b.id) ∧ w'.cell? ⟨w.heap.size + 1, 1, none⟩ = some (.int .i64 (s : Int)) ∧ w'.cell? ⟨w.heap.size + 1, 2, none⟩ = some (.int .i64 (c : Int)) from ⟨x.cell q0, x.cell q1, x.cell q2, x.cell q3, x.cell q4, x.cell q5⟩)
    clear q0 q1 q2 q3 q4 q5 hx0
    have hyn := (Ext.refl wa).drew
    refine wp_region_held_drew (S := fun w' => w'.cell? ⟨w.heap.size, 0, none⟩ = some (.string a.id) ∧ w'.cell? ⟨w.heap.size, 6, none⟩ = some (.slice Aa a.past.vec.length ca) ∧ w'.cell? ⟨w.heap.size, 7, none⟩ = some (.slice Ma a.past.more.length da) ∧ w'.cell? ⟨w.heap.size + 1, 0, none⟩ = some (.string b.id) ∧ w'.cell? ⟨w.heap.size + 1, 1, none⟩ = some (.int .i64 (s : Int)) ∧ w'.cell? ⟨w.heap.size + 1, 2, none⟩ = some (.int .i64 (c : Int))) (by kernel_rfl) (HAll.out _ hyn) (fun hHeld => ?_)
    obtain ⟨wc, hwc⟩ : ∃ wc, wc = wa.drew := ⟨_, rfl⟩
    rw [← hwc] at hHeld hyn ⊢
    clear hwc
    refine wpAnyH_take (i := 0) (oi := _) (v := ?_) rfl (by kernel_rfl) (by kernel_rfl) (by kernel_rfl) (fun _ _ _ h => h) (Or.inl ⟨by rfl, ?_⟩) (by assumption) ?_
    rotate_left
    · intro w' hSw
      try dsimp only at hSw
      first
        | (go_simp; done)
        | (go_simp; with_reducible rfl)
    simp only [List.getElem_toArray, List.getElem_cons_zero]
    try simp only [Act.put, List.setIfInBounds_toArray, List.set_cons_zero, List.set_cons_succ]
    refine wpAnyH_take (i := 1) (oi := _) (v := ?_) rfl (by kernel_rfl) (by kernel_rfl) (by kernel_rfl) (fun _ _ _ h => h) (Or.inl ⟨by rfl, ?_⟩) (by assumption) ?_
    rotate_left
    · intro w' hSw
      try dsimp only at hSw
      first
        | (go_simp; done)
        | (go_simp; with_reducible rfl)
    simp only [List.getElem_toArray, List.getElem_cons_zero, List.getElem_cons_succ]
    try simp only [Act.put, List.setIfInBounds_toArray, List.set_cons_zero, List.set_cons_succ]
    refine wpAnyH_take (i := 2) (oi := _) (v := ?_) rfl (by kernel_rfl) (by kernel_rfl) (by kernel_rfl) (fun _ _ _ h => h) (Or.inl ⟨by rfl, ?_⟩) (by assumption) ?_
    rotate_left
    · intro w' hSw
      try dsimp only at hSw
      first
        | (go_simp; done)
        | (go_simp; with_reducible rfl)
    simp only [List.getElem_toArray, List.getElem_cons_zero, List.getElem_cons_succ]
    try simp only [Act.put, List.setIfInBounds_toArray, List.set_cons_zero, List.set_cons_succ]
    refine wpAnyH_take (i := 3) (oi := _) (v := ?_) rfl (by kernel_rfl) (by kernel_rfl) (by kernel_rfl) (fun _ _ _ h => h) (Or.inl ⟨by rfl, ?_⟩) (by assumption) ?_
    rotate_left
    · intro w' hSw
      try dsimp only at hSw
      first
        | (go_simp; done)
        | (go_simp; with_reducible rfl)
    simp only [List.getElem_toArray, List.getElem_cons_zero, List.getElem_cons_succ]
    try simp only [Act.put, List.setIfInBounds_toArray, List.set_cons_zero, List.set_cons_succ]
    refine wpAnyH_take (i := 4) (oi := _) (v := ?_) rfl (by kernel_rfl) (by kernel_rfl) (by kernel_rfl) (fun _ _ _ h => h) (Or.inl ⟨by rfl, ?_⟩) (by assumption) ?_
    rotate_left
    · intro w' hSw
      try dsimp only at hSw
      first
        | (go_simp; done)
        | (go_simp; with_reducible rfl)
    simp only [List.getElem_toArray, List.getElem_cons_zero, List.getElem_cons_succ]
    try simp only [Act.put, List.setIfInBounds_toArray, List.set_cons_zero, List.set_cons_succ]
    refine wpAnyH_take (i := 5) (oi := _) (v := ?_) rfl (by kernel_rfl) (by kernel_rfl) (by kernel_rfl) (fun _ _ _ h => h) (Or.inl ⟨by rfl, ?_⟩) (by assumption) ?_
    rotate_left
    · intro w' hSw
      try dsimp only at hSw
      first
        | (go_simp; done)
        | (go_simp; with_reducible rfl)
    simp only [List.getElem_toArray, List.getElem_cons_zero, List.getElem_cons_succ]
    try simp only [Act.put, List.setIfInBounds_toArray, List.set_cons_zero, List.set_cons_succ]
    refine wpAnyH_take (i := 6) (oi := _) (v := ?_) rfl (by kernel_rfl) (by kernel_rfl) (by kernel_rfl) (fun _ _ _ h => h) (Or.inl ⟨by rfl, ?_⟩) (by assumption) ?_
    rotate_left
    · intro w' hSw
      try dsimp only at hSw
      first
        | (go_simp; done)
        | (go_simp; with_reducible rfl)
    simp only [List.getElem_toArray, List.getElem_cons_zero, List.getElem_cons_succ]
    try simp only [Act.put, List.setIfInBounds_toArray, List.set_cons_zero, List.set_cons_succ]
    refine wpAnyH_take (i := 7) (oi := _) (v := ?_) rfl (by kernel_rfl) (by kernel_rfl) (by kernel_rfl) (fun _ _ _ h => h) (Or.inl ⟨by rfl, ?_⟩) (by assumption) ?_
    rotate_left
    · intro w' hSw
      try dsimp only at hSw
      first
        | (go_simp; done)
        | (go_simp; with_reducible rfl)
    simp only [List.getElem_toArray, List.getElem_cons_zero, List.getElem_cons_succ]
    try simp only [Act.put, List.setIfInBounds_toArray, List.set_cons_zero, List.set_cons_succ]
    refine wpAnyH_take (i := 9) (oi := _) (v := ?_) rfl (by kernel_rfl) (by kernel_rfl) (by kernel_rfl) (fun _ _ _ h => h) (Or.inl ⟨by rfl, ?_⟩) (by assumption) ?_
    rotate_left
    · intro w' hSw
      try dsimp only at hSw
      first
        | (go_simp; done)
        | (go_simp; with_reducible rfl)
    simp only [List.getElem_toArray, List.getElem_cons_zero, List.getElem_cons_succ]
    try simp only [Act.put, List.setIfInBounds_toArray, List.set_cons_zero, List.set_cons_succ]
    refine wpAnyH_take (i := 10) (oi := _) (v := ?_) rfl (by kernel_rfl) (by kernel_rfl) (by kernel_rfl) (fun _ _ _ h => h) (Or.inl ⟨by rfl, ?_⟩) (by assumption) ?_
    rotate_left
    · intro w' hSw
      try dsimp only at hSw
      first
        | (go_simp; done)
        | (go_simp; with_reducible rfl)
    simp only [List.getElem_toArray, List.getElem_cons_zero, List.getElem_cons_succ]
    try simp only [Act.put, List.setIfInBounds_toArray, List.set_cons_zero, List.set_cons_succ]
    refine wpAnyH_ready (rs := [8]) (by kernel_rfl) (by simp) ?_
    refine AllReadyH.cons rfl (fun K hK => ?_) AllReadyH.nil
    simp only [List.getElem_toArray, List.getElem_cons_zero, List.getElem_cons_succ]
    go_simp
    refine (ref_All B a.past Aa ca Ma da wc (HI.out.k.ext (HX.out.trans hyn)) HK.out).mono ?_
    rintro e wn ⟨rfl, hxa⟩
    dsimp only
    replace hyn := hyn.trans hxa
    clear hxa
    obtain ⟨wc, rfl⟩ : ∃ wc', wc' = wn := ⟨_, rfl⟩
    refine hK.out _ _ (HAll.out _ hyn) (fun hHeld => ?_)
    clear hK K
    try simp only [Act.put, List.setIfInBounds_toArray, List.set_cons_zero, List.set_cons_succ]
    refine wpAnyH_ready (rs := [11]) (by kernel_rfl) (by simp) ?_
    refine AllReadyH.cons rfl (fun K hK => ?_) AllReadyH.nil
    simp only [List.getElem_toArray, List.getElem_cons_zero, List.getElem_cons_succ]
    go_simp
    refine (dots_Has (hasK a.past) s c wc HDS.out HDC.out).mono ?_
    rintro e wn ⟨rfl, hxa⟩
    dsimp only
    replace hyn := hyn.trans hxa
    clear hxa
    obtain ⟨wc, rfl⟩ : ∃ wc', wc' = wn := ⟨_, rfl⟩
    refine hK.out _ _ (HAll.out _ hyn) (fun hHeld => ?_)
    clear hK K
    try simp only [Act.put, List.setIfInBounds_toArray, List.set_cons_zero, List.set_cons_succ]
    refine wpAnyH_take (i := 12) (oi := _) (v := ?_) rfl (by kernel_rfl) (by kernel_rfl) (by kernel_rfl) (fun _ _ _ h => h) (Or.inl ⟨by rfl, ?_⟩) (by assumption) ?_
    rotate_left
    · intro w' hSw
      try dsimp only at hSw
      first
        | (go_simp; done)
        | (go_simp; with_reducible rfl)
    simp only [List.getElem_toArray, List.getElem_cons_zero, List.getElem_cons_succ]
    try simp only [Act.put, List.setIfInBounds_toArray, List.set_cons_zero, List.set_cons_succ]
    refine wpAnyH_take (i := 13) (oi := _) (v := ?_) rfl (by kernel_rfl) (by kernel_rfl) (by kernel_rfl) (fun _ _ _ h => h) (Or.inl ⟨by rfl, ?_⟩) (by assumption) ?_
    rotate_left
    · intro w' hSw
      try dsimp only at hSw
      first
        | (go_simp; done)
        | (go_simp; with_reducible rfl)
    simp only [List.getElem_toArray, List.getElem_cons_zero, List.getElem_cons_succ]
    try simp only [Act.put, List.setIfInBounds_toArray, List.set_cons_zero, List.set_cons_succ]
    refine wpAnyH_done (by kernel_rfl) ?_ _
    rw [HHas.out]
    have hx := HX.out.trans hyn
    clear hyn hHeld
    go_wp2_with fail
    go_ret
    exact ⟨ret_bool HO.out.symm, hx⟩
end Go.Proofs.Ytmedmfjhpabfdaa
