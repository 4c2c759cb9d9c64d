/- The walks of shelf.One, reedref.One. -/
import Derived.Test.YtmedmfjhpabfdaaShelfA
import Derived.Test.YtmedmfjhpabfdaaJoinKnPl
import Derived.Test.YtmedmfjhpabfdaaKnW
import Derived.Test.YtmedmfjhpabfdaaKnT
import Derived.Test.YtmedmfjhpabfdaaKnI
import Derived.Test.YtmedmfjhpabfdaaKnR
import Derived.Test.YtmedmfjhpabfdaaKnV
import Derived.Test.YtmedmfjhpabfdaaFilE
import Derived.Test.YtmedmfjhpabfdaaFilR
namespace Go.Proofs.Ytmedmfjhpabfdaa
open Go Go.RowKit

theorem verErr_id {v : Version} (h : idOk v.id = false) : verErr v = 3 := by unfold verErr; rw [h]; rfl
theorem verErr_form {v : Version} (h : idOk v.id = true) (h2 : (dotOk v.dot && (pointOk v.pt && bodyOk v.body)) = false) : verErr v = 1 := by unfold verErr; rw [h, h2]; rfl
theorem verErr_know {v : Version} (h : idOk v.id = true) (h2 : (dotOk v.dot && (pointOk v.pt && bodyOk v.body)) = true) (h3 : knowCheck v.past ≠ 0) : verErr v = knowCheck v.past := by unfold verErr; rw [if_pos h, if_pos h2, if_neg h3]
theorem verErr_in {v : Version} (h : idOk v.id = true) (h2 : (dotOk v.dot && (pointOk v.pt && bodyOk v.body)) = true) (h3 : knowCheck v.past = 0) (h4 : inK v.past v.dot = true) : verErr v = 3 := by unfold verErr; rw [if_pos h, if_pos h2, if_pos h3, if_pos h4]
theorem verErr_ok {v : Version} (h : idOk v.id = true) (h2 : (dotOk v.dot && (pointOk v.pt && bodyOk v.body)) = true) (h3 : knowCheck v.past = 0) (h4 : inK v.past v.dot = false) : verErr v = 0 := by unfold verErr; rw [if_pos h, if_pos h2, if_pos h3, h4]; rfl
theorem betw_body (n : Int) : betw n 0 1000000 = bodyOk n := by unfold betw bodyOk; rw [Bool.decide_and]
theorem body_two (n : Int) : bodyOk n = (!decide (n < 0) && !decide (1000000 < n)) := by
  unfold bodyOk
  rw [Bool.eq_iff_iff]
  simp
theorem dot_nat {d : Dot} (h : dotOk d = true) (k : Know) : ∃ s c : Nat, d.site = (s : Int) ∧ d.count = (c : Int) ∧ s < 5 ∧ c < 1024 ∧ hasK k s c = inK k d := by
  obtain ⟨o1, o2, o3, o4⟩ := dotOk_iff.1 h
  refine ⟨d.site.toNat, d.count.toNat, by omega, by omega, by omega, by omega, ?_⟩
  rw [← inK_has k _ _ (by omega)]
  congr 1
  exact Dot.ext' (by show _ = d.site; simp only; omega) (by show _ = d.count; simp only; omega)

set_option maxRecDepth 100000 in
set_option maxHeartbeats 2000000 in
theorem shelf_One (B : Nat) (v : Version) (Av : Option Addr) (cv : Nat) (Am : Option Addr) (cm : Nat) (w : World) (hi : InV B w Av cv Am cm v) :
    Calls Try.prog 27 #[.agg #[.string v.id, .int .i64 v.dot.site, .int .i64 v.dot.count, .int .i64 v.pt.tags, .int .i64 v.pt.num, .int .i64 v.body, .slice Av v.past.vec.length cv, .slice Am v.past.more.length cm]] w fun e w' => e = .returned (.int .i64 (verErr v)) ∧ Ext w w' := by
  have HI := hid hi
  clear hi
  have hx0 := (Ext.refl w).alloc (.cells #[.string v.id, .int .i64 v.dot.site, .int .i64 v.dot.count, .int .i64 v.pt.tags, .int .i64 v.pt.num, .int .i64 v.body, .slice Av v.past.vec.length cv, .slice Am v.past.more.length cm] 46)
  go_enter Try.func27, Try.ntmps27
  go_wp2_with fail
  refine (shelf_Id v.id _).mono ?_
  rintro e w1 ⟨rfl, hx1⟩
  have q1 : w1.cell? ⟨w.heap.size, 1, none⟩ = some (.int .i64 v.dot.site) := hx1.cell (by go_simp)
  have q2 : w1.cell? ⟨w.heap.size, 2, none⟩ = some (.int .i64 v.dot.count) := hx1.cell (by go_simp)
  have q3 : w1.cell? ⟨w.heap.size, 3, none⟩ = some (.int .i64 v.pt.tags) := hx1.cell (by go_simp)
  have q4 : w1.cell? ⟨w.heap.size, 4, none⟩ = some (.int .i64 v.pt.num) := hx1.cell (by go_simp)
  have q5 : w1.cell? ⟨w.heap.size, 5, none⟩ = some (.int .i64 v.body) := hx1.cell (by go_simp)
  have q6 : w1.cell? ⟨w.heap.size, 6, none⟩ = some (.slice Av v.past.vec.length cv) := hx1.cell (by go_simp)
  have q7 : w1.cell? ⟨w.heap.size, 7, none⟩ = some (.slice Am v.past.more.length cm) := hx1.cell (by go_simp)
  have hx := hx0.trans hx1
  clear hx1
  cases h1 : idOk v.id
  · have HE := hid (verErr_id h1)
    clear h1
    go_wp2_with fail
    go_ret
    exact ⟨ret_int HE.out.symm, hx⟩
  · have H1 := hid h1
    clear h1
    go_wp2_with fail
    refine (know_Dot v.dot _).mono ?_
    rintro e w2 ⟨rfl, hx1⟩
    replace q1 := hx1.cell q1
    replace q2 := hx1.cell q2
    replace q3 := hx1.cell q3
    replace q4 := hx1.cell q4
    replace q5 := hx1.cell q5
    replace q6 := hx1.cell q6
    replace q7 := hx1.cell q7
    replace hx := hx.trans hx1
    clear hx1
    cases h2 : dotOk v.dot
    · have HE := hid (verErr_form H1.out (by rw [h2]; rfl))
      clear h2
      go_wp2_with fail
      go_ret
      exact ⟨ret_int HE.out.symm, hx⟩
    · have H2 := hid h2
      clear h2
      go_wp2_with fail
      refine (filter_Point v.pt _).mono ?_
      rintro e w3 ⟨rfl, hx1⟩
      replace q1 := hx1.cell q1
      replace q2 := hx1.cell q2
      replace q3 := hx1.cell q3
      replace q4 := hx1.cell q4
      replace q5 := hx1.cell q5
      replace q6 := hx1.cell q6
      replace q7 := hx1.cell q7
      replace hx := hx.trans hx1
      clear hx1
      cases h3 : pointOk v.pt
      · have HE := hid (verErr_form H1.out (by rw [h3, H2.out]; rfl))
        clear h3
        go_wp2_with fail
        go_ret
        exact ⟨ret_int HE.out.symm, hx⟩
      · have H3 := hid h3
        clear h3
        cases h4 : decide (v.body < 0)
        · cases h5 : decide (1000000 < v.body)
          · have H4 := hid (show bodyOk v.body = true by rw [body_two, h4, h5]; rfl)
            go_wp2_with fail
            refine (know_Check B v.past Av cv Am cm _ (HI.out.k.ext hx)).mono ?_
            rintro e w5 ⟨rfl, hx1⟩
            clear q3 q4 q5
            replace q1 := hx1.cell q1
            replace q2 := hx1.cell q2
            replace q6 := hx1.cell q6
            replace q7 := hx1.cell q7
            replace hx := hx.trans hx1
            clear hx1
            by_cases h6 : knowCheck v.past = 0
            · rw [h6]
              have HK := hid (knowCheck_ne h6)
              have H6 := hid h6
              clear h6
              go_wp2_with fail
              refine (know_In B v.past Av cv Am cm v.dot _ (HI.out.k.ext hx) HK.out H2.out).mono ?_
              rintro e w6 ⟨rfl, hx1⟩
              replace hx := hx.trans hx1
              clear hx1 q1 q2 q6 q7
              cases h7 : inK v.past v.dot
              · have HE := hid (verErr_ok H1.out (by rw [H2.out, H3.out, H4.out]; rfl) H6.out h7)
                go_wp2_with fail
                go_ret
                exact ⟨ret_int HE.out.symm, hx⟩
              · have HE := hid (verErr_in H1.out (by rw [H2.out, H3.out, H4.out]; rfl) H6.out h7)
                go_wp2_with fail
                go_ret
                exact ⟨ret_int HE.out.symm, hx⟩
            · have hne : (knowCheck v.past != 0) = true := by simpa using h6
              have HE := hid (verErr_know H1.out (by rw [H2.out, H3.out, H4.out]; rfl) h6)
              clear h6
              go_wp2_with fail
              go_ret
              exact ⟨ret_int HE.out.symm, hx⟩
          · have HE := hid (verErr_form H1.out (by rw [body_two, h4, h5, H3.out, H2.out]; rfl))
            go_wp2_with fail
            go_ret
            exact ⟨ret_int HE.out.symm, hx⟩
        · have HE := hid (verErr_form H1.out (by rw [body_two, h4, H3.out, H2.out]; rfl))
          go_wp2_with fail
          go_ret
          exact ⟨ret_int HE.out.symm, hx⟩

set_option maxRecDepth 100000 in
set_option maxHeartbeats 2000000 in
theorem ref_One (B : Nat) (v : Version) (Av : Option Addr) (cv : Nat) (Am : Option Addr) (cm : Nat) (w : World) (hi : InV B w Av cv Am cm v) :
    Calls Try.prog 28 #[.agg #[.string v.id, .int .i64 v.dot.site, .int .i64 v.dot.count, .int .i64 v.pt.tags, .int .i64 v.pt.num, .int .i64 v.body, .slice Av v.past.vec.length cv, .slice Am v.past.more.length cm]] w fun e w' => e = .returned (.int .i64 (verErr v)) ∧ Ext w w' := by
  have HI := hid hi
  clear hi
  have hx0 := (Ext.refl w).alloc (.cells #[.string v.id, .int .i64 v.dot.site, .int .i64 v.dot.count, .int .i64 v.pt.tags, .int .i64 v.pt.num, .int .i64 v.body, .slice Av v.past.vec.length cv, .slice Am v.past.more.length cm] 46)
  go_enter Try.func28, Try.ntmps28
  go_wp2_with fail
  refine (ref_Id v.id HI.out.lid _).mono ?_
  rintro e w1 ⟨rfl, hx1⟩
  have q1 : w1.cell? ⟨w.heap.size, 1, none⟩ = some (.int .i64 v.dot.site) := hx1.cell (by go_simp)
  have q2 : w1.cell? ⟨w.heap.size, 2, none⟩ = some (.int .i64 v.dot.count) := hx1.cell (by go_simp)
  have q3 : w1.cell? ⟨w.heap.size, 3, none⟩ = some (.int .i64 v.pt.tags) := hx1.cell (by go_simp)
  have q4 : w1.cell? ⟨w.heap.size, 4, none⟩ = some (.int .i64 v.pt.num) := hx1.cell (by go_simp)
  have q5 : w1.cell? ⟨w.heap.size, 5, none⟩ = some (.int .i64 v.body) := hx1.cell (by go_simp)
  have q6 : w1.cell? ⟨w.heap.size, 6, none⟩ = some (.slice Av v.past.vec.length cv) := hx1.cell (by go_simp)
  have q7 : w1.cell? ⟨w.heap.size, 7, none⟩ = some (.slice Am v.past.more.length cm) := hx1.cell (by go_simp)
  have hx := hx0.trans hx1
  clear hx1
  cases h1 : idOk v.id
  · have HE := hid (verErr_id h1)
    clear h1
    go_wp2_with fail
    go_ret
    exact ⟨ret_int HE.out.symm, hx⟩
  · have H1 := hid h1
    clear h1
    go_wp2_with fail
    refine (ref_Dot v.dot _).mono ?_
    rintro e w2 ⟨rfl, hx1⟩
    replace q1 := hx1.cell q1
    replace q2 := hx1.cell q2
    replace q3 := hx1.cell q3
    replace q4 := hx1.cell q4
    replace q5 := hx1.cell q5
    replace q6 := hx1.cell q6
    replace q7 := hx1.cell q7
    replace hx := hx.trans hx1
    clear hx1
    cases h2 : dotOk v.dot
    · have HE := hid (verErr_form H1.out (by rw [h2]; rfl))
      clear h2
      go_wp2_with fail
      go_ret
      exact ⟨ret_int HE.out.symm, hx⟩
    · have H2 := hid h2
      clear h2
      go_wp2_with fail
      refine (ref_Point v.pt _).mono ?_
      rintro e w3 ⟨rfl, hx1⟩
      replace q1 := hx1.cell q1
      replace q2 := hx1.cell q2
      replace q3 := hx1.cell q3
      replace q4 := hx1.cell q4
      replace q5 := hx1.cell q5
      replace q6 := hx1.cell q6
      replace q7 := hx1.cell q7
      replace hx := hx.trans hx1
      clear hx1
      cases h3 : pointOk v.pt
      · have HE := hid (verErr_form H1.out (by rw [h3, H2.out]; rfl))
        clear h3
        go_wp2_with fail
        go_ret
        exact ⟨ret_int HE.out.symm, hx⟩
      · have H3 := hid h3
        clear h3
        go_wp2_with fail
        refine (ref_within _ _ _ _).mono ?_
        rintro e w4 ⟨rfl, rfl⟩
        rw [betw_body]
        cases h4 : bodyOk v.body
        · have HE := hid (verErr_form H1.out (by rw [h4, H3.out, H2.out]; rfl))
          clear h4
          go_wp2_with fail
          go_ret
          exact ⟨ret_int HE.out.symm, hx⟩
        · have H4 := hid h4
          clear h4
          go_wp2_with fail
          refine (ref_Know B v.past Av cv Am cm _ (HI.out.k.ext hx)).mono ?_
          rintro e w5 ⟨rfl, hx1⟩
          clear q3 q4 q5
          replace q1 := hx1.cell q1
          replace q2 := hx1.cell q2
          replace q6 := hx1.cell q6
          replace q7 := hx1.cell q7
          replace hx := hx.trans hx1
          clear hx1
          by_cases h6 : knowCheck v.past = 0
          · rw [h6]
            have HK := hid (knowCheck_ne h6)
            have H6 := hid h6
            clear h6
            go_wp2_with fail
            obtain ⟨s, c, hsd, hsc, hds, hdc, hhas⟩ := dot_nat H2.out v.past
            rw [hsd] at q1
            rw [hsc] at q2
            have HDS := hid hds
            have HDC := hid hdc
            have HHas := hid hhas
            clear hsd hsc hds hdc hhas
            have HX := hid hx
            have HAll := hid (fun w' (x : Ext w5 w') => show w'.cell? ⟨w.heap.size, 1, none⟩ = some (.int .i64 (s : Int)) ∧ w'.cell? ⟨w.heap.size, 2, none⟩ = some (.int .i64 (c : Int)) ∧ w'.cell? ⟨w.heap.size, 6, none⟩ = some (.slice Av v.past.vec.length cv) ∧ w'.cell? ⟨w.heap.size, 7, none⟩ = some (.slice Am v.past.more.length cm) from ⟨x.cell q1, x.cell q2, x.cell q6, x.cell q7⟩)
            clear q1 q2 q6 q7 hx
            have hyn := (Ext.refl w5).drew
            refine wp_region_held_drew (S := fun w' => w'.cell? ⟨w.heap.size, 1, none⟩ = some (.int .i64 (s : Int)) ∧ w'.cell? ⟨w.heap.size, 2, none⟩ = some (.int .i64 (c : Int)) ∧ w'.cell? ⟨w.heap.size, 6, none⟩ = some (.slice Av v.past.vec.length cv) ∧ w'.cell? ⟨w.heap.size, 7, none⟩ = some (.slice Am v.past.more.length cm)) (by kernel_rfl) (HAll.out _ hyn) (fun hHeld => ?_)
            obtain ⟨wc, hwc⟩ : ∃ wc, wc = w5.drew := ⟨_, rfl⟩
            rw [← hwc] at hHeld hyn ⊢
            clear hwc
            refine wpAnyH_take (i := 0) (oi := _) (v := ?_) rfl (by kernel_rfl) (by kernel_rfl) (by kernel_rfl) (fun _ _ _ h => h) (Or.inl ⟨by rfl, ?_⟩) (by assumption) ?_
            rotate_left
            · intro w' hSw
              try dsimp only at hSw
              first
                | (go_simp; done)
                | (go_simp; with_reducible rfl)
            simp only [List.getElem_toArray, List.getElem_cons_zero]
            try simp only [Act.put, List.setIfInBounds_toArray, List.set_cons_zero, List.set_cons_succ]
            refine wpAnyH_take (i := 1) (oi := _) (v := ?_) rfl (by kernel_rfl) (by kernel_rfl) (by kernel_rfl) (fun _ _ _ h => h) (Or.inl ⟨by rfl, ?_⟩) (by assumption) ?_
            rotate_left
            · intro w' hSw
              try dsimp only at hSw
              first
                | (go_simp; done)
                | (go_simp; with_reducible rfl)
            simp only [List.getElem_toArray, List.getElem_cons_zero, List.getElem_cons_succ]
            try simp only [Act.put, List.setIfInBounds_toArray, List.set_cons_zero, List.set_cons_succ]
            refine wpAnyH_take (i := 3) (oi := _) (v := ?_) rfl (by kernel_rfl) (by kernel_rfl) (by kernel_rfl) (fun _ _ _ h => h) (Or.inl ⟨by rfl, ?_⟩) (by assumption) ?_
            rotate_left
            · intro w' hSw
              try dsimp only at hSw
              first
                | (go_simp; done)
                | (go_simp; with_reducible rfl)
            simp only [List.getElem_toArray, List.getElem_cons_zero, List.getElem_cons_succ]
            try simp only [Act.put, List.setIfInBounds_toArray, List.set_cons_zero, List.set_cons_succ]
            refine wpAnyH_take (i := 4) (oi := _) (v := ?_) rfl (by kernel_rfl) (by kernel_rfl) (by kernel_rfl) (fun _ _ _ h => h) (Or.inl ⟨by rfl, ?_⟩) (by assumption) ?_
            rotate_left
            · intro w' hSw
              try dsimp only at hSw
              first
                | (go_simp; done)
                | (go_simp; with_reducible rfl)
            simp only [List.getElem_toArray, List.getElem_cons_zero, List.getElem_cons_succ]
            try simp only [Act.put, List.setIfInBounds_toArray, List.set_cons_zero, List.set_cons_succ]
            refine wpAnyH_ready (rs := [2]) (by kernel_rfl) (by simp) ?_
            refine AllReadyH.cons rfl (fun K hK => ?_) AllReadyH.nil
            simp only [List.getElem_toArray, List.getElem_cons_zero, List.getElem_cons_succ]
            go_simp
            refine (ref_All B v.past Av cv Am cm wc (HI.out.k.ext (HX.out.trans hyn)) HK.out).mono ?_
            rintro e wn ⟨rfl, hxa⟩
            dsimp only
            replace hyn := hyn.trans hxa
            clear hxa
            obtain ⟨wc, rfl⟩ : ∃ wc', wc' = wn := ⟨_, rfl⟩
            refine hK.out _ _ (HAll.out _ hyn) (fun hHeld => ?_)
            clear hK K
            try simp only [Act.put, List.setIfInBounds_toArray, List.set_cons_zero, List.set_cons_succ]
            refine wpAnyH_ready (rs := [5]) (by kernel_rfl) (by simp) ?_
            refine AllReadyH.cons rfl (fun K hK => ?_) AllReadyH.nil
            simp only [List.getElem_toArray, List.getElem_cons_zero, List.getElem_cons_succ]
            go_simp
            refine (dots_Has (hasK v.past) s c wc HDS.out HDC.out).mono ?_
            rintro e wn ⟨rfl, hxa⟩
            dsimp only
            replace hyn := hyn.trans hxa
            clear hxa
            obtain ⟨wc, rfl⟩ : ∃ wc', wc' = wn := ⟨_, rfl⟩
            refine hK.out _ _ (HAll.out _ hyn) (fun hHeld => ?_)
            clear hK K
            try simp only [Act.put, List.setIfInBounds_toArray, List.set_cons_zero, List.set_cons_succ]
            refine wpAnyH_done (by kernel_rfl) ?_ _
            rw [HHas.out]
            have hx := HX.out.trans hyn
            clear hyn hHeld
            cases h7 : inK v.past v.dot
            · have HE := hid (verErr_ok H1.out (by rw [H2.out, H3.out, H4.out]; rfl) H6.out h7)
              go_wp2_with fail
              go_ret
              exact ⟨ret_int HE.out.symm, hx⟩
            · have HE := hid (verErr_in H1.out (by rw [H2.out, H3.out, H4.out]; rfl) H6.out h7)
              go_wp2_with fail
              go_ret
              exact ⟨ret_int HE.out.symm, hx⟩
          · have hne : (knowCheck v.past != 0) = true := by simpa using h6
            have HE := hid (verErr_know H1.out (by rw [H2.out, H3.out, H4.out]; rfl) h6)
            clear h6
            go_wp2_with fail
            go_ret
            exact ⟨ret_int HE.out.symm, hx⟩

end Go.Proofs.Ytmedmfjhpabfdaa
