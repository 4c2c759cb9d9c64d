/- THE LAW WireSame: whatever batches are handed in, Same answers what the document says. The conditions are the statement's own. -/
import Derived.Test.YtmedmfjhpabfdaaRows
import Derived.Test.YtmedmfjhpabfdaaWireC
import Derived.Test.YtmedmfjhpabfdaaJoinWireE
import Derived.Test.YtmedmfjhpabfdaaShelfH
namespace Go.Proofs.Ytmedmfjhpabfdaa
open Go Go.RowKit

theorem own_wire : wireErr ⟨-1, 0, [], [], []⟩ = 1 := by rw [wireErr, if_neg (by simp)]
theorem own_sameE : sameErr ⟨-1, 0, [], [], []⟩ ⟨0, 0, [], [], []⟩ = 1 := by rw [sameErr, own_wire]; rfl
theorem own_sameO : sameOut ⟨-1, 0, [], [], []⟩ ⟨0, 0, [], [], []⟩ = false := by rw [sameOut, own_sameE]; rfl

set_option maxRecDepth 100000 in
set_option maxHeartbeats 4000000 in
theorem law_WireSame (B : Nat) (a b : Batch) (Ax : Option Addr) (cx : Nat) (Ag : Option Addr) (cg : Nat) (Ap : Option Addr) (cp : Nat) (Bx : Option Addr) (dx : Nat) (Bg : Option Addr) (dg : Nat) (Bp : Option Addr) (dp : Nat) (w : World) (hBw : B ≤ w.heap.size) (ha : InB B w Ax cx Ag cg Ap cp a) (hb : InB B w Bx dx Bg dg Bp dp b) :
    Calls Try.prog 7 #[.agg #[.int .i64 a.site, .int .i64 a.stamp, .slice Ax a.vers.length cx, .slice Ag a.gone.length cg, .slice Ap a.parts.length cp], .agg #[.int .i64 b.site, .int .i64 b.stamp, .slice Bx b.vers.length dx, .slice Bg b.gone.length dg, .slice Bp b.parts.length dp]] w fun e w' => e = .returned (.bool true) ∧ Ext w w' := by
  have HA := hid ha
  have HB := hid hb
  have hx := ((Ext.refl w).alloc (.cells #[.int .i64 a.site, .int .i64 a.stamp, .slice Ax a.vers.length cx, .slice Ag a.gone.length cg, .slice Ap a.parts.length cp] 26)).alloc (.cells #[.int .i64 b.site, .int .i64 b.stamp, .slice Bx b.vers.length dx, .slice Bg b.gone.length dg, .slice Bp b.parts.length dp] 26)
  have hba := (Blk.new w 26 #[.int .i64 a.site, .int .i64 a.stamp, .slice Ax a.vers.length cx, .slice Ag a.gone.length cg, .slice Ap a.parts.length cp]).ext ((Ext.refl _).alloc (.cells #[.int .i64 b.site, .int .i64 b.stamp, .slice Bx b.vers.length dx, .slice Bg b.gone.length dg, .slice Bp b.parts.length dp] 26))
  have hbb := Blk.new (w.alloc (.cells #[.int .i64 a.site, .int .i64 a.stamp, .slice Ax a.vers.length cx, .slice Ag a.gone.length cg, .slice Ap a.parts.length cp] 26)) 26 #[.int .i64 b.site, .int .i64 b.stamp, .slice Bx b.vers.length dx, .slice Bg b.gone.length dg, .slice Bp b.parts.length dp]
  rw [World.size_alloc] at hbb
  clear ha hb
  go_enter Try.func7, Try.ntmps7
  go_wp2_with fail
  refine (wire_Same B a b Ax cx Ag cg Ap cp Bx dx Bg dg Bp dp _ (Nat.le_trans hBw hx.size) (HA.out.ext hx) (HB.out.ext hx)).mono ?_
  rintro e w1 ⟨rfl, hx1⟩
  replace hba := hba.ext hx1
  replace hbb := hbb.ext hx1
  replace hx := hx.trans hx1
  clear hx1
  obtain ⟨S1, hS1⟩ : ∃ x, x = sameOut a b := ⟨_, rfl⟩
  obtain ⟨E1, hE1⟩ : ∃ x, x = sameErr a b := ⟨_, rfl⟩
  rw [← hS1, ← hE1]
  have HO1 := hid hS1
  have HE1 := hid hE1
  clear hS1 hE1
  obtain ⟨r0, hr0⟩ : ∃ r, r = w.heap.size := ⟨_, rfl⟩
  obtain ⟨r1, hr1⟩ : ∃ r, r = w.heap.size + 1 := ⟨_, rfl⟩
  rw [← hr1] at hbb ⊢
  rw [← hr0] at hba ⊢
  clear hr0 hr1
  go_wp2_with fail
  refine (wire_Same 0 ⟨-1, 0, [], [], []⟩ ⟨0, 0, [], [], []⟩ none 0 none 0 none 0 none 0 none 0 none 0 _ (Nat.zero_le _) InB.empty InB.empty).mono ?_
  rintro e w2 ⟨rfl, hx2⟩
  rw [own_sameE, own_sameO]
  replace hba := hba.ext hx2
  replace hbb := hbb.ext hx2
  replace hx := hx.trans hx2
  clear hx2
  have y0 := hba.cell (i := 0) (u := .int .i64 a.site) rfl
  have y1 := hba.cell (i := 1) (u := .int .i64 a.stamp) rfl
  have y2 := hba.cell (i := 2) (u := .slice Ax a.vers.length cx) rfl
  have y3 := hba.cell (i := 3) (u := .slice Ag a.gone.length cg) rfl
  have y4 := hba.cell (i := 4) (u := .slice Ap a.parts.length cp) rfl
  go_wp2_with fail
  refine (ref_Batch B a Ax cx Ag cg Ap cp _ (HA.out.ext hx)).mono ?_
  rintro e w3 ⟨rfl, hx3⟩
  clear y0 y1 y2 y3 y4
  replace hba := hba.ext hx3
  replace hbb := hbb.ext hx3
  replace hx := hx.trans hx3
  clear hx3
  have y0 := hba.cell (i := 0) (u := .int .i64 a.site) rfl
  have y1 := hba.cell (i := 1) (u := .int .i64 a.stamp) rfl
  have y2 := hba.cell (i := 2) (u := .slice Ax a.vers.length cx) rfl
  have y3 := hba.cell (i := 3) (u := .slice Ag a.gone.length cg) rfl
  have y4 := hba.cell (i := 4) (u := .slice Ap a.parts.length cp) rfl
  by_cases h0 : wireErr a = 0
  · have HOA := hid (wireErr_ok h0)
    have HEB := hid (show E1 = wireErr b by rw [HE1.out, sameErr, if_pos h0])
    have e1 : decide ((1000000 : Int) < a.stamp) = false := decide_eq_false (by have := HOA.out.t1; omega)
    have hba0 : batchErr a = 0 := by
      rw [← h0, ← want_wire, wantErr, if_neg (by have := HOA.out.t1; omega)]
    rw [hba0]
    have H0 := hid h0
    clear h0 hba0
    have z0 := hbb.cell (i := 0) (u := .int .i64 b.site) rfl
    have z1 := hbb.cell (i := 1) (u := .int .i64 b.stamp) rfl
    have z2 := hbb.cell (i := 2) (u := .slice Bx b.vers.length dx) rfl
    have z3 := hbb.cell (i := 3) (u := .slice Bg b.gone.length dg) rfl
    have z4 := hbb.cell (i := 4) (u := .slice Bp b.parts.length dp) rfl
    go_wp2_with fail
    refine (ref_Batch B b Bx dx Bg dg Bp dp _ (HB.out.ext hx)).mono ?_
    rintro e w4 ⟨rfl, hx4⟩
    clear e1
    clear y0 y1 y2 y3 y4
    clear z0 z1 z2 z3 z4
    replace hba := hba.ext hx4
    replace hbb := hbb.ext hx4
    replace hx := hx.trans hx4
    clear hx4
    have y0 := hba.cell (i := 0) (u := .int .i64 a.site) rfl
    have y1 := hba.cell (i := 1) (u := .int .i64 a.stamp) rfl
    have y2 := hba.cell (i := 2) (u := .slice Ax a.vers.length cx) rfl
    have y3 := hba.cell (i := 3) (u := .slice Ag a.gone.length cg) rfl
    have y4 := hba.cell (i := 4) (u := .slice Ap a.parts.length cp) rfl
    have z0 := hbb.cell (i := 0) (u := .int .i64 b.site) rfl
    have z1 := hbb.cell (i := 1) (u := .int .i64 b.stamp) rfl
    have z2 := hbb.cell (i := 2) (u := .slice Bx b.vers.length dx) rfl
    have z3 := hbb.cell (i := 3) (u := .slice Bg b.gone.length dg) rfl
    have z4 := hbb.cell (i := 4) (u := .slice Bp b.parts.length dp) rfl
    by_cases h1 : wireErr b = 0
    · have HOB := hid (wireErr_ok h1)
      have e1 : decide ((1000000 : Int) < b.stamp) = false := decide_eq_false (by have := HOB.out.t1; omega)
      have hbb0 : batchErr b = 0 := by
        rw [← h1, ← want_wire, wantErr, if_neg (by have := HOB.out.t1; omega)]
      rw [hbb0]
      have hE : E1 = 0 := HEB.out.trans h1
      subst hE
      clear hbb0 HEB
      obtain ⟨MA, hMA⟩ : ∃ m, m = a.parts.map meanOf := ⟨_, rfl⟩
      obtain ⟨MB, hMB⟩ : ∃ m, m = b.parts.map meanOf := ⟨_, rfl⟩
      have HMA := hid hMA
      have HMB := hid hMB
      have HLA := hid (show MA.length ≤ maxLen by rw [hMA, List.length_map]; exact HA.out.mx.2.2)
      obtain ⟨Z, hZ⟩ : ∃ z, z = sameL eqR MA MB := ⟨_, rfl⟩
      have HZ := hid hZ
      have HS1 := hid (show S1 = (sameB a b && sameL eqR MA MB) by
        rw [HO1.out, sameOut, if_pos (by rw [← HE1.out]), wireSame_eq HOA.out.toTailOk HOB.out.toTailOk, hMA, hMB])
      clear h1 hMA hMB hZ HO1
      go_wp2_with fail
      clear y0 y1 y2 y3 y4
      clear z0 z1 z2 z3 z4
      clear e1
      have HX := hid hx
      have HBA := hid hba
      have HBB := hid hbb
      have HAll := hid (fun w' (x : Ext w4 w') => show w'.cell? ⟨r0, 0, none⟩ = some (.int .i64 a.site) ∧ w'.cell? ⟨r0, 1, none⟩ = some (.int .i64 a.stamp) ∧ w'.cell? ⟨r0, 2, none⟩ = some (.slice Ax a.vers.length cx) ∧ w'.cell? ⟨r0, 3, none⟩ = some (.slice Ag a.gone.length cg) ∧ w'.cell? ⟨r0, 4, none⟩ = some (.slice Ap a.parts.length cp) ∧ w'.cell? ⟨r1, 0, none⟩ = some (.int .i64 b.site) ∧ w'.cell? ⟨r1, 1, none⟩ = some (.int .i64 b.stamp) ∧ w'.cell? ⟨r1, 2, none⟩ = some (.slice Bx b.vers.length dx) ∧ w'.cell? ⟨r1, 3, none⟩ = some (.slice Bg b.gone.length dg) ∧ w'.cell? ⟨r1, 4, none⟩ = some (.slice Bp b.parts.length dp) from
        ⟨(HBA.out.ext x).cell rfl, (HBA.out.ext x).cell rfl, (HBA.out.ext x).cell rfl, (HBA.out.ext x).cell rfl, (HBA.out.ext x).cell rfl, (HBB.out.ext x).cell rfl, (HBB.out.ext x).cell rfl, (HBB.out.ext x).cell rfl, (HBB.out.ext x).cell rfl, (HBB.out.ext x).cell rfl⟩)
      clear hx hba hbb
      have hyn := (Ext.refl w4).drew
      refine wp_region_held_drew (S := fun w' => w'.cell? ⟨r0, 0, none⟩ = some (.int .i64 a.site) ∧ w'.cell? ⟨r0, 1, none⟩ = some (.int .i64 a.stamp) ∧ w'.cell? ⟨r0, 2, none⟩ = some (.slice Ax a.vers.length cx) ∧ w'.cell? ⟨r0, 3, none⟩ = some (.slice Ag a.gone.length cg) ∧ w'.cell? ⟨r0, 4, none⟩ = some (.slice Ap a.parts.length cp) ∧ w'.cell? ⟨r1, 0, none⟩ = some (.int .i64 b.site) ∧ w'.cell? ⟨r1, 1, none⟩ = some (.int .i64 b.stamp) ∧ w'.cell? ⟨r1, 2, none⟩ = some (.slice Bx b.vers.length dx) ∧ w'.cell? ⟨r1, 3, none⟩ = some (.slice Bg b.gone.length dg) ∧ w'.cell? ⟨r1, 4, none⟩ = some (.slice Bp b.parts.length dp)) (by kernel_rfl) (HAll.out _ hyn) (fun hHeld => ?_)
      obtain ⟨wc, hwc⟩ : ∃ wc, wc = w4.drew := ⟨_, rfl⟩
      rw [← hwc] at hHeld hyn ⊢
      clear hwc
      refine wpAnyH_take (i := 0) (oi := _) (v := ?_) rfl (by kernel_rfl) (by kernel_rfl) (by kernel_rfl) (fun _ _ _ h => h) (Or.inl ⟨by rfl, ?_⟩) (by assumption) ?_
      rotate_left
      · intro w' hSw
        try dsimp only at hSw
        first
          | (go_simp; done)
          | (go_simp; with_reducible rfl)
      simp only [List.getElem_toArray, List.getElem_cons_zero]
      try simp only [Act.put, List.setIfInBounds_toArray, List.set_cons_zero, List.set_cons_succ]
      refine wpAnyH_take (i := 1) (oi := _) (v := ?_) rfl (by kernel_rfl) (by kernel_rfl) (by kernel_rfl) (fun _ _ _ h => h) (Or.inl ⟨by rfl, ?_⟩) (by assumption) ?_
      rotate_left
      · intro w' hSw
        try dsimp only at hSw
        first
          | (go_simp; done)
          | (go_simp; with_reducible rfl)
      simp only [List.getElem_toArray, List.getElem_cons_zero, List.getElem_cons_succ]
      try simp only [Act.put, List.setIfInBounds_toArray, List.set_cons_zero, List.set_cons_succ]
      refine wpAnyH_ready (rs := [2, 3]) (by kernel_rfl) (by simp) ?_
      refine AllReadyH.cons rfl (fun K hK => ?_) ?_
      · simp only [List.getElem_toArray, List.getElem_cons_zero, List.getElem_cons_succ]
        go_simp
        have hxa := (Ext.refl wc).alloc (.cells #[.int .i64 0, .int .i64 0, .slice none 0 0, .slice none 0 0, .slice none 0 0] 26)
        have hn2 := Blk.new wc 26 #[.int .i64 0, .int .i64 0, .slice none 0 0, .slice none 0 0, .slice none 0 0]
        obtain ⟨wn, hwn⟩ : ∃ wn, wn = wc.alloc (.cells #[.int .i64 0, .int .i64 0, .slice none 0 0, .slice none 0 0, .slice none 0 0] 26) := ⟨_, rfl⟩
        obtain ⟨a2, ha⟩ : ∃ a, a = wc.heap.size := ⟨_, rfl⟩
        have hge2 : w4.heap.size ≤ a2 := by rw [ha]; exact hyn.size
        rw [← hwn] at hxa hn2
        rw [← hwn, ← ha]
        rw [← ha] at hn2
        replace hyn := hyn.trans hxa
        clear hxa hwn ha
        obtain ⟨wc, rfl⟩ : ∃ wc', wc' = wn := ⟨_, rfl⟩
        refine hK.out _ _ (HAll.out _ hyn) (fun hHeld => ?_)
        clear hK K
        try simp only [Act.put, List.setIfInBounds_toArray, List.set_cons_zero, List.set_cons_succ]
        refine wpAnyH_ready (rs := [3]) (by kernel_rfl) (by simp) ?_
        refine AllReadyH.cons rfl (fun K hK => ?_) AllReadyH.nil
        simp only [List.getElem_toArray, List.getElem_cons_zero, List.getElem_cons_succ]
        go_simp
        have hxa := (Ext.refl wc).alloc (.cells #[.int .i64 0, .int .i64 0, .slice none 0 0, .slice none 0 0, .slice none 0 0] 26)
        have hn3 := Blk.new wc 26 #[.int .i64 0, .int .i64 0, .slice none 0 0, .slice none 0 0, .slice none 0 0]
        obtain ⟨wn, hwn⟩ : ∃ wn, wn = wc.alloc (.cells #[.int .i64 0, .int .i64 0, .slice none 0 0, .slice none 0 0, .slice none 0 0] 26) := ⟨_, rfl⟩
        obtain ⟨a3, ha⟩ : ∃ a, a = wc.heap.size := ⟨_, rfl⟩
        have hge3 : w4.heap.size ≤ a3 := by rw [ha]; exact hyn.size
        have hne : a2 ≠ a3 := by have := hn2.lt; omega
        replace hn2 := hn2.ext hxa
        rw [← hwn] at hxa hn2 hn3
        rw [← hwn, ← ha]
        rw [← ha] at hn3
        replace hyn := hyn.trans hxa
        clear hxa hwn ha
        obtain ⟨wc, rfl⟩ : ∃ wc', wc' = wn := ⟨_, rfl⟩
        refine hK.out _ _ (HAll.out _ hyn) (fun hHeld => ?_)
        clear hK K
        try simp only [Act.put, List.setIfInBounds_toArray, List.set_cons_zero, List.set_cons_succ]
        refine wpAnyH_ready (rs := [4]) (by kernel_rfl) (by simp) ?_
        refine AllReadyH.cons rfl (fun K hK => ?_) AllReadyH.nil
        simp only [List.getElem_toArray, List.getElem_cons_zero, List.getElem_cons_succ]
        simp only [Region.wanted, if_true]
        refine wp_storeRow ri_batch _ _ rfl rfl rfl hn2 rfl rfl (by kernel_rfl) ?_
        intro wn hbl hm hsz ho
        have hn2' := hm
        have hoth := hn3.other ho (by omega)
        clear hn2 hn3 hm
        have hn2 := hn2'
        have hn3 := hoth
        replace hyn := hyn.below hbl hge2
        clear hbl hsz ho hoth hn2'
        obtain ⟨wc, rfl⟩ : ∃ wc', wc' = wn := ⟨_, rfl⟩
        refine hK.out _ _ (HAll.out _ hyn) (fun hHeld => ?_)
        clear hK K
        try simp only [Act.put, List.setIfInBounds_toArray, List.set_cons_zero, List.set_cons_succ]
        refine wpAnyH_ready (rs := [5]) (by kernel_rfl) (by simp) ?_
        refine AllReadyH.cons rfl (fun K hK => ?_) AllReadyH.nil
        simp only [List.getElem_toArray, List.getElem_cons_zero, List.getElem_cons_succ]
        simp only [Region.wanted, if_true]
        refine wp_storeRow ri_batch _ _ rfl rfl rfl hn3 rfl rfl (by kernel_rfl) ?_
        intro wn hbl hm hsz ho
        have hn3' := hm
        have hoth := hn2.other ho (by omega)
        clear hn3 hn2 hm
        have hn3 := hn3'
        have hn2 := hoth
        replace hyn := hyn.below hbl hge3
        clear hbl hsz ho hoth hn3'
        obtain ⟨wc, rfl⟩ : ∃ wc', wc' = wn := ⟨_, rfl⟩
        refine hK.out _ _ (HAll.out _ hyn) (fun hHeld => ?_)
        clear hK K
        try simp only [Act.put, List.setIfInBounds_toArray, List.set_cons_zero, List.set_cons_succ]
        refine wpAnyH_done (by kernel_rfl) ?_ _
        have hx := HX.out.trans hyn
        have hba := HBA.out.ext hyn
        have hbb := HBB.out.ext hyn
        have y4 := hn2.cell (i := 4) (u := .slice Ap a.parts.length cp) rfl
        have z4 := hn3.cell (i := 4) (u := .slice Bp b.parts.length dp) rfl
        have yf := hn2.frozen 4
        have zf := hn3.frozen 4
        go_wp2_with fail
        clear y4 z4 yf zf
        have hm2 : Blk ((wc.setCell ⟨a2, 4, none⟩ (.slice none 0 0)).setCell ⟨a3, 4, none⟩ (.slice none 0 0)) a2 26 #[.int .i64 a.site, .int .i64 a.stamp, .slice Ax a.vers.length cx, .slice Ag a.gone.length cg, .slice none 0 0] := (hn2.set 4 (.slice none 0 0)).far (p := ⟨a3, 4, none⟩) (show a2 ≠ a3 by omega) _
        have hm3 : Blk ((wc.setCell ⟨a2, 4, none⟩ (.slice none 0 0)).setCell ⟨a3, 4, none⟩ (.slice none 0 0)) a3 26 #[.int .i64 b.site, .int .i64 b.stamp, .slice Bx b.vers.length dx, .slice Bg b.gone.length dg, .slice none 0 0] := (hn3.far (p := ⟨a2, 4, none⟩) (show a3 ≠ a2 by omega) (.slice none 0 0)).set 4 (.slice none 0 0)
        have hxs := ((Ext.refl w4).below (k := hyn) (Nat.le_refl _))
        replace hxs := (hxs.setCell (p := ⟨a2, 4, none⟩) hge2 (.slice none 0 0)).setCell (p := ⟨a3, 4, none⟩) hge3 (.slice none 0 0)
        obtain ⟨w5, hw5⟩ : ∃ w5, w5 = (wc.setCell ⟨a2, 4, none⟩ (.slice none 0 0)).setCell ⟨a3, 4, none⟩ (.slice none 0 0) := ⟨_, rfl⟩
        rw [← hw5] at hm2 hm3 hxs ⊢
        clear hw5 hn2 hn3 hge2 hge3 hne hx hba hbb hyn hHeld
        have hba := HBA.out.ext hxs
        have hbb := HBB.out.ext hxs
        have hx := HX.out.trans hxs
        clear hxs HX HBA HBB HAll
        have HX := hid hx
        have HAll := hid (fun w' (x : Ext w5 w') => show w'.cell? ⟨a2, 0, none⟩ = some (.int .i64 a.site) ∧ w'.cell? ⟨a2, 1, none⟩ = some (.int .i64 a.stamp) ∧ w'.cell? ⟨a2, 2, none⟩ = some (.slice Ax a.vers.length cx) ∧ w'.cell? ⟨a2, 3, none⟩ = some (.slice Ag a.gone.length cg) ∧ w'.cell? ⟨a2, 4, none⟩ = some (.slice none 0 0) ∧ w'.cell? ⟨a3, 0, none⟩ = some (.int .i64 b.site) ∧ w'.cell? ⟨a3, 1, none⟩ = some (.int .i64 b.stamp) ∧ w'.cell? ⟨a3, 2, none⟩ = some (.slice Bx b.vers.length dx) ∧ w'.cell? ⟨a3, 3, none⟩ = some (.slice Bg b.gone.length dg) ∧ w'.cell? ⟨a3, 4, none⟩ = some (.slice none 0 0) ∧ w'.cell? ⟨r0, 4, none⟩ = some (.slice Ap a.parts.length cp) ∧ w'.cell? ⟨r1, 4, none⟩ = some (.slice Bp b.parts.length dp) from
          ⟨(hm2.ext x).cell rfl, (hm2.ext x).cell rfl, (hm2.ext x).cell rfl, (hm2.ext x).cell rfl, (hm2.ext x).cell rfl, (hm3.ext x).cell rfl, (hm3.ext x).cell rfl, (hm3.ext x).cell rfl, (hm3.ext x).cell rfl, (hm3.ext x).cell rfl, (hba.ext x).cell rfl, (hbb.ext x).cell rfl⟩)
        clear hm2 hm3 hba hbb hx
        have hyn := (Ext.refl w5).drew
        refine wp_region_held_drew (S := fun w' => w'.cell? ⟨a2, 0, none⟩ = some (.int .i64 a.site) ∧ w'.cell? ⟨a2, 1, none⟩ = some (.int .i64 a.stamp) ∧ w'.cell? ⟨a2, 2, none⟩ = some (.slice Ax a.vers.length cx) ∧ w'.cell? ⟨a2, 3, none⟩ = some (.slice Ag a.gone.length cg) ∧ w'.cell? ⟨a2, 4, none⟩ = some (.slice none 0 0) ∧ w'.cell? ⟨a3, 0, none⟩ = some (.int .i64 b.site) ∧ w'.cell? ⟨a3, 1, none⟩ = some (.int .i64 b.stamp) ∧ w'.cell? ⟨a3, 2, none⟩ = some (.slice Bx b.vers.length dx) ∧ w'.cell? ⟨a3, 3, none⟩ = some (.slice Bg b.gone.length dg) ∧ w'.cell? ⟨a3, 4, none⟩ = some (.slice none 0 0) ∧ w'.cell? ⟨r0, 4, none⟩ = some (.slice Ap a.parts.length cp) ∧ w'.cell? ⟨r1, 4, none⟩ = some (.slice Bp b.parts.length dp)) (by kernel_rfl) (HAll.out _ hyn) (fun hHeld => ?_)
        obtain ⟨wc, hwc⟩ : ∃ wc, wc = w5.drew := ⟨_, rfl⟩
        rw [← hwc] at hHeld hyn ⊢
        clear hwc
        cases hs : sameB a b
        · have HSB := hid (show sameB a.bare b.bare = false from hs)
          have hS : S1 = false := by rw [HS1.out, hs]; rfl
          subst hS
          clear hs
          refine wpAnyH_take (i := 0) (oi := _) (v := ?_) rfl (by kernel_rfl) (by kernel_rfl) (by kernel_rfl) (fun _ _ _ h => h) (Or.inl ⟨by rfl, ?_⟩) (by assumption) ?_
          rotate_left
          · intro w' hSw
            try dsimp only at hSw
            first
              | (go_simp; done)
              | (go_simp; with_reducible rfl)
          simp only [List.getElem_toArray, List.getElem_cons_zero]
          try simp only [Act.put, List.setIfInBounds_toArray, List.set_cons_zero, List.set_cons_succ]
          refine wpAnyH_take (i := 1) (oi := _) (v := ?_) rfl (by kernel_rfl) (by kernel_rfl) (by kernel_rfl) (fun _ _ _ h => h) (Or.inl ⟨by rfl, ?_⟩) (by assumption) ?_
          rotate_left
          · intro w' hSw
            try dsimp only at hSw
            first
              | (go_simp; done)
              | (go_simp; with_reducible rfl)
          simp only [List.getElem_toArray, List.getElem_cons_zero, List.getElem_cons_succ]
          try simp only [Act.put, List.setIfInBounds_toArray, List.set_cons_zero, List.set_cons_succ]
          refine wpAnyH_ready (rs := [2]) (by kernel_rfl) (by simp) ?_
          refine AllReadyH.cons rfl (fun K hK => ?_) AllReadyH.nil
          simp only [List.getElem_toArray, List.getElem_cons_zero, List.getElem_cons_succ]
          go_simp
          refine (ref_SameBatch B B a.bare b.bare Ax cx Ag cg Bx dx Bg dg wc (HA.out.bare.ext (HX.out.trans hyn)) (HB.out.bare.ext (HX.out.trans hyn)) rfl rfl).mono ?_
          rintro e wn ⟨rfl, hxa⟩
          rw [HSB.out]
          dsimp only
          replace hyn := hyn.trans hxa
          clear hxa
          obtain ⟨wc, rfl⟩ : ∃ wc', wc' = wn := ⟨_, rfl⟩
          refine hK.out _ _ (HAll.out _ hyn) (fun hHeld => ?_)
          clear hK K
          try simp only [Act.put, List.setIfInBounds_toArray, List.set_cons_zero, List.set_cons_succ]
          refine wpAnyH_take (i := 3) (oi := _) (v := ?_) rfl (by kernel_rfl) (by kernel_rfl) (by kernel_rfl) (fun _ _ _ h => h) (Or.inl ⟨by rfl, ?_⟩) (by assumption) ?_
          rotate_left
          · intro w' hSw
            try dsimp only at hSw
            first
              | (go_simp; done)
              | (go_simp; with_reducible rfl)
          simp only [List.getElem_toArray, List.getElem_cons_zero, List.getElem_cons_succ]
          try simp only [Act.put, List.setIfInBounds_toArray, List.set_cons_zero, List.set_cons_succ]
          refine wpAnyH_take (i := 4) (oi := _) (v := undef) rfl (by kernel_rfl) (by kernel_rfl) (by kernel_rfl) (fun _ _ _ h => h) (Or.inr ⟨by rfl, rfl⟩) (by assumption) ?_
          simp only [List.getElem_toArray, List.getElem_cons_zero, List.getElem_cons_succ]
          try simp only [Act.put, List.setIfInBounds_toArray, List.set_cons_zero, List.set_cons_succ]
          refine wpAnyH_take (i := 5) (oi := _) (v := undef) rfl (by kernel_rfl) (by kernel_rfl) (by kernel_rfl) (fun _ _ _ h => h) (Or.inr ⟨by rfl, rfl⟩) (by assumption) ?_
          simp only [List.getElem_toArray, List.getElem_cons_zero, List.getElem_cons_succ]
          try simp only [Act.put, List.setIfInBounds_toArray, List.set_cons_zero, List.set_cons_succ]
          refine wpAnyH_take (i := 6) (oi := _) (v := undef) rfl (by kernel_rfl) (by kernel_rfl) (by kernel_rfl) (fun _ _ _ h => h) (Or.inr ⟨by rfl, rfl⟩) (by assumption) ?_
          simp only [List.getElem_toArray, List.getElem_cons_zero, List.getElem_cons_succ]
          try simp only [Act.put, List.setIfInBounds_toArray, List.set_cons_zero, List.set_cons_succ]
          refine wpAnyH_take (i := 7) (oi := _) (v := undef) rfl (by kernel_rfl) (by kernel_rfl) (by kernel_rfl) (fun _ _ _ h => h) (Or.inr ⟨by rfl, rfl⟩) (by assumption) ?_
          simp only [List.getElem_toArray, List.getElem_cons_zero, List.getElem_cons_succ]
          try simp only [Act.put, List.setIfInBounds_toArray, List.set_cons_zero, List.set_cons_succ]
          refine wpAnyH_take (i := 8) (oi := _) (v := undef) rfl (by kernel_rfl) (by kernel_rfl) (by kernel_rfl) (fun _ _ _ h => h) (Or.inr ⟨by rfl, rfl⟩) (by assumption) ?_
          simp only [List.getElem_toArray, List.getElem_cons_zero, List.getElem_cons_succ]
          try simp only [Act.put, List.setIfInBounds_toArray, List.set_cons_zero, List.set_cons_succ]
          refine wpAnyH_take (i := 9) (oi := _) (v := undef) rfl (by kernel_rfl) (by kernel_rfl) (by kernel_rfl) (fun _ _ _ h => h) (Or.inr ⟨by rfl, rfl⟩) (by assumption) ?_
          simp only [List.getElem_toArray, List.getElem_cons_zero, List.getElem_cons_succ]
          try simp only [Act.put, List.setIfInBounds_toArray, List.set_cons_zero, List.set_cons_succ]
          refine wpAnyH_take (i := 10) (oi := _) (v := undef) rfl (by kernel_rfl) (by kernel_rfl) (by kernel_rfl) (fun _ _ _ h => h) (Or.inr ⟨by rfl, rfl⟩) (by assumption) ?_
          simp only [List.getElem_toArray, List.getElem_cons_zero, List.getElem_cons_succ]
          try simp only [Act.put, List.setIfInBounds_toArray, List.set_cons_zero, List.set_cons_succ]
          refine wpAnyH_take (i := 11) (oi := _) (v := ?_) rfl (by kernel_rfl) (by kernel_rfl) (by kernel_rfl) (fun _ _ _ h => h) (Or.inl ⟨by rfl, ?_⟩) (by assumption) ?_
          rotate_left
          · intro w' hSw
            try dsimp only at hSw
            first
              | (go_simp; done)
              | (go_simp; with_reducible rfl)
          simp only [List.getElem_toArray, List.getElem_cons_zero, List.getElem_cons_succ]
          try simp only [Act.put, List.setIfInBounds_toArray, List.set_cons_zero, List.set_cons_succ]
          refine wpAnyH_take (i := 12) (oi := _) (v := ?_) rfl (by kernel_rfl) (by kernel_rfl) (by kernel_rfl) (fun _ _ _ h => h) (Or.inl ⟨by rfl, ?_⟩) (by assumption) ?_
          rotate_left
          · intro w' hSw
            try dsimp only at hSw
            first
              | (go_simp; done)
              | (go_simp; with_reducible rfl)
          simp only [List.getElem_toArray, List.getElem_cons_zero, List.getElem_cons_succ]
          try simp only [Act.put, List.setIfInBounds_toArray, List.set_cons_zero, List.set_cons_succ]
          refine wpAnyH_done (by kernel_rfl) ?_ _
          have hx := HX.out.trans hyn
          go_wp2_with fail
          go_ret
          exact ⟨rfl, hx⟩
        · have HSB := hid (show sameB a.bare b.bare = true from hs)
          have hS : S1 = Z := by rw [HS1.out, hs, HZ.out]; rfl
          subst hS
          clear hs
          refine wpAnyH_take (i := 0) (oi := _) (v := ?_) rfl (by kernel_rfl) (by kernel_rfl) (by kernel_rfl) (fun _ _ _ h => h) (Or.inl ⟨by rfl, ?_⟩) (by assumption) ?_
          rotate_left
          · intro w' hSw
            try dsimp only at hSw
            first
              | (go_simp; done)
              | (go_simp; with_reducible rfl)
          simp only [List.getElem_toArray, List.getElem_cons_zero]
          try simp only [Act.put, List.setIfInBounds_toArray, List.set_cons_zero, List.set_cons_succ]
          refine wpAnyH_take (i := 1) (oi := _) (v := ?_) rfl (by kernel_rfl) (by kernel_rfl) (by kernel_rfl) (fun _ _ _ h => h) (Or.inl ⟨by rfl, ?_⟩) (by assumption) ?_
          rotate_left
          · intro w' hSw
            try dsimp only at hSw
            first
              | (go_simp; done)
              | (go_simp; with_reducible rfl)
          simp only [List.getElem_toArray, List.getElem_cons_zero, List.getElem_cons_succ]
          try simp only [Act.put, List.setIfInBounds_toArray, List.set_cons_zero, List.set_cons_succ]
          refine wpAnyH_ready (rs := [2]) (by kernel_rfl) (by simp) ?_
          refine AllReadyH.cons rfl (fun K hK => ?_) AllReadyH.nil
          simp only [List.getElem_toArray, List.getElem_cons_zero, List.getElem_cons_succ]
          go_simp
          refine (ref_SameBatch B B a.bare b.bare Ax cx Ag cg Bx dx Bg dg wc (HA.out.bare.ext (HX.out.trans hyn)) (HB.out.bare.ext (HX.out.trans hyn)) rfl rfl).mono ?_
          rintro e wn ⟨rfl, hxa⟩
          rw [HSB.out]
          dsimp only
          replace hyn := hyn.trans hxa
          clear hxa
          obtain ⟨wc, rfl⟩ : ∃ wc', wc' = wn := ⟨_, rfl⟩
          refine hK.out _ _ (HAll.out _ hyn) (fun hHeld => ?_)
          clear hK K
          try simp only [Act.put, List.setIfInBounds_toArray, List.set_cons_zero, List.set_cons_succ]
          refine wpAnyH_take (i := 3) (oi := _) (v := ?_) rfl (by kernel_rfl) (by kernel_rfl) (by kernel_rfl) (fun _ _ _ h => h) (Or.inl ⟨by rfl, ?_⟩) (by assumption) ?_
          rotate_left
          · intro w' hSw
            try dsimp only at hSw
            first
              | (go_simp; done)
              | (go_simp; with_reducible rfl)
          simp only [List.getElem_toArray, List.getElem_cons_zero, List.getElem_cons_succ]
          try simp only [Act.put, List.setIfInBounds_toArray, List.set_cons_zero, List.set_cons_succ]
          refine wpAnyH_take (i := 4) (oi := _) (v := ?_) rfl (by kernel_rfl) (by kernel_rfl) (by kernel_rfl) (fun _ _ _ h => h) (Or.inl ⟨by rfl, ?_⟩) (by assumption) ?_
          rotate_left
          · intro w' hSw
            try dsimp only at hSw
            first
              | (go_simp; done)
              | (go_simp; with_reducible rfl)
          simp only [List.getElem_toArray, List.getElem_cons_zero, List.getElem_cons_succ]
          try simp only [Act.put, List.setIfInBounds_toArray, List.set_cons_zero, List.set_cons_succ]
          refine wpAnyH_take (i := 5) (oi := _) (v := ?_) rfl (by kernel_rfl) (by kernel_rfl) (by kernel_rfl) (fun _ _ _ h => h) (Or.inl ⟨by rfl, ?_⟩) (by assumption) ?_
          rotate_left
          · intro w' hSw
            try dsimp only at hSw
            first
              | (go_simp; done)
              | (go_simp; with_reducible rfl)
          simp only [List.getElem_toArray, List.getElem_cons_zero, List.getElem_cons_succ]
          try simp only [Act.put, List.setIfInBounds_toArray, List.set_cons_zero, List.set_cons_succ]
          refine wpAnyH_take (i := 7) (oi := _) (v := ?_) rfl (by kernel_rfl) (by kernel_rfl) (by kernel_rfl) (fun _ _ _ h => h) (Or.inl ⟨by rfl, ?_⟩) (by assumption) ?_
          rotate_left
          · intro w' hSw
            try dsimp only at hSw
            first
              | (go_simp; done)
              | (go_simp; with_reducible rfl)
          simp only [List.getElem_toArray, List.getElem_cons_zero, List.getElem_cons_succ]
          try simp only [Act.put, List.setIfInBounds_toArray, List.set_cons_zero, List.set_cons_succ]
          refine wpAnyH_take (i := 8) (oi := _) (v := ?_) rfl (by kernel_rfl) (by kernel_rfl) (by kernel_rfl) (fun _ _ _ h => h) (Or.inl ⟨by rfl, ?_⟩) (by assumption) ?_
          rotate_left
          · intro w' hSw
            try dsimp only at hSw
            first
              | (go_simp; done)
              | (go_simp; with_reducible rfl)
          simp only [List.getElem_toArray, List.getElem_cons_zero, List.getElem_cons_succ]
          try simp only [Act.put, List.setIfInBounds_toArray, List.set_cons_zero, List.set_cons_succ]
          refine wpAnyH_ready (rs := [6]) (by kernel_rfl) (by simp) ?_
          refine AllReadyH.cons rfl (fun K hK => ?_) AllReadyH.nil
          simp only [List.getElem_toArray, List.getElem_cons_zero, List.getElem_cons_succ]
          go_simp
          refine (ref_Mean B Ap cp a.parts wc HOA.out.lp HOA.out.parts (HA.out.sp.ext RPart.monoE (HX.out.trans hyn))).mono ?_
          rintro e wn ⟨v6, rfl, hv6, hxa⟩
          dsimp only
          rw [← HMA.out] at hv6
          obtain ⟨A6, c6, rfl, _, _⟩ := hv6.len
          replace hyn := hyn.trans hxa
          clear hxa
          obtain ⟨wc, rfl⟩ : ∃ wc', wc' = wn := ⟨_, rfl⟩
          refine hK.out _ _ (HAll.out _ hyn) (fun hHeld => ?_)
          clear hK K
          try simp only [Act.put, List.setIfInBounds_toArray, List.set_cons_zero, List.set_cons_succ]
          refine wpAnyH_ready (rs := [9]) (by kernel_rfl) (by simp) ?_
          refine AllReadyH.cons rfl (fun K hK => ?_) AllReadyH.nil
          simp only [List.getElem_toArray, List.getElem_cons_zero, List.getElem_cons_succ]
          go_simp
          refine (ref_Mean B Bp dp b.parts wc HOB.out.lp HOB.out.parts (HB.out.sp.ext RPart.monoE (HX.out.trans hyn))).mono ?_
          rintro e wn ⟨v9, rfl, hv9, hxa⟩
          dsimp only
          rw [← HMB.out] at hv9
          obtain ⟨A9, c9, rfl, _, _⟩ := hv9.len
          replace hv6 := hv6.ext (RRef.mono (B := 0)) hxa
          replace hyn := hyn.trans hxa
          clear hxa
          obtain ⟨wc, rfl⟩ : ∃ wc', wc' = wn := ⟨_, rfl⟩
          refine hK.out _ _ (HAll.out _ hyn) (fun hHeld => ?_)
          clear hK K
          try simp only [Act.put, List.setIfInBounds_toArray, List.set_cons_zero, List.set_cons_succ]
          refine wpAnyH_ready (rs := [10]) (by kernel_rfl) (by simp) ?_
          refine AllReadyH.cons rfl (fun K hK => ?_) AllReadyH.nil
          simp only [List.getElem_toArray, List.getElem_cons_zero, List.getElem_cons_succ]
          go_simp
          refine (equal_refs 0 0 A6 c6 A9 c9 MA MB wc HLA.out (hv6.sl 0) (hv9.sl 0)).mono ?_
          rintro e wn ⟨rfl, hxa⟩
          rw [← HZ.out]
          dsimp only
          replace hyn := hyn.trans hxa
          clear hxa hv6 hv9
          obtain ⟨wc, rfl⟩ : ∃ wc', wc' = wn := ⟨_, rfl⟩
          refine hK.out _ _ (HAll.out _ hyn) (fun hHeld => ?_)
          clear hK K
          try simp only [Act.put, List.setIfInBounds_toArray, List.set_cons_zero, List.set_cons_succ]
          refine wpAnyH_take (i := 11) (oi := _) (v := ?_) rfl (by kernel_rfl) (by kernel_rfl) (by kernel_rfl) (fun _ _ _ h => h) (Or.inl ⟨by rfl, ?_⟩) (by assumption) ?_
          rotate_left
          · intro w' hSw
            try dsimp only at hSw
            first
              | (go_simp; done)
              | (go_simp; with_reducible rfl)
          simp only [List.getElem_toArray, List.getElem_cons_zero, List.getElem_cons_succ]
          try simp only [Act.put, List.setIfInBounds_toArray, List.set_cons_zero, List.set_cons_succ]
          refine wpAnyH_take (i := 12) (oi := _) (v := ?_) rfl (by kernel_rfl) (by kernel_rfl) (by kernel_rfl) (fun _ _ _ h => h) (Or.inl ⟨by rfl, ?_⟩) (by assumption) ?_
          rotate_left
          · intro w' hSw
            try dsimp only at hSw
            first
              | (go_simp; done)
              | (go_simp; with_reducible rfl)
          simp only [List.getElem_toArray, List.getElem_cons_zero, List.getElem_cons_succ]
          try simp only [Act.put, List.setIfInBounds_toArray, List.set_cons_zero, List.set_cons_succ]
          refine wpAnyH_done (by kernel_rfl) ?_ _
          have hx := HX.out.trans hyn
          have hzz : (S1 == S1) = true := by simp
          go_wp2_with fail
          go_ret
          exact ⟨rfl, hx⟩
      refine AllReadyH.cons rfl (fun K hK => ?_) AllReadyH.nil
      simp only [List.getElem_toArray, List.getElem_cons_zero, List.getElem_cons_succ]
      go_simp
      have hxa := (Ext.refl wc).alloc (.cells #[.int .i64 0, .int .i64 0, .slice none 0 0, .slice none 0 0, .slice none 0 0] 26)
      have hn3 := Blk.new wc 26 #[.int .i64 0, .int .i64 0, .slice none 0 0, .slice none 0 0, .slice none 0 0]
      obtain ⟨wn, hwn⟩ : ∃ wn, wn = wc.alloc (.cells #[.int .i64 0, .int .i64 0, .slice none 0 0, .slice none 0 0, .slice none 0 0] 26) := ⟨_, rfl⟩
      obtain ⟨a3, ha⟩ : ∃ a, a = wc.heap.size := ⟨_, rfl⟩
      have hge3 : w4.heap.size ≤ a3 := by rw [ha]; exact hyn.size
      rw [← hwn] at hxa hn3
      rw [← hwn, ← ha]
      rw [← ha] at hn3
      replace hyn := hyn.trans hxa
      clear hxa hwn ha
      obtain ⟨wc, rfl⟩ : ∃ wc', wc' = wn := ⟨_, rfl⟩
      refine hK.out _ _ (HAll.out _ hyn) (fun hHeld => ?_)
      clear hK K
      try simp only [Act.put, List.setIfInBounds_toArray, List.set_cons_zero, List.set_cons_succ]
      refine wpAnyH_ready (rs := [2]) (by kernel_rfl) (by simp) ?_
      refine AllReadyH.cons rfl (fun K hK => ?_) AllReadyH.nil
      simp only [List.getElem_toArray, List.getElem_cons_zero, List.getElem_cons_succ]
      go_simp
      have hxa := (Ext.refl wc).alloc (.cells #[.int .i64 0, .int .i64 0, .slice none 0 0, .slice none 0 0, .slice none 0 0] 26)
      have hn2 := Blk.new wc 26 #[.int .i64 0, .int .i64 0, .slice none 0 0, .slice none 0 0, .slice none 0 0]
      obtain ⟨wn, hwn⟩ : ∃ wn, wn = wc.alloc (.cells #[.int .i64 0, .int .i64 0, .slice none 0 0, .slice none 0 0, .slice none 0 0] 26) := ⟨_, rfl⟩
      obtain ⟨a2, ha⟩ : ∃ a, a = wc.heap.size := ⟨_, rfl⟩
      have hge2 : w4.heap.size ≤ a2 := by rw [ha]; exact hyn.size
      have hne : a3 ≠ a2 := by have := hn3.lt; omega
      replace hn3 := hn3.ext hxa
      rw [← hwn] at hxa hn3 hn2
      rw [← hwn, ← ha]
      rw [← ha] at hn2
      replace hyn := hyn.trans hxa
      clear hxa hwn ha
      obtain ⟨wc, rfl⟩ : ∃ wc', wc' = wn := ⟨_, rfl⟩
      refine hK.out _ _ (HAll.out _ hyn) (fun hHeld => ?_)
      clear hK K
      try simp only [Act.put, List.setIfInBounds_toArray, List.set_cons_zero, List.set_cons_succ]
      refine wpAnyH_ready (rs := [4]) (by kernel_rfl) (by simp) ?_
      refine AllReadyH.cons rfl (fun K hK => ?_) AllReadyH.nil
      simp only [List.getElem_toArray, List.getElem_cons_zero, List.getElem_cons_succ]
      simp only [Region.wanted, if_true]
      refine wp_storeRow ri_batch _ _ rfl rfl rfl hn2 rfl rfl (by kernel_rfl) ?_
      intro wn hbl hm hsz ho
      have hn2' := hm
      have hoth := hn3.other ho (by omega)
      clear hn2 hn3 hm
      have hn2 := hn2'
      have hn3 := hoth
      replace hyn := hyn.below hbl hge2
      clear hbl hsz ho hoth hn2'
      obtain ⟨wc, rfl⟩ : ∃ wc', wc' = wn := ⟨_, rfl⟩
      refine hK.out _ _ (HAll.out _ hyn) (fun hHeld => ?_)
      clear hK K
      try simp only [Act.put, List.setIfInBounds_toArray, List.set_cons_zero, List.set_cons_succ]
      refine wpAnyH_ready (rs := [5]) (by kernel_rfl) (by simp) ?_
      refine AllReadyH.cons rfl (fun K hK => ?_) AllReadyH.nil
      simp only [List.getElem_toArray, List.getElem_cons_zero, List.getElem_cons_succ]
      simp only [Region.wanted, if_true]
      refine wp_storeRow ri_batch _ _ rfl rfl rfl hn3 rfl rfl (by kernel_rfl) ?_
      intro wn hbl hm hsz ho
      have hn3' := hm
      have hoth := hn2.other ho (by omega)
      clear hn3 hn2 hm
      have hn3 := hn3'
      have hn2 := hoth
      replace hyn := hyn.below hbl hge3
      clear hbl hsz ho hoth hn3'
      obtain ⟨wc, rfl⟩ : ∃ wc', wc' = wn := ⟨_, rfl⟩
      refine hK.out _ _ (HAll.out _ hyn) (fun hHeld => ?_)
      clear hK K
      try simp only [Act.put, List.setIfInBounds_toArray, List.set_cons_zero, List.set_cons_succ]
      refine wpAnyH_done (by kernel_rfl) ?_ _
      have hx := HX.out.trans hyn
      have hba := HBA.out.ext hyn
      have hbb := HBB.out.ext hyn
      have y4 := hn2.cell (i := 4) (u := .slice Ap a.parts.length cp) rfl
      have z4 := hn3.cell (i := 4) (u := .slice Bp b.parts.length dp) rfl
      have yf := hn2.frozen 4
      have zf := hn3.frozen 4
      go_wp2_with fail
      clear y4 z4 yf zf
      have hm2 : Blk ((wc.setCell ⟨a2, 4, none⟩ (.slice none 0 0)).setCell ⟨a3, 4, none⟩ (.slice none 0 0)) a2 26 #[.int .i64 a.site, .int .i64 a.stamp, .slice Ax a.vers.length cx, .slice Ag a.gone.length cg, .slice none 0 0] := (hn2.set 4 (.slice none 0 0)).far (p := ⟨a3, 4, none⟩) (show a2 ≠ a3 by omega) _
      have hm3 : Blk ((wc.setCell ⟨a2, 4, none⟩ (.slice none 0 0)).setCell ⟨a3, 4, none⟩ (.slice none 0 0)) a3 26 #[.int .i64 b.site, .int .i64 b.stamp, .slice Bx b.vers.length dx, .slice Bg b.gone.length dg, .slice none 0 0] := (hn3.far (p := ⟨a2, 4, none⟩) (show a3 ≠ a2 by omega) (.slice none 0 0)).set 4 (.slice none 0 0)
      have hxs := ((Ext.refl w4).below (k := hyn) (Nat.le_refl _))
      replace hxs := (hxs.setCell (p := ⟨a2, 4, none⟩) hge2 (.slice none 0 0)).setCell (p := ⟨a3, 4, none⟩) hge3 (.slice none 0 0)
      obtain ⟨w5, hw5⟩ : ∃ w5, w5 = (wc.setCell ⟨a2, 4, none⟩ (.slice none 0 0)).setCell ⟨a3, 4, none⟩ (.slice none 0 0) := ⟨_, rfl⟩
      rw [← hw5] at hm2 hm3 hxs ⊢
      clear hw5 hn2 hn3 hge2 hge3 hne hx hba hbb hyn hHeld
      have hba := HBA.out.ext hxs
      have hbb := HBB.out.ext hxs
      have hx := HX.out.trans hxs
      clear hxs HX HBA HBB HAll
      have HX := hid hx
      have HAll := hid (fun w' (x : Ext w5 w') => show w'.cell? ⟨a2, 0, none⟩ = some (.int .i64 a.site) ∧ w'.cell? ⟨a2, 1, none⟩ = some (.int .i64 a.stamp) ∧ w'.cell? ⟨a2, 2, none⟩ = some (.slice Ax a.vers.length cx) ∧ w'.cell? ⟨a2, 3, none⟩ = some (.slice Ag a.gone.length cg) ∧ w'.cell? ⟨a2, 4, none⟩ = some (.slice none 0 0) ∧ w'.cell? ⟨a3, 0, none⟩ = some (.int .i64 b.site) ∧ w'.cell? ⟨a3, 1, none⟩ = some (.int .i64 b.stamp) ∧ w'.cell? ⟨a3, 2, none⟩ = some (.slice Bx b.vers.length dx) ∧ w'.cell? ⟨a3, 3, none⟩ = some (.slice Bg b.gone.length dg) ∧ w'.cell? ⟨a3, 4, none⟩ = some (.slice none 0 0) ∧ w'.cell? ⟨r0, 4, none⟩ = some (.slice Ap a.parts.length cp) ∧ w'.cell? ⟨r1, 4, none⟩ = some (.slice Bp b.parts.length dp) from
        ⟨(hm2.ext x).cell rfl, (hm2.ext x).cell rfl, (hm2.ext x).cell rfl, (hm2.ext x).cell rfl, (hm2.ext x).cell rfl, (hm3.ext x).cell rfl, (hm3.ext x).cell rfl, (hm3.ext x).cell rfl, (hm3.ext x).cell rfl, (hm3.ext x).cell rfl, (hba.ext x).cell rfl, (hbb.ext x).cell rfl⟩)
      clear hm2 hm3 hba hbb hx
      have hyn := (Ext.refl w5).drew
      refine wp_region_held_drew (S := fun w' => w'.cell? ⟨a2, 0, none⟩ = some (.int .i64 a.site) ∧ w'.cell? ⟨a2, 1, none⟩ = some (.int .i64 a.stamp) ∧ w'.cell? ⟨a2, 2, none⟩ = some (.slice Ax a.vers.length cx) ∧ w'.cell? ⟨a2, 3, none⟩ = some (.slice Ag a.gone.length cg) ∧ w'.cell? ⟨a2, 4, none⟩ = some (.slice none 0 0) ∧ w'.cell? ⟨a3, 0, none⟩ = some (.int .i64 b.site) ∧ w'.cell? ⟨a3, 1, none⟩ = some (.int .i64 b.stamp) ∧ w'.cell? ⟨a3, 2, none⟩ = some (.slice Bx b.vers.length dx) ∧ w'.cell? ⟨a3, 3, none⟩ = some (.slice Bg b.gone.length dg) ∧ w'.cell? ⟨a3, 4, none⟩ = some (.slice none 0 0) ∧ w'.cell? ⟨r0, 4, none⟩ = some (.slice Ap a.parts.length cp) ∧ w'.cell? ⟨r1, 4, none⟩ = some (.slice Bp b.parts.length dp)) (by kernel_rfl) (HAll.out _ hyn) (fun hHeld => ?_)
      obtain ⟨wc, hwc⟩ : ∃ wc, wc = w5.drew := ⟨_, rfl⟩
      rw [← hwc] at hHeld hyn ⊢
      clear hwc
      cases hs : sameB a b
      · have HSB := hid (show sameB a.bare b.bare = false from hs)
        have hS : S1 = false := by rw [HS1.out, hs]; rfl
        subst hS
        clear hs
        refine wpAnyH_take (i := 0) (oi := _) (v := ?_) rfl (by kernel_rfl) (by kernel_rfl) (by kernel_rfl) (fun _ _ _ h => h) (Or.inl ⟨by rfl, ?_⟩) (by assumption) ?_
        rotate_left
        · intro w' hSw
          try dsimp only at hSw
          first
            | (go_simp; done)
            | (go_simp; with_reducible rfl)
        simp only [List.getElem_toArray, List.getElem_cons_zero]
        try simp only [Act.put, List.setIfInBounds_toArray, List.set_cons_zero, List.set_cons_succ]
        refine wpAnyH_take (i := 1) (oi := _) (v := ?_) rfl (by kernel_rfl) (by kernel_rfl) (by kernel_rfl) (fun _ _ _ h => h) (Or.inl ⟨by rfl, ?_⟩) (by assumption) ?_
        rotate_left
        · intro w' hSw
          try dsimp only at hSw
          first
            | (go_simp; done)
            | (go_simp; with_reducible rfl)
        simp only [List.getElem_toArray, List.getElem_cons_zero, List.getElem_cons_succ]
        try simp only [Act.put, List.setIfInBounds_toArray, List.set_cons_zero, List.set_cons_succ]
        refine wpAnyH_ready (rs := [2]) (by kernel_rfl) (by simp) ?_
        refine AllReadyH.cons rfl (fun K hK => ?_) AllReadyH.nil
        simp only [List.getElem_toArray, List.getElem_cons_zero, List.getElem_cons_succ]
        go_simp
        refine (ref_SameBatch B B a.bare b.bare Ax cx Ag cg Bx dx Bg dg wc (HA.out.bare.ext (HX.out.trans hyn)) (HB.out.bare.ext (HX.out.trans hyn)) rfl rfl).mono ?_
        rintro e wn ⟨rfl, hxa⟩
        rw [HSB.out]
        dsimp only
        replace hyn := hyn.trans hxa
        clear hxa
        obtain ⟨wc, rfl⟩ : ∃ wc', wc' = wn := ⟨_, rfl⟩
        refine hK.out _ _ (HAll.out _ hyn) (fun hHeld => ?_)
        clear hK K
        try simp only [Act.put, List.setIfInBounds_toArray, List.set_cons_zero, List.set_cons_succ]
        refine wpAnyH_take (i := 3) (oi := _) (v := ?_) rfl (by kernel_rfl) (by kernel_rfl) (by kernel_rfl) (fun _ _ _ h => h) (Or.inl ⟨by rfl, ?_⟩) (by assumption) ?_
        rotate_left
        · intro w' hSw
          try dsimp only at hSw
          first
            | (go_simp; done)
            | (go_simp; with_reducible rfl)
        simp only [List.getElem_toArray, List.getElem_cons_zero, List.getElem_cons_succ]
        try simp only [Act.put, List.setIfInBounds_toArray, List.set_cons_zero, List.set_cons_succ]
        refine wpAnyH_take (i := 4) (oi := _) (v := undef) rfl (by kernel_rfl) (by kernel_rfl) (by kernel_rfl) (fun _ _ _ h => h) (Or.inr ⟨by rfl, rfl⟩) (by assumption) ?_
        simp only [List.getElem_toArray, List.getElem_cons_zero, List.getElem_cons_succ]
        try simp only [Act.put, List.setIfInBounds_toArray, List.set_cons_zero, List.set_cons_succ]
        refine wpAnyH_take (i := 5) (oi := _) (v := undef) rfl (by kernel_rfl) (by kernel_rfl) (by kernel_rfl) (fun _ _ _ h => h) (Or.inr ⟨by rfl, rfl⟩) (by assumption) ?_
        simp only [List.getElem_toArray, List.getElem_cons_zero, List.getElem_cons_succ]
        try simp only [Act.put, List.setIfInBounds_toArray, List.set_cons_zero, List.set_cons_succ]
        refine wpAnyH_take (i := 6) (oi := _) (v := undef) rfl (by kernel_rfl) (by kernel_rfl) (by kernel_rfl) (fun _ _ _ h => h) (Or.inr ⟨by rfl, rfl⟩) (by assumption) ?_
        simp only [List.getElem_toArray, List.getElem_cons_zero, List.getElem_cons_succ]
        try simp only [Act.put, List.setIfInBounds_toArray, List.set_cons_zero, List.set_cons_succ]
        refine wpAnyH_take (i := 7) (oi := _) (v := undef) rfl (by kernel_rfl) (by kernel_rfl) (by kernel_rfl) (fun _ _ _ h => h) (Or.inr ⟨by rfl, rfl⟩) (by assumption) ?_
        simp only [List.getElem_toArray, List.getElem_cons_zero, List.getElem_cons_succ]
        try simp only [Act.put, List.setIfInBounds_toArray, List.set_cons_zero, List.set_cons_succ]
        refine wpAnyH_take (i := 8) (oi := _) (v := undef) rfl (by kernel_rfl) (by kernel_rfl) (by kernel_rfl) (fun _ _ _ h => h) (Or.inr ⟨by rfl, rfl⟩) (by assumption) ?_
        simp only [List.getElem_toArray, List.getElem_cons_zero, List.getElem_cons_succ]
        try simp only [Act.put, List.setIfInBounds_toArray, List.set_cons_zero, List.set_cons_succ]
        refine wpAnyH_take (i := 9) (oi := _) (v := undef) rfl (by kernel_rfl) (by kernel_rfl) (by kernel_rfl) (fun _ _ _ h => h) (Or.inr ⟨by rfl, rfl⟩) (by assumption) ?_
        simp only [List.getElem_toArray, List.getElem_cons_zero, List.getElem_cons_succ]
        try simp only [Act.put, List.setIfInBounds_toArray, List.set_cons_zero, List.set_cons_succ]
        refine wpAnyH_take (i := 10) (oi := _) (v := undef) rfl (by kernel_rfl) (by kernel_rfl) (by kernel_rfl) (fun _ _ _ h => h) (Or.inr ⟨by rfl, rfl⟩) (by assumption) ?_
        simp only [List.getElem_toArray, List.getElem_cons_zero, List.getElem_cons_succ]
        try simp only [Act.put, List.setIfInBounds_toArray, List.set_cons_zero, List.set_cons_succ]
        refine wpAnyH_take (i := 11) (oi := _) (v := ?_) rfl (by kernel_rfl) (by kernel_rfl) (by kernel_rfl) (fun _ _ _ h => h) (Or.inl ⟨by rfl, ?_⟩) (by assumption) ?_
        rotate_left
        · intro w' hSw
          try dsimp only at hSw
          first
            | (go_simp; done)
            | (go_simp; with_reducible rfl)
        simp only [List.getElem_toArray, List.getElem_cons_zero, List.getElem_cons_succ]
        try simp only [Act.put, List.setIfInBounds_toArray, List.set_cons_zero, List.set_cons_succ]
        refine wpAnyH_take (i := 12) (oi := _) (v := ?_) rfl (by kernel_rfl) (by kernel_rfl) (by kernel_rfl) (fun _ _ _ h => h) (Or.inl ⟨by rfl, ?_⟩) (by assumption) ?_
        rotate_left
        · intro w' hSw
          try dsimp only at hSw
          first
            | (go_simp; done)
            | (go_simp; with_reducible rfl)
        simp only [List.getElem_toArray, List.getElem_cons_zero, List.getElem_cons_succ]
        try simp only [Act.put, List.setIfInBounds_toArray, List.set_cons_zero, List.set_cons_succ]
        refine wpAnyH_done (by kernel_rfl) ?_ _
        have hx := HX.out.trans hyn
        go_wp2_with fail
        go_ret
        exact ⟨rfl, hx⟩
      · have HSB := hid (show sameB a.bare b.bare = true from hs)
        have hS : S1 = Z := by rw [HS1.out, hs, HZ.out]; rfl
        subst hS
        clear hs
        refine wpAnyH_take (i := 0) (oi := _) (v := ?_) rfl (by kernel_rfl) (by kernel_rfl) (by kernel_rfl) (fun _ _ _ h => h) (Or.inl ⟨by rfl, ?_⟩) (by assumption) ?_
        rotate_left
        · intro w' hSw
          try dsimp only at hSw
          first
            | (go_simp; done)
            | (go_simp; with_reducible rfl)
        simp only [List.getElem_toArray, List.getElem_cons_zero]
        try simp only [Act.put, List.setIfInBounds_toArray, List.set_cons_zero, List.set_cons_succ]
        refine wpAnyH_take (i := 1) (oi := _) (v := ?_) rfl (by kernel_rfl) (by kernel_rfl) (by kernel_rfl) (fun _ _ _ h => h) (Or.inl ⟨by rfl, ?_⟩) (by assumption) ?_
        rotate_left
        · intro w' hSw
          try dsimp only at hSw
          first
            | (go_simp; done)
            | (go_simp; with_reducible rfl)
        simp only [List.getElem_toArray, List.getElem_cons_zero, List.getElem_cons_succ]
        try simp only [Act.put, List.setIfInBounds_toArray, List.set_cons_zero, List.set_cons_succ]
        refine wpAnyH_ready (rs := [2]) (by kernel_rfl) (by simp) ?_
        refine AllReadyH.cons rfl (fun K hK => ?_) AllReadyH.nil
        simp only [List.getElem_toArray, List.getElem_cons_zero, List.getElem_cons_succ]
        go_simp
        refine (ref_SameBatch B B a.bare b.bare Ax cx Ag cg Bx dx Bg dg wc (HA.out.bare.ext (HX.out.trans hyn)) (HB.out.bare.ext (HX.out.trans hyn)) rfl rfl).mono ?_
        rintro e wn ⟨rfl, hxa⟩
        rw [HSB.out]
        dsimp only
        replace hyn := hyn.trans hxa
        clear hxa
        obtain ⟨wc, rfl⟩ : ∃ wc', wc' = wn := ⟨_, rfl⟩
        refine hK.out _ _ (HAll.out _ hyn) (fun hHeld => ?_)
        clear hK K
        try simp only [Act.put, List.setIfInBounds_toArray, List.set_cons_zero, List.set_cons_succ]
        refine wpAnyH_take (i := 3) (oi := _) (v := ?_) rfl (by kernel_rfl) (by kernel_rfl) (by kernel_rfl) (fun _ _ _ h => h) (Or.inl ⟨by rfl, ?_⟩) (by assumption) ?_
        rotate_left
        · intro w' hSw
          try dsimp only at hSw
          first
            | (go_simp; done)
            | (go_simp; with_reducible rfl)
        simp only [List.getElem_toArray, List.getElem_cons_zero, List.getElem_cons_succ]
        try simp only [Act.put, List.setIfInBounds_toArray, List.set_cons_zero, List.set_cons_succ]
        refine wpAnyH_take (i := 4) (oi := _) (v := ?_) rfl (by kernel_rfl) (by kernel_rfl) (by kernel_rfl) (fun _ _ _ h => h) (Or.inl ⟨by rfl, ?_⟩) (by assumption) ?_
        rotate_left
        · intro w' hSw
          try dsimp only at hSw
          first
            | (go_simp; done)
            | (go_simp; with_reducible rfl)
        simp only [List.getElem_toArray, List.getElem_cons_zero, List.getElem_cons_succ]
        try simp only [Act.put, List.setIfInBounds_toArray, List.set_cons_zero, List.set_cons_succ]
        refine wpAnyH_take (i := 5) (oi := _) (v := ?_) rfl (by kernel_rfl) (by kernel_rfl) (by kernel_rfl) (fun _ _ _ h => h) (Or.inl ⟨by rfl, ?_⟩) (by assumption) ?_
        rotate_left
        · intro w' hSw
          try dsimp only at hSw
          first
            | (go_simp; done)
            | (go_simp; with_reducible rfl)
        simp only [List.getElem_toArray, List.getElem_cons_zero, List.getElem_cons_succ]
        try simp only [Act.put, List.setIfInBounds_toArray, List.set_cons_zero, List.set_cons_succ]
        refine wpAnyH_take (i := 7) (oi := _) (v := ?_) rfl (by kernel_rfl) (by kernel_rfl) (by kernel_rfl) (fun _ _ _ h => h) (Or.inl ⟨by rfl, ?_⟩) (by assumption) ?_
        rotate_left
        · intro w' hSw
          try dsimp only at hSw
          first
            | (go_simp; done)
            | (go_simp; with_reducible rfl)
        simp only [List.getElem_toArray, List.getElem_cons_zero, List.getElem_cons_succ]
        try simp only [Act.put, List.setIfInBounds_toArray, List.set_cons_zero, List.set_cons_succ]
        refine wpAnyH_take (i := 8) (oi := _) (v := ?_) rfl (by kernel_rfl) (by kernel_rfl) (by kernel_rfl) (fun _ _ _ h => h) (Or.inl ⟨by rfl, ?_⟩) (by assumption) ?_
        rotate_left
        · intro w' hSw
          try dsimp only at hSw
          first
            | (go_simp; done)
            | (go_simp; with_reducible rfl)
        simp only [List.getElem_toArray, List.getElem_cons_zero, List.getElem_cons_succ]
        try simp only [Act.put, List.setIfInBounds_toArray, List.set_cons_zero, List.set_cons_succ]
        refine wpAnyH_ready (rs := [6]) (by kernel_rfl) (by simp) ?_
        refine AllReadyH.cons rfl (fun K hK => ?_) AllReadyH.nil
        simp only [List.getElem_toArray, List.getElem_cons_zero, List.getElem_cons_succ]
        go_simp
        refine (ref_Mean B Ap cp a.parts wc HOA.out.lp HOA.out.parts (HA.out.sp.ext RPart.monoE (HX.out.trans hyn))).mono ?_
        rintro e wn ⟨v6, rfl, hv6, hxa⟩
        dsimp only
        rw [← HMA.out] at hv6
        obtain ⟨A6, c6, rfl, _, _⟩ := hv6.len
        replace hyn := hyn.trans hxa
        clear hxa
        obtain ⟨wc, rfl⟩ : ∃ wc', wc' = wn := ⟨_, rfl⟩
        refine hK.out _ _ (HAll.out _ hyn) (fun hHeld => ?_)
        clear hK K
        try simp only [Act.put, List.setIfInBounds_toArray, List.set_cons_zero, List.set_cons_succ]
        refine wpAnyH_ready (rs := [9]) (by kernel_rfl) (by simp) ?_
        refine AllReadyH.cons rfl (fun K hK => ?_) AllReadyH.nil
        simp only [List.getElem_toArray, List.getElem_cons_zero, List.getElem_cons_succ]
        go_simp
        refine (ref_Mean B Bp dp b.parts wc HOB.out.lp HOB.out.parts (HB.out.sp.ext RPart.monoE (HX.out.trans hyn))).mono ?_
        rintro e wn ⟨v9, rfl, hv9, hxa⟩
        dsimp only
        rw [← HMB.out] at hv9
        obtain ⟨A9, c9, rfl, _, _⟩ := hv9.len
        replace hv6 := hv6.ext (RRef.mono (B := 0)) hxa
        replace hyn := hyn.trans hxa
        clear hxa
        obtain ⟨wc, rfl⟩ : ∃ wc', wc' = wn := ⟨_, rfl⟩
        refine hK.out _ _ (HAll.out _ hyn) (fun hHeld => ?_)
        clear hK K
        try simp only [Act.put, List.setIfInBounds_toArray, List.set_cons_zero, List.set_cons_succ]
        refine wpAnyH_ready (rs := [10]) (by kernel_rfl) (by simp) ?_
        refine AllReadyH.cons rfl (fun K hK => ?_) AllReadyH.nil
        simp only [List.getElem_toArray, List.getElem_cons_zero, List.getElem_cons_succ]
        go_simp
        refine (equal_refs 0 0 A6 c6 A9 c9 MA MB wc HLA.out (hv6.sl 0) (hv9.sl 0)).mono ?_
        rintro e wn ⟨rfl, hxa⟩
        rw [← HZ.out]
        dsimp only
        replace hyn := hyn.trans hxa
        clear hxa hv6 hv9
        obtain ⟨wc, rfl⟩ : ∃ wc', wc' = wn := ⟨_, rfl⟩
        refine hK.out _ _ (HAll.out _ hyn) (fun hHeld => ?_)
        clear hK K
        try simp only [Act.put, List.setIfInBounds_toArray, List.set_cons_zero, List.set_cons_succ]
        refine wpAnyH_take (i := 11) (oi := _) (v := ?_) rfl (by kernel_rfl) (by kernel_rfl) (by kernel_rfl) (fun _ _ _ h => h) (Or.inl ⟨by rfl, ?_⟩) (by assumption) ?_
        rotate_left
        · intro w' hSw
          try dsimp only at hSw
          first
            | (go_simp; done)
            | (go_simp; with_reducible rfl)
        simp only [List.getElem_toArray, List.getElem_cons_zero, List.getElem_cons_succ]
        try simp only [Act.put, List.setIfInBounds_toArray, List.set_cons_zero, List.set_cons_succ]
        refine wpAnyH_take (i := 12) (oi := _) (v := ?_) rfl (by kernel_rfl) (by kernel_rfl) (by kernel_rfl) (fun _ _ _ h => h) (Or.inl ⟨by rfl, ?_⟩) (by assumption) ?_
        rotate_left
        · intro w' hSw
          try dsimp only at hSw
          first
            | (go_simp; done)
            | (go_simp; with_reducible rfl)
        simp only [List.getElem_toArray, List.getElem_cons_zero, List.getElem_cons_succ]
        try simp only [Act.put, List.setIfInBounds_toArray, List.set_cons_zero, List.set_cons_succ]
        refine wpAnyH_done (by kernel_rfl) ?_ _
        have hx := HX.out.trans hyn
        have hzz : (S1 == S1) = true := by simp
        go_wp2_with fail
        go_ret
        exact ⟨rfl, hx⟩
    · have hn : E1 ≠ 0 := by rw [HEB.out]; exact h1
      have hS : S1 = false := by rw [HO1.out, sameOut, if_neg (by rw [← HE1.out]; exact hn)]
      subst hS
      have hne : (E1 != 0) = true := by simpa using hn
      have hze : (E1 == 0) = false := by simpa using hn
      have hee : (E1 == E1) = true := by simp
      clear hn h1
      by_cases hs : 1000000 < b.stamp ∧ 0 ≤ b.site ∧ b.site < 5
      · have e1 : decide ((1000000 : Int) < b.stamp) = true := decide_eq_true hs.1
        have e2 : decide ((0 : Int) ≤ b.site) = true := decide_eq_true hs.2.1
        have e3 : decide (b.site < (5 : Int)) = true := decide_eq_true hs.2.2
        have hE : E1 = 1 := by rw [HEB.out, ← want_wire, wantErr, if_pos hs]
        subst hE
        clear hs
        go_wp2_with fail
        go_ret
        exact ⟨rfl, hx⟩
      · have hq : batchErr b = E1 := by rw [HEB.out, ← want_wire, wantErr, if_neg hs]
        rw [hq]
        clear hq
        by_cases g1 : 1000000 < b.stamp
        · have e1 : decide ((1000000 : Int) < b.stamp) = true := decide_eq_true g1
          by_cases g2 : 0 ≤ b.site
          · have e2 : decide ((0 : Int) ≤ b.site) = true := decide_eq_true g2
            have e3 : decide (b.site < (5 : Int)) = false := decide_eq_false (by omega)
            clear hs g1 g2
            go_wp2_with fail
            go_ret
            exact ⟨rfl, hx⟩
          · have e2 : decide ((0 : Int) ≤ b.site) = false := decide_eq_false g2
            clear hs g1 g2
            go_wp2_with fail
            go_ret
            exact ⟨rfl, hx⟩
        · have e1 : decide ((1000000 : Int) < b.stamp) = false := decide_eq_false g1
          clear hs g1
          go_wp2_with fail
          go_ret
          exact ⟨rfl, hx⟩
  · have HEA := hid (show E1 = wireErr a by rw [HE1.out, sameErr, if_neg h0])
    have hn : E1 ≠ 0 := by rw [HEA.out]; exact h0
    have hS : S1 = false := by rw [HO1.out, sameOut, if_neg (by rw [← HE1.out]; exact hn)]
    subst hS
    have hne : (E1 != 0) = true := by simpa using hn
    have hze : (E1 == 0) = false := by simpa using hn
    have hee : (E1 == E1) = true := by simp
    clear hn h0
    by_cases hs : 1000000 < a.stamp ∧ 0 ≤ a.site ∧ a.site < 5
    · have e1 : decide ((1000000 : Int) < a.stamp) = true := decide_eq_true hs.1
      have e2 : decide ((0 : Int) ≤ a.site) = true := decide_eq_true hs.2.1
      have e3 : decide (a.site < (5 : Int)) = true := decide_eq_true hs.2.2
      have hE : E1 = 1 := by rw [HEA.out, ← want_wire, wantErr, if_pos hs]
      subst hE
      clear hs
      go_wp2_with fail
      go_ret
      exact ⟨rfl, hx⟩
    · have hq : batchErr a = E1 := by rw [HEA.out, ← want_wire, wantErr, if_neg hs]
      rw [hq]
      clear hq
      by_cases g1 : 1000000 < a.stamp
      · have e1 : decide ((1000000 : Int) < a.stamp) = true := decide_eq_true g1
        by_cases g2 : 0 ≤ a.site
        · have e2 : decide ((0 : Int) ≤ a.site) = true := decide_eq_true g2
          have e3 : decide (a.site < (5 : Int)) = false := decide_eq_false (by omega)
          clear hs g1 g2
          go_wp2_with fail
          go_ret
          exact ⟨rfl, hx⟩
        · have e2 : decide ((0 : Int) ≤ a.site) = false := decide_eq_false g2
          clear hs g1 g2
          go_wp2_with fail
          go_ret
          exact ⟨rfl, hx⟩
      · have e1 : decide ((1000000 : Int) < a.stamp) = false := decide_eq_false g1
        clear hs g1
        go_wp2_with fail
        go_ret
        exact ⟨rfl, hx⟩

namespace WireSameProof
open Go.ChangeShapes Go.WideShapes Go.ChangeAt Go.Joins

set_option maxRecDepth 100000 in
theorem lifted (os : Os) (started : os.Started) (H : Type) (enc : TypeId × Value → H) :
    ReturnsInHanded {} Try.checked os 7 .any (Rows.wireSameSpec.pre6 enc Try.prog Try.f7 Rows.wireSameRow.domain false) (Rows.wireSameSpec.post enc Try.prog Try.f7 false true false false) := by
  refine returnsInHanded_of_change (C := Try.checked) own started (by kernel_rfl) Try.func7
    (ChangeSpec.witness6 (enc := enc) (C := Try.checked) false ⟨#[], #[.agg #[.int .i64 0, .int .i64 0, .slice none 0 0, .slice none 0 0, .slice none 0 0], .agg #[.int .i64 0, .int .i64 0, .slice none 0 0, .slice none 0 0, .slice none 0 0]], []⟩ 8 (by kernel_rfl) (by kernel_rfl) (by kernel_rfl) (by kernel_rfl)) ?_
  intro W base args ds gs before hval0 hW hcnd _
  have hval : ∀ (j : Nat) t v, Try.f7.params[j]? = some t → args[j]? = some v → Value.okWide Try.prog W .any base t v := hval0
  have hW' := hW
  obtain ⟨p, q, hA0, hV, rfl, hfz, hnd⟩ := hW
  have hA : DataW.TrodAll enc Try.prog W 0 (fun _ => true) true Try.f7.params.toList args.toList ds p := hA0
  rw [Try.params7] at hA hval
  obtain ⟨v0, vs0, d0, ds0, p0, q0, hargs, rfl, rfl, h0, r0⟩ := trodAll_cons hA
  obtain ⟨v1, vs1, d1, ds1, p1, q1, rfl, rfl, rfl, h1, r1⟩ := trodAll_cons r0
  obtain ⟨rfl, rfl, rfl⟩ := trodAll_nil r1
  obtain rfl : args = #[v0, v1] := by cases args; simp_all
  obtain ⟨rfl, rfl⟩ := trodVars_none hV
  have k0 := h0
  have lt0 : ∀ x ∈ p0, x.block < W.heap.size := by obtain ⟨m, hm⟩ := k0; exact DataW.trod_lt m _ _ _ hm
  obtain ⟨l0, ax0, cx0, ag0, cg0, ap0, cp0, rfl, s0⟩ := open_batch (hval 0 26 v0 rfl rfl) h0
  have k1 := h1
  have lt1 : ∀ x ∈ p1, x.block < W.heap.size := by obtain ⟨m, hm⟩ := k1; exact DataW.trod_lt m _ _ _ hm
  obtain ⟨l1, ax1, cx1, ag1, cg1, ap1, cp1, rfl, s1⟩ := open_batch (hval 1 26 v1 rfl rfl) h1
  clear hA0 hval0
  refine (law_WireSame W.heap.size l0 l1 ax0 cx0 ag0 cg0 ap0 cp0 ax1 cx1 ag1 cg1 ap1 cp1 W (Nat.le_refl _) s0 s1).mono fun e W' ⟨he, bel⟩ => ?_
  subst he
  exact ⟨_, rfl, _, _, _, [], _, [], hW', trodAll_mk1 (shut_bool Try.underlying4 _), (trodAll_cons_mk (Below.trod laidOut (by kernel_rfl) (of_decide_eq_true (by kernel_rfl)) k0 bel lt0) (trodAll_cons_mk (Below.trod laidOut (by kernel_rfl) (of_decide_eq_true (by kernel_rfl)) k1 bel lt1) trodAll_mk0)), rfl, Below.frame bel _, fun h => by cases h⟩

theorem over : Rows.wireSameRow.holds Try.pinned (OpenSpec.ofChange Rows.wireSameSpec) :=
  OpenClaim.holds_of_wide 7 Try.f7 rfl rfl rfl rfl rfl rfl rfl ⟨rfl, rfl, rfl, rfl, rfl⟩ rfl rfl rfl rfl rfl (by kernel_rfl) Try.func7 (by kernel_rfl)
    (of_decide_eq_true (by kernel_rfl)) (by unfold Func.isWrapper; first | (rw [if_pos (by decide +kernel)]; kernel_rfl) | (rw [if_neg (by decide +kernel)]; exact ⟨rfl, rfl⟩))
    (fun os started H enc _ => lifted os started H enc)
end WireSameProof

theorem wireSame_holds : Rows.WireSameSaid := WireSameProof.over
#print axioms wireSame_holds

end Go.Proofs.Ytmedmfjhpabfdaa
