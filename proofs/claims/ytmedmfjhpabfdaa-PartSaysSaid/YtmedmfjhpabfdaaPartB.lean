/- The walk of part.within. -/
import Derived.Test.YtmedmfjhpabfdaaPartA
import Derived.Test.YtmedmfjhpabfdaaKnG
namespace Go.Proofs.Ytmedmfjhpabfdaa
open Go Go.RowKit

/-- a set of dots of any size, as Made answers it. -/
structure KnowAny (k : Know) : Prop where
  vlen : k.vec.length ≤ 5
  mlen : k.more.length ≤ 5000
  vec : ∀ n ∈ k.vec, 0 ≤ n ∧ n ≤ 1000
  more : ∀ d ∈ k.more, dotOk d = true
theorem moreOf_len (S : DSet) (s : Nat) : (moreOf S s).length ≤ 1000 := by
  unfold moreOf
  rw [List.length_map]
  have h := List.length_filter_lt_length_iff_exists (p := fun c : Nat => decide (pre S s + 2 ≤ c) && S s c) (l := List.range 1001)
  have := h.2 ⟨0, by simp, by simp⟩
  simp only [List.length_range] at this
  omega
theorem form_any (S : DSet) : KnowAny (formOf S) := by
  refine ⟨?_, ?_, ?_, ?_⟩
  · rw [formOf_vec]
    have := trim_len (formVec S); simp only [formVec, List.length_map, List.length_range] at this; exact this
  · rw [formOf_more]
    unfold formMore
    have := flatMap_len (fun s => moreOf S s) 1000 (List.range 5) fun s _ => moreOf_len S s
    simpa using this
  · intro n hn
    rw [formOf_vec] at hn
    obtain ⟨i, hi, rfl⟩ := List.getElem_of_mem hn
    have e := trim_getD (formVec S) i
    rw [List.getD_eq_getElem?_getD, List.getElem?_eq_getElem hi, Option.getD_some] at e
    rw [e]
    by_cases h5 : i < 5
    · rw [formVec_getD _ _ h5]
      have := (pre_ok S i).2.1
      omega
    · rw [formVec_out _ _ (by omega)]; omega
  · intro d hd
    rw [formOf_more] at hd
    obtain ⟨s, c, hs, rfl, hc, h1, h2⟩ := mem_formMore.1 hd
    refine dotOk_iff.2 ⟨?_, ?_, ?_, ?_⟩
    · show (0 : Int) ≤ s; omega
    · show (s : Int) ≤ 4; omega
    · show (1 : Int) ≤ c; omega
    · show (c : Int) ≤ 1000; omega

set_option maxRecDepth 100000 in
set_option maxHeartbeats 8000000 in
theorem part_within (B : Nat) (va vb : Value) (k l : Know) (w : World) (hB : B ≤ w.heap.size) (ha : IsK B w va k) (hb : IsK B w vb l) (hka : KnowAny k) (hkb : KnowAny l) :
    Calls Try.prog 101 #[va, vb] w fun e w' => e = .returned (.bool (withinK k l)) ∧ Ext w w' := by
  obtain ⟨Av, cv, Am, cm, rfl, ha1, ha2, ha3, ha4, h⟩ := ha
  obtain ⟨Bv, dv, Bm, dm, rfl, hb1, hb2, hb3, hb4, g⟩ := hb
  have HK := hid hka
  have HL := hid hkb
  clear hka hkb
  obtain ⟨ds, hds⟩ : ∃ ds, ds = [k.more, l.more].flatten := ⟨_, rfl⟩
  have HDS := hid hds
  obtain ⟨kk, hkk⟩ : ∃ kk, kk = formOf (setOf [k.vec, l.vec] ds) := ⟨_, rfl⟩
  have HKK := hid hkk
  have HW := hid (show withinK k l = (decide (kk.vec = l.vec) && decide (kk.more = l.more)) by rw [hkk, hds, ← know_eq]; rfl)
  clear hds hkk
  have hx := ((Ext.refl w).alloc (.cells #[.slice Av k.vec.length cv, .slice Am k.more.length cm] 44)).alloc (.cells #[.slice Bv l.vec.length dv, .slice Bm l.more.length dm] 44)
  go_enter Try.func101, Try.ntmps101
  go_wp2_with fail
  have q0 : ((w.alloc (.cells #[.slice Av k.vec.length cv, .slice Am k.more.length cm] 44)).alloc (.cells #[.slice Bv l.vec.length dv, .slice Bm l.more.length dm] 44)).cell? ⟨w.heap.size, 0, none⟩ = some (.slice Av k.vec.length cv) := by go_simp
  have q1 : ((w.alloc (.cells #[.slice Av k.vec.length cv, .slice Am k.more.length cm] 44)).alloc (.cells #[.slice Bv l.vec.length dv, .slice Bm l.more.length dm] 44)).cell? ⟨w.heap.size, 1, none⟩ = some (.slice Am k.more.length cm) := by go_simp
  have d0 : ((w.alloc (.cells #[.slice Av k.vec.length cv, .slice Am k.more.length cm] 44)).alloc (.cells #[.slice Bv l.vec.length dv, .slice Bm l.more.length dm] 44)).cell? ⟨w.heap.size + 1, 0, none⟩ = some (.slice Bv l.vec.length dv) := by go_simp
  have d1 : ((w.alloc (.cells #[.slice Av k.vec.length cv, .slice Am k.more.length cm] 44)).alloc (.cells #[.slice Bv l.vec.length dv, .slice Bm l.more.length dm] 44)).cell? ⟨w.heap.size + 1, 1, none⟩ = some (.slice Bm l.more.length dm) := by go_simp
  obtain ⟨w1, hw1⟩ : ∃ w1, w1 = (w.alloc (.cells #[.slice Av k.vec.length cv, .slice Am k.more.length cm] 44)).alloc (.cells #[.slice Bv l.vec.length dv, .slice Bm l.more.length dm] 44) := ⟨_, rfl⟩
  rw [← hw1] at q0 q1 d0 d1 hx ⊢
  clear hw1
  have HX := hid hx
  have HBW := hid (show B ≤ w1.heap.size from Nat.le_trans hB hx.size)
  have HAll := hid (fun w' (x : Ext w1 w') => show w'.cell? ⟨w.heap.size, 0, none⟩ = some (.slice Av k.vec.length cv) ∧ w'.cell? ⟨w.heap.size, 1, none⟩ = some (.slice Am k.more.length cm) ∧ w'.cell? ⟨w.heap.size + 1, 0, none⟩ = some (.slice Bv l.vec.length dv) ∧ w'.cell? ⟨w.heap.size + 1, 1, none⟩ = some (.slice Bm l.more.length dm) from ⟨x.cell q0, x.cell q1, x.cell d0, x.cell d1⟩)
  have HKn := hid (fun w' (x : Ext w1 w') => h.ext (HX.out.trans x))
  have HLn := hid (fun w' (x : Ext w1 w') => g.ext (HX.out.trans x))
  clear q0 q1 d0 d1 hx
  have hyn := (Ext.refl w1).drew
  refine wp_region_held_drew (S := fun w' => w'.cell? ⟨w.heap.size, 0, none⟩ = some (.slice Av k.vec.length cv) ∧ w'.cell? ⟨w.heap.size, 1, none⟩ = some (.slice Am k.more.length cm) ∧ w'.cell? ⟨w.heap.size + 1, 0, none⟩ = some (.slice Bv l.vec.length dv) ∧ w'.cell? ⟨w.heap.size + 1, 1, none⟩ = some (.slice Bm l.more.length dm)) (by kernel_rfl) (HAll.out _ hyn) (fun hHeld => ?_)
  obtain ⟨wc, hwc⟩ : ∃ wc, wc = w1.drew := ⟨_, rfl⟩
  rw [← hwc] at hHeld hyn ⊢
  clear hwc
  refine wpAnyH_take (i := 0) (oi := _) (v := ?_) rfl (by kernel_rfl) (by kernel_rfl) (by kernel_rfl) (fun _ _ _ h => h) (Or.inl ⟨by rfl, ?_⟩) (by assumption) ?_
  rotate_left
  · intro w' hSw
    try dsimp only at hSw
    first
      | (go_simp; done)
      | (go_simp; with_reducible rfl)
  simp only [List.getElem_toArray, List.getElem_cons_zero]
  try simp only [Act.put, List.setIfInBounds_toArray, List.set_cons_zero, List.set_cons_succ]
  refine wpAnyH_take (i := 1) (oi := _) (v := ?_) rfl (by kernel_rfl) (by kernel_rfl) (by kernel_rfl) (fun _ _ _ h => h) (Or.inl ⟨by rfl, ?_⟩) (by assumption) ?_
  rotate_left
  · intro w' hSw
    try dsimp only at hSw
    first
      | (go_simp; done)
      | (go_simp; with_reducible rfl)
  simp only [List.getElem_toArray, List.getElem_cons_zero, List.getElem_cons_succ]
  try simp only [Act.put, List.setIfInBounds_toArray, List.set_cons_zero, List.set_cons_succ]
  refine wpAnyH_take (i := 2) (oi := _) (v := ?_) rfl (by kernel_rfl) (by kernel_rfl) (by kernel_rfl) (fun _ _ _ h => h) (Or.inl ⟨by rfl, ?_⟩) (by assumption) ?_
  rotate_left
  · intro w' hSw
    try dsimp only at hSw
    first
      | (go_simp; done)
      | (go_simp; with_reducible rfl)
  simp only [List.getElem_toArray, List.getElem_cons_zero, List.getElem_cons_succ]
  try simp only [Act.put, List.setIfInBounds_toArray, List.set_cons_zero, List.set_cons_succ]
  refine wpAnyH_take (i := 3) (oi := _) (v := ?_) rfl (by kernel_rfl) (by kernel_rfl) (by kernel_rfl) (fun _ _ _ h => h) (Or.inl ⟨by rfl, ?_⟩) (by assumption) ?_
  rotate_left
  · intro w' hSw
    try dsimp only at hSw
    first
      | (go_simp; done)
      | (go_simp; with_reducible rfl)
  simp only [List.getElem_toArray, List.getElem_cons_zero, List.getElem_cons_succ]
  try simp only [Act.put, List.setIfInBounds_toArray, List.set_cons_zero, List.set_cons_succ]
  refine wpAnyH_take (i := 5) (oi := _) (v := ?_) rfl (by kernel_rfl) (by kernel_rfl) (by kernel_rfl) (fun _ _ _ h => h) (Or.inl ⟨by rfl, ?_⟩) (by assumption) ?_
  rotate_left
  · intro w' hSw
    try dsimp only at hSw
    first
      | (go_simp; done)
      | (go_simp; with_reducible rfl)
  simp only [List.getElem_toArray, List.getElem_cons_zero, List.getElem_cons_succ]
  try simp only [Act.put, List.setIfInBounds_toArray, List.set_cons_zero, List.set_cons_succ]
  refine wpAnyH_take (i := 6) (oi := _) (v := ?_) rfl (by kernel_rfl) (by kernel_rfl) (by kernel_rfl) (fun _ _ _ h => h) (Or.inl ⟨by rfl, ?_⟩) (by assumption) ?_
  rotate_left
  · intro w' hSw
    try dsimp only at hSw
    first
      | (go_simp; done)
      | (go_simp; with_reducible rfl)
  simp only [List.getElem_toArray, List.getElem_cons_zero, List.getElem_cons_succ]
  try simp only [Act.put, List.setIfInBounds_toArray, List.set_cons_zero, List.set_cons_succ]
  refine wpAnyH_take (i := 7) (oi := _) (v := ?_) rfl (by kernel_rfl) (by kernel_rfl) (by kernel_rfl) (fun _ _ _ h => h) (Or.inl ⟨by rfl, ?_⟩) (by assumption) ?_
  rotate_left
  · intro w' hSw
    try dsimp only at hSw
    first
      | (go_simp; done)
      | (go_simp; with_reducible rfl)
  simp only [List.getElem_toArray, List.getElem_cons_zero, List.getElem_cons_succ]
  try simp only [Act.put, List.setIfInBounds_toArray, List.set_cons_zero, List.set_cons_succ]
  refine wpAnyH_take (i := 8) (oi := _) (v := ?_) rfl (by kernel_rfl) (by kernel_rfl) (by kernel_rfl) (fun _ _ _ h => h) (Or.inl ⟨by rfl, ?_⟩) (by assumption) ?_
  rotate_left
  · intro w' hSw
    try dsimp only at hSw
    first
      | (go_simp; done)
      | (go_simp; with_reducible rfl)
  simp only [List.getElem_toArray, List.getElem_cons_zero, List.getElem_cons_succ]
  try simp only [Act.put, List.setIfInBounds_toArray, List.set_cons_zero, List.set_cons_succ]
  refine wpAnyH_ready (rs := [4, 9, 12]) (by kernel_rfl) (by simp) ?_
  refine AllReadyH.cons rfl (fun K hK => ?_) ?_
  · simp only [List.getElem_toArray, List.getElem_cons_zero, List.getElem_cons_succ]
    go_simp
    have hxa := (Ext.refl wc).alloc (.cells #[.slice Av k.vec.length cv, .slice Bv l.vec.length dv] 41)
    have hyn' := hyn.trans hxa
    obtain ⟨wn, hwn⟩ : ∃ wn, wn = wc.alloc (.cells #[.slice Av k.vec.length cv, .slice Bv l.vec.length dv] 41) := ⟨_, rfl⟩
    have hL4 : SlVecs B wn (some ⟨wc.heap.size, 0, none⟩) [k.vec, l.vec] := Sl.two hwn ⟨_, rfl, Av, cv, rfl, ha1, ha2, (HKn.out wn (by rw [hwn]; exact hyn')).sv⟩ ⟨_, rfl, Bv, dv, rfl, hb1, hb2, (HLn.out wn (by rw [hwn]; exact hyn')).sv⟩
    obtain ⟨a4, ha4⟩ : ∃ a, a = some (⟨wc.heap.size, 0, none⟩ : Addr) := ⟨_, rfl⟩
    rw [← hwn] at hxa hyn'
    rw [← hwn, ← ha4]
    rw [← ha4] at hL4
    clear hxa hwn ha4 hyn
    have hyn := hyn'
    clear hyn'
    obtain ⟨wc, rfl⟩ : ∃ wc', wc' = wn := ⟨_, rfl⟩
    refine hK.out _ _ (HAll.out _ hyn) (fun hHeld => ?_)
    clear hK K
    try simp only [Act.put, List.setIfInBounds_toArray, List.set_cons_zero, List.set_cons_succ]
    refine wpAnyH_ready (rs := [9, 12]) (by kernel_rfl) (by simp) ?_
    refine AllReadyH.cons rfl (fun K hK => ?_) ?_
    · simp only [List.getElem_toArray, List.getElem_cons_zero, List.getElem_cons_succ]
      go_simp
      have hxa := (Ext.refl wc).alloc (.cells #[.slice Am k.more.length cm, .slice Bm l.more.length dm] 42)
      have hyn' := hyn.trans hxa
      obtain ⟨wn, hwn⟩ : ∃ wn, wn = wc.alloc (.cells #[.slice Am k.more.length cm, .slice Bm l.more.length dm] 42) := ⟨_, rfl⟩
      have hL9 : SlDotss B wn (some ⟨wc.heap.size, 0, none⟩) [k.more, l.more] := Sl.two hwn ⟨_, rfl, Am, cm, rfl, ha3, ha4, (HKn.out wn (by rw [hwn]; exact hyn')).sm⟩ ⟨_, rfl, Bm, dm, rfl, hb3, hb4, (HLn.out wn (by rw [hwn]; exact hyn')).sm⟩
      obtain ⟨a9, ha9⟩ : ∃ a, a = some (⟨wc.heap.size, 0, none⟩ : Addr) := ⟨_, rfl⟩
      rw [← hwn] at hxa hyn'
      rw [← hwn, ← ha9]
      rw [← ha9] at hL9
      replace hL4 := hL4.ext RVec.monoE hxa
      clear hxa hwn ha9 hyn
      have hyn := hyn'
      clear hyn'
      obtain ⟨wc, rfl⟩ : ∃ wc', wc' = wn := ⟨_, rfl⟩
      refine hK.out _ _ (HAll.out _ hyn) (fun hHeld => ?_)
      clear hK K
      try simp only [Act.put, List.setIfInBounds_toArray, List.set_cons_zero, List.set_cons_succ]
      refine wpAnyH_ready (rs := [10, 12]) (by kernel_rfl) (by simp) ?_
      refine AllReadyH.cons rfl (fun K hK => ?_) ?_
      · simp only [List.getElem_toArray, List.getElem_cons_zero, List.getElem_cons_succ]
        go_simp
        refine (concat_dots B a9 2 [k.more, l.more] wc (by have := hyn.size; have := HBW.out; omega) hL9 (by simp) (by have := HK.out.mlen; have := HL.out.mlen; simp; omega)).mono ?_
        rintro e wn ⟨v10, rfl, hL10, hxa⟩
        dsimp only
        rw [← HDS.out] at hL10
        obtain ⟨A10, c10, rfl, _, _⟩ := hL10.len
        replace hL4 := hL4.ext RVec.monoE hxa
        replace hL9 := hL9.ext RDots.monoE hxa
        replace hyn := hyn.trans hxa
        clear hxa hL9
        obtain ⟨wc, rfl⟩ : ∃ wc', wc' = wn := ⟨_, rfl⟩
        refine hK.out _ _ (HAll.out _ hyn) (fun hHeld => ?_)
        clear hK K
        try simp only [Act.put, List.setIfInBounds_toArray, List.set_cons_zero, List.set_cons_succ]
        refine wpAnyH_ready (rs := [11, 12]) (by kernel_rfl) (by simp) ?_
        refine AllReadyH.cons rfl (fun K hK => ?_) ?_
        · simp only [List.getElem_toArray, List.getElem_cons_zero, List.getElem_cons_succ]
          go_simp
          refine (know_Made B a4 2 [k.vec, l.vec] A10 c10 ds wc (by have := hyn.size; have := HBW.out; omega) hL4 (by simp) (by intro x hx; simp at hx; rcases hx with rfl | rfl; exact HK.out.vlen; exact HL.out.vlen) (by intro x hx; simp at hx; rcases hx with rfl | rfl; exact HK.out.vec; exact HL.out.vec) (hL10.sl B) (by rw [HDS.out]; have := HK.out.mlen; have := HL.out.mlen; simp; omega) (by rw [HDS.out]; intro x hx; simp at hx; rcases hx with h | h; exact HK.out.more x h; exact HL.out.more x h)).mono ?_
          rintro e wn ⟨v9, rfl, hk11, hxa⟩
          dsimp only
          rw [← HKK.out] at hk11
          replace hL4 := hL4.ext RVec.monoE hxa
          replace hL10 := hL10.ext (RPair.mono (B := 0)) hxa
          replace hyn := hyn.trans hxa
          obtain ⟨Ax, cx, Ay, cy, rfl, e1, e2, e3, e4, hk11⟩ := hk11
          clear hxa hL4 hL10
          obtain ⟨wc, rfl⟩ : ∃ wc', wc' = wn := ⟨_, rfl⟩
          refine hK.out _ _ (HAll.out _ hyn) (fun hHeld => ?_)
          clear hK K
          try simp only [Act.put, List.setIfInBounds_toArray, List.set_cons_zero, List.set_cons_succ]
          refine wpAnyH_ready (rs := [12]) (by kernel_rfl) (by simp) ?_
          refine AllReadyH.cons rfl (fun K hK => ?_) AllReadyH.nil
          simp only [List.getElem_toArray, List.getElem_cons_zero, List.getElem_cons_succ]
          go_simp
          have hb12 := Blk.new wc 44 #[.slice none 0 0, .slice none 0 0]
          have hxa := (Ext.refl wc).alloc (.cells #[.slice none 0 0, .slice none 0 0] 44)
          have h12 : w1.heap.size ≤ wc.heap.size := hyn.size
          obtain ⟨wn, hwn⟩ : ∃ wn, wn = wc.alloc (.cells #[.slice none 0 0, .slice none 0 0] 44) := ⟨_, rfl⟩
          obtain ⟨r12, hr12⟩ : ∃ r, r = wc.heap.size := ⟨_, rfl⟩
          rw [← hwn] at hb12 hxa ⊢
          rw [← hr12] at hb12 h12 ⊢
          replace hk11 := hk11.ext hxa
          replace hyn := hyn.trans hxa
          clear hxa hwn hr12
          obtain ⟨wc, rfl⟩ : ∃ wc', wc' = wn := ⟨_, rfl⟩
          refine hK.out _ _ (HAll.out _ hyn) (fun hHeld => ?_)
          clear hK K
          try simp only [Act.put, List.setIfInBounds_toArray, List.set_cons_zero, List.set_cons_succ]
          refine wpAnyH_ready (rs := [13]) (by kernel_rfl) (by simp) ?_
          refine AllReadyH.cons rfl (fun K hK => ?_) AllReadyH.nil
          simp only [List.getElem_toArray, List.getElem_cons_zero, List.getElem_cons_succ]
          have y0 := hb12.cell (i := 0) (u := .slice none 0 0) rfl
          have y1 := hb12.cell (i := 1) (u := .slice none 0 0) rfl
          have y2 := hb12.frozen 0
          have y3 := hb12.frozen 1
          have t0 := hb12.ty
          go_simp
          have hyz := (hyn.setCell (p := ⟨r12, 0, none⟩) h12 (.slice Ax kk.vec.length cx)).setCell (p := ⟨r12, 1, none⟩) h12 (.slice Ay kk.more.length cy)
          have hyk := hk11.chg (((Chg.refl (ts := [44]) wc).setCell (p := ⟨r12, 0, none⟩) t0 (by simp) (.slice Ax kk.vec.length cx) (Nat.zero_le _)).setCell (p := ⟨r12, 1, none⟩) (tyAt_put t0) (by simp) (.slice Ay kk.more.length cy) (Nat.zero_le _)) (by decide) (by decide)
          have z0 : ((wc.setCell ⟨r12, 0, none⟩ (.slice Ax kk.vec.length cx)).setCell ⟨r12, 1, none⟩ (.slice Ay kk.more.length cy)).cell? ⟨r12, 0, none⟩ = some (.slice Ax kk.vec.length cx) := by go_simp
          have z1 : ((wc.setCell ⟨r12, 0, none⟩ (.slice Ax kk.vec.length cx)).setCell ⟨r12, 1, none⟩ (.slice Ay kk.more.length cy)).cell? ⟨r12, 1, none⟩ = some (.slice Ay kk.more.length cy) := by go_simp
          clear y0 y1 y2 y3 t0 hb12 hk11
          refine hK.out _ _ (HAll.out _ hyz) (fun hHeld => ?_)
          obtain ⟨wz, hwz⟩ : ∃ wz, wz = (wc.setCell ⟨r12, 0, none⟩ (.slice Ax kk.vec.length cx)).setCell ⟨r12, 1, none⟩ (.slice Ay kk.more.length cy) := ⟨_, rfl⟩
          rw [← hwz] at hyz hyk z0 z1 hHeld ⊢
          clear hwz hyn
          clear hK K
          try simp only [Act.put, List.setIfInBounds_toArray, List.set_cons_zero, List.set_cons_succ]
          refine wpAnyH_done (by kernel_rfl) ?_ _
          have d0 := (HAll.out _ hyz).2.2.1
          have d1 := (HAll.out _ hyz).2.2.2
          go_wp2_with fail
          refine (equal_ints 0 B Ax cx Bv dv kk.vec l.vec wz hyk.sv (HLn.out wz hyz).sv hyk.lv).mono ?_
          rintro e w3 ⟨rfl, hx3⟩
          replace z1 := hx3.cell z1
          replace d1 := hx3.cell d1
          have HY3 := hid (hyk.ext hx3)
          have HX3 := hid (hyz.trans hx3)
          clear hx3 d0 z0 hyk
          generalize decide (kk.vec = l.vec) = b1 at *
          cases b1
          · go_wp2_with fail
            go_ret
            exact ⟨ret_bool (by rw [HW.out]; rfl), HX.out.trans HX3.out⟩
          · go_wp2_with fail
            refine (equal_dots 0 B Ay cy Bm dm kk.more l.more w3 HY3.out.sm (HLn.out w3 HX3.out).sm HY3.out.lm).mono ?_
            rintro e w4 ⟨rfl, hx4⟩
            generalize decide (kk.more = l.more) = b2 at *
            go_wp2_with fail
            go_ret
            exact ⟨ret_bool (by rw [HW.out]; rfl), (HX.out.trans HX3.out).trans hx4⟩
        refine AllReadyH.cons rfl (fun K hK => ?_) AllReadyH.nil
        simp only [List.getElem_toArray, List.getElem_cons_zero, List.getElem_cons_succ]
        go_simp
        have hb12 := Blk.new wc 44 #[.slice none 0 0, .slice none 0 0]
        have hxa := (Ext.refl wc).alloc (.cells #[.slice none 0 0, .slice none 0 0] 44)
        have h12 : w1.heap.size ≤ wc.heap.size := hyn.size
        obtain ⟨wn, hwn⟩ : ∃ wn, wn = wc.alloc (.cells #[.slice none 0 0, .slice none 0 0] 44) := ⟨_, rfl⟩
        obtain ⟨r12, hr12⟩ : ∃ r, r = wc.heap.size := ⟨_, rfl⟩
        rw [← hwn] at hb12 hxa ⊢
        rw [← hr12] at hb12 h12 ⊢
        replace hL4 := hL4.ext RVec.monoE hxa
        replace hL10 := hL10.ext (RPair.mono (B := 0)) hxa
        replace hyn := hyn.trans hxa
        clear hxa hwn hr12
        obtain ⟨wc, rfl⟩ : ∃ wc', wc' = wn := ⟨_, rfl⟩
        refine hK.out _ _ (HAll.out _ hyn) (fun hHeld => ?_)
        clear hK K
        try simp only [Act.put, List.setIfInBounds_toArray, List.set_cons_zero, List.set_cons_succ]
        refine wpAnyH_ready (rs := [11]) (by kernel_rfl) (by simp) ?_
        refine AllReadyH.cons rfl (fun K hK => ?_) AllReadyH.nil
        simp only [List.getElem_toArray, List.getElem_cons_zero, List.getElem_cons_succ]
        go_simp
        refine (know_Made B a4 2 [k.vec, l.vec] A10 c10 ds wc (by have := hyn.size; have := HBW.out; omega) hL4 (by simp) (by intro x hx; simp at hx; rcases hx with rfl | rfl; exact HK.out.vlen; exact HL.out.vlen) (by intro x hx; simp at hx; rcases hx with rfl | rfl; exact HK.out.vec; exact HL.out.vec) (hL10.sl B) (by rw [HDS.out]; have := HK.out.mlen; have := HL.out.mlen; simp; omega) (by rw [HDS.out]; intro x hx; simp at hx; rcases hx with h | h; exact HK.out.more x h; exact HL.out.more x h)).mono ?_
        rintro e wn ⟨v9, rfl, hk11, hxa⟩
        dsimp only
        rw [← HKK.out] at hk11
        replace hL4 := hL4.ext RVec.monoE hxa
        replace hL10 := hL10.ext (RPair.mono (B := 0)) hxa
        replace hb12 := hb12.ext hxa
        replace hyn := hyn.trans hxa
        obtain ⟨Ax, cx, Ay, cy, rfl, e1, e2, e3, e4, hk11⟩ := hk11
        clear hxa hL4 hL10
        obtain ⟨wc, rfl⟩ : ∃ wc', wc' = wn := ⟨_, rfl⟩
        refine hK.out _ _ (HAll.out _ hyn) (fun hHeld => ?_)
        clear hK K
        try simp only [Act.put, List.setIfInBounds_toArray, List.set_cons_zero, List.set_cons_succ]
        refine wpAnyH_ready (rs := [13]) (by kernel_rfl) (by simp) ?_
        refine AllReadyH.cons rfl (fun K hK => ?_) AllReadyH.nil
        simp only [List.getElem_toArray, List.getElem_cons_zero, List.getElem_cons_succ]
        have y0 := hb12.cell (i := 0) (u := .slice none 0 0) rfl
        have y1 := hb12.cell (i := 1) (u := .slice none 0 0) rfl
        have y2 := hb12.frozen 0
        have y3 := hb12.frozen 1
        have t0 := hb12.ty
        go_simp
        have hyz := (hyn.setCell (p := ⟨r12, 0, none⟩) h12 (.slice Ax kk.vec.length cx)).setCell (p := ⟨r12, 1, none⟩) h12 (.slice Ay kk.more.length cy)
        have hyk := hk11.chg (((Chg.refl (ts := [44]) wc).setCell (p := ⟨r12, 0, none⟩) t0 (by simp) (.slice Ax kk.vec.length cx) (Nat.zero_le _)).setCell (p := ⟨r12, 1, none⟩) (tyAt_put t0) (by simp) (.slice Ay kk.more.length cy) (Nat.zero_le _)) (by decide) (by decide)
        have z0 : ((wc.setCell ⟨r12, 0, none⟩ (.slice Ax kk.vec.length cx)).setCell ⟨r12, 1, none⟩ (.slice Ay kk.more.length cy)).cell? ⟨r12, 0, none⟩ = some (.slice Ax kk.vec.length cx) := by go_simp
        have z1 : ((wc.setCell ⟨r12, 0, none⟩ (.slice Ax kk.vec.length cx)).setCell ⟨r12, 1, none⟩ (.slice Ay kk.more.length cy)).cell? ⟨r12, 1, none⟩ = some (.slice Ay kk.more.length cy) := by go_simp
        clear y0 y1 y2 y3 t0 hb12 hk11
        refine hK.out _ _ (HAll.out _ hyz) (fun hHeld => ?_)
        obtain ⟨wz, hwz⟩ : ∃ wz, wz = (wc.setCell ⟨r12, 0, none⟩ (.slice Ax kk.vec.length cx)).setCell ⟨r12, 1, none⟩ (.slice Ay kk.more.length cy) := ⟨_, rfl⟩
        rw [← hwz] at hyz hyk z0 z1 hHeld ⊢
        clear hwz hyn
        clear hK K
        try simp only [Act.put, List.setIfInBounds_toArray, List.set_cons_zero, List.set_cons_succ]
        refine wpAnyH_done (by kernel_rfl) ?_ _
        have d0 := (HAll.out _ hyz).2.2.1
        have d1 := (HAll.out _ hyz).2.2.2
        go_wp2_with fail
        refine (equal_ints 0 B Ax cx Bv dv kk.vec l.vec wz hyk.sv (HLn.out wz hyz).sv hyk.lv).mono ?_
        rintro e w3 ⟨rfl, hx3⟩
        replace z1 := hx3.cell z1
        replace d1 := hx3.cell d1
        have HY3 := hid (hyk.ext hx3)
        have HX3 := hid (hyz.trans hx3)
        clear hx3 d0 z0 hyk
        generalize decide (kk.vec = l.vec) = b1 at *
        cases b1
        · go_wp2_with fail
          go_ret
          exact ⟨ret_bool (by rw [HW.out]; rfl), HX.out.trans HX3.out⟩
        · go_wp2_with fail
          refine (equal_dots 0 B Ay cy Bm dm kk.more l.more w3 HY3.out.sm (HLn.out w3 HX3.out).sm HY3.out.lm).mono ?_
          rintro e w4 ⟨rfl, hx4⟩
          generalize decide (kk.more = l.more) = b2 at *
          go_wp2_with fail
          go_ret
          exact ⟨ret_bool (by rw [HW.out]; rfl), (HX.out.trans HX3.out).trans hx4⟩
      refine AllReadyH.cons rfl (fun K hK => ?_) AllReadyH.nil
      simp only [List.getElem_toArray, List.getElem_cons_zero, List.getElem_cons_succ]
      go_simp
      have hb12 := Blk.new wc 44 #[.slice none 0 0, .slice none 0 0]
      have hxa := (Ext.refl wc).alloc (.cells #[.slice none 0 0, .slice none 0 0] 44)
      have h12 : w1.heap.size ≤ wc.heap.size := hyn.size
      obtain ⟨wn, hwn⟩ : ∃ wn, wn = wc.alloc (.cells #[.slice none 0 0, .slice none 0 0] 44) := ⟨_, rfl⟩
      obtain ⟨r12, hr12⟩ : ∃ r, r = wc.heap.size := ⟨_, rfl⟩
      rw [← hwn] at hb12 hxa ⊢
      rw [← hr12] at hb12 h12 ⊢
      replace hL4 := hL4.ext RVec.monoE hxa
      replace hL9 := hL9.ext RDots.monoE hxa
      replace hyn := hyn.trans hxa
      clear hxa hwn hr12
      obtain ⟨wc, rfl⟩ : ∃ wc', wc' = wn := ⟨_, rfl⟩
      refine hK.out _ _ (HAll.out _ hyn) (fun hHeld => ?_)
      clear hK K
      try simp only [Act.put, List.setIfInBounds_toArray, List.set_cons_zero, List.set_cons_succ]
      refine wpAnyH_ready (rs := [10]) (by kernel_rfl) (by simp) ?_
      refine AllReadyH.cons rfl (fun K hK => ?_) AllReadyH.nil
      simp only [List.getElem_toArray, List.getElem_cons_zero, List.getElem_cons_succ]
      go_simp
      refine (concat_dots B a9 2 [k.more, l.more] wc (by have := hyn.size; have := HBW.out; omega) hL9 (by simp) (by have := HK.out.mlen; have := HL.out.mlen; simp; omega)).mono ?_
      rintro e wn ⟨v10, rfl, hL10, hxa⟩
      dsimp only
      rw [← HDS.out] at hL10
      obtain ⟨A10, c10, rfl, _, _⟩ := hL10.len
      replace hL4 := hL4.ext RVec.monoE hxa
      replace hL9 := hL9.ext RDots.monoE hxa
      replace hb12 := hb12.ext hxa
      replace hyn := hyn.trans hxa
      clear hxa hL9
      obtain ⟨wc, rfl⟩ : ∃ wc', wc' = wn := ⟨_, rfl⟩
      refine hK.out _ _ (HAll.out _ hyn) (fun hHeld => ?_)
      clear hK K
      try simp only [Act.put, List.setIfInBounds_toArray, List.set_cons_zero, List.set_cons_succ]
      refine wpAnyH_ready (rs := [11]) (by kernel_rfl) (by simp) ?_
      refine AllReadyH.cons rfl (fun K hK => ?_) AllReadyH.nil
      simp only [List.getElem_toArray, List.getElem_cons_zero, List.getElem_cons_succ]
      go_simp
      refine (know_Made B a4 2 [k.vec, l.vec] A10 c10 ds wc (by have := hyn.size; have := HBW.out; omega) hL4 (by simp) (by intro x hx; simp at hx; rcases hx with rfl | rfl; exact HK.out.vlen; exact HL.out.vlen) (by intro x hx; simp at hx; rcases hx with rfl | rfl; exact HK.out.vec; exact HL.out.vec) (hL10.sl B) (by rw [HDS.out]; have := HK.out.mlen; have := HL.out.mlen; simp; omega) (by rw [HDS.out]; intro x hx; simp at hx; rcases hx with h | h; exact HK.out.more x h; exact HL.out.more x h)).mono ?_
      rintro e wn ⟨v9, rfl, hk11, hxa⟩
      dsimp only
      rw [← HKK.out] at hk11
      replace hL4 := hL4.ext RVec.monoE hxa
      replace hL10 := hL10.ext (RPair.mono (B := 0)) hxa
      replace hb12 := hb12.ext hxa
      replace hyn := hyn.trans hxa
      obtain ⟨Ax, cx, Ay, cy, rfl, e1, e2, e3, e4, hk11⟩ := hk11
      clear hxa hL4 hL10
      obtain ⟨wc, rfl⟩ : ∃ wc', wc' = wn := ⟨_, rfl⟩
      refine hK.out _ _ (HAll.out _ hyn) (fun hHeld => ?_)
      clear hK K
      try simp only [Act.put, List.setIfInBounds_toArray, List.set_cons_zero, List.set_cons_succ]
      refine wpAnyH_ready (rs := [13]) (by kernel_rfl) (by simp) ?_
      refine AllReadyH.cons rfl (fun K hK => ?_) AllReadyH.nil
      simp only [List.getElem_toArray, List.getElem_cons_zero, List.getElem_cons_succ]
      have y0 := hb12.cell (i := 0) (u := .slice none 0 0) rfl
      have y1 := hb12.cell (i := 1) (u := .slice none 0 0) rfl
      have y2 := hb12.frozen 0
      have y3 := hb12.frozen 1
      have t0 := hb12.ty
      go_simp
      have hyz := (hyn.setCell (p := ⟨r12, 0, none⟩) h12 (.slice Ax kk.vec.length cx)).setCell (p := ⟨r12, 1, none⟩) h12 (.slice Ay kk.more.length cy)
      have hyk := hk11.chg (((Chg.refl (ts := [44]) wc).setCell (p := ⟨r12, 0, none⟩) t0 (by simp) (.slice Ax kk.vec.length cx) (Nat.zero_le _)).setCell (p := ⟨r12, 1, none⟩) (tyAt_put t0) (by simp) (.slice Ay kk.more.length cy) (Nat.zero_le _)) (by decide) (by decide)
      have z0 : ((wc.setCell ⟨r12, 0, none⟩ (.slice Ax kk.vec.length cx)).setCell ⟨r12, 1, none⟩ (.slice Ay kk.more.length cy)).cell? ⟨r12, 0, none⟩ = some (.slice Ax kk.vec.length cx) := by go_simp
      have z1 : ((wc.setCell ⟨r12, 0, none⟩ (.slice Ax kk.vec.length cx)).setCell ⟨r12, 1, none⟩ (.slice Ay kk.more.length cy)).cell? ⟨r12, 1, none⟩ = some (.slice Ay kk.more.length cy) := by go_simp
      clear y0 y1 y2 y3 t0 hb12 hk11
      refine hK.out _ _ (HAll.out _ hyz) (fun hHeld => ?_)
      obtain ⟨wz, hwz⟩ : ∃ wz, wz = (wc.setCell ⟨r12, 0, none⟩ (.slice Ax kk.vec.length cx)).setCell ⟨r12, 1, none⟩ (.slice Ay kk.more.length cy) := ⟨_, rfl⟩
      rw [← hwz] at hyz hyk z0 z1 hHeld ⊢
      clear hwz hyn
      clear hK K
      try simp only [Act.put, List.setIfInBounds_toArray, List.set_cons_zero, List.set_cons_succ]
      refine wpAnyH_done (by kernel_rfl) ?_ _
      have d0 := (HAll.out _ hyz).2.2.1
      have d1 := (HAll.out _ hyz).2.2.2
      go_wp2_with fail
      refine (equal_ints 0 B Ax cx Bv dv kk.vec l.vec wz hyk.sv (HLn.out wz hyz).sv hyk.lv).mono ?_
      rintro e w3 ⟨rfl, hx3⟩
      replace z1 := hx3.cell z1
      replace d1 := hx3.cell d1
      have HY3 := hid (hyk.ext hx3)
      have HX3 := hid (hyz.trans hx3)
      clear hx3 d0 z0 hyk
      generalize decide (kk.vec = l.vec) = b1 at *
      cases b1
      · go_wp2_with fail
        go_ret
        exact ⟨ret_bool (by rw [HW.out]; rfl), HX.out.trans HX3.out⟩
      · go_wp2_with fail
        refine (equal_dots 0 B Ay cy Bm dm kk.more l.more w3 HY3.out.sm (HLn.out w3 HX3.out).sm HY3.out.lm).mono ?_
        rintro e w4 ⟨rfl, hx4⟩
        generalize decide (kk.more = l.more) = b2 at *
        go_wp2_with fail
        go_ret
        exact ⟨ret_bool (by rw [HW.out]; rfl), (HX.out.trans HX3.out).trans hx4⟩
    refine AllReadyH.cons rfl (fun K hK => ?_) AllReadyH.nil
    simp only [List.getElem_toArray, List.getElem_cons_zero, List.getElem_cons_succ]
    go_simp
    have hb12 := Blk.new wc 44 #[.slice none 0 0, .slice none 0 0]
    have hxa := (Ext.refl wc).alloc (.cells #[.slice none 0 0, .slice none 0 0] 44)
    have h12 : w1.heap.size ≤ wc.heap.size := hyn.size
    obtain ⟨wn, hwn⟩ : ∃ wn, wn = wc.alloc (.cells #[.slice none 0 0, .slice none 0 0] 44) := ⟨_, rfl⟩
    obtain ⟨r12, hr12⟩ : ∃ r, r = wc.heap.size := ⟨_, rfl⟩
    rw [← hwn] at hb12 hxa ⊢
    rw [← hr12] at hb12 h12 ⊢
    replace hL4 := hL4.ext RVec.monoE hxa
    replace hyn := hyn.trans hxa
    clear hxa hwn hr12
    obtain ⟨wc, rfl⟩ : ∃ wc', wc' = wn := ⟨_, rfl⟩
    refine hK.out _ _ (HAll.out _ hyn) (fun hHeld => ?_)
    clear hK K
    try simp only [Act.put, List.setIfInBounds_toArray, List.set_cons_zero, List.set_cons_succ]
    refine wpAnyH_ready (rs := [9]) (by kernel_rfl) (by simp) ?_
    refine AllReadyH.cons rfl (fun K hK => ?_) AllReadyH.nil
    simp only [List.getElem_toArray, List.getElem_cons_zero, List.getElem_cons_succ]
    go_simp
    have hxa := (Ext.refl wc).alloc (.cells #[.slice Am k.more.length cm, .slice Bm l.more.length dm] 42)
    have hyn' := hyn.trans hxa
    obtain ⟨wn, hwn⟩ : ∃ wn, wn = wc.alloc (.cells #[.slice Am k.more.length cm, .slice Bm l.more.length dm] 42) := ⟨_, rfl⟩
    have hL9 : SlDotss B wn (some ⟨wc.heap.size, 0, none⟩) [k.more, l.more] := Sl.two hwn ⟨_, rfl, Am, cm, rfl, ha3, ha4, (HKn.out wn (by rw [hwn]; exact hyn')).sm⟩ ⟨_, rfl, Bm, dm, rfl, hb3, hb4, (HLn.out wn (by rw [hwn]; exact hyn')).sm⟩
    obtain ⟨a9, ha9⟩ : ∃ a, a = some (⟨wc.heap.size, 0, none⟩ : Addr) := ⟨_, rfl⟩
    rw [← hwn] at hxa hyn'
    rw [← hwn, ← ha9]
    rw [← ha9] at hL9
    replace hL4 := hL4.ext RVec.monoE hxa
    replace hb12 := hb12.ext hxa
    clear hxa hwn ha9 hyn
    have hyn := hyn'
    clear hyn'
    obtain ⟨wc, rfl⟩ : ∃ wc', wc' = wn := ⟨_, rfl⟩
    refine hK.out _ _ (HAll.out _ hyn) (fun hHeld => ?_)
    clear hK K
    try simp only [Act.put, List.setIfInBounds_toArray, List.set_cons_zero, List.set_cons_succ]
    refine wpAnyH_ready (rs := [10]) (by kernel_rfl) (by simp) ?_
    refine AllReadyH.cons rfl (fun K hK => ?_) AllReadyH.nil
    simp only [List.getElem_toArray, List.getElem_cons_zero, List.getElem_cons_succ]
    go_simp
    refine (concat_dots B a9 2 [k.more, l.more] wc (by have := hyn.size; have := HBW.out; omega) hL9 (by simp) (by have := HK.out.mlen; have := HL.out.mlen; simp; omega)).mono ?_
    rintro e wn ⟨v10, rfl, hL10, hxa⟩
    dsimp only
    rw [← HDS.out] at hL10
    obtain ⟨A10, c10, rfl, _, _⟩ := hL10.len
    replace hL4 := hL4.ext RVec.monoE hxa
    replace hL9 := hL9.ext RDots.monoE hxa
    replace hb12 := hb12.ext hxa
    replace hyn := hyn.trans hxa
    clear hxa hL9
    obtain ⟨wc, rfl⟩ : ∃ wc', wc' = wn := ⟨_, rfl⟩
    refine hK.out _ _ (HAll.out _ hyn) (fun hHeld => ?_)
    clear hK K
    try simp only [Act.put, List.setIfInBounds_toArray, List.set_cons_zero, List.set_cons_succ]
    refine wpAnyH_ready (rs := [11]) (by kernel_rfl) (by simp) ?_
    refine AllReadyH.cons rfl (fun K hK => ?_) AllReadyH.nil
    simp only [List.getElem_toArray, List.getElem_cons_zero, List.getElem_cons_succ]
    go_simp
    refine (know_Made B a4 2 [k.vec, l.vec] A10 c10 ds wc (by have := hyn.size; have := HBW.out; omega) hL4 (by simp) (by intro x hx; simp at hx; rcases hx with rfl | rfl; exact HK.out.vlen; exact HL.out.vlen) (by intro x hx; simp at hx; rcases hx with rfl | rfl; exact HK.out.vec; exact HL.out.vec) (hL10.sl B) (by rw [HDS.out]; have := HK.out.mlen; have := HL.out.mlen; simp; omega) (by rw [HDS.out]; intro x hx; simp at hx; rcases hx with h | h; exact HK.out.more x h; exact HL.out.more x h)).mono ?_
    rintro e wn ⟨v9, rfl, hk11, hxa⟩
    dsimp only
    rw [← HKK.out] at hk11
    replace hL4 := hL4.ext RVec.monoE hxa
    replace hL10 := hL10.ext (RPair.mono (B := 0)) hxa
    replace hb12 := hb12.ext hxa
    replace hyn := hyn.trans hxa
    obtain ⟨Ax, cx, Ay, cy, rfl, e1, e2, e3, e4, hk11⟩ := hk11
    clear hxa hL4 hL10
    obtain ⟨wc, rfl⟩ : ∃ wc', wc' = wn := ⟨_, rfl⟩
    refine hK.out _ _ (HAll.out _ hyn) (fun hHeld => ?_)
    clear hK K
    try simp only [Act.put, List.setIfInBounds_toArray, List.set_cons_zero, List.set_cons_succ]
    refine wpAnyH_ready (rs := [13]) (by kernel_rfl) (by simp) ?_
    refine AllReadyH.cons rfl (fun K hK => ?_) AllReadyH.nil
    simp only [List.getElem_toArray, List.getElem_cons_zero, List.getElem_cons_succ]
    have y0 := hb12.cell (i := 0) (u := .slice none 0 0) rfl
    have y1 := hb12.cell (i := 1) (u := .slice none 0 0) rfl
    have y2 := hb12.frozen 0
    have y3 := hb12.frozen 1
    have t0 := hb12.ty
    go_simp
    have hyz := (hyn.setCell (p := ⟨r12, 0, none⟩) h12 (.slice Ax kk.vec.length cx)).setCell (p := ⟨r12, 1, none⟩) h12 (.slice Ay kk.more.length cy)
    have hyk := hk11.chg (((Chg.refl (ts := [44]) wc).setCell (p := ⟨r12, 0, none⟩) t0 (by simp) (.slice Ax kk.vec.length cx) (Nat.zero_le _)).setCell (p := ⟨r12, 1, none⟩) (tyAt_put t0) (by simp) (.slice Ay kk.more.length cy) (Nat.zero_le _)) (by decide) (by decide)
    have z0 : ((wc.setCell ⟨r12, 0, none⟩ (.slice Ax kk.vec.length cx)).setCell ⟨r12, 1, none⟩ (.slice Ay kk.more.length cy)).cell? ⟨r12, 0, none⟩ = some (.slice Ax kk.vec.length cx) := by go_simp
    have z1 : ((wc.setCell ⟨r12, 0, none⟩ (.slice Ax kk.vec.length cx)).setCell ⟨r12, 1, none⟩ (.slice Ay kk.more.length cy)).cell? ⟨r12, 1, none⟩ = some (.slice Ay kk.more.length cy) := by go_simp
    clear y0 y1 y2 y3 t0 hb12 hk11
    refine hK.out _ _ (HAll.out _ hyz) (fun hHeld => ?_)
    obtain ⟨wz, hwz⟩ : ∃ wz, wz = (wc.setCell ⟨r12, 0, none⟩ (.slice Ax kk.vec.length cx)).setCell ⟨r12, 1, none⟩ (.slice Ay kk.more.length cy) := ⟨_, rfl⟩
    rw [← hwz] at hyz hyk z0 z1 hHeld ⊢
    clear hwz hyn
    clear hK K
    try simp only [Act.put, List.setIfInBounds_toArray, List.set_cons_zero, List.set_cons_succ]
    refine wpAnyH_done (by kernel_rfl) ?_ _
    have d0 := (HAll.out _ hyz).2.2.1
    have d1 := (HAll.out _ hyz).2.2.2
    go_wp2_with fail
    refine (equal_ints 0 B Ax cx Bv dv kk.vec l.vec wz hyk.sv (HLn.out wz hyz).sv hyk.lv).mono ?_
    rintro e w3 ⟨rfl, hx3⟩
    replace z1 := hx3.cell z1
    replace d1 := hx3.cell d1
    have HY3 := hid (hyk.ext hx3)
    have HX3 := hid (hyz.trans hx3)
    clear hx3 d0 z0 hyk
    generalize decide (kk.vec = l.vec) = b1 at *
    cases b1
    · go_wp2_with fail
      go_ret
      exact ⟨ret_bool (by rw [HW.out]; rfl), HX.out.trans HX3.out⟩
    · go_wp2_with fail
      refine (equal_dots 0 B Ay cy Bm dm kk.more l.more w3 HY3.out.sm (HLn.out w3 HX3.out).sm HY3.out.lm).mono ?_
      rintro e w4 ⟨rfl, hx4⟩
      generalize decide (kk.more = l.more) = b2 at *
      go_wp2_with fail
      go_ret
      exact ⟨ret_bool (by rw [HW.out]; rfl), (HX.out.trans HX3.out).trans hx4⟩
  refine AllReadyH.cons rfl (fun K hK => ?_) ?_
  · simp only [List.getElem_toArray, List.getElem_cons_zero, List.getElem_cons_succ]
    go_simp
    have hxa := (Ext.refl wc).alloc (.cells #[.slice Am k.more.length cm, .slice Bm l.more.length dm] 42)
    have hyn' := hyn.trans hxa
    obtain ⟨wn, hwn⟩ : ∃ wn, wn = wc.alloc (.cells #[.slice Am k.more.length cm, .slice Bm l.more.length dm] 42) := ⟨_, rfl⟩
    have hL9 : SlDotss B wn (some ⟨wc.heap.size, 0, none⟩) [k.more, l.more] := Sl.two hwn ⟨_, rfl, Am, cm, rfl, ha3, ha4, (HKn.out wn (by rw [hwn]; exact hyn')).sm⟩ ⟨_, rfl, Bm, dm, rfl, hb3, hb4, (HLn.out wn (by rw [hwn]; exact hyn')).sm⟩
    obtain ⟨a9, ha9⟩ : ∃ a, a = some (⟨wc.heap.size, 0, none⟩ : Addr) := ⟨_, rfl⟩
    rw [← hwn] at hxa hyn'
    rw [← hwn, ← ha9]
    rw [← ha9] at hL9
    clear hxa hwn ha9 hyn
    have hyn := hyn'
    clear hyn'
    obtain ⟨wc, rfl⟩ : ∃ wc', wc' = wn := ⟨_, rfl⟩
    refine hK.out _ _ (HAll.out _ hyn) (fun hHeld => ?_)
    clear hK K
    try simp only [Act.put, List.setIfInBounds_toArray, List.set_cons_zero, List.set_cons_succ]
    refine wpAnyH_ready (rs := [4, 10, 12]) (by kernel_rfl) (by simp) ?_
    refine AllReadyH.cons rfl (fun K hK => ?_) ?_
    · simp only [List.getElem_toArray, List.getElem_cons_zero, List.getElem_cons_succ]
      go_simp
      have hxa := (Ext.refl wc).alloc (.cells #[.slice Av k.vec.length cv, .slice Bv l.vec.length dv] 41)
      have hyn' := hyn.trans hxa
      obtain ⟨wn, hwn⟩ : ∃ wn, wn = wc.alloc (.cells #[.slice Av k.vec.length cv, .slice Bv l.vec.length dv] 41) := ⟨_, rfl⟩
      have hL4 : SlVecs B wn (some ⟨wc.heap.size, 0, none⟩) [k.vec, l.vec] := Sl.two hwn ⟨_, rfl, Av, cv, rfl, ha1, ha2, (HKn.out wn (by rw [hwn]; exact hyn')).sv⟩ ⟨_, rfl, Bv, dv, rfl, hb1, hb2, (HLn.out wn (by rw [hwn]; exact hyn')).sv⟩
      obtain ⟨a4, ha4⟩ : ∃ a, a = some (⟨wc.heap.size, 0, none⟩ : Addr) := ⟨_, rfl⟩
      rw [← hwn] at hxa hyn'
      rw [← hwn, ← ha4]
      rw [← ha4] at hL4
      replace hL9 := hL9.ext RDots.monoE hxa
      clear hxa hwn ha4 hyn
      have hyn := hyn'
      clear hyn'
      obtain ⟨wc, rfl⟩ : ∃ wc', wc' = wn := ⟨_, rfl⟩
      refine hK.out _ _ (HAll.out _ hyn) (fun hHeld => ?_)
      clear hK K
      try simp only [Act.put, List.setIfInBounds_toArray, List.set_cons_zero, List.set_cons_succ]
      refine wpAnyH_ready (rs := [10, 12]) (by kernel_rfl) (by simp) ?_
      refine AllReadyH.cons rfl (fun K hK => ?_) ?_
      · simp only [List.getElem_toArray, List.getElem_cons_zero, List.getElem_cons_succ]
        go_simp
        refine (concat_dots B a9 2 [k.more, l.more] wc (by have := hyn.size; have := HBW.out; omega) hL9 (by simp) (by have := HK.out.mlen; have := HL.out.mlen; simp; omega)).mono ?_
        rintro e wn ⟨v10, rfl, hL10, hxa⟩
        dsimp only
        rw [← HDS.out] at hL10
        obtain ⟨A10, c10, rfl, _, _⟩ := hL10.len
        replace hL4 := hL4.ext RVec.monoE hxa
        replace hL9 := hL9.ext RDots.monoE hxa
        replace hyn := hyn.trans hxa
        clear hxa hL9
        obtain ⟨wc, rfl⟩ : ∃ wc', wc' = wn := ⟨_, rfl⟩
        refine hK.out _ _ (HAll.out _ hyn) (fun hHeld => ?_)
        clear hK K
        try simp only [Act.put, List.setIfInBounds_toArray, List.set_cons_zero, List.set_cons_succ]
        refine wpAnyH_ready (rs := [11, 12]) (by kernel_rfl) (by simp) ?_
        refine AllReadyH.cons rfl (fun K hK => ?_) ?_
        · simp only [List.getElem_toArray, List.getElem_cons_zero, List.getElem_cons_succ]
          go_simp
          refine (know_Made B a4 2 [k.vec, l.vec] A10 c10 ds wc (by have := hyn.size; have := HBW.out; omega) hL4 (by simp) (by intro x hx; simp at hx; rcases hx with rfl | rfl; exact HK.out.vlen; exact HL.out.vlen) (by intro x hx; simp at hx; rcases hx with rfl | rfl; exact HK.out.vec; exact HL.out.vec) (hL10.sl B) (by rw [HDS.out]; have := HK.out.mlen; have := HL.out.mlen; simp; omega) (by rw [HDS.out]; intro x hx; simp at hx; rcases hx with h | h; exact HK.out.more x h; exact HL.out.more x h)).mono ?_
          rintro e wn ⟨v9, rfl, hk11, hxa⟩
          dsimp only
          rw [← HKK.out] at hk11
          replace hL4 := hL4.ext RVec.monoE hxa
          replace hL10 := hL10.ext (RPair.mono (B := 0)) hxa
          replace hyn := hyn.trans hxa
          obtain ⟨Ax, cx, Ay, cy, rfl, e1, e2, e3, e4, hk11⟩ := hk11
          clear hxa hL4 hL10
          obtain ⟨wc, rfl⟩ : ∃ wc', wc' = wn := ⟨_, rfl⟩
          refine hK.out _ _ (HAll.out _ hyn) (fun hHeld => ?_)
          clear hK K
          try simp only [Act.put, List.setIfInBounds_toArray, List.set_cons_zero, List.set_cons_succ]
          refine wpAnyH_ready (rs := [12]) (by kernel_rfl) (by simp) ?_
          refine AllReadyH.cons rfl (fun K hK => ?_) AllReadyH.nil
          simp only [List.getElem_toArray, List.getElem_cons_zero, List.getElem_cons_succ]
          go_simp
          have hb12 := Blk.new wc 44 #[.slice none 0 0, .slice none 0 0]
          have hxa := (Ext.refl wc).alloc (.cells #[.slice none 0 0, .slice none 0 0] 44)
          have h12 : w1.heap.size ≤ wc.heap.size := hyn.size
          obtain ⟨wn, hwn⟩ : ∃ wn, wn = wc.alloc (.cells #[.slice none 0 0, .slice none 0 0] 44) := ⟨_, rfl⟩
          obtain ⟨r12, hr12⟩ : ∃ r, r = wc.heap.size := ⟨_, rfl⟩
          rw [← hwn] at hb12 hxa ⊢
          rw [← hr12] at hb12 h12 ⊢
          replace hk11 := hk11.ext hxa
          replace hyn := hyn.trans hxa
          clear hxa hwn hr12
          obtain ⟨wc, rfl⟩ : ∃ wc', wc' = wn := ⟨_, rfl⟩
          refine hK.out _ _ (HAll.out _ hyn) (fun hHeld => ?_)
          clear hK K
          try simp only [Act.put, List.setIfInBounds_toArray, List.set_cons_zero, List.set_cons_succ]
          refine wpAnyH_ready (rs := [13]) (by kernel_rfl) (by simp) ?_
          refine AllReadyH.cons rfl (fun K hK => ?_) AllReadyH.nil
          simp only [List.getElem_toArray, List.getElem_cons_zero, List.getElem_cons_succ]
          have y0 := hb12.cell (i := 0) (u := .slice none 0 0) rfl
          have y1 := hb12.cell (i := 1) (u := .slice none 0 0) rfl
          have y2 := hb12.frozen 0
          have y3 := hb12.frozen 1
          have t0 := hb12.ty
          go_simp
          have hyz := (hyn.setCell (p := ⟨r12, 0, none⟩) h12 (.slice Ax kk.vec.length cx)).setCell (p := ⟨r12, 1, none⟩) h12 (.slice Ay kk.more.length cy)
          have hyk := hk11.chg (((Chg.refl (ts := [44]) wc).setCell (p := ⟨r12, 0, none⟩) t0 (by simp) (.slice Ax kk.vec.length cx) (Nat.zero_le _)).setCell (p := ⟨r12, 1, none⟩) (tyAt_put t0) (by simp) (.slice Ay kk.more.length cy) (Nat.zero_le _)) (by decide) (by decide)
          have z0 : ((wc.setCell ⟨r12, 0, none⟩ (.slice Ax kk.vec.length cx)).setCell ⟨r12, 1, none⟩ (.slice Ay kk.more.length cy)).cell? ⟨r12, 0, none⟩ = some (.slice Ax kk.vec.length cx) := by go_simp
          have z1 : ((wc.setCell ⟨r12, 0, none⟩ (.slice Ax kk.vec.length cx)).setCell ⟨r12, 1, none⟩ (.slice Ay kk.more.length cy)).cell? ⟨r12, 1, none⟩ = some (.slice Ay kk.more.length cy) := by go_simp
          clear y0 y1 y2 y3 t0 hb12 hk11
          refine hK.out _ _ (HAll.out _ hyz) (fun hHeld => ?_)
          obtain ⟨wz, hwz⟩ : ∃ wz, wz = (wc.setCell ⟨r12, 0, none⟩ (.slice Ax kk.vec.length cx)).setCell ⟨r12, 1, none⟩ (.slice Ay kk.more.length cy) := ⟨_, rfl⟩
          rw [← hwz] at hyz hyk z0 z1 hHeld ⊢
          clear hwz hyn
          clear hK K
          try simp only [Act.put, List.setIfInBounds_toArray, List.set_cons_zero, List.set_cons_succ]
          refine wpAnyH_done (by kernel_rfl) ?_ _
          have d0 := (HAll.out _ hyz).2.2.1
          have d1 := (HAll.out _ hyz).2.2.2
          go_wp2_with fail
          refine (equal_ints 0 B Ax cx Bv dv kk.vec l.vec wz hyk.sv (HLn.out wz hyz).sv hyk.lv).mono ?_
          rintro e w3 ⟨rfl, hx3⟩
          replace z1 := hx3.cell z1
          replace d1 := hx3.cell d1
          have HY3 := hid (hyk.ext hx3)
          have HX3 := hid (hyz.trans hx3)
          clear hx3 d0 z0 hyk
          generalize decide (kk.vec = l.vec) = b1 at *
          cases b1
          · go_wp2_with fail
            go_ret
            exact ⟨ret_bool (by rw [HW.out]; rfl), HX.out.trans HX3.out⟩
          · go_wp2_with fail
            refine (equal_dots 0 B Ay cy Bm dm kk.more l.more w3 HY3.out.sm (HLn.out w3 HX3.out).sm HY3.out.lm).mono ?_
            rintro e w4 ⟨rfl, hx4⟩
            generalize decide (kk.more = l.more) = b2 at *
            go_wp2_with fail
            go_ret
            exact ⟨ret_bool (by rw [HW.out]; rfl), (HX.out.trans HX3.out).trans hx4⟩
        refine AllReadyH.cons rfl (fun K hK => ?_) AllReadyH.nil
        simp only [List.getElem_toArray, List.getElem_cons_zero, List.getElem_cons_succ]
        go_simp
        have hb12 := Blk.new wc 44 #[.slice none 0 0, .slice none 0 0]
        have hxa := (Ext.refl wc).alloc (.cells #[.slice none 0 0, .slice none 0 0] 44)
        have h12 : w1.heap.size ≤ wc.heap.size := hyn.size
        obtain ⟨wn, hwn⟩ : ∃ wn, wn = wc.alloc (.cells #[.slice none 0 0, .slice none 0 0] 44) := ⟨_, rfl⟩
        obtain ⟨r12, hr12⟩ : ∃ r, r = wc.heap.size := ⟨_, rfl⟩
        rw [← hwn] at hb12 hxa ⊢
        rw [← hr12] at hb12 h12 ⊢
        replace hL4 := hL4.ext RVec.monoE hxa
        replace hL10 := hL10.ext (RPair.mono (B := 0)) hxa
        replace hyn := hyn.trans hxa
        clear hxa hwn hr12
        obtain ⟨wc, rfl⟩ : ∃ wc', wc' = wn := ⟨_, rfl⟩
        refine hK.out _ _ (HAll.out _ hyn) (fun hHeld => ?_)
        clear hK K
        try simp only [Act.put, List.setIfInBounds_toArray, List.set_cons_zero, List.set_cons_succ]
        refine wpAnyH_ready (rs := [11]) (by kernel_rfl) (by simp) ?_
        refine AllReadyH.cons rfl (fun K hK => ?_) AllReadyH.nil
        simp only [List.getElem_toArray, List.getElem_cons_zero, List.getElem_cons_succ]
        go_simp
        refine (know_Made B a4 2 [k.vec, l.vec] A10 c10 ds wc (by have := hyn.size; have := HBW.out; omega) hL4 (by simp) (by intro x hx; simp at hx; rcases hx with rfl | rfl; exact HK.out.vlen; exact HL.out.vlen) (by intro x hx; simp at hx; rcases hx with rfl | rfl; exact HK.out.vec; exact HL.out.vec) (hL10.sl B) (by rw [HDS.out]; have := HK.out.mlen; have := HL.out.mlen; simp; omega) (by rw [HDS.out]; intro x hx; simp at hx; rcases hx with h | h; exact HK.out.more x h; exact HL.out.more x h)).mono ?_
        rintro e wn ⟨v9, rfl, hk11, hxa⟩
        dsimp only
        rw [← HKK.out] at hk11
        replace hL4 := hL4.ext RVec.monoE hxa
        replace hL10 := hL10.ext (RPair.mono (B := 0)) hxa
        replace hb12 := hb12.ext hxa
        replace hyn := hyn.trans hxa
        obtain ⟨Ax, cx, Ay, cy, rfl, e1, e2, e3, e4, hk11⟩ := hk11
        clear hxa hL4 hL10
        obtain ⟨wc, rfl⟩ : ∃ wc', wc' = wn := ⟨_, rfl⟩
        refine hK.out _ _ (HAll.out _ hyn) (fun hHeld => ?_)
        clear hK K
        try simp only [Act.put, List.setIfInBounds_toArray, List.set_cons_zero, List.set_cons_succ]
        refine wpAnyH_ready (rs := [13]) (by kernel_rfl) (by simp) ?_
        refine AllReadyH.cons rfl (fun K hK => ?_) AllReadyH.nil
        simp only [List.getElem_toArray, List.getElem_cons_zero, List.getElem_cons_succ]
        have y0 := hb12.cell (i := 0) (u := .slice none 0 0) rfl
        have y1 := hb12.cell (i := 1) (u := .slice none 0 0) rfl
        have y2 := hb12.frozen 0
        have y3 := hb12.frozen 1
        have t0 := hb12.ty
        go_simp
        have hyz := (hyn.setCell (p := ⟨r12, 0, none⟩) h12 (.slice Ax kk.vec.length cx)).setCell (p := ⟨r12, 1, none⟩) h12 (.slice Ay kk.more.length cy)
        have hyk := hk11.chg (((Chg.refl (ts := [44]) wc).setCell (p := ⟨r12, 0, none⟩) t0 (by simp) (.slice Ax kk.vec.length cx) (Nat.zero_le _)).setCell (p := ⟨r12, 1, none⟩) (tyAt_put t0) (by simp) (.slice Ay kk.more.length cy) (Nat.zero_le _)) (by decide) (by decide)
        have z0 : ((wc.setCell ⟨r12, 0, none⟩ (.slice Ax kk.vec.length cx)).setCell ⟨r12, 1, none⟩ (.slice Ay kk.more.length cy)).cell? ⟨r12, 0, none⟩ = some (.slice Ax kk.vec.length cx) := by go_simp
        have z1 : ((wc.setCell ⟨r12, 0, none⟩ (.slice Ax kk.vec.length cx)).setCell ⟨r12, 1, none⟩ (.slice Ay kk.more.length cy)).cell? ⟨r12, 1, none⟩ = some (.slice Ay kk.more.length cy) := by go_simp
        clear y0 y1 y2 y3 t0 hb12 hk11
        refine hK.out _ _ (HAll.out _ hyz) (fun hHeld => ?_)
        obtain ⟨wz, hwz⟩ : ∃ wz, wz = (wc.setCell ⟨r12, 0, none⟩ (.slice Ax kk.vec.length cx)).setCell ⟨r12, 1, none⟩ (.slice Ay kk.more.length cy) := ⟨_, rfl⟩
        rw [← hwz] at hyz hyk z0 z1 hHeld ⊢
        clear hwz hyn
        clear hK K
        try simp only [Act.put, List.setIfInBounds_toArray, List.set_cons_zero, List.set_cons_succ]
        refine wpAnyH_done (by kernel_rfl) ?_ _
        have d0 := (HAll.out _ hyz).2.2.1
        have d1 := (HAll.out _ hyz).2.2.2
        go_wp2_with fail
        refine (equal_ints 0 B Ax cx Bv dv kk.vec l.vec wz hyk.sv (HLn.out wz hyz).sv hyk.lv).mono ?_
        rintro e w3 ⟨rfl, hx3⟩
        replace z1 := hx3.cell z1
        replace d1 := hx3.cell d1
        have HY3 := hid (hyk.ext hx3)
        have HX3 := hid (hyz.trans hx3)
        clear hx3 d0 z0 hyk
        generalize decide (kk.vec = l.vec) = b1 at *
        cases b1
        · go_wp2_with fail
          go_ret
          exact ⟨ret_bool (by rw [HW.out]; rfl), HX.out.trans HX3.out⟩
        · go_wp2_with fail
          refine (equal_dots 0 B Ay cy Bm dm kk.more l.more w3 HY3.out.sm (HLn.out w3 HX3.out).sm HY3.out.lm).mono ?_
          rintro e w4 ⟨rfl, hx4⟩
          generalize decide (kk.more = l.more) = b2 at *
          go_wp2_with fail
          go_ret
          exact ⟨ret_bool (by rw [HW.out]; rfl), (HX.out.trans HX3.out).trans hx4⟩
      refine AllReadyH.cons rfl (fun K hK => ?_) AllReadyH.nil
      simp only [List.getElem_toArray, List.getElem_cons_zero, List.getElem_cons_succ]
      go_simp
      have hb12 := Blk.new wc 44 #[.slice none 0 0, .slice none 0 0]
      have hxa := (Ext.refl wc).alloc (.cells #[.slice none 0 0, .slice none 0 0] 44)
      have h12 : w1.heap.size ≤ wc.heap.size := hyn.size
      obtain ⟨wn, hwn⟩ : ∃ wn, wn = wc.alloc (.cells #[.slice none 0 0, .slice none 0 0] 44) := ⟨_, rfl⟩
      obtain ⟨r12, hr12⟩ : ∃ r, r = wc.heap.size := ⟨_, rfl⟩
      rw [← hwn] at hb12 hxa ⊢
      rw [← hr12] at hb12 h12 ⊢
      replace hL4 := hL4.ext RVec.monoE hxa
      replace hL9 := hL9.ext RDots.monoE hxa
      replace hyn := hyn.trans hxa
      clear hxa hwn hr12
      obtain ⟨wc, rfl⟩ : ∃ wc', wc' = wn := ⟨_, rfl⟩
      refine hK.out _ _ (HAll.out _ hyn) (fun hHeld => ?_)
      clear hK K
      try simp only [Act.put, List.setIfInBounds_toArray, List.set_cons_zero, List.set_cons_succ]
      refine wpAnyH_ready (rs := [10]) (by kernel_rfl) (by simp) ?_
      refine AllReadyH.cons rfl (fun K hK => ?_) AllReadyH.nil
      simp only [List.getElem_toArray, List.getElem_cons_zero, List.getElem_cons_succ]
      go_simp
      refine (concat_dots B a9 2 [k.more, l.more] wc (by have := hyn.size; have := HBW.out; omega) hL9 (by simp) (by have := HK.out.mlen; have := HL.out.mlen; simp; omega)).mono ?_
      rintro e wn ⟨v10, rfl, hL10, hxa⟩
      dsimp only
      rw [← HDS.out] at hL10
      obtain ⟨A10, c10, rfl, _, _⟩ := hL10.len
      replace hL4 := hL4.ext RVec.monoE hxa
      replace hL9 := hL9.ext RDots.monoE hxa
      replace hb12 := hb12.ext hxa
      replace hyn := hyn.trans hxa
      clear hxa hL9
      obtain ⟨wc, rfl⟩ : ∃ wc', wc' = wn := ⟨_, rfl⟩
      refine hK.out _ _ (HAll.out _ hyn) (fun hHeld => ?_)
      clear hK K
      try simp only [Act.put, List.setIfInBounds_toArray, List.set_cons_zero, List.set_cons_succ]
      refine wpAnyH_ready (rs := [11]) (by kernel_rfl) (by simp) ?_
      refine AllReadyH.cons rfl (fun K hK => ?_) AllReadyH.nil
      simp only [List.getElem_toArray, List.getElem_cons_zero, List.getElem_cons_succ]
      go_simp
      refine (know_Made B a4 2 [k.vec, l.vec] A10 c10 ds wc (by have := hyn.size; have := HBW.out; omega) hL4 (by simp) (by intro x hx; simp at hx; rcases hx with rfl | rfl; exact HK.out.vlen; exact HL.out.vlen) (by intro x hx; simp at hx; rcases hx with rfl | rfl; exact HK.out.vec; exact HL.out.vec) (hL10.sl B) (by rw [HDS.out]; have := HK.out.mlen; have := HL.out.mlen; simp; omega) (by rw [HDS.out]; intro x hx; simp at hx; rcases hx with h | h; exact HK.out.more x h; exact HL.out.more x h)).mono ?_
      rintro e wn ⟨v9, rfl, hk11, hxa⟩
      dsimp only
      rw [← HKK.out] at hk11
      replace hL4 := hL4.ext RVec.monoE hxa
      replace hL10 := hL10.ext (RPair.mono (B := 0)) hxa
      replace hb12 := hb12.ext hxa
      replace hyn := hyn.trans hxa
      obtain ⟨Ax, cx, Ay, cy, rfl, e1, e2, e3, e4, hk11⟩ := hk11
      clear hxa hL4 hL10
      obtain ⟨wc, rfl⟩ : ∃ wc', wc' = wn := ⟨_, rfl⟩
      refine hK.out _ _ (HAll.out _ hyn) (fun hHeld => ?_)
      clear hK K
      try simp only [Act.put, List.setIfInBounds_toArray, List.set_cons_zero, List.set_cons_succ]
      refine wpAnyH_ready (rs := [13]) (by kernel_rfl) (by simp) ?_
      refine AllReadyH.cons rfl (fun K hK => ?_) AllReadyH.nil
      simp only [List.getElem_toArray, List.getElem_cons_zero, List.getElem_cons_succ]
      have y0 := hb12.cell (i := 0) (u := .slice none 0 0) rfl
      have y1 := hb12.cell (i := 1) (u := .slice none 0 0) rfl
      have y2 := hb12.frozen 0
      have y3 := hb12.frozen 1
      have t0 := hb12.ty
      go_simp
      have hyz := (hyn.setCell (p := ⟨r12, 0, none⟩) h12 (.slice Ax kk.vec.length cx)).setCell (p := ⟨r12, 1, none⟩) h12 (.slice Ay kk.more.length cy)
      have hyk := hk11.chg (((Chg.refl (ts := [44]) wc).setCell (p := ⟨r12, 0, none⟩) t0 (by simp) (.slice Ax kk.vec.length cx) (Nat.zero_le _)).setCell (p := ⟨r12, 1, none⟩) (tyAt_put t0) (by simp) (.slice Ay kk.more.length cy) (Nat.zero_le _)) (by decide) (by decide)
      have z0 : ((wc.setCell ⟨r12, 0, none⟩ (.slice Ax kk.vec.length cx)).setCell ⟨r12, 1, none⟩ (.slice Ay kk.more.length cy)).cell? ⟨r12, 0, none⟩ = some (.slice Ax kk.vec.length cx) := by go_simp
      have z1 : ((wc.setCell ⟨r12, 0, none⟩ (.slice Ax kk.vec.length cx)).setCell ⟨r12, 1, none⟩ (.slice Ay kk.more.length cy)).cell? ⟨r12, 1, none⟩ = some (.slice Ay kk.more.length cy) := by go_simp
      clear y0 y1 y2 y3 t0 hb12 hk11
      refine hK.out _ _ (HAll.out _ hyz) (fun hHeld => ?_)
      obtain ⟨wz, hwz⟩ : ∃ wz, wz = (wc.setCell ⟨r12, 0, none⟩ (.slice Ax kk.vec.length cx)).setCell ⟨r12, 1, none⟩ (.slice Ay kk.more.length cy) := ⟨_, rfl⟩
      rw [← hwz] at hyz hyk z0 z1 hHeld ⊢
      clear hwz hyn
      clear hK K
      try simp only [Act.put, List.setIfInBounds_toArray, List.set_cons_zero, List.set_cons_succ]
      refine wpAnyH_done (by kernel_rfl) ?_ _
      have d0 := (HAll.out _ hyz).2.2.1
      have d1 := (HAll.out _ hyz).2.2.2
      go_wp2_with fail
      refine (equal_ints 0 B Ax cx Bv dv kk.vec l.vec wz hyk.sv (HLn.out wz hyz).sv hyk.lv).mono ?_
      rintro e w3 ⟨rfl, hx3⟩
      replace z1 := hx3.cell z1
      replace d1 := hx3.cell d1
      have HY3 := hid (hyk.ext hx3)
      have HX3 := hid (hyz.trans hx3)
      clear hx3 d0 z0 hyk
      generalize decide (kk.vec = l.vec) = b1 at *
      cases b1
      · go_wp2_with fail
        go_ret
        exact ⟨ret_bool (by rw [HW.out]; rfl), HX.out.trans HX3.out⟩
      · go_wp2_with fail
        refine (equal_dots 0 B Ay cy Bm dm kk.more l.more w3 HY3.out.sm (HLn.out w3 HX3.out).sm HY3.out.lm).mono ?_
        rintro e w4 ⟨rfl, hx4⟩
        generalize decide (kk.more = l.more) = b2 at *
        go_wp2_with fail
        go_ret
        exact ⟨ret_bool (by rw [HW.out]; rfl), (HX.out.trans HX3.out).trans hx4⟩
    refine AllReadyH.cons rfl (fun K hK => ?_) ?_
    · simp only [List.getElem_toArray, List.getElem_cons_zero, List.getElem_cons_succ]
      go_simp
      refine (concat_dots B a9 2 [k.more, l.more] wc (by have := hyn.size; have := HBW.out; omega) hL9 (by simp) (by have := HK.out.mlen; have := HL.out.mlen; simp; omega)).mono ?_
      rintro e wn ⟨v10, rfl, hL10, hxa⟩
      dsimp only
      rw [← HDS.out] at hL10
      obtain ⟨A10, c10, rfl, _, _⟩ := hL10.len
      replace hL9 := hL9.ext RDots.monoE hxa
      replace hyn := hyn.trans hxa
      clear hxa hL9
      obtain ⟨wc, rfl⟩ : ∃ wc', wc' = wn := ⟨_, rfl⟩
      refine hK.out _ _ (HAll.out _ hyn) (fun hHeld => ?_)
      clear hK K
      try simp only [Act.put, List.setIfInBounds_toArray, List.set_cons_zero, List.set_cons_succ]
      refine wpAnyH_ready (rs := [4, 12]) (by kernel_rfl) (by simp) ?_
      refine AllReadyH.cons rfl (fun K hK => ?_) ?_
      · simp only [List.getElem_toArray, List.getElem_cons_zero, List.getElem_cons_succ]
        go_simp
        have hxa := (Ext.refl wc).alloc (.cells #[.slice Av k.vec.length cv, .slice Bv l.vec.length dv] 41)
        have hyn' := hyn.trans hxa
        obtain ⟨wn, hwn⟩ : ∃ wn, wn = wc.alloc (.cells #[.slice Av k.vec.length cv, .slice Bv l.vec.length dv] 41) := ⟨_, rfl⟩
        have hL4 : SlVecs B wn (some ⟨wc.heap.size, 0, none⟩) [k.vec, l.vec] := Sl.two hwn ⟨_, rfl, Av, cv, rfl, ha1, ha2, (HKn.out wn (by rw [hwn]; exact hyn')).sv⟩ ⟨_, rfl, Bv, dv, rfl, hb1, hb2, (HLn.out wn (by rw [hwn]; exact hyn')).sv⟩
        obtain ⟨a4, ha4⟩ : ∃ a, a = some (⟨wc.heap.size, 0, none⟩ : Addr) := ⟨_, rfl⟩
        rw [← hwn] at hxa hyn'
        rw [← hwn, ← ha4]
        rw [← ha4] at hL4
        replace hL10 := hL10.ext (RPair.mono (B := 0)) hxa
        clear hxa hwn ha4 hyn
        have hyn := hyn'
        clear hyn'
        obtain ⟨wc, rfl⟩ : ∃ wc', wc' = wn := ⟨_, rfl⟩
        refine hK.out _ _ (HAll.out _ hyn) (fun hHeld => ?_)
        clear hK K
        try simp only [Act.put, List.setIfInBounds_toArray, List.set_cons_zero, List.set_cons_succ]
        refine wpAnyH_ready (rs := [11, 12]) (by kernel_rfl) (by simp) ?_
        refine AllReadyH.cons rfl (fun K hK => ?_) ?_
        · simp only [List.getElem_toArray, List.getElem_cons_zero, List.getElem_cons_succ]
          go_simp
          refine (know_Made B a4 2 [k.vec, l.vec] A10 c10 ds wc (by have := hyn.size; have := HBW.out; omega) hL4 (by simp) (by intro x hx; simp at hx; rcases hx with rfl | rfl; exact HK.out.vlen; exact HL.out.vlen) (by intro x hx; simp at hx; rcases hx with rfl | rfl; exact HK.out.vec; exact HL.out.vec) (hL10.sl B) (by rw [HDS.out]; have := HK.out.mlen; have := HL.out.mlen; simp; omega) (by rw [HDS.out]; intro x hx; simp at hx; rcases hx with h | h; exact HK.out.more x h; exact HL.out.more x h)).mono ?_
          rintro e wn ⟨v9, rfl, hk11, hxa⟩
          dsimp only
          rw [← HKK.out] at hk11
          replace hL4 := hL4.ext RVec.monoE hxa
          replace hL10 := hL10.ext (RPair.mono (B := 0)) hxa
          replace hyn := hyn.trans hxa
          obtain ⟨Ax, cx, Ay, cy, rfl, e1, e2, e3, e4, hk11⟩ := hk11
          clear hxa hL4 hL10
          obtain ⟨wc, rfl⟩ : ∃ wc', wc' = wn := ⟨_, rfl⟩
          refine hK.out _ _ (HAll.out _ hyn) (fun hHeld => ?_)
          clear hK K
          try simp only [Act.put, List.setIfInBounds_toArray, List.set_cons_zero, List.set_cons_succ]
          refine wpAnyH_ready (rs := [12]) (by kernel_rfl) (by simp) ?_
          refine AllReadyH.cons rfl (fun K hK => ?_) AllReadyH.nil
          simp only [List.getElem_toArray, List.getElem_cons_zero, List.getElem_cons_succ]
          go_simp
          have hb12 := Blk.new wc 44 #[.slice none 0 0, .slice none 0 0]
          have hxa := (Ext.refl wc).alloc (.cells #[.slice none 0 0, .slice none 0 0] 44)
          have h12 : w1.heap.size ≤ wc.heap.size := hyn.size
          obtain ⟨wn, hwn⟩ : ∃ wn, wn = wc.alloc (.cells #[.slice none 0 0, .slice none 0 0] 44) := ⟨_, rfl⟩
          obtain ⟨r12, hr12⟩ : ∃ r, r = wc.heap.size := ⟨_, rfl⟩
          rw [← hwn] at hb12 hxa ⊢
          rw [← hr12] at hb12 h12 ⊢
          replace hk11 := hk11.ext hxa
          replace hyn := hyn.trans hxa
          clear hxa hwn hr12
          obtain ⟨wc, rfl⟩ : ∃ wc', wc' = wn := ⟨_, rfl⟩
          refine hK.out _ _ (HAll.out _ hyn) (fun hHeld => ?_)
          clear hK K
          try simp only [Act.put, List.setIfInBounds_toArray, List.set_cons_zero, List.set_cons_succ]
          refine wpAnyH_ready (rs := [13]) (by kernel_rfl) (by simp) ?_
          refine AllReadyH.cons rfl (fun K hK => ?_) AllReadyH.nil
          simp only [List.getElem_toArray, List.getElem_cons_zero, List.getElem_cons_succ]
          have y0 := hb12.cell (i := 0) (u := .slice none 0 0) rfl
          have y1 := hb12.cell (i := 1) (u := .slice none 0 0) rfl
          have y2 := hb12.frozen 0
          have y3 := hb12.frozen 1
          have t0 := hb12.ty
          go_simp
          have hyz := (hyn.setCell (p := ⟨r12, 0, none⟩) h12 (.slice Ax kk.vec.length cx)).setCell (p := ⟨r12, 1, none⟩) h12 (.slice Ay kk.more.length cy)
          have hyk := hk11.chg (((Chg.refl (ts := [44]) wc).setCell (p := ⟨r12, 0, none⟩) t0 (by simp) (.slice Ax kk.vec.length cx) (Nat.zero_le _)).setCell (p := ⟨r12, 1, none⟩) (tyAt_put t0) (by simp) (.slice Ay kk.more.length cy) (Nat.zero_le _)) (by decide) (by decide)
          have z0 : ((wc.setCell ⟨r12, 0, none⟩ (.slice Ax kk.vec.length cx)).setCell ⟨r12, 1, none⟩ (.slice Ay kk.more.length cy)).cell? ⟨r12, 0, none⟩ = some (.slice Ax kk.vec.length cx) := by go_simp
          have z1 : ((wc.setCell ⟨r12, 0, none⟩ (.slice Ax kk.vec.length cx)).setCell ⟨r12, 1, none⟩ (.slice Ay kk.more.length cy)).cell? ⟨r12, 1, none⟩ = some (.slice Ay kk.more.length cy) := by go_simp
          clear y0 y1 y2 y3 t0 hb12 hk11
          refine hK.out _ _ (HAll.out _ hyz) (fun hHeld => ?_)
          obtain ⟨wz, hwz⟩ : ∃ wz, wz = (wc.setCell ⟨r12, 0, none⟩ (.slice Ax kk.vec.length cx)).setCell ⟨r12, 1, none⟩ (.slice Ay kk.more.length cy) := ⟨_, rfl⟩
          rw [← hwz] at hyz hyk z0 z1 hHeld ⊢
          clear hwz hyn
          clear hK K
          try simp only [Act.put, List.setIfInBounds_toArray, List.set_cons_zero, List.set_cons_succ]
          refine wpAnyH_done (by kernel_rfl) ?_ _
          have d0 := (HAll.out _ hyz).2.2.1
          have d1 := (HAll.out _ hyz).2.2.2
          go_wp2_with fail
          refine (equal_ints 0 B Ax cx Bv dv kk.vec l.vec wz hyk.sv (HLn.out wz hyz).sv hyk.lv).mono ?_
          rintro e w3 ⟨rfl, hx3⟩
          replace z1 := hx3.cell z1
          replace d1 := hx3.cell d1
          have HY3 := hid (hyk.ext hx3)
          have HX3 := hid (hyz.trans hx3)
          clear hx3 d0 z0 hyk
          generalize decide (kk.vec = l.vec) = b1 at *
          cases b1
          · go_wp2_with fail
            go_ret
            exact ⟨ret_bool (by rw [HW.out]; rfl), HX.out.trans HX3.out⟩
          · go_wp2_with fail
            refine (equal_dots 0 B Ay cy Bm dm kk.more l.more w3 HY3.out.sm (HLn.out w3 HX3.out).sm HY3.out.lm).mono ?_
            rintro e w4 ⟨rfl, hx4⟩
            generalize decide (kk.more = l.more) = b2 at *
            go_wp2_with fail
            go_ret
            exact ⟨ret_bool (by rw [HW.out]; rfl), (HX.out.trans HX3.out).trans hx4⟩
        refine AllReadyH.cons rfl (fun K hK => ?_) AllReadyH.nil
        simp only [List.getElem_toArray, List.getElem_cons_zero, List.getElem_cons_succ]
        go_simp
        have hb12 := Blk.new wc 44 #[.slice none 0 0, .slice none 0 0]
        have hxa := (Ext.refl wc).alloc (.cells #[.slice none 0 0, .slice none 0 0] 44)
        have h12 : w1.heap.size ≤ wc.heap.size := hyn.size
        obtain ⟨wn, hwn⟩ : ∃ wn, wn = wc.alloc (.cells #[.slice none 0 0, .slice none 0 0] 44) := ⟨_, rfl⟩
        obtain ⟨r12, hr12⟩ : ∃ r, r = wc.heap.size := ⟨_, rfl⟩
        rw [← hwn] at hb12 hxa ⊢
        rw [← hr12] at hb12 h12 ⊢
        replace hL4 := hL4.ext RVec.monoE hxa
        replace hL10 := hL10.ext (RPair.mono (B := 0)) hxa
        replace hyn := hyn.trans hxa
        clear hxa hwn hr12
        obtain ⟨wc, rfl⟩ : ∃ wc', wc' = wn := ⟨_, rfl⟩
        refine hK.out _ _ (HAll.out _ hyn) (fun hHeld => ?_)
        clear hK K
        try simp only [Act.put, List.setIfInBounds_toArray, List.set_cons_zero, List.set_cons_succ]
        refine wpAnyH_ready (rs := [11]) (by kernel_rfl) (by simp) ?_
        refine AllReadyH.cons rfl (fun K hK => ?_) AllReadyH.nil
        simp only [List.getElem_toArray, List.getElem_cons_zero, List.getElem_cons_succ]
        go_simp
        refine (know_Made B a4 2 [k.vec, l.vec] A10 c10 ds wc (by have := hyn.size; have := HBW.out; omega) hL4 (by simp) (by intro x hx; simp at hx; rcases hx with rfl | rfl; exact HK.out.vlen; exact HL.out.vlen) (by intro x hx; simp at hx; rcases hx with rfl | rfl; exact HK.out.vec; exact HL.out.vec) (hL10.sl B) (by rw [HDS.out]; have := HK.out.mlen; have := HL.out.mlen; simp; omega) (by rw [HDS.out]; intro x hx; simp at hx; rcases hx with h | h; exact HK.out.more x h; exact HL.out.more x h)).mono ?_
        rintro e wn ⟨v9, rfl, hk11, hxa⟩
        dsimp only
        rw [← HKK.out] at hk11
        replace hL4 := hL4.ext RVec.monoE hxa
        replace hL10 := hL10.ext (RPair.mono (B := 0)) hxa
        replace hb12 := hb12.ext hxa
        replace hyn := hyn.trans hxa
        obtain ⟨Ax, cx, Ay, cy, rfl, e1, e2, e3, e4, hk11⟩ := hk11
        clear hxa hL4 hL10
        obtain ⟨wc, rfl⟩ : ∃ wc', wc' = wn := ⟨_, rfl⟩
        refine hK.out _ _ (HAll.out _ hyn) (fun hHeld => ?_)
        clear hK K
        try simp only [Act.put, List.setIfInBounds_toArray, List.set_cons_zero, List.set_cons_succ]
        refine wpAnyH_ready (rs := [13]) (by kernel_rfl) (by simp) ?_
        refine AllReadyH.cons rfl (fun K hK => ?_) AllReadyH.nil
        simp only [List.getElem_toArray, List.getElem_cons_zero, List.getElem_cons_succ]
        have y0 := hb12.cell (i := 0) (u := .slice none 0 0) rfl
        have y1 := hb12.cell (i := 1) (u := .slice none 0 0) rfl
        have y2 := hb12.frozen 0
        have y3 := hb12.frozen 1
        have t0 := hb12.ty
        go_simp
        have hyz := (hyn.setCell (p := ⟨r12, 0, none⟩) h12 (.slice Ax kk.vec.length cx)).setCell (p := ⟨r12, 1, none⟩) h12 (.slice Ay kk.more.length cy)
        have hyk := hk11.chg (((Chg.refl (ts := [44]) wc).setCell (p := ⟨r12, 0, none⟩) t0 (by simp) (.slice Ax kk.vec.length cx) (Nat.zero_le _)).setCell (p := ⟨r12, 1, none⟩) (tyAt_put t0) (by simp) (.slice Ay kk.more.length cy) (Nat.zero_le _)) (by decide) (by decide)
        have z0 : ((wc.setCell ⟨r12, 0, none⟩ (.slice Ax kk.vec.length cx)).setCell ⟨r12, 1, none⟩ (.slice Ay kk.more.length cy)).cell? ⟨r12, 0, none⟩ = some (.slice Ax kk.vec.length cx) := by go_simp
        have z1 : ((wc.setCell ⟨r12, 0, none⟩ (.slice Ax kk.vec.length cx)).setCell ⟨r12, 1, none⟩ (.slice Ay kk.more.length cy)).cell? ⟨r12, 1, none⟩ = some (.slice Ay kk.more.length cy) := by go_simp
        clear y0 y1 y2 y3 t0 hb12 hk11
        refine hK.out _ _ (HAll.out _ hyz) (fun hHeld => ?_)
        obtain ⟨wz, hwz⟩ : ∃ wz, wz = (wc.setCell ⟨r12, 0, none⟩ (.slice Ax kk.vec.length cx)).setCell ⟨r12, 1, none⟩ (.slice Ay kk.more.length cy) := ⟨_, rfl⟩
        rw [← hwz] at hyz hyk z0 z1 hHeld ⊢
        clear hwz hyn
        clear hK K
        try simp only [Act.put, List.setIfInBounds_toArray, List.set_cons_zero, List.set_cons_succ]
        refine wpAnyH_done (by kernel_rfl) ?_ _
        have d0 := (HAll.out _ hyz).2.2.1
        have d1 := (HAll.out _ hyz).2.2.2
        go_wp2_with fail
        refine (equal_ints 0 B Ax cx Bv dv kk.vec l.vec wz hyk.sv (HLn.out wz hyz).sv hyk.lv).mono ?_
        rintro e w3 ⟨rfl, hx3⟩
        replace z1 := hx3.cell z1
        replace d1 := hx3.cell d1
        have HY3 := hid (hyk.ext hx3)
        have HX3 := hid (hyz.trans hx3)
        clear hx3 d0 z0 hyk
        generalize decide (kk.vec = l.vec) = b1 at *
        cases b1
        · go_wp2_with fail
          go_ret
          exact ⟨ret_bool (by rw [HW.out]; rfl), HX.out.trans HX3.out⟩
        · go_wp2_with fail
          refine (equal_dots 0 B Ay cy Bm dm kk.more l.more w3 HY3.out.sm (HLn.out w3 HX3.out).sm HY3.out.lm).mono ?_
          rintro e w4 ⟨rfl, hx4⟩
          generalize decide (kk.more = l.more) = b2 at *
          go_wp2_with fail
          go_ret
          exact ⟨ret_bool (by rw [HW.out]; rfl), (HX.out.trans HX3.out).trans hx4⟩
      refine AllReadyH.cons rfl (fun K hK => ?_) AllReadyH.nil
      simp only [List.getElem_toArray, List.getElem_cons_zero, List.getElem_cons_succ]
      go_simp
      have hb12 := Blk.new wc 44 #[.slice none 0 0, .slice none 0 0]
      have hxa := (Ext.refl wc).alloc (.cells #[.slice none 0 0, .slice none 0 0] 44)
      have h12 : w1.heap.size ≤ wc.heap.size := hyn.size
      obtain ⟨wn, hwn⟩ : ∃ wn, wn = wc.alloc (.cells #[.slice none 0 0, .slice none 0 0] 44) := ⟨_, rfl⟩
      obtain ⟨r12, hr12⟩ : ∃ r, r = wc.heap.size := ⟨_, rfl⟩
      rw [← hwn] at hb12 hxa ⊢
      rw [← hr12] at hb12 h12 ⊢
      replace hL10 := hL10.ext (RPair.mono (B := 0)) hxa
      replace hyn := hyn.trans hxa
      clear hxa hwn hr12
      obtain ⟨wc, rfl⟩ : ∃ wc', wc' = wn := ⟨_, rfl⟩
      refine hK.out _ _ (HAll.out _ hyn) (fun hHeld => ?_)
      clear hK K
      try simp only [Act.put, List.setIfInBounds_toArray, List.set_cons_zero, List.set_cons_succ]
      refine wpAnyH_ready (rs := [4]) (by kernel_rfl) (by simp) ?_
      refine AllReadyH.cons rfl (fun K hK => ?_) AllReadyH.nil
      simp only [List.getElem_toArray, List.getElem_cons_zero, List.getElem_cons_succ]
      go_simp
      have hxa := (Ext.refl wc).alloc (.cells #[.slice Av k.vec.length cv, .slice Bv l.vec.length dv] 41)
      have hyn' := hyn.trans hxa
      obtain ⟨wn, hwn⟩ : ∃ wn, wn = wc.alloc (.cells #[.slice Av k.vec.length cv, .slice Bv l.vec.length dv] 41) := ⟨_, rfl⟩
      have hL4 : SlVecs B wn (some ⟨wc.heap.size, 0, none⟩) [k.vec, l.vec] := Sl.two hwn ⟨_, rfl, Av, cv, rfl, ha1, ha2, (HKn.out wn (by rw [hwn]; exact hyn')).sv⟩ ⟨_, rfl, Bv, dv, rfl, hb1, hb2, (HLn.out wn (by rw [hwn]; exact hyn')).sv⟩
      obtain ⟨a4, ha4⟩ : ∃ a, a = some (⟨wc.heap.size, 0, none⟩ : Addr) := ⟨_, rfl⟩
      rw [← hwn] at hxa hyn'
      rw [← hwn, ← ha4]
      rw [← ha4] at hL4
      replace hL10 := hL10.ext (RPair.mono (B := 0)) hxa
      replace hb12 := hb12.ext hxa
      clear hxa hwn ha4 hyn
      have hyn := hyn'
      clear hyn'
      obtain ⟨wc, rfl⟩ : ∃ wc', wc' = wn := ⟨_, rfl⟩
      refine hK.out _ _ (HAll.out _ hyn) (fun hHeld => ?_)
      clear hK K
      try simp only [Act.put, List.setIfInBounds_toArray, List.set_cons_zero, List.set_cons_succ]
      refine wpAnyH_ready (rs := [11]) (by kernel_rfl) (by simp) ?_
      refine AllReadyH.cons rfl (fun K hK => ?_) AllReadyH.nil
      simp only [List.getElem_toArray, List.getElem_cons_zero, List.getElem_cons_succ]
      go_simp
      refine (know_Made B a4 2 [k.vec, l.vec] A10 c10 ds wc (by have := hyn.size; have := HBW.out; omega) hL4 (by simp) (by intro x hx; simp at hx; rcases hx with rfl | rfl; exact HK.out.vlen; exact HL.out.vlen) (by intro x hx; simp at hx; rcases hx with rfl | rfl; exact HK.out.vec; exact HL.out.vec) (hL10.sl B) (by rw [HDS.out]; have := HK.out.mlen; have := HL.out.mlen; simp; omega) (by rw [HDS.out]; intro x hx; simp at hx; rcases hx with h | h; exact HK.out.more x h; exact HL.out.more x h)).mono ?_
      rintro e wn ⟨v9, rfl, hk11, hxa⟩
      dsimp only
      rw [← HKK.out] at hk11
      replace hL4 := hL4.ext RVec.monoE hxa
      replace hL10 := hL10.ext (RPair.mono (B := 0)) hxa
      replace hb12 := hb12.ext hxa
      replace hyn := hyn.trans hxa
      obtain ⟨Ax, cx, Ay, cy, rfl, e1, e2, e3, e4, hk11⟩ := hk11
      clear hxa hL4 hL10
      obtain ⟨wc, rfl⟩ : ∃ wc', wc' = wn := ⟨_, rfl⟩
      refine hK.out _ _ (HAll.out _ hyn) (fun hHeld => ?_)
      clear hK K
      try simp only [Act.put, List.setIfInBounds_toArray, List.set_cons_zero, List.set_cons_succ]
      refine wpAnyH_ready (rs := [13]) (by kernel_rfl) (by simp) ?_
      refine AllReadyH.cons rfl (fun K hK => ?_) AllReadyH.nil
      simp only [List.getElem_toArray, List.getElem_cons_zero, List.getElem_cons_succ]
      have y0 := hb12.cell (i := 0) (u := .slice none 0 0) rfl
      have y1 := hb12.cell (i := 1) (u := .slice none 0 0) rfl
      have y2 := hb12.frozen 0
      have y3 := hb12.frozen 1
      have t0 := hb12.ty
      go_simp
      have hyz := (hyn.setCell (p := ⟨r12, 0, none⟩) h12 (.slice Ax kk.vec.length cx)).setCell (p := ⟨r12, 1, none⟩) h12 (.slice Ay kk.more.length cy)
      have hyk := hk11.chg (((Chg.refl (ts := [44]) wc).setCell (p := ⟨r12, 0, none⟩) t0 (by simp) (.slice Ax kk.vec.length cx) (Nat.zero_le _)).setCell (p := ⟨r12, 1, none⟩) (tyAt_put t0) (by simp) (.slice Ay kk.more.length cy) (Nat.zero_le _)) (by decide) (by decide)
      have z0 : ((wc.setCell ⟨r12, 0, none⟩ (.slice Ax kk.vec.length cx)).setCell ⟨r12, 1, none⟩ (.slice Ay kk.more.length cy)).cell? ⟨r12, 0, none⟩ = some (.slice Ax kk.vec.length cx) := by go_simp
      have z1 : ((wc.setCell ⟨r12, 0, none⟩ (.slice Ax kk.vec.length cx)).setCell ⟨r12, 1, none⟩ (.slice Ay kk.more.length cy)).cell? ⟨r12, 1, none⟩ = some (.slice Ay kk.more.length cy) := by go_simp
      clear y0 y1 y2 y3 t0 hb12 hk11
      refine hK.out _ _ (HAll.out _ hyz) (fun hHeld => ?_)
      obtain ⟨wz, hwz⟩ : ∃ wz, wz = (wc.setCell ⟨r12, 0, none⟩ (.slice Ax kk.vec.length cx)).setCell ⟨r12, 1, none⟩ (.slice Ay kk.more.length cy) := ⟨_, rfl⟩
      rw [← hwz] at hyz hyk z0 z1 hHeld ⊢
      clear hwz hyn
      clear hK K
      try simp only [Act.put, List.setIfInBounds_toArray, List.set_cons_zero, List.set_cons_succ]
      refine wpAnyH_done (by kernel_rfl) ?_ _
      have d0 := (HAll.out _ hyz).2.2.1
      have d1 := (HAll.out _ hyz).2.2.2
      go_wp2_with fail
      refine (equal_ints 0 B Ax cx Bv dv kk.vec l.vec wz hyk.sv (HLn.out wz hyz).sv hyk.lv).mono ?_
      rintro e w3 ⟨rfl, hx3⟩
      replace z1 := hx3.cell z1
      replace d1 := hx3.cell d1
      have HY3 := hid (hyk.ext hx3)
      have HX3 := hid (hyz.trans hx3)
      clear hx3 d0 z0 hyk
      generalize decide (kk.vec = l.vec) = b1 at *
      cases b1
      · go_wp2_with fail
        go_ret
        exact ⟨ret_bool (by rw [HW.out]; rfl), HX.out.trans HX3.out⟩
      · go_wp2_with fail
        refine (equal_dots 0 B Ay cy Bm dm kk.more l.more w3 HY3.out.sm (HLn.out w3 HX3.out).sm HY3.out.lm).mono ?_
        rintro e w4 ⟨rfl, hx4⟩
        generalize decide (kk.more = l.more) = b2 at *
        go_wp2_with fail
        go_ret
        exact ⟨ret_bool (by rw [HW.out]; rfl), (HX.out.trans HX3.out).trans hx4⟩
    refine AllReadyH.cons rfl (fun K hK => ?_) AllReadyH.nil
    simp only [List.getElem_toArray, List.getElem_cons_zero, List.getElem_cons_succ]
    go_simp
    have hb12 := Blk.new wc 44 #[.slice none 0 0, .slice none 0 0]
    have hxa := (Ext.refl wc).alloc (.cells #[.slice none 0 0, .slice none 0 0] 44)
    have h12 : w1.heap.size ≤ wc.heap.size := hyn.size
    obtain ⟨wn, hwn⟩ : ∃ wn, wn = wc.alloc (.cells #[.slice none 0 0, .slice none 0 0] 44) := ⟨_, rfl⟩
    obtain ⟨r12, hr12⟩ : ∃ r, r = wc.heap.size := ⟨_, rfl⟩
    rw [← hwn] at hb12 hxa ⊢
    rw [← hr12] at hb12 h12 ⊢
    replace hL9 := hL9.ext RDots.monoE hxa
    replace hyn := hyn.trans hxa
    clear hxa hwn hr12
    obtain ⟨wc, rfl⟩ : ∃ wc', wc' = wn := ⟨_, rfl⟩
    refine hK.out _ _ (HAll.out _ hyn) (fun hHeld => ?_)
    clear hK K
    try simp only [Act.put, List.setIfInBounds_toArray, List.set_cons_zero, List.set_cons_succ]
    refine wpAnyH_ready (rs := [4, 10]) (by kernel_rfl) (by simp) ?_
    refine AllReadyH.cons rfl (fun K hK => ?_) ?_
    · simp only [List.getElem_toArray, List.getElem_cons_zero, List.getElem_cons_succ]
      go_simp
      have hxa := (Ext.refl wc).alloc (.cells #[.slice Av k.vec.length cv, .slice Bv l.vec.length dv] 41)
      have hyn' := hyn.trans hxa
      obtain ⟨wn, hwn⟩ : ∃ wn, wn = wc.alloc (.cells #[.slice Av k.vec.length cv, .slice Bv l.vec.length dv] 41) := ⟨_, rfl⟩
      have hL4 : SlVecs B wn (some ⟨wc.heap.size, 0, none⟩) [k.vec, l.vec] := Sl.two hwn ⟨_, rfl, Av, cv, rfl, ha1, ha2, (HKn.out wn (by rw [hwn]; exact hyn')).sv⟩ ⟨_, rfl, Bv, dv, rfl, hb1, hb2, (HLn.out wn (by rw [hwn]; exact hyn')).sv⟩
      obtain ⟨a4, ha4⟩ : ∃ a, a = some (⟨wc.heap.size, 0, none⟩ : Addr) := ⟨_, rfl⟩
      rw [← hwn] at hxa hyn'
      rw [← hwn, ← ha4]
      rw [← ha4] at hL4
      replace hL9 := hL9.ext RDots.monoE hxa
      replace hb12 := hb12.ext hxa
      clear hxa hwn ha4 hyn
      have hyn := hyn'
      clear hyn'
      obtain ⟨wc, rfl⟩ : ∃ wc', wc' = wn := ⟨_, rfl⟩
      refine hK.out _ _ (HAll.out _ hyn) (fun hHeld => ?_)
      clear hK K
      try simp only [Act.put, List.setIfInBounds_toArray, List.set_cons_zero, List.set_cons_succ]
      refine wpAnyH_ready (rs := [10]) (by kernel_rfl) (by simp) ?_
      refine AllReadyH.cons rfl (fun K hK => ?_) AllReadyH.nil
      simp only [List.getElem_toArray, List.getElem_cons_zero, List.getElem_cons_succ]
      go_simp
      refine (concat_dots B a9 2 [k.more, l.more] wc (by have := hyn.size; have := HBW.out; omega) hL9 (by simp) (by have := HK.out.mlen; have := HL.out.mlen; simp; omega)).mono ?_
      rintro e wn ⟨v10, rfl, hL10, hxa⟩
      dsimp only
      rw [← HDS.out] at hL10
      obtain ⟨A10, c10, rfl, _, _⟩ := hL10.len
      replace hL4 := hL4.ext RVec.monoE hxa
      replace hL9 := hL9.ext RDots.monoE hxa
      replace hb12 := hb12.ext hxa
      replace hyn := hyn.trans hxa
      clear hxa hL9
      obtain ⟨wc, rfl⟩ : ∃ wc', wc' = wn := ⟨_, rfl⟩
      refine hK.out _ _ (HAll.out _ hyn) (fun hHeld => ?_)
      clear hK K
      try simp only [Act.put, List.setIfInBounds_toArray, List.set_cons_zero, List.set_cons_succ]
      refine wpAnyH_ready (rs := [11]) (by kernel_rfl) (by simp) ?_
      refine AllReadyH.cons rfl (fun K hK => ?_) AllReadyH.nil
      simp only [List.getElem_toArray, List.getElem_cons_zero, List.getElem_cons_succ]
      go_simp
      refine (know_Made B a4 2 [k.vec, l.vec] A10 c10 ds wc (by have := hyn.size; have := HBW.out; omega) hL4 (by simp) (by intro x hx; simp at hx; rcases hx with rfl | rfl; exact HK.out.vlen; exact HL.out.vlen) (by intro x hx; simp at hx; rcases hx with rfl | rfl; exact HK.out.vec; exact HL.out.vec) (hL10.sl B) (by rw [HDS.out]; have := HK.out.mlen; have := HL.out.mlen; simp; omega) (by rw [HDS.out]; intro x hx; simp at hx; rcases hx with h | h; exact HK.out.more x h; exact HL.out.more x h)).mono ?_
      rintro e wn ⟨v9, rfl, hk11, hxa⟩
      dsimp only
      rw [← HKK.out] at hk11
      replace hL4 := hL4.ext RVec.monoE hxa
      replace hL10 := hL10.ext (RPair.mono (B := 0)) hxa
      replace hb12 := hb12.ext hxa
      replace hyn := hyn.trans hxa
      obtain ⟨Ax, cx, Ay, cy, rfl, e1, e2, e3, e4, hk11⟩ := hk11
      clear hxa hL4 hL10
      obtain ⟨wc, rfl⟩ : ∃ wc', wc' = wn := ⟨_, rfl⟩
      refine hK.out _ _ (HAll.out _ hyn) (fun hHeld => ?_)
      clear hK K
      try simp only [Act.put, List.setIfInBounds_toArray, List.set_cons_zero, List.set_cons_succ]
      refine wpAnyH_ready (rs := [13]) (by kernel_rfl) (by simp) ?_
      refine AllReadyH.cons rfl (fun K hK => ?_) AllReadyH.nil
      simp only [List.getElem_toArray, List.getElem_cons_zero, List.getElem_cons_succ]
      have y0 := hb12.cell (i := 0) (u := .slice none 0 0) rfl
      have y1 := hb12.cell (i := 1) (u := .slice none 0 0) rfl
      have y2 := hb12.frozen 0
      have y3 := hb12.frozen 1
      have t0 := hb12.ty
      go_simp
      have hyz := (hyn.setCell (p := ⟨r12, 0, none⟩) h12 (.slice Ax kk.vec.length cx)).setCell (p := ⟨r12, 1, none⟩) h12 (.slice Ay kk.more.length cy)
      have hyk := hk11.chg (((Chg.refl (ts := [44]) wc).setCell (p := ⟨r12, 0, none⟩) t0 (by simp) (.slice Ax kk.vec.length cx) (Nat.zero_le _)).setCell (p := ⟨r12, 1, none⟩) (tyAt_put t0) (by simp) (.slice Ay kk.more.length cy) (Nat.zero_le _)) (by decide) (by decide)
      have z0 : ((wc.setCell ⟨r12, 0, none⟩ (.slice Ax kk.vec.length cx)).setCell ⟨r12, 1, none⟩ (.slice Ay kk.more.length cy)).cell? ⟨r12, 0, none⟩ = some (.slice Ax kk.vec.length cx) := by go_simp
      have z1 : ((wc.setCell ⟨r12, 0, none⟩ (.slice Ax kk.vec.length cx)).setCell ⟨r12, 1, none⟩ (.slice Ay kk.more.length cy)).cell? ⟨r12, 1, none⟩ = some (.slice Ay kk.more.length cy) := by go_simp
      clear y0 y1 y2 y3 t0 hb12 hk11
      refine hK.out _ _ (HAll.out _ hyz) (fun hHeld => ?_)
      obtain ⟨wz, hwz⟩ : ∃ wz, wz = (wc.setCell ⟨r12, 0, none⟩ (.slice Ax kk.vec.length cx)).setCell ⟨r12, 1, none⟩ (.slice Ay kk.more.length cy) := ⟨_, rfl⟩
      rw [← hwz] at hyz hyk z0 z1 hHeld ⊢
      clear hwz hyn
      clear hK K
      try simp only [Act.put, List.setIfInBounds_toArray, List.set_cons_zero, List.set_cons_succ]
      refine wpAnyH_done (by kernel_rfl) ?_ _
      have d0 := (HAll.out _ hyz).2.2.1
      have d1 := (HAll.out _ hyz).2.2.2
      go_wp2_with fail
      refine (equal_ints 0 B Ax cx Bv dv kk.vec l.vec wz hyk.sv (HLn.out wz hyz).sv hyk.lv).mono ?_
      rintro e w3 ⟨rfl, hx3⟩
      replace z1 := hx3.cell z1
      replace d1 := hx3.cell d1
      have HY3 := hid (hyk.ext hx3)
      have HX3 := hid (hyz.trans hx3)
      clear hx3 d0 z0 hyk
      generalize decide (kk.vec = l.vec) = b1 at *
      cases b1
      · go_wp2_with fail
        go_ret
        exact ⟨ret_bool (by rw [HW.out]; rfl), HX.out.trans HX3.out⟩
      · go_wp2_with fail
        refine (equal_dots 0 B Ay cy Bm dm kk.more l.more w3 HY3.out.sm (HLn.out w3 HX3.out).sm HY3.out.lm).mono ?_
        rintro e w4 ⟨rfl, hx4⟩
        generalize decide (kk.more = l.more) = b2 at *
        go_wp2_with fail
        go_ret
        exact ⟨ret_bool (by rw [HW.out]; rfl), (HX.out.trans HX3.out).trans hx4⟩
    refine AllReadyH.cons rfl (fun K hK => ?_) AllReadyH.nil
    simp only [List.getElem_toArray, List.getElem_cons_zero, List.getElem_cons_succ]
    go_simp
    refine (concat_dots B a9 2 [k.more, l.more] wc (by have := hyn.size; have := HBW.out; omega) hL9 (by simp) (by have := HK.out.mlen; have := HL.out.mlen; simp; omega)).mono ?_
    rintro e wn ⟨v10, rfl, hL10, hxa⟩
    dsimp only
    rw [← HDS.out] at hL10
    obtain ⟨A10, c10, rfl, _, _⟩ := hL10.len
    replace hL9 := hL9.ext RDots.monoE hxa
    replace hb12 := hb12.ext hxa
    replace hyn := hyn.trans hxa
    clear hxa hL9
    obtain ⟨wc, rfl⟩ : ∃ wc', wc' = wn := ⟨_, rfl⟩
    refine hK.out _ _ (HAll.out _ hyn) (fun hHeld => ?_)
    clear hK K
    try simp only [Act.put, List.setIfInBounds_toArray, List.set_cons_zero, List.set_cons_succ]
    refine wpAnyH_ready (rs := [4]) (by kernel_rfl) (by simp) ?_
    refine AllReadyH.cons rfl (fun K hK => ?_) AllReadyH.nil
    simp only [List.getElem_toArray, List.getElem_cons_zero, List.getElem_cons_succ]
    go_simp
    have hxa := (Ext.refl wc).alloc (.cells #[.slice Av k.vec.length cv, .slice Bv l.vec.length dv] 41)
    have hyn' := hyn.trans hxa
    obtain ⟨wn, hwn⟩ : ∃ wn, wn = wc.alloc (.cells #[.slice Av k.vec.length cv, .slice Bv l.vec.length dv] 41) := ⟨_, rfl⟩
    have hL4 : SlVecs B wn (some ⟨wc.heap.size, 0, none⟩) [k.vec, l.vec] := Sl.two hwn ⟨_, rfl, Av, cv, rfl, ha1, ha2, (HKn.out wn (by rw [hwn]; exact hyn')).sv⟩ ⟨_, rfl, Bv, dv, rfl, hb1, hb2, (HLn.out wn (by rw [hwn]; exact hyn')).sv⟩
    obtain ⟨a4, ha4⟩ : ∃ a, a = some (⟨wc.heap.size, 0, none⟩ : Addr) := ⟨_, rfl⟩
    rw [← hwn] at hxa hyn'
    rw [← hwn, ← ha4]
    rw [← ha4] at hL4
    replace hL10 := hL10.ext (RPair.mono (B := 0)) hxa
    replace hb12 := hb12.ext hxa
    clear hxa hwn ha4 hyn
    have hyn := hyn'
    clear hyn'
    obtain ⟨wc, rfl⟩ : ∃ wc', wc' = wn := ⟨_, rfl⟩
    refine hK.out _ _ (HAll.out _ hyn) (fun hHeld => ?_)
    clear hK K
    try simp only [Act.put, List.setIfInBounds_toArray, List.set_cons_zero, List.set_cons_succ]
    refine wpAnyH_ready (rs := [11]) (by kernel_rfl) (by simp) ?_
    refine AllReadyH.cons rfl (fun K hK => ?_) AllReadyH.nil
    simp only [List.getElem_toArray, List.getElem_cons_zero, List.getElem_cons_succ]
    go_simp
    refine (know_Made B a4 2 [k.vec, l.vec] A10 c10 ds wc (by have := hyn.size; have := HBW.out; omega) hL4 (by simp) (by intro x hx; simp at hx; rcases hx with rfl | rfl; exact HK.out.vlen; exact HL.out.vlen) (by intro x hx; simp at hx; rcases hx with rfl | rfl; exact HK.out.vec; exact HL.out.vec) (hL10.sl B) (by rw [HDS.out]; have := HK.out.mlen; have := HL.out.mlen; simp; omega) (by rw [HDS.out]; intro x hx; simp at hx; rcases hx with h | h; exact HK.out.more x h; exact HL.out.more x h)).mono ?_
    rintro e wn ⟨v9, rfl, hk11, hxa⟩
    dsimp only
    rw [← HKK.out] at hk11
    replace hL4 := hL4.ext RVec.monoE hxa
    replace hL10 := hL10.ext (RPair.mono (B := 0)) hxa
    replace hb12 := hb12.ext hxa
    replace hyn := hyn.trans hxa
    obtain ⟨Ax, cx, Ay, cy, rfl, e1, e2, e3, e4, hk11⟩ := hk11
    clear hxa hL4 hL10
    obtain ⟨wc, rfl⟩ : ∃ wc', wc' = wn := ⟨_, rfl⟩
    refine hK.out _ _ (HAll.out _ hyn) (fun hHeld => ?_)
    clear hK K
    try simp only [Act.put, List.setIfInBounds_toArray, List.set_cons_zero, List.set_cons_succ]
    refine wpAnyH_ready (rs := [13]) (by kernel_rfl) (by simp) ?_
    refine AllReadyH.cons rfl (fun K hK => ?_) AllReadyH.nil
    simp only [List.getElem_toArray, List.getElem_cons_zero, List.getElem_cons_succ]
    have y0 := hb12.cell (i := 0) (u := .slice none 0 0) rfl
    have y1 := hb12.cell (i := 1) (u := .slice none 0 0) rfl
    have y2 := hb12.frozen 0
    have y3 := hb12.frozen 1
    have t0 := hb12.ty
    go_simp
    have hyz := (hyn.setCell (p := ⟨r12, 0, none⟩) h12 (.slice Ax kk.vec.length cx)).setCell (p := ⟨r12, 1, none⟩) h12 (.slice Ay kk.more.length cy)
    have hyk := hk11.chg (((Chg.refl (ts := [44]) wc).setCell (p := ⟨r12, 0, none⟩) t0 (by simp) (.slice Ax kk.vec.length cx) (Nat.zero_le _)).setCell (p := ⟨r12, 1, none⟩) (tyAt_put t0) (by simp) (.slice Ay kk.more.length cy) (Nat.zero_le _)) (by decide) (by decide)
    have z0 : ((wc.setCell ⟨r12, 0, none⟩ (.slice Ax kk.vec.length cx)).setCell ⟨r12, 1, none⟩ (.slice Ay kk.more.length cy)).cell? ⟨r12, 0, none⟩ = some (.slice Ax kk.vec.length cx) := by go_simp
    have z1 : ((wc.setCell ⟨r12, 0, none⟩ (.slice Ax kk.vec.length cx)).setCell ⟨r12, 1, none⟩ (.slice Ay kk.more.length cy)).cell? ⟨r12, 1, none⟩ = some (.slice Ay kk.more.length cy) := by go_simp
    clear y0 y1 y2 y3 t0 hb12 hk11
    refine hK.out _ _ (HAll.out _ hyz) (fun hHeld => ?_)
    obtain ⟨wz, hwz⟩ : ∃ wz, wz = (wc.setCell ⟨r12, 0, none⟩ (.slice Ax kk.vec.length cx)).setCell ⟨r12, 1, none⟩ (.slice Ay kk.more.length cy) := ⟨_, rfl⟩
    rw [← hwz] at hyz hyk z0 z1 hHeld ⊢
    clear hwz hyn
    clear hK K
    try simp only [Act.put, List.setIfInBounds_toArray, List.set_cons_zero, List.set_cons_succ]
    refine wpAnyH_done (by kernel_rfl) ?_ _
    have d0 := (HAll.out _ hyz).2.2.1
    have d1 := (HAll.out _ hyz).2.2.2
    go_wp2_with fail
    refine (equal_ints 0 B Ax cx Bv dv kk.vec l.vec wz hyk.sv (HLn.out wz hyz).sv hyk.lv).mono ?_
    rintro e w3 ⟨rfl, hx3⟩
    replace z1 := hx3.cell z1
    replace d1 := hx3.cell d1
    have HY3 := hid (hyk.ext hx3)
    have HX3 := hid (hyz.trans hx3)
    clear hx3 d0 z0 hyk
    generalize decide (kk.vec = l.vec) = b1 at *
    cases b1
    · go_wp2_with fail
      go_ret
      exact ⟨ret_bool (by rw [HW.out]; rfl), HX.out.trans HX3.out⟩
    · go_wp2_with fail
      refine (equal_dots 0 B Ay cy Bm dm kk.more l.more w3 HY3.out.sm (HLn.out w3 HX3.out).sm HY3.out.lm).mono ?_
      rintro e w4 ⟨rfl, hx4⟩
      generalize decide (kk.more = l.more) = b2 at *
      go_wp2_with fail
      go_ret
      exact ⟨ret_bool (by rw [HW.out]; rfl), (HX.out.trans HX3.out).trans hx4⟩
  refine AllReadyH.cons rfl (fun K hK => ?_) AllReadyH.nil
  simp only [List.getElem_toArray, List.getElem_cons_zero, List.getElem_cons_succ]
  go_simp
  have hb12 := Blk.new wc 44 #[.slice none 0 0, .slice none 0 0]
  have hxa := (Ext.refl wc).alloc (.cells #[.slice none 0 0, .slice none 0 0] 44)
  have h12 : w1.heap.size ≤ wc.heap.size := hyn.size
  obtain ⟨wn, hwn⟩ : ∃ wn, wn = wc.alloc (.cells #[.slice none 0 0, .slice none 0 0] 44) := ⟨_, rfl⟩
  obtain ⟨r12, hr12⟩ : ∃ r, r = wc.heap.size := ⟨_, rfl⟩
  rw [← hwn] at hb12 hxa ⊢
  rw [← hr12] at hb12 h12 ⊢
  replace hyn := hyn.trans hxa
  clear hxa hwn hr12
  obtain ⟨wc, rfl⟩ : ∃ wc', wc' = wn := ⟨_, rfl⟩
  refine hK.out _ _ (HAll.out _ hyn) (fun hHeld => ?_)
  clear hK K
  try simp only [Act.put, List.setIfInBounds_toArray, List.set_cons_zero, List.set_cons_succ]
  refine wpAnyH_ready (rs := [4, 9]) (by kernel_rfl) (by simp) ?_
  refine AllReadyH.cons rfl (fun K hK => ?_) ?_
  · simp only [List.getElem_toArray, List.getElem_cons_zero, List.getElem_cons_succ]
    go_simp
    have hxa := (Ext.refl wc).alloc (.cells #[.slice Av k.vec.length cv, .slice Bv l.vec.length dv] 41)
    have hyn' := hyn.trans hxa
    obtain ⟨wn, hwn⟩ : ∃ wn, wn = wc.alloc (.cells #[.slice Av k.vec.length cv, .slice Bv l.vec.length dv] 41) := ⟨_, rfl⟩
    have hL4 : SlVecs B wn (some ⟨wc.heap.size, 0, none⟩) [k.vec, l.vec] := Sl.two hwn ⟨_, rfl, Av, cv, rfl, ha1, ha2, (HKn.out wn (by rw [hwn]; exact hyn')).sv⟩ ⟨_, rfl, Bv, dv, rfl, hb1, hb2, (HLn.out wn (by rw [hwn]; exact hyn')).sv⟩
    obtain ⟨a4, ha4⟩ : ∃ a, a = some (⟨wc.heap.size, 0, none⟩ : Addr) := ⟨_, rfl⟩
    rw [← hwn] at hxa hyn'
    rw [← hwn, ← ha4]
    rw [← ha4] at hL4
    replace hb12 := hb12.ext hxa
    clear hxa hwn ha4 hyn
    have hyn := hyn'
    clear hyn'
    obtain ⟨wc, rfl⟩ : ∃ wc', wc' = wn := ⟨_, rfl⟩
    refine hK.out _ _ (HAll.out _ hyn) (fun hHeld => ?_)
    clear hK K
    try simp only [Act.put, List.setIfInBounds_toArray, List.set_cons_zero, List.set_cons_succ]
    refine wpAnyH_ready (rs := [9]) (by kernel_rfl) (by simp) ?_
    refine AllReadyH.cons rfl (fun K hK => ?_) AllReadyH.nil
    simp only [List.getElem_toArray, List.getElem_cons_zero, List.getElem_cons_succ]
    go_simp
    have hxa := (Ext.refl wc).alloc (.cells #[.slice Am k.more.length cm, .slice Bm l.more.length dm] 42)
    have hyn' := hyn.trans hxa
    obtain ⟨wn, hwn⟩ : ∃ wn, wn = wc.alloc (.cells #[.slice Am k.more.length cm, .slice Bm l.more.length dm] 42) := ⟨_, rfl⟩
    have hL9 : SlDotss B wn (some ⟨wc.heap.size, 0, none⟩) [k.more, l.more] := Sl.two hwn ⟨_, rfl, Am, cm, rfl, ha3, ha4, (HKn.out wn (by rw [hwn]; exact hyn')).sm⟩ ⟨_, rfl, Bm, dm, rfl, hb3, hb4, (HLn.out wn (by rw [hwn]; exact hyn')).sm⟩
    obtain ⟨a9, ha9⟩ : ∃ a, a = some (⟨wc.heap.size, 0, none⟩ : Addr) := ⟨_, rfl⟩
    rw [← hwn] at hxa hyn'
    rw [← hwn, ← ha9]
    rw [← ha9] at hL9
    replace hL4 := hL4.ext RVec.monoE hxa
    replace hb12 := hb12.ext hxa
    clear hxa hwn ha9 hyn
    have hyn := hyn'
    clear hyn'
    obtain ⟨wc, rfl⟩ : ∃ wc', wc' = wn := ⟨_, rfl⟩
    refine hK.out _ _ (HAll.out _ hyn) (fun hHeld => ?_)
    clear hK K
    try simp only [Act.put, List.setIfInBounds_toArray, List.set_cons_zero, List.set_cons_succ]
    refine wpAnyH_ready (rs := [10]) (by kernel_rfl) (by simp) ?_
    refine AllReadyH.cons rfl (fun K hK => ?_) AllReadyH.nil
    simp only [List.getElem_toArray, List.getElem_cons_zero, List.getElem_cons_succ]
    go_simp
    refine (concat_dots B a9 2 [k.more, l.more] wc (by have := hyn.size; have := HBW.out; omega) hL9 (by simp) (by have := HK.out.mlen; have := HL.out.mlen; simp; omega)).mono ?_
    rintro e wn ⟨v10, rfl, hL10, hxa⟩
    dsimp only
    rw [← HDS.out] at hL10
    obtain ⟨A10, c10, rfl, _, _⟩ := hL10.len
    replace hL4 := hL4.ext RVec.monoE hxa
    replace hL9 := hL9.ext RDots.monoE hxa
    replace hb12 := hb12.ext hxa
    replace hyn := hyn.trans hxa
    clear hxa hL9
    obtain ⟨wc, rfl⟩ : ∃ wc', wc' = wn := ⟨_, rfl⟩
    refine hK.out _ _ (HAll.out _ hyn) (fun hHeld => ?_)
    clear hK K
    try simp only [Act.put, List.setIfInBounds_toArray, List.set_cons_zero, List.set_cons_succ]
    refine wpAnyH_ready (rs := [11]) (by kernel_rfl) (by simp) ?_
    refine AllReadyH.cons rfl (fun K hK => ?_) AllReadyH.nil
    simp only [List.getElem_toArray, List.getElem_cons_zero, List.getElem_cons_succ]
    go_simp
    refine (know_Made B a4 2 [k.vec, l.vec] A10 c10 ds wc (by have := hyn.size; have := HBW.out; omega) hL4 (by simp) (by intro x hx; simp at hx; rcases hx with rfl | rfl; exact HK.out.vlen; exact HL.out.vlen) (by intro x hx; simp at hx; rcases hx with rfl | rfl; exact HK.out.vec; exact HL.out.vec) (hL10.sl B) (by rw [HDS.out]; have := HK.out.mlen; have := HL.out.mlen; simp; omega) (by rw [HDS.out]; intro x hx; simp at hx; rcases hx with h | h; exact HK.out.more x h; exact HL.out.more x h)).mono ?_
    rintro e wn ⟨v9, rfl, hk11, hxa⟩
    dsimp only
    rw [← HKK.out] at hk11
    replace hL4 := hL4.ext RVec.monoE hxa
    replace hL10 := hL10.ext (RPair.mono (B := 0)) hxa
    replace hb12 := hb12.ext hxa
    replace hyn := hyn.trans hxa
    obtain ⟨Ax, cx, Ay, cy, rfl, e1, e2, e3, e4, hk11⟩ := hk11
    clear hxa hL4 hL10
    obtain ⟨wc, rfl⟩ : ∃ wc', wc' = wn := ⟨_, rfl⟩
    refine hK.out _ _ (HAll.out _ hyn) (fun hHeld => ?_)
    clear hK K
    try simp only [Act.put, List.setIfInBounds_toArray, List.set_cons_zero, List.set_cons_succ]
    refine wpAnyH_ready (rs := [13]) (by kernel_rfl) (by simp) ?_
    refine AllReadyH.cons rfl (fun K hK => ?_) AllReadyH.nil
    simp only [List.getElem_toArray, List.getElem_cons_zero, List.getElem_cons_succ]
    have y0 := hb12.cell (i := 0) (u := .slice none 0 0) rfl
    have y1 := hb12.cell (i := 1) (u := .slice none 0 0) rfl
    have y2 := hb12.frozen 0
    have y3 := hb12.frozen 1
    have t0 := hb12.ty
    go_simp
    have hyz := (hyn.setCell (p := ⟨r12, 0, none⟩) h12 (.slice Ax kk.vec.length cx)).setCell (p := ⟨r12, 1, none⟩) h12 (.slice Ay kk.more.length cy)
    have hyk := hk11.chg (((Chg.refl (ts := [44]) wc).setCell (p := ⟨r12, 0, none⟩) t0 (by simp) (.slice Ax kk.vec.length cx) (Nat.zero_le _)).setCell (p := ⟨r12, 1, none⟩) (tyAt_put t0) (by simp) (.slice Ay kk.more.length cy) (Nat.zero_le _)) (by decide) (by decide)
    have z0 : ((wc.setCell ⟨r12, 0, none⟩ (.slice Ax kk.vec.length cx)).setCell ⟨r12, 1, none⟩ (.slice Ay kk.more.length cy)).cell? ⟨r12, 0, none⟩ = some (.slice Ax kk.vec.length cx) := by go_simp
    have z1 : ((wc.setCell ⟨r12, 0, none⟩ (.slice Ax kk.vec.length cx)).setCell ⟨r12, 1, none⟩ (.slice Ay kk.more.length cy)).cell? ⟨r12, 1, none⟩ = some (.slice Ay kk.more.length cy) := by go_simp
    clear y0 y1 y2 y3 t0 hb12 hk11
    refine hK.out _ _ (HAll.out _ hyz) (fun hHeld => ?_)
    obtain ⟨wz, hwz⟩ : ∃ wz, wz = (wc.setCell ⟨r12, 0, none⟩ (.slice Ax kk.vec.length cx)).setCell ⟨r12, 1, none⟩ (.slice Ay kk.more.length cy) := ⟨_, rfl⟩
    rw [← hwz] at hyz hyk z0 z1 hHeld ⊢
    clear hwz hyn
    clear hK K
    try simp only [Act.put, List.setIfInBounds_toArray, List.set_cons_zero, List.set_cons_succ]
    refine wpAnyH_done (by kernel_rfl) ?_ _
    have d0 := (HAll.out _ hyz).2.2.1
    have d1 := (HAll.out _ hyz).2.2.2
    go_wp2_with fail
    refine (equal_ints 0 B Ax cx Bv dv kk.vec l.vec wz hyk.sv (HLn.out wz hyz).sv hyk.lv).mono ?_
    rintro e w3 ⟨rfl, hx3⟩
    replace z1 := hx3.cell z1
    replace d1 := hx3.cell d1
    have HY3 := hid (hyk.ext hx3)
    have HX3 := hid (hyz.trans hx3)
    clear hx3 d0 z0 hyk
    generalize decide (kk.vec = l.vec) = b1 at *
    cases b1
    · go_wp2_with fail
      go_ret
      exact ⟨ret_bool (by rw [HW.out]; rfl), HX.out.trans HX3.out⟩
    · go_wp2_with fail
      refine (equal_dots 0 B Ay cy Bm dm kk.more l.more w3 HY3.out.sm (HLn.out w3 HX3.out).sm HY3.out.lm).mono ?_
      rintro e w4 ⟨rfl, hx4⟩
      generalize decide (kk.more = l.more) = b2 at *
      go_wp2_with fail
      go_ret
      exact ⟨ret_bool (by rw [HW.out]; rfl), (HX.out.trans HX3.out).trans hx4⟩
  refine AllReadyH.cons rfl (fun K hK => ?_) AllReadyH.nil
  simp only [List.getElem_toArray, List.getElem_cons_zero, List.getElem_cons_succ]
  go_simp
  have hxa := (Ext.refl wc).alloc (.cells #[.slice Am k.more.length cm, .slice Bm l.more.length dm] 42)
  have hyn' := hyn.trans hxa
  obtain ⟨wn, hwn⟩ : ∃ wn, wn = wc.alloc (.cells #[.slice Am k.more.length cm, .slice Bm l.more.length dm] 42) := ⟨_, rfl⟩
  have hL9 : SlDotss B wn (some ⟨wc.heap.size, 0, none⟩) [k.more, l.more] := Sl.two hwn ⟨_, rfl, Am, cm, rfl, ha3, ha4, (HKn.out wn (by rw [hwn]; exact hyn')).sm⟩ ⟨_, rfl, Bm, dm, rfl, hb3, hb4, (HLn.out wn (by rw [hwn]; exact hyn')).sm⟩
  obtain ⟨a9, ha9⟩ : ∃ a, a = some (⟨wc.heap.size, 0, none⟩ : Addr) := ⟨_, rfl⟩
  rw [← hwn] at hxa hyn'
  rw [← hwn, ← ha9]
  rw [← ha9] at hL9
  replace hb12 := hb12.ext hxa
  clear hxa hwn ha9 hyn
  have hyn := hyn'
  clear hyn'
  obtain ⟨wc, rfl⟩ : ∃ wc', wc' = wn := ⟨_, rfl⟩
  refine hK.out _ _ (HAll.out _ hyn) (fun hHeld => ?_)
  clear hK K
  try simp only [Act.put, List.setIfInBounds_toArray, List.set_cons_zero, List.set_cons_succ]
  refine wpAnyH_ready (rs := [4, 10]) (by kernel_rfl) (by simp) ?_
  refine AllReadyH.cons rfl (fun K hK => ?_) ?_
  · simp only [List.getElem_toArray, List.getElem_cons_zero, List.getElem_cons_succ]
    go_simp
    have hxa := (Ext.refl wc).alloc (.cells #[.slice Av k.vec.length cv, .slice Bv l.vec.length dv] 41)
    have hyn' := hyn.trans hxa
    obtain ⟨wn, hwn⟩ : ∃ wn, wn = wc.alloc (.cells #[.slice Av k.vec.length cv, .slice Bv l.vec.length dv] 41) := ⟨_, rfl⟩
    have hL4 : SlVecs B wn (some ⟨wc.heap.size, 0, none⟩) [k.vec, l.vec] := Sl.two hwn ⟨_, rfl, Av, cv, rfl, ha1, ha2, (HKn.out wn (by rw [hwn]; exact hyn')).sv⟩ ⟨_, rfl, Bv, dv, rfl, hb1, hb2, (HLn.out wn (by rw [hwn]; exact hyn')).sv⟩
    obtain ⟨a4, ha4⟩ : ∃ a, a = some (⟨wc.heap.size, 0, none⟩ : Addr) := ⟨_, rfl⟩
    rw [← hwn] at hxa hyn'
    rw [← hwn, ← ha4]
    rw [← ha4] at hL4
    replace hL9 := hL9.ext RDots.monoE hxa
    replace hb12 := hb12.ext hxa
    clear hxa hwn ha4 hyn
    have hyn := hyn'
    clear hyn'
    obtain ⟨wc, rfl⟩ : ∃ wc', wc' = wn := ⟨_, rfl⟩
    refine hK.out _ _ (HAll.out _ hyn) (fun hHeld => ?_)
    clear hK K
    try simp only [Act.put, List.setIfInBounds_toArray, List.set_cons_zero, List.set_cons_succ]
    refine wpAnyH_ready (rs := [10]) (by kernel_rfl) (by simp) ?_
    refine AllReadyH.cons rfl (fun K hK => ?_) AllReadyH.nil
    simp only [List.getElem_toArray, List.getElem_cons_zero, List.getElem_cons_succ]
    go_simp
    refine (concat_dots B a9 2 [k.more, l.more] wc (by have := hyn.size; have := HBW.out; omega) hL9 (by simp) (by have := HK.out.mlen; have := HL.out.mlen; simp; omega)).mono ?_
    rintro e wn ⟨v10, rfl, hL10, hxa⟩
    dsimp only
    rw [← HDS.out] at hL10
    obtain ⟨A10, c10, rfl, _, _⟩ := hL10.len
    replace hL4 := hL4.ext RVec.monoE hxa
    replace hL9 := hL9.ext RDots.monoE hxa
    replace hb12 := hb12.ext hxa
    replace hyn := hyn.trans hxa
    clear hxa hL9
    obtain ⟨wc, rfl⟩ : ∃ wc', wc' = wn := ⟨_, rfl⟩
    refine hK.out _ _ (HAll.out _ hyn) (fun hHeld => ?_)
    clear hK K
    try simp only [Act.put, List.setIfInBounds_toArray, List.set_cons_zero, List.set_cons_succ]
    refine wpAnyH_ready (rs := [11]) (by kernel_rfl) (by simp) ?_
    refine AllReadyH.cons rfl (fun K hK => ?_) AllReadyH.nil
    simp only [List.getElem_toArray, List.getElem_cons_zero, List.getElem_cons_succ]
    go_simp
    refine (know_Made B a4 2 [k.vec, l.vec] A10 c10 ds wc (by have := hyn.size; have := HBW.out; omega) hL4 (by simp) (by intro x hx; simp at hx; rcases hx with rfl | rfl; exact HK.out.vlen; exact HL.out.vlen) (by intro x hx; simp at hx; rcases hx with rfl | rfl; exact HK.out.vec; exact HL.out.vec) (hL10.sl B) (by rw [HDS.out]; have := HK.out.mlen; have := HL.out.mlen; simp; omega) (by rw [HDS.out]; intro x hx; simp at hx; rcases hx with h | h; exact HK.out.more x h; exact HL.out.more x h)).mono ?_
    rintro e wn ⟨v9, rfl, hk11, hxa⟩
    dsimp only
    rw [← HKK.out] at hk11
    replace hL4 := hL4.ext RVec.monoE hxa
    replace hL10 := hL10.ext (RPair.mono (B := 0)) hxa
    replace hb12 := hb12.ext hxa
    replace hyn := hyn.trans hxa
    obtain ⟨Ax, cx, Ay, cy, rfl, e1, e2, e3, e4, hk11⟩ := hk11
    clear hxa hL4 hL10
    obtain ⟨wc, rfl⟩ : ∃ wc', wc' = wn := ⟨_, rfl⟩
    refine hK.out _ _ (HAll.out _ hyn) (fun hHeld => ?_)
    clear hK K
    try simp only [Act.put, List.setIfInBounds_toArray, List.set_cons_zero, List.set_cons_succ]
    refine wpAnyH_ready (rs := [13]) (by kernel_rfl) (by simp) ?_
    refine AllReadyH.cons rfl (fun K hK => ?_) AllReadyH.nil
    simp only [List.getElem_toArray, List.getElem_cons_zero, List.getElem_cons_succ]
    have y0 := hb12.cell (i := 0) (u := .slice none 0 0) rfl
    have y1 := hb12.cell (i := 1) (u := .slice none 0 0) rfl
    have y2 := hb12.frozen 0
    have y3 := hb12.frozen 1
    have t0 := hb12.ty
    go_simp
    have hyz := (hyn.setCell (p := ⟨r12, 0, none⟩) h12 (.slice Ax kk.vec.length cx)).setCell (p := ⟨r12, 1, none⟩) h12 (.slice Ay kk.more.length cy)
    have hyk := hk11.chg (((Chg.refl (ts := [44]) wc).setCell (p := ⟨r12, 0, none⟩) t0 (by simp) (.slice Ax kk.vec.length cx) (Nat.zero_le _)).setCell (p := ⟨r12, 1, none⟩) (tyAt_put t0) (by simp) (.slice Ay kk.more.length cy) (Nat.zero_le _)) (by decide) (by decide)
    have z0 : ((wc.setCell ⟨r12, 0, none⟩ (.slice Ax kk.vec.length cx)).setCell ⟨r12, 1, none⟩ (.slice Ay kk.more.length cy)).cell? ⟨r12, 0, none⟩ = some (.slice Ax kk.vec.length cx) := by go_simp
    have z1 : ((wc.setCell ⟨r12, 0, none⟩ (.slice Ax kk.vec.length cx)).setCell ⟨r12, 1, none⟩ (.slice Ay kk.more.length cy)).cell? ⟨r12, 1, none⟩ = some (.slice Ay kk.more.length cy) := by go_simp
    clear y0 y1 y2 y3 t0 hb12 hk11
    refine hK.out _ _ (HAll.out _ hyz) (fun hHeld => ?_)
    obtain ⟨wz, hwz⟩ : ∃ wz, wz = (wc.setCell ⟨r12, 0, none⟩ (.slice Ax kk.vec.length cx)).setCell ⟨r12, 1, none⟩ (.slice Ay kk.more.length cy) := ⟨_, rfl⟩
    rw [← hwz] at hyz hyk z0 z1 hHeld ⊢
    clear hwz hyn
    clear hK K
    try simp only [Act.put, List.setIfInBounds_toArray, List.set_cons_zero, List.set_cons_succ]
    refine wpAnyH_done (by kernel_rfl) ?_ _
    have d0 := (HAll.out _ hyz).2.2.1
    have d1 := (HAll.out _ hyz).2.2.2
    go_wp2_with fail
    refine (equal_ints 0 B Ax cx Bv dv kk.vec l.vec wz hyk.sv (HLn.out wz hyz).sv hyk.lv).mono ?_
    rintro e w3 ⟨rfl, hx3⟩
    replace z1 := hx3.cell z1
    replace d1 := hx3.cell d1
    have HY3 := hid (hyk.ext hx3)
    have HX3 := hid (hyz.trans hx3)
    clear hx3 d0 z0 hyk
    generalize decide (kk.vec = l.vec) = b1 at *
    cases b1
    · go_wp2_with fail
      go_ret
      exact ⟨ret_bool (by rw [HW.out]; rfl), HX.out.trans HX3.out⟩
    · go_wp2_with fail
      refine (equal_dots 0 B Ay cy Bm dm kk.more l.more w3 HY3.out.sm (HLn.out w3 HX3.out).sm HY3.out.lm).mono ?_
      rintro e w4 ⟨rfl, hx4⟩
      generalize decide (kk.more = l.more) = b2 at *
      go_wp2_with fail
      go_ret
      exact ⟨ret_bool (by rw [HW.out]; rfl), (HX.out.trans HX3.out).trans hx4⟩
  refine AllReadyH.cons rfl (fun K hK => ?_) AllReadyH.nil
  simp only [List.getElem_toArray, List.getElem_cons_zero, List.getElem_cons_succ]
  go_simp
  refine (concat_dots B a9 2 [k.more, l.more] wc (by have := hyn.size; have := HBW.out; omega) hL9 (by simp) (by have := HK.out.mlen; have := HL.out.mlen; simp; omega)).mono ?_
  rintro e wn ⟨v10, rfl, hL10, hxa⟩
  dsimp only
  rw [← HDS.out] at hL10
  obtain ⟨A10, c10, rfl, _, _⟩ := hL10.len
  replace hL9 := hL9.ext RDots.monoE hxa
  replace hb12 := hb12.ext hxa
  replace hyn := hyn.trans hxa
  clear hxa hL9
  obtain ⟨wc, rfl⟩ : ∃ wc', wc' = wn := ⟨_, rfl⟩
  refine hK.out _ _ (HAll.out _ hyn) (fun hHeld => ?_)
  clear hK K
  try simp only [Act.put, List.setIfInBounds_toArray, List.set_cons_zero, List.set_cons_succ]
  refine wpAnyH_ready (rs := [4]) (by kernel_rfl) (by simp) ?_
  refine AllReadyH.cons rfl (fun K hK => ?_) AllReadyH.nil
  simp only [List.getElem_toArray, List.getElem_cons_zero, List.getElem_cons_succ]
  go_simp
  have hxa := (Ext.refl wc).alloc (.cells #[.slice Av k.vec.length cv, .slice Bv l.vec.length dv] 41)
  have hyn' := hyn.trans hxa
  obtain ⟨wn, hwn⟩ : ∃ wn, wn = wc.alloc (.cells #[.slice Av k.vec.length cv, .slice Bv l.vec.length dv] 41) := ⟨_, rfl⟩
  have hL4 : SlVecs B wn (some ⟨wc.heap.size, 0, none⟩) [k.vec, l.vec] := Sl.two hwn ⟨_, rfl, Av, cv, rfl, ha1, ha2, (HKn.out wn (by rw [hwn]; exact hyn')).sv⟩ ⟨_, rfl, Bv, dv, rfl, hb1, hb2, (HLn.out wn (by rw [hwn]; exact hyn')).sv⟩
  obtain ⟨a4, ha4⟩ : ∃ a, a = some (⟨wc.heap.size, 0, none⟩ : Addr) := ⟨_, rfl⟩
  rw [← hwn] at hxa hyn'
  rw [← hwn, ← ha4]
  rw [← ha4] at hL4
  replace hL10 := hL10.ext (RPair.mono (B := 0)) hxa
  replace hb12 := hb12.ext hxa
  clear hxa hwn ha4 hyn
  have hyn := hyn'
  clear hyn'
  obtain ⟨wc, rfl⟩ : ∃ wc', wc' = wn := ⟨_, rfl⟩
  refine hK.out _ _ (HAll.out _ hyn) (fun hHeld => ?_)
  clear hK K
  try simp only [Act.put, List.setIfInBounds_toArray, List.set_cons_zero, List.set_cons_succ]
  refine wpAnyH_ready (rs := [11]) (by kernel_rfl) (by simp) ?_
  refine AllReadyH.cons rfl (fun K hK => ?_) AllReadyH.nil
  simp only [List.getElem_toArray, List.getElem_cons_zero, List.getElem_cons_succ]
  go_simp
  refine (know_Made B a4 2 [k.vec, l.vec] A10 c10 ds wc (by have := hyn.size; have := HBW.out; omega) hL4 (by simp) (by intro x hx; simp at hx; rcases hx with rfl | rfl; exact HK.out.vlen; exact HL.out.vlen) (by intro x hx; simp at hx; rcases hx with rfl | rfl; exact HK.out.vec; exact HL.out.vec) (hL10.sl B) (by rw [HDS.out]; have := HK.out.mlen; have := HL.out.mlen; simp; omega) (by rw [HDS.out]; intro x hx; simp at hx; rcases hx with h | h; exact HK.out.more x h; exact HL.out.more x h)).mono ?_
  rintro e wn ⟨v9, rfl, hk11, hxa⟩
  dsimp only
  rw [← HKK.out] at hk11
  replace hL4 := hL4.ext RVec.monoE hxa
  replace hL10 := hL10.ext (RPair.mono (B := 0)) hxa
  replace hb12 := hb12.ext hxa
  replace hyn := hyn.trans hxa
  obtain ⟨Ax, cx, Ay, cy, rfl, e1, e2, e3, e4, hk11⟩ := hk11
  clear hxa hL4 hL10
  obtain ⟨wc, rfl⟩ : ∃ wc', wc' = wn := ⟨_, rfl⟩
  refine hK.out _ _ (HAll.out _ hyn) (fun hHeld => ?_)
  clear hK K
  try simp only [Act.put, List.setIfInBounds_toArray, List.set_cons_zero, List.set_cons_succ]
  refine wpAnyH_ready (rs := [13]) (by kernel_rfl) (by simp) ?_
  refine AllReadyH.cons rfl (fun K hK => ?_) AllReadyH.nil
  simp only [List.getElem_toArray, List.getElem_cons_zero, List.getElem_cons_succ]
  have y0 := hb12.cell (i := 0) (u := .slice none 0 0) rfl
  have y1 := hb12.cell (i := 1) (u := .slice none 0 0) rfl
  have y2 := hb12.frozen 0
  have y3 := hb12.frozen 1
  have t0 := hb12.ty
  go_simp
  have hyz := (hyn.setCell (p := ⟨r12, 0, none⟩) h12 (.slice Ax kk.vec.length cx)).setCell (p := ⟨r12, 1, none⟩) h12 (.slice Ay kk.more.length cy)
  have hyk := hk11.chg (((Chg.refl (ts := [44]) wc).setCell (p := ⟨r12, 0, none⟩) t0 (by simp) (.slice Ax kk.vec.length cx) (Nat.zero_le _)).setCell (p := ⟨r12, 1, none⟩) (tyAt_put t0) (by simp) (.slice Ay kk.more.length cy) (Nat.zero_le _)) (by decide) (by decide)
  have z0 : ((wc.setCell ⟨r12, 0, none⟩ (.slice Ax kk.vec.length cx)).setCell ⟨r12, 1, none⟩ (.slice Ay kk.more.length cy)).cell? ⟨r12, 0, none⟩ = some (.slice Ax kk.vec.length cx) := by go_simp
  have z1 : ((wc.setCell ⟨r12, 0, none⟩ (.slice Ax kk.vec.length cx)).setCell ⟨r12, 1, none⟩ (.slice Ay kk.more.length cy)).cell? ⟨r12, 1, none⟩ = some (.slice Ay kk.more.length cy) := by go_simp
  clear y0 y1 y2 y3 t0 hb12 hk11
  refine hK.out _ _ (HAll.out _ hyz) (fun hHeld => ?_)
  obtain ⟨wz, hwz⟩ : ∃ wz, wz = (wc.setCell ⟨r12, 0, none⟩ (.slice Ax kk.vec.length cx)).setCell ⟨r12, 1, none⟩ (.slice Ay kk.more.length cy) := ⟨_, rfl⟩
  rw [← hwz] at hyz hyk z0 z1 hHeld ⊢
  clear hwz hyn
  clear hK K
  try simp only [Act.put, List.setIfInBounds_toArray, List.set_cons_zero, List.set_cons_succ]
  refine wpAnyH_done (by kernel_rfl) ?_ _
  have d0 := (HAll.out _ hyz).2.2.1
  have d1 := (HAll.out _ hyz).2.2.2
  go_wp2_with fail
  refine (equal_ints 0 B Ax cx Bv dv kk.vec l.vec wz hyk.sv (HLn.out wz hyz).sv hyk.lv).mono ?_
  rintro e w3 ⟨rfl, hx3⟩
  replace z1 := hx3.cell z1
  replace d1 := hx3.cell d1
  have HY3 := hid (hyk.ext hx3)
  have HX3 := hid (hyz.trans hx3)
  clear hx3 d0 z0 hyk
  generalize decide (kk.vec = l.vec) = b1 at *
  cases b1
  · go_wp2_with fail
    go_ret
    exact ⟨ret_bool (by rw [HW.out]; rfl), HX.out.trans HX3.out⟩
  · go_wp2_with fail
    refine (equal_dots 0 B Ay cy Bm dm kk.more l.more w3 HY3.out.sm (HLn.out w3 HX3.out).sm HY3.out.lm).mono ?_
    rintro e w4 ⟨rfl, hx4⟩
    generalize decide (kk.more = l.more) = b2 at *
    go_wp2_with fail
    go_ret
    exact ⟨ret_bool (by rw [HW.out]; rfl), (HX.out.trans HX3.out).trans hx4⟩

end Go.Proofs.Ytmedmfjhpabfdaa
