/- The walk of reedref.Past. -/
import Derived.Test.YtmedmfjhpabfdaaShelfG
import Derived.Test.YtmedmfjhpabfdaaKnF
import Derived.Test.YtmedmfjhpabfdaaBase
namespace Go.Proofs.Ytmedmfjhpabfdaa
open Go Go.RowKit

theorem wp_storeRow {P : Program} {o : Oper} {a : Act} {w : World} {Q : Exit → Act → World → Prop} {K : Act → World → Prop} {t : TypeId} {n : Nat} (ri : RowInfo P t n) (x y : Operand) (ho : o.op = .store t x y) {b : Nat} (hx : a.eval x = .pointer (some ⟨b, 0, none⟩)) {cs old : Array Value} (hy : a.eval y = .agg cs)
    (hb : Blk w b t old) (hn : cs.size = n) (hold : old.size = n) (h1 : cs.all (·.oneCell') = true)
    (h : ∀ w', Below b w w' → Blk w' b t cs → w'.heap.size = w.heap.size → (∀ k, k ≠ b → w'.heap[k]? = w.heap[k]?) → K (a.put o.dst undef) w') : o.wp P a w K Q := by
  obtain ⟨_, hi⟩ := ri
  have hother : ∀ k, k ≠ b → (w.setRow b cs).heap[k]? = w.heap[k]? := fun k hk => setRow_other w b k cs (by omega)
  exact wp_store_row t x y ho b cs hx hy t old hb (by rw [hn]; exact hi) (by omega) h1
    (h _ ⟨rfl, rfl, rfl, by simp, fun k hk => hother k (by omega)⟩ (setRow_heap w b old _ t _ hb) (by simp) hother)
/-- one row of its own turned. -/
theorem chg_row {B g : Nat} {t : TypeId} {w w' : World} {old : Array Value} (hb : Blk w g t old) (x : Below g w w') (ho : ∀ k, k ≠ g → w'.heap[k]? = w.heap[k]?) (hB : B ≤ g) : Chg B [t] w w' :=
  ⟨x.os, x.tape, x.output, x.size, fun k _ hc => ho k (by
    rintro rfl
    rcases hc with hc | hc
    · omega
    · exact hc t (by simp) hb.ty)⟩
theorem res_past {w : World} {v : Value} {b : Nat} {x y : Value} {tmps : Array Value} (h4 : tmps.getD 4 undef = .pointer (some ⟨b, 0, none⟩)) (h5 : tmps.getD 5 undef = v) (c1 : w.cell? ⟨b, 0, none⟩ = some x) (c2 : w.cell? ⟨b, 1, none⟩ = some y) :
    (results Try.f31 tmps).run Try.prog w = .ok (.tuple #[.agg #[x, y], v]) w := by
  have h4' : tmps[4]?.getD undef = .pointer (some ⟨b, 0, none⟩) := by simpa using h4
  have h5' : tmps[5]?.getD undef = v := by simpa using h5
  simp [results, Try.results31, go_sem, h4', h5', c1, c2]

set_option maxRecDepth 100000 in
set_option maxHeartbeats 800000 in
theorem ref_Past (B : Nat) (A : Option Addr) (c : Nat) (l : List Version) (s : ByteArray) (w : World) (hB : B ≤ w.heap.size) (hl : l.length ≤ 60) (hok : ∀ v ∈ l, VerOk v) (h : SlVers B w A l) :
    Calls Try.prog 31 #[.slice A l.length c, .string s] w fun e w' => ∃ x, e = .returned (.tuple #[x, .int .i64 (toldErr (formOf (refPast (getL l s))))]) ∧ IsK 0 w' x (toldKn (formOf (refPast (getL l s)))) ∧ Ext w w' := by
  have HOK := hid (show ∀ v ∈ getL l s, VerOk v from fun v hv => hok v (List.mem_filter.1 hv).1)
  have hLL : (getL l s).length ≤ 60 := by have := List.length_filter_le (fun v : Version => sEq v.id s) l; unfold getL; omega
  clear hok
  have hx0 := (Ext.refl w).alloc (.cells #[.slice none 0 0, .slice none 0 0] 44)
  have hbk := Blk.new w 44 #[.slice none 0 0, .slice none 0 0]
  go_enter Try.func31, Try.ntmps31
  go_wp2_with ((with_reducible refine wpList_allocArr (o := ⟨some 6, _, _, _, _, _⟩) zi_dots rfl rfl ?_); intro w3 hx3 hb3 hs3)
  have hb : Blk w3 (w.heap.size + 1) 83 (rowD fun _ _ => false) := by simpa using hb3
  replace hbk := hbk.ext hx3
  have hx := hx0.trans hx3
  clear hb3 hs3 hx3 hx0
  refine (ref_Get B A c l s _ (Nat.le_trans hB hx.size) (by omega) (h.ext RVer.monoE hx)).mono ?_
  rintro e w4 ⟨v4, rfl, ho4, hx4⟩
  obtain ⟨A4, c4, rfl, _, _⟩ := ho4.len
  have hL := ho4.sl B
  replace hb := hb.ext hx4
  replace hbk := hbk.ext hx4
  replace hx := hx.trans hx4
  clear hx4 ho4 h
  obtain ⟨L, hLd⟩ : ∃ L, L = getL l s := ⟨_, rfl⟩
  rw [← hLd] at hL hLL HOK
  rw [← hLd]
  have HLd := hid hLd
  clear hLd
  clear hl
  have HBW := hid hB
  clear hB
  go_wp2_with fail
  go_loopw [13] (fun i wr => ∃ k : Nat, k ≤ L.length ∧ i = .int .i64 k ∧ Blk wr (w.heap.size + 1) 83 (rowD (refPast (L.take k))) ∧ SlVers B wr A4 L ∧ Ext w wr ∧ Blk wr w.heap.size 44 #[.slice none 0 0, .slice none 0 0]) (fun i _ => L.length - (intOf i).toNat)
  case atStart => exact ⟨0, Nat.zero_le _, rfl, hb, hL, hx, hbk⟩
  case round =>
    clear hb hL hx hbk
    obtain ⟨k, hk, rfl, hb, hL, hx, hbk⟩ := hrel
    by_cases hlt : k < L.length
    · obtain ⟨b, off, Av, cv, Am, cm, rfl, hbz, hr, hI⟩ := hL.ver hlt
      have HO := hid (HOK.out _ (List.getElem_mem hlt))
      have hsz : ([.string L[k].id, .int .i64 L[k].dot.site, .int .i64 L[k].dot.count, .int .i64 L[k].pt.tags, .int .i64 L[k].pt.num, .int .i64 L[k].body, .slice Av L[k].past.vec.length cv, .slice Am L[k].past.more.length cm] : List Value).length = 8 := rfl
      go_wp2_with (with_reducible refine wpList_loadL (o := ⟨some 16, _, _, _, _, _⟩) ri_ver _ rfl rfl rfl hr hsz ?_)
      clear hr hsz
      have hxl := (Ext.refl wr).alloc (.cells #[.string L[k].id, .int .i64 L[k].dot.site, .int .i64 L[k].dot.count, .int .i64 L[k].pt.tags, .int .i64 L[k].pt.num, .int .i64 L[k].body, .slice Av L[k].past.vec.length cv, .slice Am L[k].past.more.length cm] 46)
      have hbr := Blk.new wr 46 #[.string L[k].id, .int .i64 L[k].dot.site, .int .i64 L[k].dot.count, .int .i64 L[k].pt.tags, .int .i64 L[k].pt.num, .int .i64 L[k].body, .slice Av L[k].past.vec.length cv, .slice Am L[k].past.more.length cm]
      have hrr := hb.lt
      obtain ⟨wa, hwa⟩ : ∃ wa, wa = wr.alloc (.cells #[.string L[k].id, .int .i64 L[k].dot.site, .int .i64 L[k].dot.count, .int .i64 L[k].pt.tags, .int .i64 L[k].pt.num, .int .i64 L[k].body, .slice Av L[k].past.vec.length cv, .slice Am L[k].past.more.length cm] 46) := ⟨_, rfl⟩
      obtain ⟨r, hr⟩ : ∃ r, r = wr.heap.size := ⟨_, rfl⟩
      rw [← hwa] at hxl hbr ⊢
      rw [← hr] at hbr hrr ⊢
      clear hwa hr
      have HI := hid (hI.ext hxl)
      obtain ⟨s1, c1, hsd, hsc, hds, hdc, _⟩ := dot_nat HO.out.dot L[k].past
      have HStep := hid (refPast_step L k hlt s1 c1 (Dot.ext' hsd hsc))
      have HDS := hid hds
      have HDC := hid hdc
      have HRR := hid (show r ≠ w.heap.size + 1 by omega)
      have HXW := hid (hx.trans hxl)
      have HDots := hid (fun w' (x : Ext wa w') => (hb.ext hxl).ext x)
      have HL := hid (fun w' (x : Ext wa w') => (hL.ext RVer.monoE hxl).ext RVer.monoE x)
      have HBr := hid (fun w' (x : Ext wa w') => hbr.ext x)
      have HCls := hid (fun w' (b : Blk w' r 46 #[.string L[k].id, .int .i64 L[k].dot.site, .int .i64 L[k].dot.count, .int .i64 L[k].pt.tags, .int .i64 L[k].pt.num, .int .i64 L[k].body, .slice Av L[k].past.vec.length cv, .slice Am L[k].past.more.length cm]) => show w'.cell? ⟨r, 1, none⟩ = some (.int .i64 (s1 : Int)) ∧ w'.cell? ⟨r, 2, none⟩ = some (.int .i64 (c1 : Int)) ∧ w'.cell? ⟨r, 6, none⟩ = some (.slice Av L[k].past.vec.length cv) ∧ w'.cell? ⟨r, 7, none⟩ = some (.slice Am L[k].past.more.length cm) from ⟨by rw [← hsd]; exact b.cell rfl, by rw [← hsc]; exact b.cell rfl, b.cell rfl, b.cell rfl⟩)
      have HKb := hid (fun w' (x : Ext wa w') => (hbk.ext hxl).ext x)
      have HAll := hid (fun w' (x : Ext wa w') => HCls.out w' (hbr.ext x))
      clear hsd hsc hds hdc hb hL hx hxl hbr hI hrr hbz hbk
      have hyn := (Ext.refl wa).drew
      refine wp_region_held_drew (S := fun w' => w'.cell? ⟨r, 1, none⟩ = some (.int .i64 (s1 : Int)) ∧ w'.cell? ⟨r, 2, none⟩ = some (.int .i64 (c1 : Int)) ∧ w'.cell? ⟨r, 6, none⟩ = some (.slice Av L[k].past.vec.length cv) ∧ w'.cell? ⟨r, 7, none⟩ = some (.slice Am L[k].past.more.length cm)) (by kernel_rfl) (HAll.out _ hyn) (fun hHeld => ?_)
      obtain ⟨wc, hwc⟩ : ∃ wc, wc = wa.drew := ⟨_, rfl⟩
      rw [← hwc] at hHeld hyn ⊢
      clear hwc
      refine wpAnyH_take (i := 1) (oi := _) (v := ?_) rfl (by kernel_rfl) (by kernel_rfl) (by kernel_rfl) (fun _ _ _ h => h) (Or.inl ⟨by rfl, ?_⟩) (by assumption) ?_
      rotate_left
      · intro w' hSw
        try dsimp only at hSw
        first
          | (go_simp; done)
          | (go_simp; with_reducible rfl)
      simp only [List.getElem_toArray, List.getElem_cons_zero, List.getElem_cons_succ]
      try simp only [Act.put, List.setIfInBounds_toArray, List.set_cons_zero, List.set_cons_succ]
      refine wpAnyH_take (i := 2) (oi := _) (v := ?_) rfl (by kernel_rfl) (by kernel_rfl) (by kernel_rfl) (fun _ _ _ h => h) (Or.inl ⟨by rfl, ?_⟩) (by assumption) ?_
      rotate_left
      · intro w' hSw
        try dsimp only at hSw
        first
          | (go_simp; done)
          | (go_simp; with_reducible rfl)
      simp only [List.getElem_toArray, List.getElem_cons_zero, List.getElem_cons_succ]
      try simp only [Act.put, List.setIfInBounds_toArray, List.set_cons_zero, List.set_cons_succ]
      refine wpAnyH_take (i := 5) (oi := _) (v := ?_) rfl (by kernel_rfl) (by kernel_rfl) (by kernel_rfl) (fun _ _ _ h => h) (Or.inl ⟨by rfl, ?_⟩) (by assumption) ?_
      rotate_left
      · intro w' hSw
        try dsimp only at hSw
        first
          | (go_simp; done)
          | (go_simp; with_reducible rfl)
      simp only [List.getElem_toArray, List.getElem_cons_zero, List.getElem_cons_succ]
      try simp only [Act.put, List.setIfInBounds_toArray, List.set_cons_zero, List.set_cons_succ]
      refine wpAnyH_take (i := 6) (oi := _) (v := ?_) rfl (by kernel_rfl) (by kernel_rfl) (by kernel_rfl) (fun _ _ _ h => h) (Or.inl ⟨by rfl, ?_⟩) (by assumption) ?_
      rotate_left
      · intro w' hSw
        try dsimp only at hSw
        first
          | (go_simp; done)
          | (go_simp; with_reducible rfl)
      simp only [List.getElem_toArray, List.getElem_cons_zero, List.getElem_cons_succ]
      try simp only [Act.put, List.setIfInBounds_toArray, List.set_cons_zero, List.set_cons_succ]
      refine wpAnyH_ready (rs := [0, 3]) (by kernel_rfl) (by simp) ?_
      refine AllReadyH.cons rfl (fun K hK => ?_) ?_
      · simp only [List.getElem_toArray, List.getElem_cons_zero]
        simp only [Region.wanted, if_true]
        have hbw := (HDots.out wc hyn).whole
        with_reducible refine wp_loadMid (b := w.heap.size + 1) (i := 0) (cs := rowD (refPast (L.take k))) (n := 80) (t := 83) ri_dots (.tmp 6) rfl ?_ hbw (rowD_size _) ?_
        · rfl
        clear hbw
        refine hK.out _ _ (HAll.out _ hyn) (fun hHeld => ?_)
        clear hK K
        try simp only [Act.put, List.setIfInBounds_toArray, List.set_cons_zero, List.set_cons_succ]
        refine wpAnyH_ready (rs := [3]) (by kernel_rfl) (by simp) ?_
        refine AllReadyH.cons rfl (fun K hK => ?_) AllReadyH.nil
        simp only [List.getElem_toArray, List.getElem_cons_zero, List.getElem_cons_succ]
        go_simp
        refine (ref_All B L[k].past Av cv Am cm wc (HI.out.k.ext hyn) HO.out.k).mono ?_
        rintro e wn ⟨rfl, hxa⟩
        dsimp only
        replace hyn := hyn.trans hxa
        clear hxa
        obtain ⟨wc, rfl⟩ : ∃ wc', wc' = wn := ⟨_, rfl⟩
        refine hK.out _ _ (HAll.out _ hyn) (fun hHeld => ?_)
        clear hK K
        try simp only [Act.put, List.setIfInBounds_toArray, List.set_cons_zero, List.set_cons_succ]
        refine wpAnyH_ready (rs := [4]) (by kernel_rfl) (by simp) ?_
        refine AllReadyH.cons rfl (fun K hK => ?_) AllReadyH.nil
        simp only [List.getElem_toArray, List.getElem_cons_zero, List.getElem_cons_succ]
        go_simp
        refine (dots_Join (refPast (L.take k)) (hasK L[k].past) wc).mono ?_
        rintro e wn ⟨rfl, hxa⟩
        dsimp only
        replace hyn := hyn.trans hxa
        clear hxa
        obtain ⟨wc, rfl⟩ : ∃ wc', wc' = wn := ⟨_, rfl⟩
        refine hK.out _ _ (HAll.out _ hyn) (fun hHeld => ?_)
        clear hK K
        try simp only [Act.put, List.setIfInBounds_toArray, List.set_cons_zero, List.set_cons_succ]
        refine wpAnyH_ready (rs := [7]) (by kernel_rfl) (by simp) ?_
        refine AllReadyH.cons rfl (fun K hK => ?_) AllReadyH.nil
        simp only [List.getElem_toArray, List.getElem_cons_zero, List.getElem_cons_succ]
        go_simp
        refine (dots_With (orD (refPast (L.take k)) (hasK L[k].past)) s1 c1 wc HDS.out HDC.out).mono ?_
        rintro e wn ⟨rfl, hxa⟩
        dsimp only
        rw [← HStep.out]
        replace hyn := hyn.trans hxa
        clear hxa
        obtain ⟨wc, rfl⟩ : ∃ wc', wc' = wn := ⟨_, rfl⟩
        refine hK.out _ _ (HAll.out _ hyn) (fun hHeld => ?_)
        clear hK K
        try simp only [Act.put, List.setIfInBounds_toArray, List.set_cons_zero, List.set_cons_succ]
        refine wpAnyH_ready (rs := [8]) (by kernel_rfl) (by simp) ?_
        refine AllReadyH.cons rfl (fun K hK => ?_) AllReadyH.nil
        simp only [List.getElem_toArray, List.getElem_cons_zero, List.getElem_cons_succ]
        simp only [Region.wanted, if_true]
        have hbd := HDots.out wc hyn
        with_reducible refine wp_storeRow (b := w.heap.size + 1) (cs := rowD (refPast (L.take (k + 1)))) (old := rowD (refPast (L.take k))) (n := 80) (t := 83) ri_dots (.tmp 6) (.tmp 24) rfl ?_ ?_ hbd (rowD_size _) (rowD_size _) (rowD_all _) ?_
        · rfl
        · rfl
        intro wn hbl hbn _ hot
        have hch := chg_row (B := B) (HDots.out wc hyn) hbl hot (by have := HBW.out; omega)
        have hxw := (HXW.out.trans hyn).below hbl (by omega)
        have hkn := (HKb.out wc hyn).other hot (by omega)
        have hLn := (HL.out wc hyn).chg (RVer.mono (by decide) (by decide)) (by decide) hch
        refine hK.out _ _ (HCls.out wn ((HBr.out wc hyn).other hot HRR.out)) (fun hHeld => ?_)
        clear hch hbl hot hyn hbd
        clear hK K
        try simp only [Act.put, List.setIfInBounds_toArray, List.set_cons_zero, List.set_cons_succ]
        refine wpAnyH_done (by kernel_rfl) ?_ _
        go_wp2_with fail
        go_roundw
        case rel => exact ⟨k + 1, hlt, by go_num, hbn, hLn, hxw, hkn⟩
        case measure => simp [intOf]; omega
      refine AllReadyH.cons rfl (fun K hK => ?_) AllReadyH.nil
      simp only [List.getElem_toArray, List.getElem_cons_zero, List.getElem_cons_succ]
      go_simp
      refine (ref_All B L[k].past Av cv Am cm wc (HI.out.k.ext hyn) HO.out.k).mono ?_
      rintro e wn ⟨rfl, hxa⟩
      dsimp only
      replace hyn := hyn.trans hxa
      clear hxa
      obtain ⟨wc, rfl⟩ : ∃ wc', wc' = wn := ⟨_, rfl⟩
      refine hK.out _ _ (HAll.out _ hyn) (fun hHeld => ?_)
      clear hK K
      try simp only [Act.put, List.setIfInBounds_toArray, List.set_cons_zero, List.set_cons_succ]
      refine wpAnyH_ready (rs := [0]) (by kernel_rfl) (by simp) ?_
      refine AllReadyH.cons rfl (fun K hK => ?_) AllReadyH.nil
      simp only [List.getElem_toArray, List.getElem_cons_zero]
      simp only [Region.wanted, if_true]
      have hbw := (HDots.out wc hyn).whole
      with_reducible refine wp_loadMid (b := w.heap.size + 1) (i := 0) (cs := rowD (refPast (L.take k))) (n := 80) (t := 83) ri_dots (.tmp 6) rfl ?_ hbw (rowD_size _) ?_
      · rfl
      clear hbw
      refine hK.out _ _ (HAll.out _ hyn) (fun hHeld => ?_)
      clear hK K
      try simp only [Act.put, List.setIfInBounds_toArray, List.set_cons_zero, List.set_cons_succ]
      refine wpAnyH_ready (rs := [4]) (by kernel_rfl) (by simp) ?_
      refine AllReadyH.cons rfl (fun K hK => ?_) AllReadyH.nil
      simp only [List.getElem_toArray, List.getElem_cons_zero, List.getElem_cons_succ]
      go_simp
      refine (dots_Join (refPast (L.take k)) (hasK L[k].past) wc).mono ?_
      rintro e wn ⟨rfl, hxa⟩
      dsimp only
      replace hyn := hyn.trans hxa
      clear hxa
      obtain ⟨wc, rfl⟩ : ∃ wc', wc' = wn := ⟨_, rfl⟩
      refine hK.out _ _ (HAll.out _ hyn) (fun hHeld => ?_)
      clear hK K
      try simp only [Act.put, List.setIfInBounds_toArray, List.set_cons_zero, List.set_cons_succ]
      refine wpAnyH_ready (rs := [7]) (by kernel_rfl) (by simp) ?_
      refine AllReadyH.cons rfl (fun K hK => ?_) AllReadyH.nil
      simp only [List.getElem_toArray, List.getElem_cons_zero, List.getElem_cons_succ]
      go_simp
      refine (dots_With (orD (refPast (L.take k)) (hasK L[k].past)) s1 c1 wc HDS.out HDC.out).mono ?_
      rintro e wn ⟨rfl, hxa⟩
      dsimp only
      rw [← HStep.out]
      replace hyn := hyn.trans hxa
      clear hxa
      obtain ⟨wc, rfl⟩ : ∃ wc', wc' = wn := ⟨_, rfl⟩
      refine hK.out _ _ (HAll.out _ hyn) (fun hHeld => ?_)
      clear hK K
      try simp only [Act.put, List.setIfInBounds_toArray, List.set_cons_zero, List.set_cons_succ]
      refine wpAnyH_ready (rs := [8]) (by kernel_rfl) (by simp) ?_
      refine AllReadyH.cons rfl (fun K hK => ?_) AllReadyH.nil
      simp only [List.getElem_toArray, List.getElem_cons_zero, List.getElem_cons_succ]
      simp only [Region.wanted, if_true]
      have hbd := HDots.out wc hyn
      with_reducible refine wp_storeRow (b := w.heap.size + 1) (cs := rowD (refPast (L.take (k + 1)))) (old := rowD (refPast (L.take k))) (n := 80) (t := 83) ri_dots (.tmp 6) (.tmp 24) rfl ?_ ?_ hbd (rowD_size _) (rowD_size _) (rowD_all _) ?_
      · rfl
      · rfl
      intro wn hbl hbn _ hot
      have hch := chg_row (B := B) (HDots.out wc hyn) hbl hot (by have := HBW.out; omega)
      have hxw := (HXW.out.trans hyn).below hbl (by omega)
      have hkn := (HKb.out wc hyn).other hot (by omega)
      have hLn := (HL.out wc hyn).chg (RVer.mono (by decide) (by decide)) (by decide) hch
      refine hK.out _ _ (HCls.out wn ((HBr.out wc hyn).other hot HRR.out)) (fun hHeld => ?_)
      clear hch hbl hot hyn hbd
      clear hK K
      try simp only [Act.put, List.setIfInBounds_toArray, List.set_cons_zero, List.set_cons_succ]
      refine wpAnyH_done (by kernel_rfl) ?_ _
      go_wp2_with fail
      go_roundw
      case rel => exact ⟨k + 1, hlt, by go_num, hbn, hLn, hxw, hkn⟩
      case measure => simp [intOf]; omega
    · obtain rfl : k = L.length := by omega
      rw [List.take_length] at hb
      go_wp2_with ((with_reducible refine wpList_loadArr (o := ⟨some 26, _, _, _, _, _⟩) ai_dots _ rfl rfl rfl hb (rowD_size _) ?_))
      refine (ref_Formed (refPast L) _).mono ?_
      rintro e w5 ⟨x, rfl, hx5, hx6⟩
      replace hbk := hbk.ext hx6
      obtain ⟨Ax, cx, Ay, cy, rfl, e1, e2, e3, e4, hk6⟩ := hx5
      have y0 := hbk.cell (i := 0) (u := .slice none 0 0) rfl
      have y1 := hbk.cell (i := 1) (u := .slice none 0 0) rfl
      have y2 := hbk.frozen 0
      have y3 := hbk.frozen 1
      have pt := hbk.ty
      have hxf := hx.trans hx6
      clear hbk hx hx6 hb hL
      go_wp2_with fail
      have pt2 : tyAt (w5.setCell ⟨w.heap.size, 0, none⟩ (.slice Ax (toldKn (formOf (refPast L))).vec.length cx)) w.heap.size = some 44 := tyAt_setCells w.heap.size 44 [.slice Ax (toldKn (formOf (refPast L))).vec.length cx] 0 w5 pt
      refine bodyPost_ret (v := .tuple #[.agg #[.slice Ax (toldKn (formOf (refPast L))).vec.length cx, .slice Ay (toldKn (formOf (refPast L))).more.length cy], .int .i64 (toldErr (formOf (refPast L)))]) (res_past (b := w.heap.size) rfl rfl ?_ ?_) rfl ⟨.agg #[.slice Ax (toldKn (formOf (refPast L))).vec.length cx, .slice Ay (toldKn (formOf (refPast L))).more.length cy], by rw [← HLd.out], ?_, ?_⟩
      · go_simp
      · go_simp
      · rw [← HLd.out]
        exact ⟨Ax, cx, Ay, cy, rfl, e1, e2, e3, e4, hk6.chg (((Chg.refl (ts := [44]) w5).setCell (p := ⟨w.heap.size, 0, none⟩) pt (by simp) _ (Nat.zero_le _)).setCell (p := ⟨w.heap.size, 1, none⟩) pt2 (by simp) _ (Nat.zero_le _)) (by decide) (by decide)⟩
      · exact (hxf.setCell (Nat.le_refl _) _).setCell (Nat.le_refl _) _
end Go.Proofs.Ytmedmfjhpabfdaa
