/- The walks of know.told, Add. -/
import Derived.Test.YtiigbcnnapnceaaKnM
import Derived.Test.YtiigbcnnapnceaaKnI
import Derived.Deep.RegionHeld3
namespace Go.Proofs.Ytiigbcnnapnceaa
open Go Go.RowKit

def toldErr (k : Know) : Int := if k.more.length ≤ 60 then 0 else 2
def toldKn (k : Know) : Know := if k.more.length ≤ 60 then k else ⟨[], []⟩
def addS (k : Know) (d : Dot) : Know := formOf (setOf [k.vec] (k.more ++ [d]))
def addErr (k : Know) (d : Dot) : Int := if knowCheck k = 0 then (if dotOk d = true then toldErr (addS k d) else 1) else knowCheck k
def addK (k : Know) (d : Dot) : Know := if knowCheck k = 0 then (if dotOk d = true then toldKn (addS k d) else ⟨[], []⟩) else ⟨[], []⟩

theorem res_told {w : World} {v : Value} {b : Nat} {x y : Value} {tmps : Array Value} (h4 : tmps.getD 2 undef = .pointer (some ⟨b, 0, none⟩)) (h5 : tmps.getD 3 undef = v) (c1 : w.cell? ⟨b, 0, none⟩ = some x) (c2 : w.cell? ⟨b, 1, none⟩ = some y) :
    (results Try.f86 tmps).run Try.prog w = .ok (.tuple #[.agg #[x, y], v]) w := by
  have h4' : tmps[2]?.getD undef = .pointer (some ⟨b, 0, none⟩) := by simpa using h4
  have h5' : tmps[3]?.getD undef = v := by simpa using h5
  simp [results, Try.results86, go_sem, h4', h5', c1, c2]

theorem res_add {w : World} {v : Value} {b : Nat} {x y : Value} {tmps : Array Value} (h4 : tmps.getD 4 undef = .pointer (some ⟨b, 0, none⟩)) (h5 : tmps.getD 5 undef = v) (c1 : w.cell? ⟨b, 0, none⟩ = some x) (c2 : w.cell? ⟨b, 1, none⟩ = some y) :
    (results Try.f47 tmps).run Try.prog w = .ok (.tuple #[.agg #[x, y], v]) w := by
  have h4' : tmps[4]?.getD undef = .pointer (some ⟨b, 0, none⟩) := by simpa using h4
  have h5' : tmps[5]?.getD undef = v := by simpa using h5
  simp [results, Try.results47, go_sem, h4', h5', c1, c2]

theorem wp_app {P : Program} {α : Type} {R : World → List Value → α → Prop} {t e : TypeId} {sz bytes base B B' : Nat} {w : World} {v : Value} {l ys : List α} {A : Option Addr} {c : Nat} {o : Oper} {a : Act} {K : Act → World → Prop} {Q : Exit → Act → World → Prop} (s x : Operand)
    (ho : o.op = .call { callee := .builtin .append, args := #[s, x], argTypes := #[t, t] }) (ei : ElemInfo P t e sz bytes)
    (hs : a.eval s = v) (hown : Own R sz e w base v l) (hB : B ≤ base) (hb : base ≤ w.heap.size) {e' : TypeId} (hx : a.eval x = .slice A ys.length c) (hsl : Sl B' e' R sz w A ys) (h1 : OneC R) (m : Mono B [e] R)
    (h63 : l.length + ys.length ≤ maxLen) (hby : (l.length + ys.length) * bytes ≤ 140737488355328)
    (h : ∀ v' w', Own R sz e w' base v' (l ++ ys) → Chg B [e] w w' → Below base w w' → w.grownBy w' v.ownBlock → K (a.put o.dst v') w') : o.wp P a w K Q := by
  obtain ⟨v', w', hr, h2, h3, h4, h5⟩ := run_app (P := P) (t := t) (ty := o.type) (c := c) ei hown hB hb hsl h1 m h63 hby
  unfold Oper.wp execOp
  simp only [ho, resolve, invoke, builtin, Sem.run_bind, Sem.run_pure, Result.andThen_ok, List.map_toArray, List.map_cons, List.map_nil, hs, hx, hr]
  exact h _ _ h2 h4 h5 h3
theorem tyAt_put {w : World} {b i : Nat} {u : Value} {t : TypeId} (h : tyAt w b = some t) : tyAt (w.setCell ⟨b, i, none⟩ u) b = some t := by
  unfold tyAt at h ⊢
  cases hb : w.heap[b]? with
  | none => rw [hb] at h; cases h
  | some o =>
    rw [hb] at h
    cases o <;> simp at h
    simp [World.setCell, Array.getElem?_modify, hb, h]
theorem Own.sl {α : Type} {R : World → List Value → α → Prop} {sz : Nat} {e : TypeId} {w : World} {base n c : Nat} {A : Option Addr} {l : List α} (B : Nat) (h : Own R sz e w base (.slice A n c) l) : Sl B e R sz w A l := by
  obtain ⟨A', c', hv, _, _, hs⟩ := h.isSl B
  injection hv with h1 _ _
  rw [h1]
  exact hs
theorem RVec.monoD {B : Nat} : Mono B [74] (RVec B) := by
  rintro w w' cs l x ⟨v, rfl, h⟩
  exact ⟨v, rfl, h.chg RInt.mono (by decide) x⟩

theorem know_told (B : Nat) (v : Value) (k : Know) (w : World) (h : IsK B w v k) :
    Calls Try.prog 86 #[v] w fun e w' => ∃ x, e = .returned (.tuple #[x, .int .i64 (toldErr k)]) ∧ IsK B w' x (toldKn k) ∧ Ext w w' := by
  obtain ⟨Av, cv, Am, cm, rfl, h1, h2, h3, h4, hin⟩ := h
  by_cases hm : k.more.length ≤ 60
  · have HE := hid (show toldErr k = 0 from if_pos hm)
    have HK := hid (show toldKn k = k from if_pos hm)
    have hm' : decide ((60 : Int) < k.more.length) = false := decide_eq_false (by omega)
    clear hm
    go_enter Try.func86, Try.ntmps86
    go_wp2_with fail
    refine bodyPost_ret (v := .tuple #[.agg #[.slice Av k.vec.length cv, .slice Am k.more.length cm], .int .i64 0]) ?_ rfl ⟨.agg #[.slice Av k.vec.length cv, .slice Am k.more.length cm], by rw [HE.out], ?_, ?_⟩
    · refine res_told (b := w.heap.size + 1) rfl rfl ?_ ?_ <;> go_simp
    · rw [HK.out]
      exact ⟨Av, cv, Am, cm, rfl, h1, h2, h3, h4, hin.ext (((Ext.refl w).alloc _).alloc _)⟩
    · exact ((Ext.refl w).alloc _).alloc _
  · have HE := hid (show toldErr k = 2 from if_neg hm)
    have HK := hid (show toldKn k = ⟨[], []⟩ from if_neg hm)
    have hm' : decide ((60 : Int) < k.more.length) = true := decide_eq_true (by omega)
    clear hm
    go_enter Try.func86, Try.ntmps86
    go_wp2_with fail
    refine bodyPost_ret (v := .tuple #[.agg #[.slice none 0 0, .slice none 0 0], .int .i64 2]) ?_ rfl ⟨.agg #[.slice none 0 0, .slice none 0 0], by rw [HE.out], ?_, ?_⟩
    · refine res_told (b := w.heap.size + 1) rfl rfl ?_ ?_ <;> go_simp
    · rw [HK.out]
      exact IsK.empty
    · exact ((Ext.refl w).alloc _).alloc _

set_option maxRecDepth 100000 in
set_option maxHeartbeats 4000000 in
theorem know_Add (B : Nat) (k : Know) (Av : Option Addr) (cv : Nat) (Am : Option Addr) (cm : Nat) (d : Dot) (w : World) (hB : B ≤ w.heap.size) (h : InK B w Av Am k) (hcv : k.vec.length ≤ cv ∧ cv ≤ maxLen) :
    Calls Try.prog 47 #[.agg #[.slice Av k.vec.length cv, .slice Am k.more.length cm], .agg #[.int .i64 d.site, .int .i64 d.count]] w fun e w' => ∃ x, e = .returned (.tuple #[x, .int .i64 (addErr k d)]) ∧ IsK 0 w' x (addK k d) ∧ Ext w w' := by
  have hx := (((Ext.refl w).alloc (.cells #[.slice Av k.vec.length cv, .slice Am k.more.length cm] 72)).alloc (.cells #[.int .i64 d.site, .int .i64 d.count] 74)).alloc (.cells #[.slice none 0 0, .slice none 0 0] 72)
  have HE := hid (show addErr k d = if knowCheck k = 0 then (if dotOk d = true then toldErr (addS k d) else 1) else knowCheck k from rfl)
  have HA := hid (show addK k d = if knowCheck k = 0 then (if dotOk d = true then toldKn (addS k d) else ⟨[], []⟩) else ⟨[], []⟩ from rfl)
  have HKO := hid (knowCheck_iff (k := k))
  go_enter Try.func47, Try.ntmps47
  go_wp2_with fail
  refine (know_Check B k Av cv Am cm _ (h.ext hx)).mono ?_
  rintro e w1 ⟨rfl, hx1⟩
  have q0 : w1.cell? ⟨w.heap.size, 0, none⟩ = some (.slice Av k.vec.length cv) := hx1.cell (by go_simp)
  have q1 : w1.cell? ⟨w.heap.size, 1, none⟩ = some (.slice Am k.more.length cm) := hx1.cell (by go_simp)
  have d0 : w1.cell? ⟨w.heap.size + 1, 0, none⟩ = some (.int .i64 d.site) := hx1.cell (by go_simp)
  have d1 : w1.cell? ⟨w.heap.size + 1, 1, none⟩ = some (.int .i64 d.count) := hx1.cell (by go_simp)
  have r0 : w1.cell? ⟨w.heap.size + 2, 0, none⟩ = some (.slice none 0 0) := hx1.cell (by go_simp)
  have r1 : w1.cell? ⟨w.heap.size + 2, 1, none⟩ = some (.slice none 0 0) := hx1.cell (by go_simp)
  have f0 : w1.frozen? ⟨w.heap.size + 2, 0, none⟩ = false := (hx1.frozenAt (by simp)).trans (by go_simp)
  have f1 : w1.frozen? ⟨w.heap.size + 2, 1, none⟩ = false := (hx1.frozenAt (by simp)).trans (by go_simp)
  have t0 : tyAt w1 (w.heap.size + 2) = some 72 := by
    rw [tyAt_of (hx1.blockAt (by simp))]
    have := heap_alloc_new ((w.alloc (.cells #[.slice Av k.vec.length cv, .slice Am k.more.length cm] 72)).alloc (.cells #[.int .i64 d.site, .int .i64 d.count] 74)) (.cells #[.slice none 0 0, .slice none 0 0] 72)
    rw [World.size_alloc, World.size_alloc] at this
    unfold tyAt
    rw [this]
  have hz : w.heap.size + 2 < w1.heap.size := by have := hx1.size; simp at this; omega
  have HX := hid (hx.trans hx1)
  clear hx hx1
  generalize hkc : knowCheck k = c at HE HA HKO ⊢
  clear hkc
  by_cases h0 : c = 0
  · subst h0
    have HK := hid (HKO.out.1 rfl)
    go_wp2_with fail
    refine (know_Dot d _).mono ?_
    rintro e w2 ⟨rfl, hx2⟩
    have HX2 := hid (HX.out.trans hx2)
    replace q0 := hx2.cell q0
    replace q1 := hx2.cell q1
    replace d0 := hx2.cell d0
    replace d1 := hx2.cell d1
    replace r0 := hx2.cell r0
    replace r1 := hx2.cell r1
    replace f0 := (hx2.frozenAt (by omega)).trans f0
    replace f1 := (hx2.frozenAt (by omega)).trans f1
    have HT0 := hid ((tyAt_of (hx2.blockAt hz)).trans t0)
    replace hz := Nat.lt_of_lt_of_le hz hx2.size
    clear hx2 t0
    cases hd : dotOk d
    · rw [hd] at HE HA
      have HE' := hid (show addErr k d = 1 by rw [HE.out]; rfl)
      have HA' := hid (show addK k d = ⟨[], []⟩ by rw [HA.out]; rfl)
      clear hd
      go_wp2_with fail
      refine bodyPost_ret (v := .tuple #[.agg #[.slice none 0 0, .slice none 0 0], .int .i64 1]) ?_ rfl ⟨.agg #[.slice none 0 0, .slice none 0 0], by rw [HE'.out], ?_, ?_⟩
      · refine res_add (b := w.heap.size + 2) rfl rfl ?_ ?_ <;> go_simp
      · rw [HA'.out]
        exact IsK.empty
      · exact (HX2.out.setCell (by first | omega | (dsimp only; omega)) _).setCell (by first | omega | (dsimp only; omega)) _
    · rw [hd] at HE HA
      have HE' := hid (show addErr k d = toldErr (addS k d) by rw [HE.out]; rfl)
      have HA' := hid (show addK k d = toldKn (addS k d) by rw [HA.out]; rfl)
      have HD := hid hd
      clear hd
      go_wp2_with fail
      have HAll := hid (fun w' (x : Ext w2 w') => show w'.cell? ⟨w.heap.size, 0, none⟩ = some (.slice Av k.vec.length cv) ∧ w'.cell? ⟨w.heap.size, 1, none⟩ = some (.slice Am k.more.length cm) ∧ w'.cell? ⟨w.heap.size + 1, 0, none⟩ = some (.int .i64 d.site) ∧ w'.cell? ⟨w.heap.size + 1, 1, none⟩ = some (.int .i64 d.count) from ⟨x.cell q0, x.cell q1, x.cell d0, x.cell d1⟩)
      have HR := hid (fun w' (x : Ext w2 w') => show w'.cell? ⟨w.heap.size + 2, 0, none⟩ = some (.slice none 0 0) ∧ w'.cell? ⟨w.heap.size + 2, 1, none⟩ = some (.slice none 0 0) ∧ w'.frozen? ⟨w.heap.size + 2, 0, none⟩ = false ∧ w'.frozen? ⟨w.heap.size + 2, 1, none⟩ = false ∧ tyAt w' (w.heap.size + 2) = some 72 from ⟨x.cell r0, x.cell r1, (x.frozenAt (by omega)).trans f0, (x.frozenAt (by omega)).trans f1, (tyAt_of (x.blockAt (by omega))).trans HT0.out⟩)
      have HKn := hid (fun w' (x : Ext w2 w') => h.ext (HX2.out.trans x))
      clear q0 q1 d0 d1 r0 r1 f0 f1
      have hyn := (Ext.refl w2).drew
      refine wp_region_held_drew (S := fun w' => Ext w w' ∧ w'.cell? ⟨w.heap.size, 0, none⟩ = some (.slice Av k.vec.length cv) ∧ w'.cell? ⟨w.heap.size, 1, none⟩ = some (.slice Am k.more.length cm) ∧ w'.cell? ⟨w.heap.size + 1, 0, none⟩ = some (.int .i64 d.site) ∧ w'.cell? ⟨w.heap.size + 1, 1, none⟩ = some (.int .i64 d.count)) (by kernel_rfl) ⟨HX2.out.trans hyn, HAll.out _ hyn⟩ (fun hHeld => ?_)
      obtain ⟨wc, hwc⟩ : ∃ wc, wc = w2.drew := ⟨_, rfl⟩
      rw [← hwc] at hHeld hyn ⊢
      clear hwc
      refine wpAnyH_take (i := 0) (oi := _) (v := ?_) rfl (by kernel_rfl) (by kernel_rfl) (by kernel_rfl) (fun _ _ _ h => h) (Or.inl ⟨by rfl, ?_⟩) (by assumption) ?_
      rotate_left
      · intro w' hSw
        try dsimp only at hSw
        first
          | (go_simp; done)
          | (go_simp; with_reducible rfl)
      simp only [List.getElem_toArray, List.getElem_cons_zero]
      try simp only [Act.put, List.setIfInBounds_toArray, List.set_cons_zero, List.set_cons_succ]
      refine wpAnyH_take (i := 1) (oi := _) (v := ?_) rfl (by kernel_rfl) (by kernel_rfl) (by kernel_rfl) (fun _ _ _ h => h) (Or.inl ⟨by rfl, ?_⟩) (by assumption) ?_
      rotate_left
      · intro w' hSw
        try dsimp only at hSw
        first
          | (go_simp; done)
          | (go_simp; with_reducible rfl)
      simp only [List.getElem_toArray, List.getElem_cons_zero, List.getElem_cons_succ]
      try simp only [Act.put, List.setIfInBounds_toArray, List.set_cons_zero, List.set_cons_succ]
      refine wpAnyH_take (i := 3) (oi := _) (v := ?_) rfl (by kernel_rfl) (by kernel_rfl) (by kernel_rfl) (fun _ _ _ h => h) (Or.inl ⟨by rfl, ?_⟩) (by assumption) ?_
      rotate_left
      · intro w' hSw
        try dsimp only at hSw
        first
          | (go_simp; done)
          | (go_simp; with_reducible rfl)
      simp only [List.getElem_toArray, List.getElem_cons_zero, List.getElem_cons_succ]
      try simp only [Act.put, List.setIfInBounds_toArray, List.set_cons_zero, List.set_cons_succ]
      refine wpAnyH_take (i := 4) (oi := _) (v := ?_) rfl (by kernel_rfl) (by kernel_rfl) (by kernel_rfl) (fun _ _ _ h => h) (Or.inl ⟨by rfl, ?_⟩) (by assumption) ?_
      rotate_left
      · intro w' hSw
        try dsimp only at hSw
        first
          | (go_simp; done)
          | (go_simp; with_reducible rfl)
      simp only [List.getElem_toArray, List.getElem_cons_zero, List.getElem_cons_succ]
      try simp only [Act.put, List.setIfInBounds_toArray, List.set_cons_zero, List.set_cons_succ]
      refine wpAnyH_take (i := 6) (oi := _) (v := ?_) rfl (by kernel_rfl) (by kernel_rfl) (by kernel_rfl) (fun _ _ _ h => h) (Or.inl ⟨by rfl, ?_⟩) (by assumption) ?_
      rotate_left
      · intro w' hSw
        try dsimp only at hSw
        first
          | (go_simp; done)
          | (go_simp; with_reducible rfl)
      simp only [List.getElem_toArray, List.getElem_cons_zero, List.getElem_cons_succ]
      try simp only [Act.put, List.setIfInBounds_toArray, List.set_cons_zero, List.set_cons_succ]
      refine wpAnyH_ready (rs := [2, 5, 7]) (by kernel_rfl) (by simp) ?_
      refine AllReadyH.cons rfl (fun K hK => ?_) ?_
      · simp only [List.getElem_toArray, List.getElem_cons_zero, List.getElem_cons_succ]
        go_simp
        have hxa := (Ext.refl wc).alloc (.cells #[.slice Av k.vec.length cv] 69)
        have hyn' := hyn.trans hxa
        obtain ⟨wn, hwn⟩ : ∃ wn, wn = wc.alloc (.cells #[.slice Av k.vec.length cv] 69) := ⟨_, rfl⟩
        have hL2 : SlVecs B wn (some ⟨wc.heap.size, 0, none⟩) [k.vec] := Sl.one (cs := [.slice Av k.vec.length cv]) hwn rfl ⟨_, rfl, Av, cv, rfl, hcv.1, hcv.2, (HKn.out wn (by rw [hwn]; exact hyn')).sv⟩
        obtain ⟨a2, ha2⟩ : ∃ a, a = some (⟨wc.heap.size, 0, none⟩ : Addr) := ⟨_, rfl⟩
        rw [← hwn] at hxa hyn'
        rw [← hwn, ← ha2]
        rw [← ha2] at hL2
        clear hxa hwn ha2 hyn
        have hyn := hyn'
        clear hyn'
        obtain ⟨wc, rfl⟩ : ∃ wc', wc' = wn := ⟨_, rfl⟩
        refine hK.out _ _ ⟨HX2.out.trans hyn, HAll.out _ hyn⟩ (fun hHeld => ?_)
        clear hK K
        try simp only [Act.put, List.setIfInBounds_toArray, List.set_cons_zero, List.set_cons_succ]
        refine wpAnyH_ready (rs := [5, 7]) (by kernel_rfl) (by simp) ?_
        refine AllReadyH.cons rfl (fun K hK => ?_) ?_
        · simp only [List.getElem_toArray, List.getElem_cons_zero, List.getElem_cons_succ]
          go_simp
          refine (clone_dots B Am cm k.more wc (by have := HK.out.mlen; omega) (HKn.out _ hyn).sm).mono ?_
          rintro e wn ⟨v5, rfl, hL5, hxa⟩
          dsimp only
          obtain ⟨A5, c5, rfl, _, _⟩ := hL5.len
          obtain ⟨g5, hg5⟩ : ∃ g, g = wc.heap.size := ⟨_, rfl⟩
          rw [← hg5] at hL5
          have hg5a : g5 ≤ wn.heap.size := by rw [hg5]; exact hxa.size
          have hg5b : w2.heap.size ≤ g5 := by rw [hg5]; exact hyn.size
          replace hL2 := hL2.ext RVec.monoE hxa
          replace hyn := hyn.trans hxa
          clear hxa hg5
          obtain ⟨wc, rfl⟩ : ∃ wc', wc' = wn := ⟨_, rfl⟩
          refine hK.out _ _ ⟨HX2.out.trans hyn, HAll.out _ hyn⟩ (fun hHeld => ?_)
          clear hK K
          try simp only [Act.put, List.setIfInBounds_toArray, List.set_cons_zero, List.set_cons_succ]
          refine wpAnyH_ready (rs := [7]) (by kernel_rfl) (by simp) ?_
          refine AllReadyH.cons rfl (fun K hK => ?_) AllReadyH.nil
          simp only [List.getElem_toArray, List.getElem_cons_zero, List.getElem_cons_succ]
          go_simp
          have hxa := (Ext.refl wc).alloc (.cells #[.int .i64 d.site, .int .i64 d.count] 74)
          have hyn' := hyn.trans hxa
          obtain ⟨wn, hwn⟩ : ∃ wn, wn = wc.alloc (.cells #[.int .i64 d.site, .int .i64 d.count] 74) := ⟨_, rfl⟩
          have hL7 : SlDots 0 wn (some ⟨wc.heap.size, 0, none⟩) [d] := Sl.one (cs := [.int .i64 d.site, .int .i64 d.count]) hwn rfl rfl
          obtain ⟨a7, ha7⟩ : ∃ a, a = some (⟨wc.heap.size, 0, none⟩ : Addr) := ⟨_, rfl⟩
          rw [← hwn] at hxa hyn'
          rw [← hwn, ← ha7]
          rw [← ha7] at hL7
          replace hL2 := hL2.ext RVec.monoE hxa
          replace hL5 := hL5.ext (B := 0) RPair.mono hxa
          replace hg5a := Nat.le_trans hg5a hxa.size
          clear hxa hwn ha7 hyn
          have hyn := hyn'
          clear hyn'
          obtain ⟨wc, rfl⟩ : ∃ wc', wc' = wn := ⟨_, rfl⟩
          refine hK.out _ _ ⟨HX2.out.trans hyn, HAll.out _ hyn⟩ (fun hHeld => ?_)
          clear hK K
          try simp only [Act.put, List.setIfInBounds_toArray, List.set_cons_zero, List.set_cons_succ]
          refine wpAnyH_ready (rs := [8]) (by kernel_rfl) (by simp) ?_
          refine AllReadyH.cons rfl (fun K hK => ?_) AllReadyH.nil
          simp only [List.getElem_toArray, List.getElem_cons_zero, List.getElem_cons_succ]
          simp only [Region.wanted, if_true]
          refine wp_app (.tmp 22) (.tmp 24) rfl ei_dot rfl hL5 (B := B) (by have := HX2.out.size; omega) hg5a (ys := [d]) (c := 1) rfl hL7 RPair.oneC RPair.mono (by have := HK.out.mlen; simp [maxLen]; omega) (by have := HK.out.mlen; simp; omega) ?_
          intro v8 wn hL8 hch hbl _
          obtain ⟨ds, hds⟩ : ∃ ds, ds = k.more ++ [d] := ⟨_, rfl⟩
          rw [← hds] at hL8
          have HDS := hid hds
          obtain ⟨A8, c8, rfl, _, _⟩ := hL8.len
          replace hyn := hyn.below hbl hg5b
          replace hL2 := hL2.chg RVec.monoD (by decide) hch
          clear hch hbl hL5 hL7 hg5a hg5b hds
          obtain ⟨wc, rfl⟩ : ∃ wc', wc' = wn := ⟨_, rfl⟩
          refine hK.out _ _ ⟨HX2.out.trans hyn, HAll.out _ hyn⟩ (fun hHeld => ?_)
          clear hK K
          try simp only [Act.put, List.setIfInBounds_toArray, List.set_cons_zero, List.set_cons_succ]
          refine wpAnyH_ready (rs := [9]) (by kernel_rfl) (by simp) ?_
          refine AllReadyH.cons rfl (fun K hK => ?_) AllReadyH.nil
          simp only [List.getElem_toArray, List.getElem_cons_zero, List.getElem_cons_succ]
          go_simp
          refine (know_Made B a2 1 [k.vec] A8 c8 ds wc (by have := hyn.size; have := HX2.out.size; omega) hL2 (by simp) (by simpa using HK.out.vlen) (by simpa using HK.out.vec) (hL8.sl B) (by rw [HDS.out]; have := HK.out.mlen; simp; omega) (by rw [HDS.out]; intro x hx; rcases List.mem_append.1 hx with h | h; exact (HK.out.more x h).1; rw [List.mem_singleton.1 h]; exact HD.out)).mono ?_
          rintro e wn ⟨v9, rfl, hk9, hxa⟩
          dsimp only
          have HW9 := hid hyn.size
          replace hyn := hyn.trans hxa
          rw [HDS.out] at hk9
          clear hxa hL2 hL8
          obtain ⟨wc, rfl⟩ : ∃ wc', wc' = wn := ⟨_, rfl⟩
          refine hK.out _ _ ⟨HX2.out.trans hyn, HAll.out _ hyn⟩ (fun hHeld => ?_)
          clear hK K
          try simp only [Act.put, List.setIfInBounds_toArray, List.set_cons_zero, List.set_cons_succ]
          refine wpAnyH_ready (rs := [10]) (by kernel_rfl) (by simp) ?_
          refine AllReadyH.cons rfl (fun K hK => ?_) AllReadyH.nil
          simp only [List.getElem_toArray, List.getElem_cons_zero, List.getElem_cons_succ]
          go_simp
          refine (know_told _ v9 _ wc hk9).mono ?_
          rintro e wn ⟨x, rfl, hk10, hxa⟩
          dsimp only
          obtain ⟨kk, hkk⟩ : ∃ kk, kk = toldKn (formOf (setOf [k.vec] (k.more ++ [d]))) := ⟨_, rfl⟩
          rw [← hkk] at hk10
          have HKK := hid hkk
          obtain ⟨ee, hee⟩ : ∃ ee, ee = toldErr (formOf (setOf [k.vec] (k.more ++ [d]))) := ⟨_, rfl⟩
          rw [← hee]
          have HEE := hid hee
          obtain ⟨Av', cv', Am', cm', rfl, k1, k2, k3, k4, hk10⟩ := hk10
          replace hyn := hyn.trans hxa
          clear hxa hk9 hkk hee
          obtain ⟨wc, rfl⟩ : ∃ wc', wc' = wn := ⟨_, rfl⟩
          refine hK.out _ _ ⟨HX2.out.trans hyn, HAll.out _ hyn⟩ (fun hHeld => ?_)
          clear hK K
          try simp only [Act.put, List.setIfInBounds_toArray, List.set_cons_zero, List.set_cons_succ]
          refine wpAnyH_take (i := 11) (oi := _) (v := ?_) rfl (by kernel_rfl) (by kernel_rfl) (by kernel_rfl) (fun _ _ _ h => h) (Or.inl ⟨by rfl, ?_⟩) (by assumption) ?_
          rotate_left
          · intro w' hSw
            try dsimp only at hSw
            first
              | (go_simp; done)
              | (go_simp; with_reducible rfl)
          simp only [List.getElem_toArray, List.getElem_cons_zero, List.getElem_cons_succ]
          try simp only [Act.put, List.setIfInBounds_toArray, List.set_cons_zero, List.set_cons_succ]
          refine wpAnyH_take (i := 12) (oi := _) (v := ?_) rfl (by kernel_rfl) (by kernel_rfl) (by kernel_rfl) (fun _ _ _ h => h) (Or.inl ⟨by rfl, ?_⟩) (by assumption) ?_
          rotate_left
          · intro w' hSw
            try dsimp only at hSw
            first
              | (go_simp; done)
              | (go_simp; with_reducible rfl)
          simp only [List.getElem_toArray, List.getElem_cons_zero, List.getElem_cons_succ]
          try simp only [Act.put, List.setIfInBounds_toArray, List.set_cons_zero, List.set_cons_succ]
          refine wpAnyH_ready (rs := [13]) (by kernel_rfl) (by simp) ?_
          refine AllReadyH.cons rfl (fun K hK => ?_) AllReadyH.nil
          simp only [List.getElem_toArray, List.getElem_cons_zero, List.getElem_cons_succ]
          obtain ⟨r0, r1, f0, f1, t0⟩ := HR.out wc hyn
          go_simp
          have hyz := ((HX2.out.trans hyn).setCell (p := ⟨w.heap.size + 2, 0, none⟩) (by first | omega | (dsimp only; omega)) (.slice Av' kk.vec.length cv')).setCell (p := ⟨w.heap.size + 2, 1, none⟩) (by first | omega | (dsimp only; omega)) (.slice Am' kk.more.length cm')
          have hyk := hk10.chg (((Chg.refl (ts := [72]) wc).setCell (p := ⟨w.heap.size + 2, 0, none⟩) t0 (by simp) (.slice Av' kk.vec.length cv') (Nat.zero_le _)).setCell (p := ⟨w.heap.size + 2, 1, none⟩) (tyAt_put t0) (by simp) (.slice Am' kk.more.length cm') (Nat.zero_le _)) (by decide) (by decide)
          have z0 : ((wc.setCell ⟨w.heap.size + 2, 0, none⟩ (.slice Av' kk.vec.length cv')).setCell ⟨w.heap.size + 2, 1, none⟩ (.slice Am' kk.more.length cm')).cell? ⟨w.heap.size + 2, 0, none⟩ = some (.slice Av' kk.vec.length cv') := by go_simp
          have z1 : ((wc.setCell ⟨w.heap.size + 2, 0, none⟩ (.slice Av' kk.vec.length cv')).setCell ⟨w.heap.size + 2, 1, none⟩ (.slice Am' kk.more.length cm')).cell? ⟨w.heap.size + 2, 1, none⟩ = some (.slice Am' kk.more.length cm') := by go_simp
          obtain ⟨y0, y1, y2, y3⟩ := HAll.out wc hyn
          refine hK.out _ _ ⟨hyz, cell_ne (by omega) (cell_ne (by omega) y0), cell_ne (by omega) (cell_ne (by omega) y1), cell_ne (by omega) (cell_ne (by omega) y2), cell_ne (by omega) (cell_ne (by omega) y3)⟩ (fun hHeld => ?_)
          clear y0 y1 y2 y3 r0 r1 f0 f1 t0
          obtain ⟨wz, hwz⟩ : ∃ wz, wz = (wc.setCell ⟨w.heap.size + 2, 0, none⟩ (.slice Av' kk.vec.length cv')).setCell ⟨w.heap.size + 2, 1, none⟩ (.slice Am' kk.more.length cm') := ⟨_, rfl⟩
          rw [← hwz] at hyz hyk z0 z1 hHeld ⊢
          clear hwz
          clear hK K
          try simp only [Act.put, List.setIfInBounds_toArray, List.set_cons_zero, List.set_cons_succ]
          refine wpAnyH_take (i := 14) (oi := _) (v := ?_) rfl (by kernel_rfl) (by kernel_rfl) (by kernel_rfl) (fun _ _ _ h => h) (Or.inl ⟨by rfl, ?_⟩) (by assumption) ?_
          rotate_left
          · intro w' hSw
            try dsimp only at hSw
            first
              | (go_simp; done)
              | (go_simp; with_reducible rfl)
          simp only [List.getElem_toArray, List.getElem_cons_zero, List.getElem_cons_succ]
          try simp only [Act.put, List.setIfInBounds_toArray, List.set_cons_zero, List.set_cons_succ]
          refine wpAnyH_done (by kernel_rfl) ?_ _
          go_wp2_with fail
          refine bodyPost_ret (v := .tuple #[.agg #[.slice Av' kk.vec.length cv', .slice Am' kk.more.length cm'], .int .i64 ee]) ?_ rfl ⟨.agg #[.slice Av' kk.vec.length cv', .slice Am' kk.more.length cm'], by rw [HEE.out, HE'.out]; rfl, ?_, ?_⟩
          · exact res_add (b := w.heap.size + 2) rfl rfl z0 z1
          · rw [HA'.out]
            exact HKK.out ▸ ⟨Av', cv', Am', cm', rfl, k1, k2, k3, k4, hyk⟩
          · exact hyz
        refine AllReadyH.cons rfl (fun K hK => ?_) AllReadyH.nil
        simp only [List.getElem_toArray, List.getElem_cons_zero, List.getElem_cons_succ]
        go_simp
        have hxa := (Ext.refl wc).alloc (.cells #[.int .i64 d.site, .int .i64 d.count] 74)
        have hyn' := hyn.trans hxa
        obtain ⟨wn, hwn⟩ : ∃ wn, wn = wc.alloc (.cells #[.int .i64 d.site, .int .i64 d.count] 74) := ⟨_, rfl⟩
        have hL7 : SlDots 0 wn (some ⟨wc.heap.size, 0, none⟩) [d] := Sl.one (cs := [.int .i64 d.site, .int .i64 d.count]) hwn rfl rfl
        obtain ⟨a7, ha7⟩ : ∃ a, a = some (⟨wc.heap.size, 0, none⟩ : Addr) := ⟨_, rfl⟩
        rw [← hwn] at hxa hyn'
        rw [← hwn, ← ha7]
        rw [← ha7] at hL7
        replace hL2 := hL2.ext RVec.monoE hxa
        clear hxa hwn ha7 hyn
        have hyn := hyn'
        clear hyn'
        obtain ⟨wc, rfl⟩ : ∃ wc', wc' = wn := ⟨_, rfl⟩
        refine hK.out _ _ ⟨HX2.out.trans hyn, HAll.out _ hyn⟩ (fun hHeld => ?_)
        clear hK K
        try simp only [Act.put, List.setIfInBounds_toArray, List.set_cons_zero, List.set_cons_succ]
        refine wpAnyH_ready (rs := [5]) (by kernel_rfl) (by simp) ?_
        refine AllReadyH.cons rfl (fun K hK => ?_) AllReadyH.nil
        simp only [List.getElem_toArray, List.getElem_cons_zero, List.getElem_cons_succ]
        go_simp
        refine (clone_dots B Am cm k.more wc (by have := HK.out.mlen; omega) (HKn.out _ hyn).sm).mono ?_
        rintro e wn ⟨v5, rfl, hL5, hxa⟩
        dsimp only
        obtain ⟨A5, c5, rfl, _, _⟩ := hL5.len
        obtain ⟨g5, hg5⟩ : ∃ g, g = wc.heap.size := ⟨_, rfl⟩
        rw [← hg5] at hL5
        have hg5a : g5 ≤ wn.heap.size := by rw [hg5]; exact hxa.size
        have hg5b : w2.heap.size ≤ g5 := by rw [hg5]; exact hyn.size
        replace hL2 := hL2.ext RVec.monoE hxa
        replace hL7 := hL7.ext RPair.mono hxa
        replace hyn := hyn.trans hxa
        clear hxa hg5
        obtain ⟨wc, rfl⟩ : ∃ wc', wc' = wn := ⟨_, rfl⟩
        refine hK.out _ _ ⟨HX2.out.trans hyn, HAll.out _ hyn⟩ (fun hHeld => ?_)
        clear hK K
        try simp only [Act.put, List.setIfInBounds_toArray, List.set_cons_zero, List.set_cons_succ]
        refine wpAnyH_ready (rs := [8]) (by kernel_rfl) (by simp) ?_
        refine AllReadyH.cons rfl (fun K hK => ?_) AllReadyH.nil
        simp only [List.getElem_toArray, List.getElem_cons_zero, List.getElem_cons_succ]
        simp only [Region.wanted, if_true]
        refine wp_app (.tmp 22) (.tmp 24) rfl ei_dot rfl hL5 (B := B) (by have := HX2.out.size; omega) hg5a (ys := [d]) (c := 1) rfl hL7 RPair.oneC RPair.mono (by have := HK.out.mlen; simp [maxLen]; omega) (by have := HK.out.mlen; simp; omega) ?_
        intro v8 wn hL8 hch hbl _
        obtain ⟨ds, hds⟩ : ∃ ds, ds = k.more ++ [d] := ⟨_, rfl⟩
        rw [← hds] at hL8
        have HDS := hid hds
        obtain ⟨A8, c8, rfl, _, _⟩ := hL8.len
        replace hyn := hyn.below hbl hg5b
        replace hL2 := hL2.chg RVec.monoD (by decide) hch
        clear hch hbl hL5 hL7 hg5a hg5b hds
        obtain ⟨wc, rfl⟩ : ∃ wc', wc' = wn := ⟨_, rfl⟩
        refine hK.out _ _ ⟨HX2.out.trans hyn, HAll.out _ hyn⟩ (fun hHeld => ?_)
        clear hK K
        try simp only [Act.put, List.setIfInBounds_toArray, List.set_cons_zero, List.set_cons_succ]
        refine wpAnyH_ready (rs := [9]) (by kernel_rfl) (by simp) ?_
        refine AllReadyH.cons rfl (fun K hK => ?_) AllReadyH.nil
        simp only [List.getElem_toArray, List.getElem_cons_zero, List.getElem_cons_succ]
        go_simp
        refine (know_Made B a2 1 [k.vec] A8 c8 ds wc (by have := hyn.size; have := HX2.out.size; omega) hL2 (by simp) (by simpa using HK.out.vlen) (by simpa using HK.out.vec) (hL8.sl B) (by rw [HDS.out]; have := HK.out.mlen; simp; omega) (by rw [HDS.out]; intro x hx; rcases List.mem_append.1 hx with h | h; exact (HK.out.more x h).1; rw [List.mem_singleton.1 h]; exact HD.out)).mono ?_
        rintro e wn ⟨v9, rfl, hk9, hxa⟩
        dsimp only
        have HW9 := hid hyn.size
        replace hyn := hyn.trans hxa
        rw [HDS.out] at hk9
        clear hxa hL2 hL8
        obtain ⟨wc, rfl⟩ : ∃ wc', wc' = wn := ⟨_, rfl⟩
        refine hK.out _ _ ⟨HX2.out.trans hyn, HAll.out _ hyn⟩ (fun hHeld => ?_)
        clear hK K
        try simp only [Act.put, List.setIfInBounds_toArray, List.set_cons_zero, List.set_cons_succ]
        refine wpAnyH_ready (rs := [10]) (by kernel_rfl) (by simp) ?_
        refine AllReadyH.cons rfl (fun K hK => ?_) AllReadyH.nil
        simp only [List.getElem_toArray, List.getElem_cons_zero, List.getElem_cons_succ]
        go_simp
        refine (know_told _ v9 _ wc hk9).mono ?_
        rintro e wn ⟨x, rfl, hk10, hxa⟩
        dsimp only
        obtain ⟨kk, hkk⟩ : ∃ kk, kk = toldKn (formOf (setOf [k.vec] (k.more ++ [d]))) := ⟨_, rfl⟩
        rw [← hkk] at hk10
        have HKK := hid hkk
        obtain ⟨ee, hee⟩ : ∃ ee, ee = toldErr (formOf (setOf [k.vec] (k.more ++ [d]))) := ⟨_, rfl⟩
        rw [← hee]
        have HEE := hid hee
        obtain ⟨Av', cv', Am', cm', rfl, k1, k2, k3, k4, hk10⟩ := hk10
        replace hyn := hyn.trans hxa
        clear hxa hk9 hkk hee
        obtain ⟨wc, rfl⟩ : ∃ wc', wc' = wn := ⟨_, rfl⟩
        refine hK.out _ _ ⟨HX2.out.trans hyn, HAll.out _ hyn⟩ (fun hHeld => ?_)
        clear hK K
        try simp only [Act.put, List.setIfInBounds_toArray, List.set_cons_zero, List.set_cons_succ]
        refine wpAnyH_take (i := 11) (oi := _) (v := ?_) rfl (by kernel_rfl) (by kernel_rfl) (by kernel_rfl) (fun _ _ _ h => h) (Or.inl ⟨by rfl, ?_⟩) (by assumption) ?_
        rotate_left
        · intro w' hSw
          try dsimp only at hSw
          first
            | (go_simp; done)
            | (go_simp; with_reducible rfl)
        simp only [List.getElem_toArray, List.getElem_cons_zero, List.getElem_cons_succ]
        try simp only [Act.put, List.setIfInBounds_toArray, List.set_cons_zero, List.set_cons_succ]
        refine wpAnyH_take (i := 12) (oi := _) (v := ?_) rfl (by kernel_rfl) (by kernel_rfl) (by kernel_rfl) (fun _ _ _ h => h) (Or.inl ⟨by rfl, ?_⟩) (by assumption) ?_
        rotate_left
        · intro w' hSw
          try dsimp only at hSw
          first
            | (go_simp; done)
            | (go_simp; with_reducible rfl)
        simp only [List.getElem_toArray, List.getElem_cons_zero, List.getElem_cons_succ]
        try simp only [Act.put, List.setIfInBounds_toArray, List.set_cons_zero, List.set_cons_succ]
        refine wpAnyH_ready (rs := [13]) (by kernel_rfl) (by simp) ?_
        refine AllReadyH.cons rfl (fun K hK => ?_) AllReadyH.nil
        simp only [List.getElem_toArray, List.getElem_cons_zero, List.getElem_cons_succ]
        obtain ⟨r0, r1, f0, f1, t0⟩ := HR.out wc hyn
        go_simp
        have hyz := ((HX2.out.trans hyn).setCell (p := ⟨w.heap.size + 2, 0, none⟩) (by first | omega | (dsimp only; omega)) (.slice Av' kk.vec.length cv')).setCell (p := ⟨w.heap.size + 2, 1, none⟩) (by first | omega | (dsimp only; omega)) (.slice Am' kk.more.length cm')
        have hyk := hk10.chg (((Chg.refl (ts := [72]) wc).setCell (p := ⟨w.heap.size + 2, 0, none⟩) t0 (by simp) (.slice Av' kk.vec.length cv') (Nat.zero_le _)).setCell (p := ⟨w.heap.size + 2, 1, none⟩) (tyAt_put t0) (by simp) (.slice Am' kk.more.length cm') (Nat.zero_le _)) (by decide) (by decide)
        have z0 : ((wc.setCell ⟨w.heap.size + 2, 0, none⟩ (.slice Av' kk.vec.length cv')).setCell ⟨w.heap.size + 2, 1, none⟩ (.slice Am' kk.more.length cm')).cell? ⟨w.heap.size + 2, 0, none⟩ = some (.slice Av' kk.vec.length cv') := by go_simp
        have z1 : ((wc.setCell ⟨w.heap.size + 2, 0, none⟩ (.slice Av' kk.vec.length cv')).setCell ⟨w.heap.size + 2, 1, none⟩ (.slice Am' kk.more.length cm')).cell? ⟨w.heap.size + 2, 1, none⟩ = some (.slice Am' kk.more.length cm') := by go_simp
        obtain ⟨y0, y1, y2, y3⟩ := HAll.out wc hyn
        refine hK.out _ _ ⟨hyz, cell_ne (by omega) (cell_ne (by omega) y0), cell_ne (by omega) (cell_ne (by omega) y1), cell_ne (by omega) (cell_ne (by omega) y2), cell_ne (by omega) (cell_ne (by omega) y3)⟩ (fun hHeld => ?_)
        clear y0 y1 y2 y3 r0 r1 f0 f1 t0
        obtain ⟨wz, hwz⟩ : ∃ wz, wz = (wc.setCell ⟨w.heap.size + 2, 0, none⟩ (.slice Av' kk.vec.length cv')).setCell ⟨w.heap.size + 2, 1, none⟩ (.slice Am' kk.more.length cm') := ⟨_, rfl⟩
        rw [← hwz] at hyz hyk z0 z1 hHeld ⊢
        clear hwz
        clear hK K
        try simp only [Act.put, List.setIfInBounds_toArray, List.set_cons_zero, List.set_cons_succ]
        refine wpAnyH_take (i := 14) (oi := _) (v := ?_) rfl (by kernel_rfl) (by kernel_rfl) (by kernel_rfl) (fun _ _ _ h => h) (Or.inl ⟨by rfl, ?_⟩) (by assumption) ?_
        rotate_left
        · intro w' hSw
          try dsimp only at hSw
          first
            | (go_simp; done)
            | (go_simp; with_reducible rfl)
        simp only [List.getElem_toArray, List.getElem_cons_zero, List.getElem_cons_succ]
        try simp only [Act.put, List.setIfInBounds_toArray, List.set_cons_zero, List.set_cons_succ]
        refine wpAnyH_done (by kernel_rfl) ?_ _
        go_wp2_with fail
        refine bodyPost_ret (v := .tuple #[.agg #[.slice Av' kk.vec.length cv', .slice Am' kk.more.length cm'], .int .i64 ee]) ?_ rfl ⟨.agg #[.slice Av' kk.vec.length cv', .slice Am' kk.more.length cm'], by rw [HEE.out, HE'.out]; rfl, ?_, ?_⟩
        · exact res_add (b := w.heap.size + 2) rfl rfl z0 z1
        · rw [HA'.out]
          exact HKK.out ▸ ⟨Av', cv', Am', cm', rfl, k1, k2, k3, k4, hyk⟩
        · exact hyz
      refine AllReadyH.cons rfl (fun K hK => ?_) ?_
      · simp only [List.getElem_toArray, List.getElem_cons_zero, List.getElem_cons_succ]
        go_simp
        refine (clone_dots B Am cm k.more wc (by have := HK.out.mlen; omega) (HKn.out _ hyn).sm).mono ?_
        rintro e wn ⟨v5, rfl, hL5, hxa⟩
        dsimp only
        obtain ⟨A5, c5, rfl, _, _⟩ := hL5.len
        obtain ⟨g5, hg5⟩ : ∃ g, g = wc.heap.size := ⟨_, rfl⟩
        rw [← hg5] at hL5
        have hg5a : g5 ≤ wn.heap.size := by rw [hg5]; exact hxa.size
        have hg5b : w2.heap.size ≤ g5 := by rw [hg5]; exact hyn.size
        replace hyn := hyn.trans hxa
        clear hxa hg5
        obtain ⟨wc, rfl⟩ : ∃ wc', wc' = wn := ⟨_, rfl⟩
        refine hK.out _ _ ⟨HX2.out.trans hyn, HAll.out _ hyn⟩ (fun hHeld => ?_)
        clear hK K
        try simp only [Act.put, List.setIfInBounds_toArray, List.set_cons_zero, List.set_cons_succ]
        refine wpAnyH_ready (rs := [2, 7]) (by kernel_rfl) (by simp) ?_
        refine AllReadyH.cons rfl (fun K hK => ?_) ?_
        · simp only [List.getElem_toArray, List.getElem_cons_zero, List.getElem_cons_succ]
          go_simp
          have hxa := (Ext.refl wc).alloc (.cells #[.slice Av k.vec.length cv] 69)
          have hyn' := hyn.trans hxa
          obtain ⟨wn, hwn⟩ : ∃ wn, wn = wc.alloc (.cells #[.slice Av k.vec.length cv] 69) := ⟨_, rfl⟩
          have hL2 : SlVecs B wn (some ⟨wc.heap.size, 0, none⟩) [k.vec] := Sl.one (cs := [.slice Av k.vec.length cv]) hwn rfl ⟨_, rfl, Av, cv, rfl, hcv.1, hcv.2, (HKn.out wn (by rw [hwn]; exact hyn')).sv⟩
          obtain ⟨a2, ha2⟩ : ∃ a, a = some (⟨wc.heap.size, 0, none⟩ : Addr) := ⟨_, rfl⟩
          rw [← hwn] at hxa hyn'
          rw [← hwn, ← ha2]
          rw [← ha2] at hL2
          replace hL5 := hL5.ext (B := 0) RPair.mono hxa
          replace hg5a := Nat.le_trans hg5a hxa.size
          clear hxa hwn ha2 hyn
          have hyn := hyn'
          clear hyn'
          obtain ⟨wc, rfl⟩ : ∃ wc', wc' = wn := ⟨_, rfl⟩
          refine hK.out _ _ ⟨HX2.out.trans hyn, HAll.out _ hyn⟩ (fun hHeld => ?_)
          clear hK K
          try simp only [Act.put, List.setIfInBounds_toArray, List.set_cons_zero, List.set_cons_succ]
          refine wpAnyH_ready (rs := [7]) (by kernel_rfl) (by simp) ?_
          refine AllReadyH.cons rfl (fun K hK => ?_) AllReadyH.nil
          simp only [List.getElem_toArray, List.getElem_cons_zero, List.getElem_cons_succ]
          go_simp
          have hxa := (Ext.refl wc).alloc (.cells #[.int .i64 d.site, .int .i64 d.count] 74)
          have hyn' := hyn.trans hxa
          obtain ⟨wn, hwn⟩ : ∃ wn, wn = wc.alloc (.cells #[.int .i64 d.site, .int .i64 d.count] 74) := ⟨_, rfl⟩
          have hL7 : SlDots 0 wn (some ⟨wc.heap.size, 0, none⟩) [d] := Sl.one (cs := [.int .i64 d.site, .int .i64 d.count]) hwn rfl rfl
          obtain ⟨a7, ha7⟩ : ∃ a, a = some (⟨wc.heap.size, 0, none⟩ : Addr) := ⟨_, rfl⟩
          rw [← hwn] at hxa hyn'
          rw [← hwn, ← ha7]
          rw [← ha7] at hL7
          replace hL2 := hL2.ext RVec.monoE hxa
          replace hL5 := hL5.ext (B := 0) RPair.mono hxa
          replace hg5a := Nat.le_trans hg5a hxa.size
          clear hxa hwn ha7 hyn
          have hyn := hyn'
          clear hyn'
          obtain ⟨wc, rfl⟩ : ∃ wc', wc' = wn := ⟨_, rfl⟩
          refine hK.out _ _ ⟨HX2.out.trans hyn, HAll.out _ hyn⟩ (fun hHeld => ?_)
          clear hK K
          try simp only [Act.put, List.setIfInBounds_toArray, List.set_cons_zero, List.set_cons_succ]
          refine wpAnyH_ready (rs := [8]) (by kernel_rfl) (by simp) ?_
          refine AllReadyH.cons rfl (fun K hK => ?_) AllReadyH.nil
          simp only [List.getElem_toArray, List.getElem_cons_zero, List.getElem_cons_succ]
          simp only [Region.wanted, if_true]
          refine wp_app (.tmp 22) (.tmp 24) rfl ei_dot rfl hL5 (B := B) (by have := HX2.out.size; omega) hg5a (ys := [d]) (c := 1) rfl hL7 RPair.oneC RPair.mono (by have := HK.out.mlen; simp [maxLen]; omega) (by have := HK.out.mlen; simp; omega) ?_
          intro v8 wn hL8 hch hbl _
          obtain ⟨ds, hds⟩ : ∃ ds, ds = k.more ++ [d] := ⟨_, rfl⟩
          rw [← hds] at hL8
          have HDS := hid hds
          obtain ⟨A8, c8, rfl, _, _⟩ := hL8.len
          replace hyn := hyn.below hbl hg5b
          replace hL2 := hL2.chg RVec.monoD (by decide) hch
          clear hch hbl hL5 hL7 hg5a hg5b hds
          obtain ⟨wc, rfl⟩ : ∃ wc', wc' = wn := ⟨_, rfl⟩
          refine hK.out _ _ ⟨HX2.out.trans hyn, HAll.out _ hyn⟩ (fun hHeld => ?_)
          clear hK K
          try simp only [Act.put, List.setIfInBounds_toArray, List.set_cons_zero, List.set_cons_succ]
          refine wpAnyH_ready (rs := [9]) (by kernel_rfl) (by simp) ?_
          refine AllReadyH.cons rfl (fun K hK => ?_) AllReadyH.nil
          simp only [List.getElem_toArray, List.getElem_cons_zero, List.getElem_cons_succ]
          go_simp
          refine (know_Made B a2 1 [k.vec] A8 c8 ds wc (by have := hyn.size; have := HX2.out.size; omega) hL2 (by simp) (by simpa using HK.out.vlen) (by simpa using HK.out.vec) (hL8.sl B) (by rw [HDS.out]; have := HK.out.mlen; simp; omega) (by rw [HDS.out]; intro x hx; rcases List.mem_append.1 hx with h | h; exact (HK.out.more x h).1; rw [List.mem_singleton.1 h]; exact HD.out)).mono ?_
          rintro e wn ⟨v9, rfl, hk9, hxa⟩
          dsimp only
          have HW9 := hid hyn.size
          replace hyn := hyn.trans hxa
          rw [HDS.out] at hk9
          clear hxa hL2 hL8
          obtain ⟨wc, rfl⟩ : ∃ wc', wc' = wn := ⟨_, rfl⟩
          refine hK.out _ _ ⟨HX2.out.trans hyn, HAll.out _ hyn⟩ (fun hHeld => ?_)
          clear hK K
          try simp only [Act.put, List.setIfInBounds_toArray, List.set_cons_zero, List.set_cons_succ]
          refine wpAnyH_ready (rs := [10]) (by kernel_rfl) (by simp) ?_
          refine AllReadyH.cons rfl (fun K hK => ?_) AllReadyH.nil
          simp only [List.getElem_toArray, List.getElem_cons_zero, List.getElem_cons_succ]
          go_simp
          refine (know_told _ v9 _ wc hk9).mono ?_
          rintro e wn ⟨x, rfl, hk10, hxa⟩
          dsimp only
          obtain ⟨kk, hkk⟩ : ∃ kk, kk = toldKn (formOf (setOf [k.vec] (k.more ++ [d]))) := ⟨_, rfl⟩
          rw [← hkk] at hk10
          have HKK := hid hkk
          obtain ⟨ee, hee⟩ : ∃ ee, ee = toldErr (formOf (setOf [k.vec] (k.more ++ [d]))) := ⟨_, rfl⟩
          rw [← hee]
          have HEE := hid hee
          obtain ⟨Av', cv', Am', cm', rfl, k1, k2, k3, k4, hk10⟩ := hk10
          replace hyn := hyn.trans hxa
          clear hxa hk9 hkk hee
          obtain ⟨wc, rfl⟩ : ∃ wc', wc' = wn := ⟨_, rfl⟩
          refine hK.out _ _ ⟨HX2.out.trans hyn, HAll.out _ hyn⟩ (fun hHeld => ?_)
          clear hK K
          try simp only [Act.put, List.setIfInBounds_toArray, List.set_cons_zero, List.set_cons_succ]
          refine wpAnyH_take (i := 11) (oi := _) (v := ?_) rfl (by kernel_rfl) (by kernel_rfl) (by kernel_rfl) (fun _ _ _ h => h) (Or.inl ⟨by rfl, ?_⟩) (by assumption) ?_
          rotate_left
          · intro w' hSw
            try dsimp only at hSw
            first
              | (go_simp; done)
              | (go_simp; with_reducible rfl)
          simp only [List.getElem_toArray, List.getElem_cons_zero, List.getElem_cons_succ]
          try simp only [Act.put, List.setIfInBounds_toArray, List.set_cons_zero, List.set_cons_succ]
          refine wpAnyH_take (i := 12) (oi := _) (v := ?_) rfl (by kernel_rfl) (by kernel_rfl) (by kernel_rfl) (fun _ _ _ h => h) (Or.inl ⟨by rfl, ?_⟩) (by assumption) ?_
          rotate_left
          · intro w' hSw
            try dsimp only at hSw
            first
              | (go_simp; done)
              | (go_simp; with_reducible rfl)
          simp only [List.getElem_toArray, List.getElem_cons_zero, List.getElem_cons_succ]
          try simp only [Act.put, List.setIfInBounds_toArray, List.set_cons_zero, List.set_cons_succ]
          refine wpAnyH_ready (rs := [13]) (by kernel_rfl) (by simp) ?_
          refine AllReadyH.cons rfl (fun K hK => ?_) AllReadyH.nil
          simp only [List.getElem_toArray, List.getElem_cons_zero, List.getElem_cons_succ]
          obtain ⟨r0, r1, f0, f1, t0⟩ := HR.out wc hyn
          go_simp
          have hyz := ((HX2.out.trans hyn).setCell (p := ⟨w.heap.size + 2, 0, none⟩) (by first | omega | (dsimp only; omega)) (.slice Av' kk.vec.length cv')).setCell (p := ⟨w.heap.size + 2, 1, none⟩) (by first | omega | (dsimp only; omega)) (.slice Am' kk.more.length cm')
          have hyk := hk10.chg (((Chg.refl (ts := [72]) wc).setCell (p := ⟨w.heap.size + 2, 0, none⟩) t0 (by simp) (.slice Av' kk.vec.length cv') (Nat.zero_le _)).setCell (p := ⟨w.heap.size + 2, 1, none⟩) (tyAt_put t0) (by simp) (.slice Am' kk.more.length cm') (Nat.zero_le _)) (by decide) (by decide)
          have z0 : ((wc.setCell ⟨w.heap.size + 2, 0, none⟩ (.slice Av' kk.vec.length cv')).setCell ⟨w.heap.size + 2, 1, none⟩ (.slice Am' kk.more.length cm')).cell? ⟨w.heap.size + 2, 0, none⟩ = some (.slice Av' kk.vec.length cv') := by go_simp
          have z1 : ((wc.setCell ⟨w.heap.size + 2, 0, none⟩ (.slice Av' kk.vec.length cv')).setCell ⟨w.heap.size + 2, 1, none⟩ (.slice Am' kk.more.length cm')).cell? ⟨w.heap.size + 2, 1, none⟩ = some (.slice Am' kk.more.length cm') := by go_simp
          obtain ⟨y0, y1, y2, y3⟩ := HAll.out wc hyn
          refine hK.out _ _ ⟨hyz, cell_ne (by omega) (cell_ne (by omega) y0), cell_ne (by omega) (cell_ne (by omega) y1), cell_ne (by omega) (cell_ne (by omega) y2), cell_ne (by omega) (cell_ne (by omega) y3)⟩ (fun hHeld => ?_)
          clear y0 y1 y2 y3 r0 r1 f0 f1 t0
          obtain ⟨wz, hwz⟩ : ∃ wz, wz = (wc.setCell ⟨w.heap.size + 2, 0, none⟩ (.slice Av' kk.vec.length cv')).setCell ⟨w.heap.size + 2, 1, none⟩ (.slice Am' kk.more.length cm') := ⟨_, rfl⟩
          rw [← hwz] at hyz hyk z0 z1 hHeld ⊢
          clear hwz
          clear hK K
          try simp only [Act.put, List.setIfInBounds_toArray, List.set_cons_zero, List.set_cons_succ]
          refine wpAnyH_take (i := 14) (oi := _) (v := ?_) rfl (by kernel_rfl) (by kernel_rfl) (by kernel_rfl) (fun _ _ _ h => h) (Or.inl ⟨by rfl, ?_⟩) (by assumption) ?_
          rotate_left
          · intro w' hSw
            try dsimp only at hSw
            first
              | (go_simp; done)
              | (go_simp; with_reducible rfl)
          simp only [List.getElem_toArray, List.getElem_cons_zero, List.getElem_cons_succ]
          try simp only [Act.put, List.setIfInBounds_toArray, List.set_cons_zero, List.set_cons_succ]
          refine wpAnyH_done (by kernel_rfl) ?_ _
          go_wp2_with fail
          refine bodyPost_ret (v := .tuple #[.agg #[.slice Av' kk.vec.length cv', .slice Am' kk.more.length cm'], .int .i64 ee]) ?_ rfl ⟨.agg #[.slice Av' kk.vec.length cv', .slice Am' kk.more.length cm'], by rw [HEE.out, HE'.out]; rfl, ?_, ?_⟩
          · exact res_add (b := w.heap.size + 2) rfl rfl z0 z1
          · rw [HA'.out]
            exact HKK.out ▸ ⟨Av', cv', Am', cm', rfl, k1, k2, k3, k4, hyk⟩
          · exact hyz
        refine AllReadyH.cons rfl (fun K hK => ?_) AllReadyH.nil
        simp only [List.getElem_toArray, List.getElem_cons_zero, List.getElem_cons_succ]
        go_simp
        have hxa := (Ext.refl wc).alloc (.cells #[.int .i64 d.site, .int .i64 d.count] 74)
        have hyn' := hyn.trans hxa
        obtain ⟨wn, hwn⟩ : ∃ wn, wn = wc.alloc (.cells #[.int .i64 d.site, .int .i64 d.count] 74) := ⟨_, rfl⟩
        have hL7 : SlDots 0 wn (some ⟨wc.heap.size, 0, none⟩) [d] := Sl.one (cs := [.int .i64 d.site, .int .i64 d.count]) hwn rfl rfl
        obtain ⟨a7, ha7⟩ : ∃ a, a = some (⟨wc.heap.size, 0, none⟩ : Addr) := ⟨_, rfl⟩
        rw [← hwn] at hxa hyn'
        rw [← hwn, ← ha7]
        rw [← ha7] at hL7
        replace hL5 := hL5.ext (B := 0) RPair.mono hxa
        replace hg5a := Nat.le_trans hg5a hxa.size
        clear hxa hwn ha7 hyn
        have hyn := hyn'
        clear hyn'
        obtain ⟨wc, rfl⟩ : ∃ wc', wc' = wn := ⟨_, rfl⟩
        refine hK.out _ _ ⟨HX2.out.trans hyn, HAll.out _ hyn⟩ (fun hHeld => ?_)
        clear hK K
        try simp only [Act.put, List.setIfInBounds_toArray, List.set_cons_zero, List.set_cons_succ]
        refine wpAnyH_ready (rs := [2, 8]) (by kernel_rfl) (by simp) ?_
        refine AllReadyH.cons rfl (fun K hK => ?_) ?_
        · simp only [List.getElem_toArray, List.getElem_cons_zero, List.getElem_cons_succ]
          go_simp
          have hxa := (Ext.refl wc).alloc (.cells #[.slice Av k.vec.length cv] 69)
          have hyn' := hyn.trans hxa
          obtain ⟨wn, hwn⟩ : ∃ wn, wn = wc.alloc (.cells #[.slice Av k.vec.length cv] 69) := ⟨_, rfl⟩
          have hL2 : SlVecs B wn (some ⟨wc.heap.size, 0, none⟩) [k.vec] := Sl.one (cs := [.slice Av k.vec.length cv]) hwn rfl ⟨_, rfl, Av, cv, rfl, hcv.1, hcv.2, (HKn.out wn (by rw [hwn]; exact hyn')).sv⟩
          obtain ⟨a2, ha2⟩ : ∃ a, a = some (⟨wc.heap.size, 0, none⟩ : Addr) := ⟨_, rfl⟩
          rw [← hwn] at hxa hyn'
          rw [← hwn, ← ha2]
          rw [← ha2] at hL2
          replace hL5 := hL5.ext (B := 0) RPair.mono hxa
          replace hg5a := Nat.le_trans hg5a hxa.size
          replace hL7 := hL7.ext RPair.mono hxa
          clear hxa hwn ha2 hyn
          have hyn := hyn'
          clear hyn'
          obtain ⟨wc, rfl⟩ : ∃ wc', wc' = wn := ⟨_, rfl⟩
          refine hK.out _ _ ⟨HX2.out.trans hyn, HAll.out _ hyn⟩ (fun hHeld => ?_)
          clear hK K
          try simp only [Act.put, List.setIfInBounds_toArray, List.set_cons_zero, List.set_cons_succ]
          refine wpAnyH_ready (rs := [8]) (by kernel_rfl) (by simp) ?_
          refine AllReadyH.cons rfl (fun K hK => ?_) AllReadyH.nil
          simp only [List.getElem_toArray, List.getElem_cons_zero, List.getElem_cons_succ]
          simp only [Region.wanted, if_true]
          refine wp_app (.tmp 22) (.tmp 24) rfl ei_dot rfl hL5 (B := B) (by have := HX2.out.size; omega) hg5a (ys := [d]) (c := 1) rfl hL7 RPair.oneC RPair.mono (by have := HK.out.mlen; simp [maxLen]; omega) (by have := HK.out.mlen; simp; omega) ?_
          intro v8 wn hL8 hch hbl _
          obtain ⟨ds, hds⟩ : ∃ ds, ds = k.more ++ [d] := ⟨_, rfl⟩
          rw [← hds] at hL8
          have HDS := hid hds
          obtain ⟨A8, c8, rfl, _, _⟩ := hL8.len
          replace hyn := hyn.below hbl hg5b
          replace hL2 := hL2.chg RVec.monoD (by decide) hch
          clear hch hbl hL5 hL7 hg5a hg5b hds
          obtain ⟨wc, rfl⟩ : ∃ wc', wc' = wn := ⟨_, rfl⟩
          refine hK.out _ _ ⟨HX2.out.trans hyn, HAll.out _ hyn⟩ (fun hHeld => ?_)
          clear hK K
          try simp only [Act.put, List.setIfInBounds_toArray, List.set_cons_zero, List.set_cons_succ]
          refine wpAnyH_ready (rs := [9]) (by kernel_rfl) (by simp) ?_
          refine AllReadyH.cons rfl (fun K hK => ?_) AllReadyH.nil
          simp only [List.getElem_toArray, List.getElem_cons_zero, List.getElem_cons_succ]
          go_simp
          refine (know_Made B a2 1 [k.vec] A8 c8 ds wc (by have := hyn.size; have := HX2.out.size; omega) hL2 (by simp) (by simpa using HK.out.vlen) (by simpa using HK.out.vec) (hL8.sl B) (by rw [HDS.out]; have := HK.out.mlen; simp; omega) (by rw [HDS.out]; intro x hx; rcases List.mem_append.1 hx with h | h; exact (HK.out.more x h).1; rw [List.mem_singleton.1 h]; exact HD.out)).mono ?_
          rintro e wn ⟨v9, rfl, hk9, hxa⟩
          dsimp only
          have HW9 := hid hyn.size
          replace hyn := hyn.trans hxa
          rw [HDS.out] at hk9
          clear hxa hL2 hL8
          obtain ⟨wc, rfl⟩ : ∃ wc', wc' = wn := ⟨_, rfl⟩
          refine hK.out _ _ ⟨HX2.out.trans hyn, HAll.out _ hyn⟩ (fun hHeld => ?_)
          clear hK K
          try simp only [Act.put, List.setIfInBounds_toArray, List.set_cons_zero, List.set_cons_succ]
          refine wpAnyH_ready (rs := [10]) (by kernel_rfl) (by simp) ?_
          refine AllReadyH.cons rfl (fun K hK => ?_) AllReadyH.nil
          simp only [List.getElem_toArray, List.getElem_cons_zero, List.getElem_cons_succ]
          go_simp
          refine (know_told _ v9 _ wc hk9).mono ?_
          rintro e wn ⟨x, rfl, hk10, hxa⟩
          dsimp only
          obtain ⟨kk, hkk⟩ : ∃ kk, kk = toldKn (formOf (setOf [k.vec] (k.more ++ [d]))) := ⟨_, rfl⟩
          rw [← hkk] at hk10
          have HKK := hid hkk
          obtain ⟨ee, hee⟩ : ∃ ee, ee = toldErr (formOf (setOf [k.vec] (k.more ++ [d]))) := ⟨_, rfl⟩
          rw [← hee]
          have HEE := hid hee
          obtain ⟨Av', cv', Am', cm', rfl, k1, k2, k3, k4, hk10⟩ := hk10
          replace hyn := hyn.trans hxa
          clear hxa hk9 hkk hee
          obtain ⟨wc, rfl⟩ : ∃ wc', wc' = wn := ⟨_, rfl⟩
          refine hK.out _ _ ⟨HX2.out.trans hyn, HAll.out _ hyn⟩ (fun hHeld => ?_)
          clear hK K
          try simp only [Act.put, List.setIfInBounds_toArray, List.set_cons_zero, List.set_cons_succ]
          refine wpAnyH_take (i := 11) (oi := _) (v := ?_) rfl (by kernel_rfl) (by kernel_rfl) (by kernel_rfl) (fun _ _ _ h => h) (Or.inl ⟨by rfl, ?_⟩) (by assumption) ?_
          rotate_left
          · intro w' hSw
            try dsimp only at hSw
            first
              | (go_simp; done)
              | (go_simp; with_reducible rfl)
          simp only [List.getElem_toArray, List.getElem_cons_zero, List.getElem_cons_succ]
          try simp only [Act.put, List.setIfInBounds_toArray, List.set_cons_zero, List.set_cons_succ]
          refine wpAnyH_take (i := 12) (oi := _) (v := ?_) rfl (by kernel_rfl) (by kernel_rfl) (by kernel_rfl) (fun _ _ _ h => h) (Or.inl ⟨by rfl, ?_⟩) (by assumption) ?_
          rotate_left
          · intro w' hSw
            try dsimp only at hSw
            first
              | (go_simp; done)
              | (go_simp; with_reducible rfl)
          simp only [List.getElem_toArray, List.getElem_cons_zero, List.getElem_cons_succ]
          try simp only [Act.put, List.setIfInBounds_toArray, List.set_cons_zero, List.set_cons_succ]
          refine wpAnyH_ready (rs := [13]) (by kernel_rfl) (by simp) ?_
          refine AllReadyH.cons rfl (fun K hK => ?_) AllReadyH.nil
          simp only [List.getElem_toArray, List.getElem_cons_zero, List.getElem_cons_succ]
          obtain ⟨r0, r1, f0, f1, t0⟩ := HR.out wc hyn
          go_simp
          have hyz := ((HX2.out.trans hyn).setCell (p := ⟨w.heap.size + 2, 0, none⟩) (by first | omega | (dsimp only; omega)) (.slice Av' kk.vec.length cv')).setCell (p := ⟨w.heap.size + 2, 1, none⟩) (by first | omega | (dsimp only; omega)) (.slice Am' kk.more.length cm')
          have hyk := hk10.chg (((Chg.refl (ts := [72]) wc).setCell (p := ⟨w.heap.size + 2, 0, none⟩) t0 (by simp) (.slice Av' kk.vec.length cv') (Nat.zero_le _)).setCell (p := ⟨w.heap.size + 2, 1, none⟩) (tyAt_put t0) (by simp) (.slice Am' kk.more.length cm') (Nat.zero_le _)) (by decide) (by decide)
          have z0 : ((wc.setCell ⟨w.heap.size + 2, 0, none⟩ (.slice Av' kk.vec.length cv')).setCell ⟨w.heap.size + 2, 1, none⟩ (.slice Am' kk.more.length cm')).cell? ⟨w.heap.size + 2, 0, none⟩ = some (.slice Av' kk.vec.length cv') := by go_simp
          have z1 : ((wc.setCell ⟨w.heap.size + 2, 0, none⟩ (.slice Av' kk.vec.length cv')).setCell ⟨w.heap.size + 2, 1, none⟩ (.slice Am' kk.more.length cm')).cell? ⟨w.heap.size + 2, 1, none⟩ = some (.slice Am' kk.more.length cm') := by go_simp
          obtain ⟨y0, y1, y2, y3⟩ := HAll.out wc hyn
          refine hK.out _ _ ⟨hyz, cell_ne (by omega) (cell_ne (by omega) y0), cell_ne (by omega) (cell_ne (by omega) y1), cell_ne (by omega) (cell_ne (by omega) y2), cell_ne (by omega) (cell_ne (by omega) y3)⟩ (fun hHeld => ?_)
          clear y0 y1 y2 y3 r0 r1 f0 f1 t0
          obtain ⟨wz, hwz⟩ : ∃ wz, wz = (wc.setCell ⟨w.heap.size + 2, 0, none⟩ (.slice Av' kk.vec.length cv')).setCell ⟨w.heap.size + 2, 1, none⟩ (.slice Am' kk.more.length cm') := ⟨_, rfl⟩
          rw [← hwz] at hyz hyk z0 z1 hHeld ⊢
          clear hwz
          clear hK K
          try simp only [Act.put, List.setIfInBounds_toArray, List.set_cons_zero, List.set_cons_succ]
          refine wpAnyH_take (i := 14) (oi := _) (v := ?_) rfl (by kernel_rfl) (by kernel_rfl) (by kernel_rfl) (fun _ _ _ h => h) (Or.inl ⟨by rfl, ?_⟩) (by assumption) ?_
          rotate_left
          · intro w' hSw
            try dsimp only at hSw
            first
              | (go_simp; done)
              | (go_simp; with_reducible rfl)
          simp only [List.getElem_toArray, List.getElem_cons_zero, List.getElem_cons_succ]
          try simp only [Act.put, List.setIfInBounds_toArray, List.set_cons_zero, List.set_cons_succ]
          refine wpAnyH_done (by kernel_rfl) ?_ _
          go_wp2_with fail
          refine bodyPost_ret (v := .tuple #[.agg #[.slice Av' kk.vec.length cv', .slice Am' kk.more.length cm'], .int .i64 ee]) ?_ rfl ⟨.agg #[.slice Av' kk.vec.length cv', .slice Am' kk.more.length cm'], by rw [HEE.out, HE'.out]; rfl, ?_, ?_⟩
          · exact res_add (b := w.heap.size + 2) rfl rfl z0 z1
          · rw [HA'.out]
            exact HKK.out ▸ ⟨Av', cv', Am', cm', rfl, k1, k2, k3, k4, hyk⟩
          · exact hyz
        refine AllReadyH.cons rfl (fun K hK => ?_) AllReadyH.nil
        simp only [List.getElem_toArray, List.getElem_cons_zero, List.getElem_cons_succ]
        simp only [Region.wanted, if_true]
        refine wp_app (.tmp 22) (.tmp 24) rfl ei_dot rfl hL5 (B := B) (by have := HX2.out.size; omega) hg5a (ys := [d]) (c := 1) rfl hL7 RPair.oneC RPair.mono (by have := HK.out.mlen; simp [maxLen]; omega) (by have := HK.out.mlen; simp; omega) ?_
        intro v8 wn hL8 hch hbl _
        obtain ⟨ds, hds⟩ : ∃ ds, ds = k.more ++ [d] := ⟨_, rfl⟩
        rw [← hds] at hL8
        have HDS := hid hds
        obtain ⟨A8, c8, rfl, _, _⟩ := hL8.len
        replace hyn := hyn.below hbl hg5b
        clear hch hbl hL5 hL7 hg5a hg5b hds
        obtain ⟨wc, rfl⟩ : ∃ wc', wc' = wn := ⟨_, rfl⟩
        refine hK.out _ _ ⟨HX2.out.trans hyn, HAll.out _ hyn⟩ (fun hHeld => ?_)
        clear hK K
        try simp only [Act.put, List.setIfInBounds_toArray, List.set_cons_zero, List.set_cons_succ]
        refine wpAnyH_ready (rs := [2]) (by kernel_rfl) (by simp) ?_
        refine AllReadyH.cons rfl (fun K hK => ?_) AllReadyH.nil
        simp only [List.getElem_toArray, List.getElem_cons_zero, List.getElem_cons_succ]
        go_simp
        have hxa := (Ext.refl wc).alloc (.cells #[.slice Av k.vec.length cv] 69)
        have hyn' := hyn.trans hxa
        obtain ⟨wn, hwn⟩ : ∃ wn, wn = wc.alloc (.cells #[.slice Av k.vec.length cv] 69) := ⟨_, rfl⟩
        have hL2 : SlVecs B wn (some ⟨wc.heap.size, 0, none⟩) [k.vec] := Sl.one (cs := [.slice Av k.vec.length cv]) hwn rfl ⟨_, rfl, Av, cv, rfl, hcv.1, hcv.2, (HKn.out wn (by rw [hwn]; exact hyn')).sv⟩
        obtain ⟨a2, ha2⟩ : ∃ a, a = some (⟨wc.heap.size, 0, none⟩ : Addr) := ⟨_, rfl⟩
        rw [← hwn] at hxa hyn'
        rw [← hwn, ← ha2]
        rw [← ha2] at hL2
        replace hL8 := hL8.ext (B := 0) RPair.mono hxa
        clear hxa hwn ha2 hyn
        have hyn := hyn'
        clear hyn'
        obtain ⟨wc, rfl⟩ : ∃ wc', wc' = wn := ⟨_, rfl⟩
        refine hK.out _ _ ⟨HX2.out.trans hyn, HAll.out _ hyn⟩ (fun hHeld => ?_)
        clear hK K
        try simp only [Act.put, List.setIfInBounds_toArray, List.set_cons_zero, List.set_cons_succ]
        refine wpAnyH_ready (rs := [9]) (by kernel_rfl) (by simp) ?_
        refine AllReadyH.cons rfl (fun K hK => ?_) AllReadyH.nil
        simp only [List.getElem_toArray, List.getElem_cons_zero, List.getElem_cons_succ]
        go_simp
        refine (know_Made B a2 1 [k.vec] A8 c8 ds wc (by have := hyn.size; have := HX2.out.size; omega) hL2 (by simp) (by simpa using HK.out.vlen) (by simpa using HK.out.vec) (hL8.sl B) (by rw [HDS.out]; have := HK.out.mlen; simp; omega) (by rw [HDS.out]; intro x hx; rcases List.mem_append.1 hx with h | h; exact (HK.out.more x h).1; rw [List.mem_singleton.1 h]; exact HD.out)).mono ?_
        rintro e wn ⟨v9, rfl, hk9, hxa⟩
        dsimp only
        have HW9 := hid hyn.size
        replace hyn := hyn.trans hxa
        rw [HDS.out] at hk9
        clear hxa hL2 hL8
        obtain ⟨wc, rfl⟩ : ∃ wc', wc' = wn := ⟨_, rfl⟩
        refine hK.out _ _ ⟨HX2.out.trans hyn, HAll.out _ hyn⟩ (fun hHeld => ?_)
        clear hK K
        try simp only [Act.put, List.setIfInBounds_toArray, List.set_cons_zero, List.set_cons_succ]
        refine wpAnyH_ready (rs := [10]) (by kernel_rfl) (by simp) ?_
        refine AllReadyH.cons rfl (fun K hK => ?_) AllReadyH.nil
        simp only [List.getElem_toArray, List.getElem_cons_zero, List.getElem_cons_succ]
        go_simp
        refine (know_told _ v9 _ wc hk9).mono ?_
        rintro e wn ⟨x, rfl, hk10, hxa⟩
        dsimp only
        obtain ⟨kk, hkk⟩ : ∃ kk, kk = toldKn (formOf (setOf [k.vec] (k.more ++ [d]))) := ⟨_, rfl⟩
        rw [← hkk] at hk10
        have HKK := hid hkk
        obtain ⟨ee, hee⟩ : ∃ ee, ee = toldErr (formOf (setOf [k.vec] (k.more ++ [d]))) := ⟨_, rfl⟩
        rw [← hee]
        have HEE := hid hee
        obtain ⟨Av', cv', Am', cm', rfl, k1, k2, k3, k4, hk10⟩ := hk10
        replace hyn := hyn.trans hxa
        clear hxa hk9 hkk hee
        obtain ⟨wc, rfl⟩ : ∃ wc', wc' = wn := ⟨_, rfl⟩
        refine hK.out _ _ ⟨HX2.out.trans hyn, HAll.out _ hyn⟩ (fun hHeld => ?_)
        clear hK K
        try simp only [Act.put, List.setIfInBounds_toArray, List.set_cons_zero, List.set_cons_succ]
        refine wpAnyH_take (i := 11) (oi := _) (v := ?_) rfl (by kernel_rfl) (by kernel_rfl) (by kernel_rfl) (fun _ _ _ h => h) (Or.inl ⟨by rfl, ?_⟩) (by assumption) ?_
        rotate_left
        · intro w' hSw
          try dsimp only at hSw
          first
            | (go_simp; done)
            | (go_simp; with_reducible rfl)
        simp only [List.getElem_toArray, List.getElem_cons_zero, List.getElem_cons_succ]
        try simp only [Act.put, List.setIfInBounds_toArray, List.set_cons_zero, List.set_cons_succ]
        refine wpAnyH_take (i := 12) (oi := _) (v := ?_) rfl (by kernel_rfl) (by kernel_rfl) (by kernel_rfl) (fun _ _ _ h => h) (Or.inl ⟨by rfl, ?_⟩) (by assumption) ?_
        rotate_left
        · intro w' hSw
          try dsimp only at hSw
          first
            | (go_simp; done)
            | (go_simp; with_reducible rfl)
        simp only [List.getElem_toArray, List.getElem_cons_zero, List.getElem_cons_succ]
        try simp only [Act.put, List.setIfInBounds_toArray, List.set_cons_zero, List.set_cons_succ]
        refine wpAnyH_ready (rs := [13]) (by kernel_rfl) (by simp) ?_
        refine AllReadyH.cons rfl (fun K hK => ?_) AllReadyH.nil
        simp only [List.getElem_toArray, List.getElem_cons_zero, List.getElem_cons_succ]
        obtain ⟨r0, r1, f0, f1, t0⟩ := HR.out wc hyn
        go_simp
        have hyz := ((HX2.out.trans hyn).setCell (p := ⟨w.heap.size + 2, 0, none⟩) (by first | omega | (dsimp only; omega)) (.slice Av' kk.vec.length cv')).setCell (p := ⟨w.heap.size + 2, 1, none⟩) (by first | omega | (dsimp only; omega)) (.slice Am' kk.more.length cm')
        have hyk := hk10.chg (((Chg.refl (ts := [72]) wc).setCell (p := ⟨w.heap.size + 2, 0, none⟩) t0 (by simp) (.slice Av' kk.vec.length cv') (Nat.zero_le _)).setCell (p := ⟨w.heap.size + 2, 1, none⟩) (tyAt_put t0) (by simp) (.slice Am' kk.more.length cm') (Nat.zero_le _)) (by decide) (by decide)
        have z0 : ((wc.setCell ⟨w.heap.size + 2, 0, none⟩ (.slice Av' kk.vec.length cv')).setCell ⟨w.heap.size + 2, 1, none⟩ (.slice Am' kk.more.length cm')).cell? ⟨w.heap.size + 2, 0, none⟩ = some (.slice Av' kk.vec.length cv') := by go_simp
        have z1 : ((wc.setCell ⟨w.heap.size + 2, 0, none⟩ (.slice Av' kk.vec.length cv')).setCell ⟨w.heap.size + 2, 1, none⟩ (.slice Am' kk.more.length cm')).cell? ⟨w.heap.size + 2, 1, none⟩ = some (.slice Am' kk.more.length cm') := by go_simp
        obtain ⟨y0, y1, y2, y3⟩ := HAll.out wc hyn
        refine hK.out _ _ ⟨hyz, cell_ne (by omega) (cell_ne (by omega) y0), cell_ne (by omega) (cell_ne (by omega) y1), cell_ne (by omega) (cell_ne (by omega) y2), cell_ne (by omega) (cell_ne (by omega) y3)⟩ (fun hHeld => ?_)
        clear y0 y1 y2 y3 r0 r1 f0 f1 t0
        obtain ⟨wz, hwz⟩ : ∃ wz, wz = (wc.setCell ⟨w.heap.size + 2, 0, none⟩ (.slice Av' kk.vec.length cv')).setCell ⟨w.heap.size + 2, 1, none⟩ (.slice Am' kk.more.length cm') := ⟨_, rfl⟩
        rw [← hwz] at hyz hyk z0 z1 hHeld ⊢
        clear hwz
        clear hK K
        try simp only [Act.put, List.setIfInBounds_toArray, List.set_cons_zero, List.set_cons_succ]
        refine wpAnyH_take (i := 14) (oi := _) (v := ?_) rfl (by kernel_rfl) (by kernel_rfl) (by kernel_rfl) (fun _ _ _ h => h) (Or.inl ⟨by rfl, ?_⟩) (by assumption) ?_
        rotate_left
        · intro w' hSw
          try dsimp only at hSw
          first
            | (go_simp; done)
            | (go_simp; with_reducible rfl)
        simp only [List.getElem_toArray, List.getElem_cons_zero, List.getElem_cons_succ]
        try simp only [Act.put, List.setIfInBounds_toArray, List.set_cons_zero, List.set_cons_succ]
        refine wpAnyH_done (by kernel_rfl) ?_ _
        go_wp2_with fail
        refine bodyPost_ret (v := .tuple #[.agg #[.slice Av' kk.vec.length cv', .slice Am' kk.more.length cm'], .int .i64 ee]) ?_ rfl ⟨.agg #[.slice Av' kk.vec.length cv', .slice Am' kk.more.length cm'], by rw [HEE.out, HE'.out]; rfl, ?_, ?_⟩
        · exact res_add (b := w.heap.size + 2) rfl rfl z0 z1
        · rw [HA'.out]
          exact HKK.out ▸ ⟨Av', cv', Am', cm', rfl, k1, k2, k3, k4, hyk⟩
        · exact hyz
      refine AllReadyH.cons rfl (fun K hK => ?_) AllReadyH.nil
      simp only [List.getElem_toArray, List.getElem_cons_zero, List.getElem_cons_succ]
      go_simp
      have hxa := (Ext.refl wc).alloc (.cells #[.int .i64 d.site, .int .i64 d.count] 74)
      have hyn' := hyn.trans hxa
      obtain ⟨wn, hwn⟩ : ∃ wn, wn = wc.alloc (.cells #[.int .i64 d.site, .int .i64 d.count] 74) := ⟨_, rfl⟩
      have hL7 : SlDots 0 wn (some ⟨wc.heap.size, 0, none⟩) [d] := Sl.one (cs := [.int .i64 d.site, .int .i64 d.count]) hwn rfl rfl
      obtain ⟨a7, ha7⟩ : ∃ a, a = some (⟨wc.heap.size, 0, none⟩ : Addr) := ⟨_, rfl⟩
      rw [← hwn] at hxa hyn'
      rw [← hwn, ← ha7]
      rw [← ha7] at hL7
      clear hxa hwn ha7 hyn
      have hyn := hyn'
      clear hyn'
      obtain ⟨wc, rfl⟩ : ∃ wc', wc' = wn := ⟨_, rfl⟩
      refine hK.out _ _ ⟨HX2.out.trans hyn, HAll.out _ hyn⟩ (fun hHeld => ?_)
      clear hK K
      try simp only [Act.put, List.setIfInBounds_toArray, List.set_cons_zero, List.set_cons_succ]
      refine wpAnyH_ready (rs := [2, 5]) (by kernel_rfl) (by simp) ?_
      refine AllReadyH.cons rfl (fun K hK => ?_) ?_
      · simp only [List.getElem_toArray, List.getElem_cons_zero, List.getElem_cons_succ]
        go_simp
        have hxa := (Ext.refl wc).alloc (.cells #[.slice Av k.vec.length cv] 69)
        have hyn' := hyn.trans hxa
        obtain ⟨wn, hwn⟩ : ∃ wn, wn = wc.alloc (.cells #[.slice Av k.vec.length cv] 69) := ⟨_, rfl⟩
        have hL2 : SlVecs B wn (some ⟨wc.heap.size, 0, none⟩) [k.vec] := Sl.one (cs := [.slice Av k.vec.length cv]) hwn rfl ⟨_, rfl, Av, cv, rfl, hcv.1, hcv.2, (HKn.out wn (by rw [hwn]; exact hyn')).sv⟩
        obtain ⟨a2, ha2⟩ : ∃ a, a = some (⟨wc.heap.size, 0, none⟩ : Addr) := ⟨_, rfl⟩
        rw [← hwn] at hxa hyn'
        rw [← hwn, ← ha2]
        rw [← ha2] at hL2
        replace hL7 := hL7.ext RPair.mono hxa
        clear hxa hwn ha2 hyn
        have hyn := hyn'
        clear hyn'
        obtain ⟨wc, rfl⟩ : ∃ wc', wc' = wn := ⟨_, rfl⟩
        refine hK.out _ _ ⟨HX2.out.trans hyn, HAll.out _ hyn⟩ (fun hHeld => ?_)
        clear hK K
        try simp only [Act.put, List.setIfInBounds_toArray, List.set_cons_zero, List.set_cons_succ]
        refine wpAnyH_ready (rs := [5]) (by kernel_rfl) (by simp) ?_
        refine AllReadyH.cons rfl (fun K hK => ?_) AllReadyH.nil
        simp only [List.getElem_toArray, List.getElem_cons_zero, List.getElem_cons_succ]
        go_simp
        refine (clone_dots B Am cm k.more wc (by have := HK.out.mlen; omega) (HKn.out _ hyn).sm).mono ?_
        rintro e wn ⟨v5, rfl, hL5, hxa⟩
        dsimp only
        obtain ⟨A5, c5, rfl, _, _⟩ := hL5.len
        obtain ⟨g5, hg5⟩ : ∃ g, g = wc.heap.size := ⟨_, rfl⟩
        rw [← hg5] at hL5
        have hg5a : g5 ≤ wn.heap.size := by rw [hg5]; exact hxa.size
        have hg5b : w2.heap.size ≤ g5 := by rw [hg5]; exact hyn.size
        replace hL2 := hL2.ext RVec.monoE hxa
        replace hL7 := hL7.ext RPair.mono hxa
        replace hyn := hyn.trans hxa
        clear hxa hg5
        obtain ⟨wc, rfl⟩ : ∃ wc', wc' = wn := ⟨_, rfl⟩
        refine hK.out _ _ ⟨HX2.out.trans hyn, HAll.out _ hyn⟩ (fun hHeld => ?_)
        clear hK K
        try simp only [Act.put, List.setIfInBounds_toArray, List.set_cons_zero, List.set_cons_succ]
        refine wpAnyH_ready (rs := [8]) (by kernel_rfl) (by simp) ?_
        refine AllReadyH.cons rfl (fun K hK => ?_) AllReadyH.nil
        simp only [List.getElem_toArray, List.getElem_cons_zero, List.getElem_cons_succ]
        simp only [Region.wanted, if_true]
        refine wp_app (.tmp 22) (.tmp 24) rfl ei_dot rfl hL5 (B := B) (by have := HX2.out.size; omega) hg5a (ys := [d]) (c := 1) rfl hL7 RPair.oneC RPair.mono (by have := HK.out.mlen; simp [maxLen]; omega) (by have := HK.out.mlen; simp; omega) ?_
        intro v8 wn hL8 hch hbl _
        obtain ⟨ds, hds⟩ : ∃ ds, ds = k.more ++ [d] := ⟨_, rfl⟩
        rw [← hds] at hL8
        have HDS := hid hds
        obtain ⟨A8, c8, rfl, _, _⟩ := hL8.len
        replace hyn := hyn.below hbl hg5b
        replace hL2 := hL2.chg RVec.monoD (by decide) hch
        clear hch hbl hL5 hL7 hg5a hg5b hds
        obtain ⟨wc, rfl⟩ : ∃ wc', wc' = wn := ⟨_, rfl⟩
        refine hK.out _ _ ⟨HX2.out.trans hyn, HAll.out _ hyn⟩ (fun hHeld => ?_)
        clear hK K
        try simp only [Act.put, List.setIfInBounds_toArray, List.set_cons_zero, List.set_cons_succ]
        refine wpAnyH_ready (rs := [9]) (by kernel_rfl) (by simp) ?_
        refine AllReadyH.cons rfl (fun K hK => ?_) AllReadyH.nil
        simp only [List.getElem_toArray, List.getElem_cons_zero, List.getElem_cons_succ]
        go_simp
        refine (know_Made B a2 1 [k.vec] A8 c8 ds wc (by have := hyn.size; have := HX2.out.size; omega) hL2 (by simp) (by simpa using HK.out.vlen) (by simpa using HK.out.vec) (hL8.sl B) (by rw [HDS.out]; have := HK.out.mlen; simp; omega) (by rw [HDS.out]; intro x hx; rcases List.mem_append.1 hx with h | h; exact (HK.out.more x h).1; rw [List.mem_singleton.1 h]; exact HD.out)).mono ?_
        rintro e wn ⟨v9, rfl, hk9, hxa⟩
        dsimp only
        have HW9 := hid hyn.size
        replace hyn := hyn.trans hxa
        rw [HDS.out] at hk9
        clear hxa hL2 hL8
        obtain ⟨wc, rfl⟩ : ∃ wc', wc' = wn := ⟨_, rfl⟩
        refine hK.out _ _ ⟨HX2.out.trans hyn, HAll.out _ hyn⟩ (fun hHeld => ?_)
        clear hK K
        try simp only [Act.put, List.setIfInBounds_toArray, List.set_cons_zero, List.set_cons_succ]
        refine wpAnyH_ready (rs := [10]) (by kernel_rfl) (by simp) ?_
        refine AllReadyH.cons rfl (fun K hK => ?_) AllReadyH.nil
        simp only [List.getElem_toArray, List.getElem_cons_zero, List.getElem_cons_succ]
        go_simp
        refine (know_told _ v9 _ wc hk9).mono ?_
        rintro e wn ⟨x, rfl, hk10, hxa⟩
        dsimp only
        obtain ⟨kk, hkk⟩ : ∃ kk, kk = toldKn (formOf (setOf [k.vec] (k.more ++ [d]))) := ⟨_, rfl⟩
        rw [← hkk] at hk10
        have HKK := hid hkk
        obtain ⟨ee, hee⟩ : ∃ ee, ee = toldErr (formOf (setOf [k.vec] (k.more ++ [d]))) := ⟨_, rfl⟩
        rw [← hee]
        have HEE := hid hee
        obtain ⟨Av', cv', Am', cm', rfl, k1, k2, k3, k4, hk10⟩ := hk10
        replace hyn := hyn.trans hxa
        clear hxa hk9 hkk hee
        obtain ⟨wc, rfl⟩ : ∃ wc', wc' = wn := ⟨_, rfl⟩
        refine hK.out _ _ ⟨HX2.out.trans hyn, HAll.out _ hyn⟩ (fun hHeld => ?_)
        clear hK K
        try simp only [Act.put, List.setIfInBounds_toArray, List.set_cons_zero, List.set_cons_succ]
        refine wpAnyH_take (i := 11) (oi := _) (v := ?_) rfl (by kernel_rfl) (by kernel_rfl) (by kernel_rfl) (fun _ _ _ h => h) (Or.inl ⟨by rfl, ?_⟩) (by assumption) ?_
        rotate_left
        · intro w' hSw
          try dsimp only at hSw
          first
            | (go_simp; done)
            | (go_simp; with_reducible rfl)
        simp only [List.getElem_toArray, List.getElem_cons_zero, List.getElem_cons_succ]
        try simp only [Act.put, List.setIfInBounds_toArray, List.set_cons_zero, List.set_cons_succ]
        refine wpAnyH_take (i := 12) (oi := _) (v := ?_) rfl (by kernel_rfl) (by kernel_rfl) (by kernel_rfl) (fun _ _ _ h => h) (Or.inl ⟨by rfl, ?_⟩) (by assumption) ?_
        rotate_left
        · intro w' hSw
          try dsimp only at hSw
          first
            | (go_simp; done)
            | (go_simp; with_reducible rfl)
        simp only [List.getElem_toArray, List.getElem_cons_zero, List.getElem_cons_succ]
        try simp only [Act.put, List.setIfInBounds_toArray, List.set_cons_zero, List.set_cons_succ]
        refine wpAnyH_ready (rs := [13]) (by kernel_rfl) (by simp) ?_
        refine AllReadyH.cons rfl (fun K hK => ?_) AllReadyH.nil
        simp only [List.getElem_toArray, List.getElem_cons_zero, List.getElem_cons_succ]
        obtain ⟨r0, r1, f0, f1, t0⟩ := HR.out wc hyn
        go_simp
        have hyz := ((HX2.out.trans hyn).setCell (p := ⟨w.heap.size + 2, 0, none⟩) (by first | omega | (dsimp only; omega)) (.slice Av' kk.vec.length cv')).setCell (p := ⟨w.heap.size + 2, 1, none⟩) (by first | omega | (dsimp only; omega)) (.slice Am' kk.more.length cm')
        have hyk := hk10.chg (((Chg.refl (ts := [72]) wc).setCell (p := ⟨w.heap.size + 2, 0, none⟩) t0 (by simp) (.slice Av' kk.vec.length cv') (Nat.zero_le _)).setCell (p := ⟨w.heap.size + 2, 1, none⟩) (tyAt_put t0) (by simp) (.slice Am' kk.more.length cm') (Nat.zero_le _)) (by decide) (by decide)
        have z0 : ((wc.setCell ⟨w.heap.size + 2, 0, none⟩ (.slice Av' kk.vec.length cv')).setCell ⟨w.heap.size + 2, 1, none⟩ (.slice Am' kk.more.length cm')).cell? ⟨w.heap.size + 2, 0, none⟩ = some (.slice Av' kk.vec.length cv') := by go_simp
        have z1 : ((wc.setCell ⟨w.heap.size + 2, 0, none⟩ (.slice Av' kk.vec.length cv')).setCell ⟨w.heap.size + 2, 1, none⟩ (.slice Am' kk.more.length cm')).cell? ⟨w.heap.size + 2, 1, none⟩ = some (.slice Am' kk.more.length cm') := by go_simp
        obtain ⟨y0, y1, y2, y3⟩ := HAll.out wc hyn
        refine hK.out _ _ ⟨hyz, cell_ne (by omega) (cell_ne (by omega) y0), cell_ne (by omega) (cell_ne (by omega) y1), cell_ne (by omega) (cell_ne (by omega) y2), cell_ne (by omega) (cell_ne (by omega) y3)⟩ (fun hHeld => ?_)
        clear y0 y1 y2 y3 r0 r1 f0 f1 t0
        obtain ⟨wz, hwz⟩ : ∃ wz, wz = (wc.setCell ⟨w.heap.size + 2, 0, none⟩ (.slice Av' kk.vec.length cv')).setCell ⟨w.heap.size + 2, 1, none⟩ (.slice Am' kk.more.length cm') := ⟨_, rfl⟩
        rw [← hwz] at hyz hyk z0 z1 hHeld ⊢
        clear hwz
        clear hK K
        try simp only [Act.put, List.setIfInBounds_toArray, List.set_cons_zero, List.set_cons_succ]
        refine wpAnyH_take (i := 14) (oi := _) (v := ?_) rfl (by kernel_rfl) (by kernel_rfl) (by kernel_rfl) (fun _ _ _ h => h) (Or.inl ⟨by rfl, ?_⟩) (by assumption) ?_
        rotate_left
        · intro w' hSw
          try dsimp only at hSw
          first
            | (go_simp; done)
            | (go_simp; with_reducible rfl)
        simp only [List.getElem_toArray, List.getElem_cons_zero, List.getElem_cons_succ]
        try simp only [Act.put, List.setIfInBounds_toArray, List.set_cons_zero, List.set_cons_succ]
        refine wpAnyH_done (by kernel_rfl) ?_ _
        go_wp2_with fail
        refine bodyPost_ret (v := .tuple #[.agg #[.slice Av' kk.vec.length cv', .slice Am' kk.more.length cm'], .int .i64 ee]) ?_ rfl ⟨.agg #[.slice Av' kk.vec.length cv', .slice Am' kk.more.length cm'], by rw [HEE.out, HE'.out]; rfl, ?_, ?_⟩
        · exact res_add (b := w.heap.size + 2) rfl rfl z0 z1
        · rw [HA'.out]
          exact HKK.out ▸ ⟨Av', cv', Am', cm', rfl, k1, k2, k3, k4, hyk⟩
        · exact hyz
      refine AllReadyH.cons rfl (fun K hK => ?_) AllReadyH.nil
      simp only [List.getElem_toArray, List.getElem_cons_zero, List.getElem_cons_succ]
      go_simp
      refine (clone_dots B Am cm k.more wc (by have := HK.out.mlen; omega) (HKn.out _ hyn).sm).mono ?_
      rintro e wn ⟨v5, rfl, hL5, hxa⟩
      dsimp only
      obtain ⟨A5, c5, rfl, _, _⟩ := hL5.len
      obtain ⟨g5, hg5⟩ : ∃ g, g = wc.heap.size := ⟨_, rfl⟩
      rw [← hg5] at hL5
      have hg5a : g5 ≤ wn.heap.size := by rw [hg5]; exact hxa.size
      have hg5b : w2.heap.size ≤ g5 := by rw [hg5]; exact hyn.size
      replace hL7 := hL7.ext RPair.mono hxa
      replace hyn := hyn.trans hxa
      clear hxa hg5
      obtain ⟨wc, rfl⟩ : ∃ wc', wc' = wn := ⟨_, rfl⟩
      refine hK.out _ _ ⟨HX2.out.trans hyn, HAll.out _ hyn⟩ (fun hHeld => ?_)
      clear hK K
      try simp only [Act.put, List.setIfInBounds_toArray, List.set_cons_zero, List.set_cons_succ]
      refine wpAnyH_ready (rs := [2, 8]) (by kernel_rfl) (by simp) ?_
      refine AllReadyH.cons rfl (fun K hK => ?_) ?_
      · simp only [List.getElem_toArray, List.getElem_cons_zero, List.getElem_cons_succ]
        go_simp
        have hxa := (Ext.refl wc).alloc (.cells #[.slice Av k.vec.length cv] 69)
        have hyn' := hyn.trans hxa
        obtain ⟨wn, hwn⟩ : ∃ wn, wn = wc.alloc (.cells #[.slice Av k.vec.length cv] 69) := ⟨_, rfl⟩
        have hL2 : SlVecs B wn (some ⟨wc.heap.size, 0, none⟩) [k.vec] := Sl.one (cs := [.slice Av k.vec.length cv]) hwn rfl ⟨_, rfl, Av, cv, rfl, hcv.1, hcv.2, (HKn.out wn (by rw [hwn]; exact hyn')).sv⟩
        obtain ⟨a2, ha2⟩ : ∃ a, a = some (⟨wc.heap.size, 0, none⟩ : Addr) := ⟨_, rfl⟩
        rw [← hwn] at hxa hyn'
        rw [← hwn, ← ha2]
        rw [← ha2] at hL2
        replace hL5 := hL5.ext (B := 0) RPair.mono hxa
        replace hg5a := Nat.le_trans hg5a hxa.size
        replace hL7 := hL7.ext RPair.mono hxa
        clear hxa hwn ha2 hyn
        have hyn := hyn'
        clear hyn'
        obtain ⟨wc, rfl⟩ : ∃ wc', wc' = wn := ⟨_, rfl⟩
        refine hK.out _ _ ⟨HX2.out.trans hyn, HAll.out _ hyn⟩ (fun hHeld => ?_)
        clear hK K
        try simp only [Act.put, List.setIfInBounds_toArray, List.set_cons_zero, List.set_cons_succ]
        refine wpAnyH_ready (rs := [8]) (by kernel_rfl) (by simp) ?_
        refine AllReadyH.cons rfl (fun K hK => ?_) AllReadyH.nil
        simp only [List.getElem_toArray, List.getElem_cons_zero, List.getElem_cons_succ]
        simp only [Region.wanted, if_true]
        refine wp_app (.tmp 22) (.tmp 24) rfl ei_dot rfl hL5 (B := B) (by have := HX2.out.size; omega) hg5a (ys := [d]) (c := 1) rfl hL7 RPair.oneC RPair.mono (by have := HK.out.mlen; simp [maxLen]; omega) (by have := HK.out.mlen; simp; omega) ?_
        intro v8 wn hL8 hch hbl _
        obtain ⟨ds, hds⟩ : ∃ ds, ds = k.more ++ [d] := ⟨_, rfl⟩
        rw [← hds] at hL8
        have HDS := hid hds
        obtain ⟨A8, c8, rfl, _, _⟩ := hL8.len
        replace hyn := hyn.below hbl hg5b
        replace hL2 := hL2.chg RVec.monoD (by decide) hch
        clear hch hbl hL5 hL7 hg5a hg5b hds
        obtain ⟨wc, rfl⟩ : ∃ wc', wc' = wn := ⟨_, rfl⟩
        refine hK.out _ _ ⟨HX2.out.trans hyn, HAll.out _ hyn⟩ (fun hHeld => ?_)
        clear hK K
        try simp only [Act.put, List.setIfInBounds_toArray, List.set_cons_zero, List.set_cons_succ]
        refine wpAnyH_ready (rs := [9]) (by kernel_rfl) (by simp) ?_
        refine AllReadyH.cons rfl (fun K hK => ?_) AllReadyH.nil
        simp only [List.getElem_toArray, List.getElem_cons_zero, List.getElem_cons_succ]
        go_simp
        refine (know_Made B a2 1 [k.vec] A8 c8 ds wc (by have := hyn.size; have := HX2.out.size; omega) hL2 (by simp) (by simpa using HK.out.vlen) (by simpa using HK.out.vec) (hL8.sl B) (by rw [HDS.out]; have := HK.out.mlen; simp; omega) (by rw [HDS.out]; intro x hx; rcases List.mem_append.1 hx with h | h; exact (HK.out.more x h).1; rw [List.mem_singleton.1 h]; exact HD.out)).mono ?_
        rintro e wn ⟨v9, rfl, hk9, hxa⟩
        dsimp only
        have HW9 := hid hyn.size
        replace hyn := hyn.trans hxa
        rw [HDS.out] at hk9
        clear hxa hL2 hL8
        obtain ⟨wc, rfl⟩ : ∃ wc', wc' = wn := ⟨_, rfl⟩
        refine hK.out _ _ ⟨HX2.out.trans hyn, HAll.out _ hyn⟩ (fun hHeld => ?_)
        clear hK K
        try simp only [Act.put, List.setIfInBounds_toArray, List.set_cons_zero, List.set_cons_succ]
        refine wpAnyH_ready (rs := [10]) (by kernel_rfl) (by simp) ?_
        refine AllReadyH.cons rfl (fun K hK => ?_) AllReadyH.nil
        simp only [List.getElem_toArray, List.getElem_cons_zero, List.getElem_cons_succ]
        go_simp
        refine (know_told _ v9 _ wc hk9).mono ?_
        rintro e wn ⟨x, rfl, hk10, hxa⟩
        dsimp only
        obtain ⟨kk, hkk⟩ : ∃ kk, kk = toldKn (formOf (setOf [k.vec] (k.more ++ [d]))) := ⟨_, rfl⟩
        rw [← hkk] at hk10
        have HKK := hid hkk
        obtain ⟨ee, hee⟩ : ∃ ee, ee = toldErr (formOf (setOf [k.vec] (k.more ++ [d]))) := ⟨_, rfl⟩
        rw [← hee]
        have HEE := hid hee
        obtain ⟨Av', cv', Am', cm', rfl, k1, k2, k3, k4, hk10⟩ := hk10
        replace hyn := hyn.trans hxa
        clear hxa hk9 hkk hee
        obtain ⟨wc, rfl⟩ : ∃ wc', wc' = wn := ⟨_, rfl⟩
        refine hK.out _ _ ⟨HX2.out.trans hyn, HAll.out _ hyn⟩ (fun hHeld => ?_)
        clear hK K
        try simp only [Act.put, List.setIfInBounds_toArray, List.set_cons_zero, List.set_cons_succ]
        refine wpAnyH_take (i := 11) (oi := _) (v := ?_) rfl (by kernel_rfl) (by kernel_rfl) (by kernel_rfl) (fun _ _ _ h => h) (Or.inl ⟨by rfl, ?_⟩) (by assumption) ?_
        rotate_left
        · intro w' hSw
          try dsimp only at hSw
          first
            | (go_simp; done)
            | (go_simp; with_reducible rfl)
        simp only [List.getElem_toArray, List.getElem_cons_zero, List.getElem_cons_succ]
        try simp only [Act.put, List.setIfInBounds_toArray, List.set_cons_zero, List.set_cons_succ]
        refine wpAnyH_take (i := 12) (oi := _) (v := ?_) rfl (by kernel_rfl) (by kernel_rfl) (by kernel_rfl) (fun _ _ _ h => h) (Or.inl ⟨by rfl, ?_⟩) (by assumption) ?_
        rotate_left
        · intro w' hSw
          try dsimp only at hSw
          first
            | (go_simp; done)
            | (go_simp; with_reducible rfl)
        simp only [List.getElem_toArray, List.getElem_cons_zero, List.getElem_cons_succ]
        try simp only [Act.put, List.setIfInBounds_toArray, List.set_cons_zero, List.set_cons_succ]
        refine wpAnyH_ready (rs := [13]) (by kernel_rfl) (by simp) ?_
        refine AllReadyH.cons rfl (fun K hK => ?_) AllReadyH.nil
        simp only [List.getElem_toArray, List.getElem_cons_zero, List.getElem_cons_succ]
        obtain ⟨r0, r1, f0, f1, t0⟩ := HR.out wc hyn
        go_simp
        have hyz := ((HX2.out.trans hyn).setCell (p := ⟨w.heap.size + 2, 0, none⟩) (by first | omega | (dsimp only; omega)) (.slice Av' kk.vec.length cv')).setCell (p := ⟨w.heap.size + 2, 1, none⟩) (by first | omega | (dsimp only; omega)) (.slice Am' kk.more.length cm')
        have hyk := hk10.chg (((Chg.refl (ts := [72]) wc).setCell (p := ⟨w.heap.size + 2, 0, none⟩) t0 (by simp) (.slice Av' kk.vec.length cv') (Nat.zero_le _)).setCell (p := ⟨w.heap.size + 2, 1, none⟩) (tyAt_put t0) (by simp) (.slice Am' kk.more.length cm') (Nat.zero_le _)) (by decide) (by decide)
        have z0 : ((wc.setCell ⟨w.heap.size + 2, 0, none⟩ (.slice Av' kk.vec.length cv')).setCell ⟨w.heap.size + 2, 1, none⟩ (.slice Am' kk.more.length cm')).cell? ⟨w.heap.size + 2, 0, none⟩ = some (.slice Av' kk.vec.length cv') := by go_simp
        have z1 : ((wc.setCell ⟨w.heap.size + 2, 0, none⟩ (.slice Av' kk.vec.length cv')).setCell ⟨w.heap.size + 2, 1, none⟩ (.slice Am' kk.more.length cm')).cell? ⟨w.heap.size + 2, 1, none⟩ = some (.slice Am' kk.more.length cm') := by go_simp
        obtain ⟨y0, y1, y2, y3⟩ := HAll.out wc hyn
        refine hK.out _ _ ⟨hyz, cell_ne (by omega) (cell_ne (by omega) y0), cell_ne (by omega) (cell_ne (by omega) y1), cell_ne (by omega) (cell_ne (by omega) y2), cell_ne (by omega) (cell_ne (by omega) y3)⟩ (fun hHeld => ?_)
        clear y0 y1 y2 y3 r0 r1 f0 f1 t0
        obtain ⟨wz, hwz⟩ : ∃ wz, wz = (wc.setCell ⟨w.heap.size + 2, 0, none⟩ (.slice Av' kk.vec.length cv')).setCell ⟨w.heap.size + 2, 1, none⟩ (.slice Am' kk.more.length cm') := ⟨_, rfl⟩
        rw [← hwz] at hyz hyk z0 z1 hHeld ⊢
        clear hwz
        clear hK K
        try simp only [Act.put, List.setIfInBounds_toArray, List.set_cons_zero, List.set_cons_succ]
        refine wpAnyH_take (i := 14) (oi := _) (v := ?_) rfl (by kernel_rfl) (by kernel_rfl) (by kernel_rfl) (fun _ _ _ h => h) (Or.inl ⟨by rfl, ?_⟩) (by assumption) ?_
        rotate_left
        · intro w' hSw
          try dsimp only at hSw
          first
            | (go_simp; done)
            | (go_simp; with_reducible rfl)
        simp only [List.getElem_toArray, List.getElem_cons_zero, List.getElem_cons_succ]
        try simp only [Act.put, List.setIfInBounds_toArray, List.set_cons_zero, List.set_cons_succ]
        refine wpAnyH_done (by kernel_rfl) ?_ _
        go_wp2_with fail
        refine bodyPost_ret (v := .tuple #[.agg #[.slice Av' kk.vec.length cv', .slice Am' kk.more.length cm'], .int .i64 ee]) ?_ rfl ⟨.agg #[.slice Av' kk.vec.length cv', .slice Am' kk.more.length cm'], by rw [HEE.out, HE'.out]; rfl, ?_, ?_⟩
        · exact res_add (b := w.heap.size + 2) rfl rfl z0 z1
        · rw [HA'.out]
          exact HKK.out ▸ ⟨Av', cv', Am', cm', rfl, k1, k2, k3, k4, hyk⟩
        · exact hyz
      refine AllReadyH.cons rfl (fun K hK => ?_) AllReadyH.nil
      simp only [List.getElem_toArray, List.getElem_cons_zero, List.getElem_cons_succ]
      simp only [Region.wanted, if_true]
      refine wp_app (.tmp 22) (.tmp 24) rfl ei_dot rfl hL5 (B := B) (by have := HX2.out.size; omega) hg5a (ys := [d]) (c := 1) rfl hL7 RPair.oneC RPair.mono (by have := HK.out.mlen; simp [maxLen]; omega) (by have := HK.out.mlen; simp; omega) ?_
      intro v8 wn hL8 hch hbl _
      obtain ⟨ds, hds⟩ : ∃ ds, ds = k.more ++ [d] := ⟨_, rfl⟩
      rw [← hds] at hL8
      have HDS := hid hds
      obtain ⟨A8, c8, rfl, _, _⟩ := hL8.len
      replace hyn := hyn.below hbl hg5b
      clear hch hbl hL5 hL7 hg5a hg5b hds
      obtain ⟨wc, rfl⟩ : ∃ wc', wc' = wn := ⟨_, rfl⟩
      refine hK.out _ _ ⟨HX2.out.trans hyn, HAll.out _ hyn⟩ (fun hHeld => ?_)
      clear hK K
      try simp only [Act.put, List.setIfInBounds_toArray, List.set_cons_zero, List.set_cons_succ]
      refine wpAnyH_ready (rs := [2]) (by kernel_rfl) (by simp) ?_
      refine AllReadyH.cons rfl (fun K hK => ?_) AllReadyH.nil
      simp only [List.getElem_toArray, List.getElem_cons_zero, List.getElem_cons_succ]
      go_simp
      have hxa := (Ext.refl wc).alloc (.cells #[.slice Av k.vec.length cv] 69)
      have hyn' := hyn.trans hxa
      obtain ⟨wn, hwn⟩ : ∃ wn, wn = wc.alloc (.cells #[.slice Av k.vec.length cv] 69) := ⟨_, rfl⟩
      have hL2 : SlVecs B wn (some ⟨wc.heap.size, 0, none⟩) [k.vec] := Sl.one (cs := [.slice Av k.vec.length cv]) hwn rfl ⟨_, rfl, Av, cv, rfl, hcv.1, hcv.2, (HKn.out wn (by rw [hwn]; exact hyn')).sv⟩
      obtain ⟨a2, ha2⟩ : ∃ a, a = some (⟨wc.heap.size, 0, none⟩ : Addr) := ⟨_, rfl⟩
      rw [← hwn] at hxa hyn'
      rw [← hwn, ← ha2]
      rw [← ha2] at hL2
      replace hL8 := hL8.ext (B := 0) RPair.mono hxa
      clear hxa hwn ha2 hyn
      have hyn := hyn'
      clear hyn'
      obtain ⟨wc, rfl⟩ : ∃ wc', wc' = wn := ⟨_, rfl⟩
      refine hK.out _ _ ⟨HX2.out.trans hyn, HAll.out _ hyn⟩ (fun hHeld => ?_)
      clear hK K
      try simp only [Act.put, List.setIfInBounds_toArray, List.set_cons_zero, List.set_cons_succ]
      refine wpAnyH_ready (rs := [9]) (by kernel_rfl) (by simp) ?_
      refine AllReadyH.cons rfl (fun K hK => ?_) AllReadyH.nil
      simp only [List.getElem_toArray, List.getElem_cons_zero, List.getElem_cons_succ]
      go_simp
      refine (know_Made B a2 1 [k.vec] A8 c8 ds wc (by have := hyn.size; have := HX2.out.size; omega) hL2 (by simp) (by simpa using HK.out.vlen) (by simpa using HK.out.vec) (hL8.sl B) (by rw [HDS.out]; have := HK.out.mlen; simp; omega) (by rw [HDS.out]; intro x hx; rcases List.mem_append.1 hx with h | h; exact (HK.out.more x h).1; rw [List.mem_singleton.1 h]; exact HD.out)).mono ?_
      rintro e wn ⟨v9, rfl, hk9, hxa⟩
      dsimp only
      have HW9 := hid hyn.size
      replace hyn := hyn.trans hxa
      rw [HDS.out] at hk9
      clear hxa hL2 hL8
      obtain ⟨wc, rfl⟩ : ∃ wc', wc' = wn := ⟨_, rfl⟩
      refine hK.out _ _ ⟨HX2.out.trans hyn, HAll.out _ hyn⟩ (fun hHeld => ?_)
      clear hK K
      try simp only [Act.put, List.setIfInBounds_toArray, List.set_cons_zero, List.set_cons_succ]
      refine wpAnyH_ready (rs := [10]) (by kernel_rfl) (by simp) ?_
      refine AllReadyH.cons rfl (fun K hK => ?_) AllReadyH.nil
      simp only [List.getElem_toArray, List.getElem_cons_zero, List.getElem_cons_succ]
      go_simp
      refine (know_told _ v9 _ wc hk9).mono ?_
      rintro e wn ⟨x, rfl, hk10, hxa⟩
      dsimp only
      obtain ⟨kk, hkk⟩ : ∃ kk, kk = toldKn (formOf (setOf [k.vec] (k.more ++ [d]))) := ⟨_, rfl⟩
      rw [← hkk] at hk10
      have HKK := hid hkk
      obtain ⟨ee, hee⟩ : ∃ ee, ee = toldErr (formOf (setOf [k.vec] (k.more ++ [d]))) := ⟨_, rfl⟩
      rw [← hee]
      have HEE := hid hee
      obtain ⟨Av', cv', Am', cm', rfl, k1, k2, k3, k4, hk10⟩ := hk10
      replace hyn := hyn.trans hxa
      clear hxa hk9 hkk hee
      obtain ⟨wc, rfl⟩ : ∃ wc', wc' = wn := ⟨_, rfl⟩
      refine hK.out _ _ ⟨HX2.out.trans hyn, HAll.out _ hyn⟩ (fun hHeld => ?_)
      clear hK K
      try simp only [Act.put, List.setIfInBounds_toArray, List.set_cons_zero, List.set_cons_succ]
      refine wpAnyH_take (i := 11) (oi := _) (v := ?_) rfl (by kernel_rfl) (by kernel_rfl) (by kernel_rfl) (fun _ _ _ h => h) (Or.inl ⟨by rfl, ?_⟩) (by assumption) ?_
      rotate_left
      · intro w' hSw
        try dsimp only at hSw
        first
          | (go_simp; done)
          | (go_simp; with_reducible rfl)
      simp only [List.getElem_toArray, List.getElem_cons_zero, List.getElem_cons_succ]
      try simp only [Act.put, List.setIfInBounds_toArray, List.set_cons_zero, List.set_cons_succ]
      refine wpAnyH_take (i := 12) (oi := _) (v := ?_) rfl (by kernel_rfl) (by kernel_rfl) (by kernel_rfl) (fun _ _ _ h => h) (Or.inl ⟨by rfl, ?_⟩) (by assumption) ?_
      rotate_left
      · intro w' hSw
        try dsimp only at hSw
        first
          | (go_simp; done)
          | (go_simp; with_reducible rfl)
      simp only [List.getElem_toArray, List.getElem_cons_zero, List.getElem_cons_succ]
      try simp only [Act.put, List.setIfInBounds_toArray, List.set_cons_zero, List.set_cons_succ]
      refine wpAnyH_ready (rs := [13]) (by kernel_rfl) (by simp) ?_
      refine AllReadyH.cons rfl (fun K hK => ?_) AllReadyH.nil
      simp only [List.getElem_toArray, List.getElem_cons_zero, List.getElem_cons_succ]
      obtain ⟨r0, r1, f0, f1, t0⟩ := HR.out wc hyn
      go_simp
      have hyz := ((HX2.out.trans hyn).setCell (p := ⟨w.heap.size + 2, 0, none⟩) (by first | omega | (dsimp only; omega)) (.slice Av' kk.vec.length cv')).setCell (p := ⟨w.heap.size + 2, 1, none⟩) (by first | omega | (dsimp only; omega)) (.slice Am' kk.more.length cm')
      have hyk := hk10.chg (((Chg.refl (ts := [72]) wc).setCell (p := ⟨w.heap.size + 2, 0, none⟩) t0 (by simp) (.slice Av' kk.vec.length cv') (Nat.zero_le _)).setCell (p := ⟨w.heap.size + 2, 1, none⟩) (tyAt_put t0) (by simp) (.slice Am' kk.more.length cm') (Nat.zero_le _)) (by decide) (by decide)
      have z0 : ((wc.setCell ⟨w.heap.size + 2, 0, none⟩ (.slice Av' kk.vec.length cv')).setCell ⟨w.heap.size + 2, 1, none⟩ (.slice Am' kk.more.length cm')).cell? ⟨w.heap.size + 2, 0, none⟩ = some (.slice Av' kk.vec.length cv') := by go_simp
      have z1 : ((wc.setCell ⟨w.heap.size + 2, 0, none⟩ (.slice Av' kk.vec.length cv')).setCell ⟨w.heap.size + 2, 1, none⟩ (.slice Am' kk.more.length cm')).cell? ⟨w.heap.size + 2, 1, none⟩ = some (.slice Am' kk.more.length cm') := by go_simp
      obtain ⟨y0, y1, y2, y3⟩ := HAll.out wc hyn
      refine hK.out _ _ ⟨hyz, cell_ne (by omega) (cell_ne (by omega) y0), cell_ne (by omega) (cell_ne (by omega) y1), cell_ne (by omega) (cell_ne (by omega) y2), cell_ne (by omega) (cell_ne (by omega) y3)⟩ (fun hHeld => ?_)
      clear y0 y1 y2 y3 r0 r1 f0 f1 t0
      obtain ⟨wz, hwz⟩ : ∃ wz, wz = (wc.setCell ⟨w.heap.size + 2, 0, none⟩ (.slice Av' kk.vec.length cv')).setCell ⟨w.heap.size + 2, 1, none⟩ (.slice Am' kk.more.length cm') := ⟨_, rfl⟩
      rw [← hwz] at hyz hyk z0 z1 hHeld ⊢
      clear hwz
      clear hK K
      try simp only [Act.put, List.setIfInBounds_toArray, List.set_cons_zero, List.set_cons_succ]
      refine wpAnyH_take (i := 14) (oi := _) (v := ?_) rfl (by kernel_rfl) (by kernel_rfl) (by kernel_rfl) (fun _ _ _ h => h) (Or.inl ⟨by rfl, ?_⟩) (by assumption) ?_
      rotate_left
      · intro w' hSw
        try dsimp only at hSw
        first
          | (go_simp; done)
          | (go_simp; with_reducible rfl)
      simp only [List.getElem_toArray, List.getElem_cons_zero, List.getElem_cons_succ]
      try simp only [Act.put, List.setIfInBounds_toArray, List.set_cons_zero, List.set_cons_succ]
      refine wpAnyH_done (by kernel_rfl) ?_ _
      go_wp2_with fail
      refine bodyPost_ret (v := .tuple #[.agg #[.slice Av' kk.vec.length cv', .slice Am' kk.more.length cm'], .int .i64 ee]) ?_ rfl ⟨.agg #[.slice Av' kk.vec.length cv', .slice Am' kk.more.length cm'], by rw [HEE.out, HE'.out]; rfl, ?_, ?_⟩
      · exact res_add (b := w.heap.size + 2) rfl rfl z0 z1
      · rw [HA'.out]
        exact HKK.out ▸ ⟨Av', cv', Am', cm', rfl, k1, k2, k3, k4, hyk⟩
      · exact hyz
  · have HE' := hid (show addErr k d = c by rw [HE.out, if_neg h0])
    have HA' := hid (show addK k d = ⟨[], []⟩ by rw [HA.out, if_neg h0])
    have hc : (c != 0) = true := by simpa using h0
    clear h0
    go_wp2_with fail
    refine bodyPost_ret (v := .tuple #[.agg #[.slice none 0 0, .slice none 0 0], .int .i64 c]) ?_ rfl ⟨.agg #[.slice none 0 0, .slice none 0 0], by rw [HE'.out], ?_, ?_⟩
    · refine res_add (b := w.heap.size + 2) rfl rfl ?_ ?_ <;> go_simp
    · rw [HA'.out]
      exact IsK.empty
    · exact (HX.out.setCell (by first | omega | (dsimp only; omega)) _).setCell (by first | omega | (dsimp only; omega)) _

end Go.Proofs.Ytiigbcnnapnceaa
