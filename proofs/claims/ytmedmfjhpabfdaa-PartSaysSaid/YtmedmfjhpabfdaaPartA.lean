/- The walks of part.at, within, Within. -/
import Derived.Test.YtmedmfjhpabfdaaPartW
import Derived.Test.YtmedmfjhpabfdaaKnJ
import Derived.Test.YtmedmfjhpabfdaaKnV
import Derived.Test.YtmedmfjhpabfdaaKnF
namespace Go.Proofs.Ytmedmfjhpabfdaa
open Go Go.RowKit

theorem ei_vec : ElemInfo Try.prog 141 41 1 24 := ElemInfo.mk_ (z := .slice none 0 0) Try.underlying141 (by kernel_rfl) rfl (by decide)
theorem RVec.mono {B : Nat} {ts : List TypeId} (h : 3 ∉ ts) : Mono B ts (RVec B) := by
  rintro w w' cs l x ⟨v, rfl, hv⟩
  exact ⟨v, rfl, hv.chg RInt.mono h x⟩
theorem RVec.oneC {B : Nat} : OneC (RVec B) := by
  rintro w cs l ⟨v, rfl, A, c, rfl, _⟩ u hu
  simp at hu
  subst hu; rfl
theorem Chg.frozenAt {B : Nat} {ts : List TypeId} {a b : World} (h : Chg B ts a b) {k o : Nat} (hlt : k < a.heap.size) (hk : k < B ∨ ∀ t ∈ ts, tyAt a k ≠ some t) : b.frozen? ⟨k, o, none⟩ = a.frozen? ⟨k, o, none⟩ := by
  simp [World.frozen?, h.block k hlt hk]
/-- what a loop that gathers vectors and dots leaves as it was: a point, a set of dots that holds nothing yet. -/
structure AtEnv (w wr : World) (p : Point) : Prop where
  x : Ext w wr
  p0 : wr.cell? ⟨w.heap.size, 0, none⟩ = some (.int .i64 p.tags)
  p1 : wr.cell? ⟨w.heap.size, 1, none⟩ = some (.int .i64 p.num)
  k0 : wr.cell? ⟨w.heap.size + 1, 0, none⟩ = some (.slice none 0 0)
  k1 : wr.cell? ⟨w.heap.size + 1, 1, none⟩ = some (.slice none 0 0)
  f : ∀ o, wr.frozen? ⟨w.heap.size + 1, o, none⟩ = false
  tp : tyAt wr w.heap.size = some 40
  tk : tyAt wr (w.heap.size + 1) = some 44
theorem AtEnv.ext {w wr w' : World} {p : Point} (h : AtEnv w wr p) (x : Ext wr w') : AtEnv w w' p :=
  have z := World.block_lt_of_cell? _ _ h.k0
  have z' := World.block_lt_of_cell? _ _ h.p0
  ⟨h.x.trans x, x.cell h.p0, x.cell h.p1, x.cell h.k0, x.cell h.k1, fun o => (x.frozenAt z).trans (h.f o), (tyAt_of (x.blockAt z')).trans h.tp, (tyAt_of (x.blockAt z)).trans h.tk⟩
theorem AtEnv.app {w wr w' : World} {p : Point} {B : Nat} {ts : List TypeId} (h : AtEnv w wr p) (c : Chg B ts wr w') (b : Below w.heap.size wr w') (hp : 40 ∉ ts) (hk : 44 ∉ ts) : AtEnv w w' p := by
  have z := World.block_lt_of_cell? _ _ h.k0
  have z' := World.block_lt_of_cell? _ _ h.p0
  have n0 : w.heap.size < B ∨ ∀ t ∈ ts, tyAt wr w.heap.size ≠ some t := .inr fun t ht e => by rw [h.tp] at e; injection e with e; exact hp (e ▸ ht)
  have n1 : w.heap.size + 1 < B ∨ ∀ t ∈ ts, tyAt wr (w.heap.size + 1) ≠ some t := .inr fun t ht e => by rw [h.tk] at e; injection e with e; exact hk (e ▸ ht)
  exact ⟨h.x.below b (Nat.le_refl _), c.cell n0 h.p0, c.cell n0 h.p1, c.cell n1 h.k0, c.cell n1 h.k1, fun o => (c.frozenAt z n1).trans (h.f o), (tyAt_of (c.block _ z' n0)).trans h.tp, (tyAt_of (c.block _ z n1)).trans h.tk⟩
theorem atVecs_ok {l : List Part} (h : ∀ x ∈ l, PartOk x) (p : Point) : ∀ v ∈ atVecs l p, v.length ≤ 5 ∧ ∀ n ∈ v, 0 ≤ n ∧ n ≤ 1000 := by
  intro v hv
  obtain ⟨x, hx, rfl⟩ := List.mem_map.1 hv
  have := (h x (List.mem_filter.1 hx).1).k
  exact ⟨this.vlen, this.vec⟩
theorem atDots_ok {l : List Part} (h : ∀ x ∈ l, PartOk x) (p : Point) : ∀ d ∈ atDots l p, dotOk d = true := by
  intro d hd
  obtain ⟨x, hx, hd⟩ := List.mem_flatMap.1 hd
  exact ((h x (List.mem_filter.1 hx).1).k.more d hd).1
theorem atVecs_yes (l : List Part) (p : Point) (k : Nat) (hk : k < l.length) (h : filterIn l[k].filter p = true) : atVecs (l.take (k + 1)) p = atVecs (l.take k) p ++ [l[k].know.vec] ∧ atDots (l.take (k + 1)) p = atDots (l.take k) p ++ l[k].know.more := by
  unfold atVecs atDots
  rw [atL_yes l p k hk h, List.map_append, List.flatMap_append]
  simp
theorem atVecs_no (l : List Part) (p : Point) (k : Nat) (hk : k < l.length) (h : filterIn l[k].filter p = false) : atVecs (l.take (k + 1)) p = atVecs (l.take k) p ∧ atDots (l.take (k + 1)) p = atDots (l.take k) p := by
  unfold atVecs atDots
  rw [atL_no l p k hk h]
  exact ⟨rfl, rfl⟩
theorem res_at {w : World} {v : Value} {b : Nat} {x y : Value} {tmps : Array Value} (h4 : tmps.getD 4 undef = .pointer (some ⟨b, 0, none⟩)) (c1 : w.cell? ⟨b, 0, none⟩ = some x) (c2 : w.cell? ⟨b, 1, none⟩ = some y) (hv : v = .agg #[x, y]) :
    (results Try.f102 tmps).run Try.prog w = .ok v w := by
  have h4' : tmps[4]?.getD undef = .pointer (some ⟨b, 0, none⟩) := by simpa using h4
  subst hv
  simp [results, Try.results102, go_sem, h4', c1, c2]

set_option maxRecDepth 100000 in
set_option maxHeartbeats 2000000 in
theorem part_at (B : Nat) (A : Option Addr) (c : Nat) (l : List Part) (p : Point) (w : World) (hB : B ≤ w.heap.size) (hl : l.length ≤ 30) (hok : ∀ x ∈ l, PartOk x) (hp : pointOk p = true) (h : SlParts B w A l) :
    Calls Try.prog 102 #[.slice A l.length c, .agg #[.int .i64 p.tags, .int .i64 p.num]] w fun e w' => ∃ v, e = .returned v ∧ IsK 0 w' v (atK l p) ∧ Ext w w' := by
  have HOK := hid hok
  have HPO := hid hp
  clear hok hp
  have henv0 : AtEnv w ((w.alloc (.cells #[.int .i64 p.tags, .int .i64 p.num] 40)).alloc (.cells #[.slice none 0 0, .slice none 0 0] 44)) p := by
    have hb := Blk.new (w.alloc (.cells #[.int .i64 p.tags, .int .i64 p.num] 40)) 44 #[.slice none 0 0, .slice none 0 0]
    rw [World.size_alloc] at hb
    exact ⟨((Ext.refl w).alloc _).alloc _, by go_simp, by go_simp, by go_simp, by go_simp, hb.frozen, ((Blk.new w 40 #[.int .i64 p.tags, .int .i64 p.num]).alloc _).ty, hb.ty⟩
  go_enter Try.func102, Try.ntmps102
  go_wp2_with fail
  go_loopw [11, 5, 6] (fun i v u wr => ∃ k : Nat, k ≤ l.length ∧ i = .int .i64 k ∧ AtEnv w wr p ∧ Own (RVec B) 1 41 wr w.heap.size v (atVecs (l.take k) p) ∧ Own RDot 2 38 wr w.heap.size u (atDots (l.take k) p)) (fun i _ _ _ => l.length - (intOf i).toNat)
  case atStart => exact ⟨0, Nat.zero_le _, rfl, henv0, Own.nil, Own.nil⟩
  case round =>
    clear henv0
    obtain ⟨k, hk, rfl, henv, hov, hod⟩ := hrel
    by_cases hlt : k < l.length
    · obtain ⟨b, off, Af, cf, Av, cv, Am, cm, rfl, hb, g0, g1, g2, hp⟩ := (h.ext RPart.monoE henv.x).part hlt
      have HO := hid (HOK.out _ (List.getElem_mem hlt))
      have HP := hid hp
      clear hp
      have hq0 := henv.p0
      have hq1 := henv.p1
      have hq2 : w.heap.size < wr.heap.size := World.block_lt_of_cell? _ _ henv.p0
      go_wp2_with fail
      have hxl := (Ext.refl wr).alloc (.cells #[.slice Af l[k].filter.length cf, .slice Av l[k].know.vec.length cv, .slice Am l[k].know.more.length cm] 69)
      refine (filter_In B Af cf l[k].filter p _ HP.out.lf (filterCheck_ok HO.out.f).2 HPO.out (HP.out.sf.ext RBox.monoE hxl)).mono ?_
      rintro e w1 ⟨rfl, hx1⟩
      have q0 : w1.cell? ⟨wr.heap.size, 0, none⟩ = some (.slice Af l[k].filter.length cf) := hx1.cell (by go_simp)
      have q1 : w1.cell? ⟨wr.heap.size, 1, none⟩ = some (.slice Av l[k].know.vec.length cv) := hx1.cell (by go_simp)
      have q2 : w1.cell? ⟨wr.heap.size, 2, none⟩ = some (.slice Am l[k].know.more.length cm) := hx1.cell (by go_simp)
      have ht : tyAt w1 wr.heap.size = some 69 := by
        rw [tyAt_of (hx1.blockAt (by simp))]
        unfold tyAt; rw [heap_alloc_new]
      have hz := World.block_lt_of_cell? _ _ q0
      have hxx := hxl.trans hx1
      obtain ⟨r, hr⟩ : ∃ r, r = wr.heap.size := ⟨_, rfl⟩
      rw [← hr] at q0 q1 q2 ht hz ⊢
      replace hov := hov.ext RVec.monoE hxx
      replace hod := hod.ext (RPair.mono (B := 0)) hxx
      replace henv := henv.ext hxx
      clear hr hxl hx1 g0 g1 g2 hq0 hq1 hq2
      cases hI : filterIn l[k].filter p
      · have HN := hid (atVecs_no l p k hlt hI)
        clear hI
        go_wp2_with fail
        go_roundw
        case rel =>
          refine ⟨k + 1, hlt, by go_num, henv, ?_, ?_⟩
          · rw [HN.out.1]; exact hov
          · rw [HN.out.2]; exact hod
        case measure => simp [intOf]; omega
      · have HSv := hid (atVecs_yes l p k hlt hI).1
        have HSd := hid (atVecs_yes l p k hlt hI).2
        clear hI
        have HLv := hid (show (atVecs (l.take k) p).length + 1 ≤ 40 by have := atL_len l p k; unfold atVecs; rw [List.length_map]; omega)
        have HLd := hid (show (atDots (l.take k) p).length + l[k].know.more.length ≤ 5000 by have := atDots_len l p (fun x hx => (HOK.out x hx).k) k; have := HO.out.k.mlen; omega)
        go_wp2_with fail
        have HAll := hid (fun w' (x : Chg B [41] w1 w') => show w'.cell? ⟨r, 0, none⟩ = some (.slice Af l[k].filter.length cf) ∧ w'.cell? ⟨r, 1, none⟩ = some (.slice Av l[k].know.vec.length cv) ∧ w'.cell? ⟨r, 2, none⟩ = some (.slice Am l[k].know.more.length cm) from by
          have hne : r < B ∨ ∀ t ∈ [41], tyAt w1 r ≠ some t := .inr fun t hm => by rw [ht, List.mem_singleton.1 hm]; decide
          exact ⟨x.cell hne q0, x.cell hne q1, x.cell hne q2⟩)
        have HT := hid (fun w' (x : Chg B [41] w1 w') => show tyAt w' r = some 69 from by
          have hne : r < B ∨ ∀ t ∈ [41], tyAt w1 r ≠ some t := .inr fun t hm => by rw [ht, List.mem_singleton.1 hm]; decide
          exact (tyAt_of (x.block r hz hne)).trans ht)
        have HPv := hid (fun w' (x : Chg B [41] w1 w') => show SlInts B w' Av l[k].know.vec from (HP.out.k.sv.ext RInt.mono hxx).chg RInt.mono (by decide) x)
        have HPm := hid (fun w' (x : Chg B [41] w1 w') => show SlDots B w' Am l[k].know.more from (HP.out.k.sm.ext RPair.mono hxx).chg RPair.mono (by decide) x)
        clear q0 q1 q2 ht hz
        have hxd := (Ext.refl w1).drew
        replace hov := hov.ext RVec.monoE hxd
        replace hod := hod.ext (RPair.mono (B := 0)) hxd
        replace henv := henv.ext hxd
        have hcy := Chg.of_ext (B := B) (ts := [41]) hxd
        refine wp_region_held_drew (S := fun w' => w'.cell? ⟨r, 0, none⟩ = some (.slice Af l[k].filter.length cf) ∧ w'.cell? ⟨r, 1, none⟩ = some (.slice Av l[k].know.vec.length cv) ∧ w'.cell? ⟨r, 2, none⟩ = some (.slice Am l[k].know.more.length cm)) (by kernel_rfl) (HAll.out _ hcy) (fun hHeld => ?_)
        obtain ⟨wc, hwc⟩ : ∃ wc, wc = w1.drew := ⟨_, rfl⟩
        rw [← hwc] at hHeld hcy hov hod henv ⊢
        clear hwc hxd hxx
        refine wpAnyH_take (i := 0) (oi := _) (v := ?_) rfl (by kernel_rfl) (by kernel_rfl) (by kernel_rfl) (fun _ _ _ h => h) (Or.inl ⟨by rfl, ?_⟩) (by assumption) ?_
        rotate_left
        · intro w' hSw
          try dsimp only at hSw
          first
            | (go_simp; done)
            | (go_simp; with_reducible rfl)
        simp only [List.getElem_toArray, List.getElem_cons_zero]
        try simp only [Act.put, List.setIfInBounds_toArray, List.set_cons_zero, List.set_cons_succ]
        refine wpAnyH_take (i := 1) (oi := _) (v := ?_) rfl (by kernel_rfl) (by kernel_rfl) (by kernel_rfl) (fun _ _ _ h => h) (Or.inl ⟨by rfl, ?_⟩) (by assumption) ?_
        rotate_left
        · intro w' hSw
          try dsimp only at hSw
          first
            | (go_simp; done)
            | (go_simp; with_reducible rfl)
        simp only [List.getElem_toArray, List.getElem_cons_zero, List.getElem_cons_succ]
        try simp only [Act.put, List.setIfInBounds_toArray, List.set_cons_zero, List.set_cons_succ]
        refine wpAnyH_take (i := 2) (oi := _) (v := ?_) rfl (by kernel_rfl) (by kernel_rfl) (by kernel_rfl) (fun _ _ _ h => h) (Or.inl ⟨by rfl, ?_⟩) (by assumption) ?_
        rotate_left
        · intro w' hSw
          try dsimp only at hSw
          first
            | (go_simp; done)
            | (go_simp; with_reducible rfl)
        simp only [List.getElem_toArray, List.getElem_cons_zero, List.getElem_cons_succ]
        try simp only [Act.put, List.setIfInBounds_toArray, List.set_cons_zero, List.set_cons_succ]
        refine wpAnyH_take (i := 3) (oi := _) (v := ?_) rfl (by kernel_rfl) (by kernel_rfl) (by kernel_rfl) (fun _ _ _ h => h) (Or.inl ⟨by rfl, ?_⟩) (by assumption) ?_
        rotate_left
        · intro w' hSw
          try dsimp only at hSw
          first
            | (go_simp; done)
            | (go_simp; with_reducible rfl)
        simp only [List.getElem_toArray, List.getElem_cons_zero, List.getElem_cons_succ]
        try simp only [Act.put, List.setIfInBounds_toArray, List.set_cons_zero, List.set_cons_succ]
        refine wpAnyH_take (i := 6) (oi := _) (v := ?_) rfl (by kernel_rfl) (by kernel_rfl) (by kernel_rfl) (fun _ _ _ h => h) (Or.inl ⟨by rfl, ?_⟩) (by assumption) ?_
        rotate_left
        · intro w' hSw
          try dsimp only at hSw
          first
            | (go_simp; done)
            | (go_simp; with_reducible rfl)
        simp only [List.getElem_toArray, List.getElem_cons_zero, List.getElem_cons_succ]
        try simp only [Act.put, List.setIfInBounds_toArray, List.set_cons_zero, List.set_cons_succ]
        refine wpAnyH_take (i := 7) (oi := _) (v := ?_) rfl (by kernel_rfl) (by kernel_rfl) (by kernel_rfl) (fun _ _ _ h => h) (Or.inl ⟨by rfl, ?_⟩) (by assumption) ?_
        rotate_left
        · intro w' hSw
          try dsimp only at hSw
          first
            | (go_simp; done)
            | (go_simp; with_reducible rfl)
        simp only [List.getElem_toArray, List.getElem_cons_zero, List.getElem_cons_succ]
        try simp only [Act.put, List.setIfInBounds_toArray, List.set_cons_zero, List.set_cons_succ]
        refine wpAnyH_take (i := 8) (oi := _) (v := ?_) rfl (by kernel_rfl) (by kernel_rfl) (by kernel_rfl) (fun _ _ _ h => h) (Or.inl ⟨by rfl, ?_⟩) (by assumption) ?_
        rotate_left
        · intro w' hSw
          try dsimp only at hSw
          first
            | (go_simp; done)
            | (go_simp; with_reducible rfl)
        simp only [List.getElem_toArray, List.getElem_cons_zero, List.getElem_cons_succ]
        try simp only [Act.put, List.setIfInBounds_toArray, List.set_cons_zero, List.set_cons_succ]
        refine wpAnyH_take (i := 9) (oi := _) (v := ?_) rfl (by kernel_rfl) (by kernel_rfl) (by kernel_rfl) (fun _ _ _ h => h) (Or.inl ⟨by rfl, ?_⟩) (by assumption) ?_
        rotate_left
        · intro w' hSw
          try dsimp only at hSw
          first
            | (go_simp; done)
            | (go_simp; with_reducible rfl)
        simp only [List.getElem_toArray, List.getElem_cons_zero, List.getElem_cons_succ]
        try simp only [Act.put, List.setIfInBounds_toArray, List.set_cons_zero, List.set_cons_succ]
        refine wpAnyH_ready (rs := [4]) (by kernel_rfl) (by simp) ?_
        refine AllReadyH.cons rfl (fun K hK => ?_) AllReadyH.nil
        simp only [List.getElem_toArray, List.getElem_cons_zero, List.getElem_cons_succ]
        go_simp
        have hxa := (Ext.refl wc).alloc (.cells #[.slice Av l[k].know.vec.length cv] 41)
        obtain ⟨wn, hwn⟩ : ∃ wn, wn = wc.alloc (.cells #[.slice Av l[k].know.vec.length cv] 41) := ⟨_, rfl⟩
        rw [← hwn] at hxa
        replace hcy := hcy.trans (Chg.of_ext (B := B) (ts := [41]) hxa)
        have hL4 : SlVecs B wn (some ⟨wc.heap.size, 0, none⟩) [l[k].know.vec] := Sl.one (cs := [.slice Av l[k].know.vec.length cv]) hwn rfl ⟨_, rfl, Av, cv, rfl, HP.out.lcv.1, HP.out.lcv.2, HPv.out _ hcy⟩
        obtain ⟨a4, ha4⟩ : ∃ a, a = some (⟨wc.heap.size, 0, none⟩ : Addr) := ⟨_, rfl⟩
        rw [← hwn, ← ha4]
        rw [← ha4] at hL4
        replace hov := hov.ext RVec.monoE hxa
        replace hod := hod.ext (RPair.mono (B := 0)) hxa
        replace henv := henv.ext hxa
        clear hxa hwn ha4
        obtain ⟨wc, rfl⟩ : ∃ wc', wc' = wn := ⟨_, rfl⟩
        refine hK.out _ _ (HAll.out _ hcy) (fun hHeld => ?_)
        clear hK K
        try simp only [Act.put, List.setIfInBounds_toArray, List.set_cons_zero, List.set_cons_succ]
        refine wpAnyH_ready (rs := [5]) (by kernel_rfl) (by simp) ?_
        refine AllReadyH.cons rfl (fun K hK => ?_) AllReadyH.nil
        simp only [List.getElem_toArray, List.getElem_cons_zero, List.getElem_cons_succ]
        simp only [Region.wanted, if_true]
        refine wp_app (.tmp 19) (.tmp 23) rfl ei_vec rfl hov (B := B) hB henv.x.size (ys := [l[k].know.vec]) (c := 1) rfl hL4 RVec.oneC (RVec.mono (by decide)) (by have := HLv.out; simp [maxLen]; omega) (by have := HLv.out; simp; omega) ?_
        intro v5 wn hov5 hch hbl _
        replace hod := hod.chgT (B := B) RPair.mono (by decide) hch
        replace henv := henv.app hch hbl (by decide) (by decide)
        replace hcy := hcy.trans hch
        clear hch hbl hov hL4
        obtain ⟨wc, rfl⟩ : ∃ wc', wc' = wn := ⟨_, rfl⟩
        refine hK.out _ _ (HAll.out _ hcy) (fun hHeld => ?_)
        clear hK K
        try simp only [Act.put, List.setIfInBounds_toArray, List.set_cons_zero, List.set_cons_succ]
        refine wpAnyH_ready (rs := [10]) (by kernel_rfl) (by simp) ?_
        refine AllReadyH.cons rfl (fun K hK => ?_) AllReadyH.nil
        simp only [List.getElem_toArray, List.getElem_cons_zero, List.getElem_cons_succ]
        simp only [Region.wanted, if_true]
        refine wp_app (.tmp 25) (.tmp 28) rfl ei_dot rfl hod (B := B) hB henv.x.size (ys := l[k].know.more) (c := cm) rfl (HPm.out _ hcy) RPair.oneC RPair.mono (by have := HLd.out; unfold maxLen; omega) (by have := HLd.out; omega) ?_
        intro v10 wn hod10 hch hbl _
        replace hov5 := hov5.chgT (B := B) (RVec.mono (by decide)) (by decide) hch
        replace henv := henv.app hch hbl (by decide) (by decide)
        have hne : r < B ∨ ∀ t ∈ [38], tyAt wc r ≠ some t := .inr fun t ht => by rw [HT.out wc hcy, List.mem_singleton.1 ht]; decide
        have hq := HAll.out wc hcy
        refine hK.out _ _ ⟨hch.cell hne hq.1, hch.cell hne hq.2.1, hch.cell hne hq.2.2⟩ (fun hHeld => ?_)
        clear hch hbl hne hq hod hcy
        clear hK K
        try simp only [Act.put, List.setIfInBounds_toArray, List.set_cons_zero, List.set_cons_succ]
        refine wpAnyH_take (i := 11) (oi := _) (v := ?_) rfl (by kernel_rfl) (by kernel_rfl) (by kernel_rfl) (fun _ _ _ h => h) (Or.inl ⟨by rfl, ?_⟩) (by assumption) ?_
        rotate_left
        · intro w' hSw
          try dsimp only at hSw
          first
            | (go_simp; done)
            | (go_simp; with_reducible rfl)
        simp only [List.getElem_toArray, List.getElem_cons_zero, List.getElem_cons_succ]
        try simp only [Act.put, List.setIfInBounds_toArray, List.set_cons_zero, List.set_cons_succ]
        refine wpAnyH_take (i := 12) (oi := _) (v := ?_) rfl (by kernel_rfl) (by kernel_rfl) (by kernel_rfl) (fun _ _ _ h => h) (Or.inl ⟨by rfl, ?_⟩) (by assumption) ?_
        rotate_left
        · intro w' hSw
          try dsimp only at hSw
          first
            | (go_simp; done)
            | (go_simp; with_reducible rfl)
        simp only [List.getElem_toArray, List.getElem_cons_zero, List.getElem_cons_succ]
        try simp only [Act.put, List.setIfInBounds_toArray, List.set_cons_zero, List.set_cons_succ]
        refine wpAnyH_done (by kernel_rfl) ?_ _
        go_wp2_with fail
        go_roundw
        case rel =>
          refine ⟨k + 1, hlt, by go_num, henv, ?_, ?_⟩
          · rw [HSv.out]; exact hov5
          · rw [HSd.out]; exact hod10
        case measure => simp [intOf]; omega
    · obtain rfl : k = l.length := by omega
      rw [List.take_length] at hov hod
      have HV := hid (atVecs_ok HOK.out p)
      have HD := hid (atDots_ok HOK.out p)
      have HLv := hid (show (atVecs l p).length ≤ 40 by have := atL_len l p l.length; rw [List.take_length] at this; unfold atVecs; rw [List.length_map]; omega)
      have HLd := hid (show (atDots l p).length ≤ 5000 by have := atDots_len l p (fun x hx => (HOK.out x hx).k) l.length; rw [List.take_length] at this; omega)
      obtain ⟨A5, c5, rfl, _, _⟩ := hov.len
      obtain ⟨A6, c6, rfl, _, _⟩ := hod.len
      have HE := hid (show atK l p = formOf (setOf (atVecs l p) (atDots l p)) from rfl)
      go_wp2_with fail
      refine (know_Made B A5 c5 (atVecs l p) A6 c6 (atDots l p) wr (Nat.le_trans hB henv.x.size) (hov.sl B) (by have := HLv.out; omega) (fun x hx => (HV.out x hx).1) (fun x hx => (HV.out x hx).2) (hod.sl B) (by have := HLd.out; omega) HD.out).mono ?_
      rintro e w2 ⟨v, rfl, hk, hx2⟩
      rw [← HE.out] at hk
      replace henv := henv.ext hx2
      clear hov hod hx2
      have hk0 := henv.k0
      have hk1 := henv.k1
      have hf0 := henv.f 0
      have hf1 := henv.f 1
      have HENV := hid henv
      clear henv
      obtain ⟨Av, cv, Am, cm, rfl, b1, b2, b3, b4, hin⟩ := hk
      go_wp2_with fail
      have t0 := HENV.out.tk
      have hyk := hin.chg (((Chg.refl (ts := [44]) w2).setCell (p := ⟨w.heap.size + 1, 0, none⟩) t0 (by simp) (.slice Av (atK l p).vec.length cv) (Nat.zero_le _)).setCell (p := ⟨w.heap.size + 1, 1, none⟩) (tyAt_put t0) (by simp) (.slice Am (atK l p).more.length cm) (Nat.zero_le _)) (by decide) (by decide)
      refine bodyPost_ret (v := .agg #[.slice Av (atK l p).vec.length cv, .slice Am (atK l p).more.length cm]) ?_ rfl ⟨_, rfl, ⟨Av, cv, Am, cm, rfl, b1, b2, b3, b4, hyk⟩, ?_⟩
      · refine res_at (b := w.heap.size + 1) rfl ?_ ?_ rfl <;> go_simp
      · exact (HENV.out.x.setCell (by dsimp only; omega) _).setCell (by dsimp only; omega) _

end Go.Proofs.Ytmedmfjhpabfdaa
