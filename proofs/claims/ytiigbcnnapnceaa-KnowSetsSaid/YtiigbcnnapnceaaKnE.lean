/- The walk of know.Meet. -/
import Derived.Test.YtiigbcnnapnceaaKnJ
import Derived.Test.YtiigbcnnapnceaaApp2
import Derived.Test.YtiigbcnnapnceaaKnowQ
import Derived.Test.YtiigbcnnapnceaaKnF
namespace Go.Proofs.Ytiigbcnnapnceaa
open Go Go.RowKit

/-- what is of both sets among the first i of some dots, at one site. -/
def meetTo (k l : Know) (L : List Dot) (j i : Nat) : List Dot := (L.take i).filter fun d => decide (d.site = (j : Int)) && (inK k d && inK l d)
def meetD (k l : Know) (L : List Dot) (j : Nat) : List Dot := (List.range j).flatMap fun s => meetTo k l L s L.length
theorem meetTo_len (k l : Know) (L : List Dot) (j i : Nat) : (meetTo k l L j i).length ≤ L.length := by
  unfold meetTo
  refine Nat.le_trans (List.length_filter_le _ _) ?_
  rw [List.length_take]; omega
theorem meetTo_zero (k l : Know) (L : List Dot) (j : Nat) : meetTo k l L j 0 = [] := by simp [meetTo]
theorem meetTo_succ (k l : Know) (L : List Dot) (j i : Nat) (hi : i < L.length) (d : Dot) (hd : L[i] = d) : meetTo k l L j (i + 1) = meetTo k l L j i ++ [d].filter fun d => decide (d.site = (j : Int)) && (inK k d && inK l d) := by
  unfold meetTo
  rw [← List.take_append_getElem hi, List.filter_append, hd]
theorem meetTo_yes (k l : Know) (L : List Dot) (j i : Nat) (hi : i < L.length) (d : Dot) (hd : L[i] = d) (h : (decide (d.site = (j : Int)) && (inK k d && inK l d)) = true) : meetTo k l L j (i + 1) = meetTo k l L j i ++ [d] := by
  rw [meetTo_succ k l L j i hi d hd]
  simp only [List.filter_cons, List.filter_nil, h, if_true]
theorem meetTo_no (k l : Know) (L : List Dot) (j i : Nat) (hi : i < L.length) (d : Dot) (hd : L[i] = d) (h : (decide (d.site = (j : Int)) && (inK k d && inK l d)) = false) : meetTo k l L j (i + 1) = meetTo k l L j i := by
  rw [meetTo_succ k l L j i hi d hd]
  simp [h]
theorem meetD_succ (k l : Know) (L : List Dot) (j : Nat) : meetD k l L (j + 1) = meetD k l L j ++ meetTo k l L j L.length := by simp [meetD, List.range_succ]
theorem meetD_len (k l : Know) (L : List Dot) : ∀ j, (meetD k l L j).length ≤ j * L.length
  | 0 => by simp [meetD]
  | j + 1 => by
    rw [meetD_succ, List.length_append, Nat.succ_mul]
    have h1 := meetD_len k l L j
    have h2 := meetTo_len k l L j L.length
    omega
theorem mem_meetD (k l : Know) (L : List Dot) (j : Nat) (d : Dot) : d ∈ meetD k l L j ↔ d ∈ L ∧ (∃ s : Nat, s < j ∧ d.site = (s : Int)) ∧ inK k d = true ∧ inK l d = true := by
  simp only [meetD, meetTo, List.mem_flatMap, List.mem_range, List.take_length, List.mem_filter, Bool.and_eq_true, decide_eq_true_eq]
  constructor
  · rintro ⟨s, h1, h2, h3, h4, h5⟩
    exact ⟨h2, ⟨s, h1, h3⟩, h4, h5⟩
  · rintro ⟨h2, ⟨s, h1, h3⟩, h4, h5⟩
    exact ⟨s, h1, h2, h3, h4, h5⟩
/-- the lesser entries of two vectors, the first j. -/
def MinOk (k l : Know) (j : Nat) (u : List Int) : Prop := u.length = 5 ∧ ∀ s : Nat, s < 5 → vecAt u s = if s < j then min (vecAt k.vec s) (vecAt l.vec s) else 0
theorem MinOk.start (k l : Know) : MinOk k l 0 [0, 0, 0, 0, 0] := by
  refine ⟨rfl, fun s hs => ?_⟩
  rw [if_neg (by omega)]
  match s, hs with
  | 0, _ => rfl
  | 1, _ => rfl
  | 2, _ => rfl
  | 3, _ => rfl
  | 4, _ => rfl
theorem MinOk.step {k l : Know} {j : Nat} {u : List Int} (h : MinOk k l j u) (hj : j < 5) : MinOk k l (j + 1) (u.set j (min (vecAt k.vec j) (vecAt l.vec j))) := by
  refine ⟨by simp [h.1], fun s hs => ?_⟩
  have e1 := vecAt_set u j s (min (vecAt k.vec j) (vecAt l.vec j)) (by omega) (by omega) (by simp [h.1]; omega)
  rw [Int.toNat_natCast] at e1
  rw [e1]
  by_cases e : s = j
  · subst e
    rw [if_pos rfl, if_pos (by omega)]
  · rw [if_neg (by omega), h.2 s hs]
    by_cases g : s < j
    · rw [if_pos g, if_pos (by omega)]
    · rw [if_neg g, if_neg (by omega)]
theorem meet_form (k l : Know) (hk : KnowOk k) (hl : KnowOk l) {u : List Int} (hu : MinOk k l 5 u) : formOf (setOf [u] (meetD k l [k.more, l.more].flatten 5)) = formOf (andD (hasK k) (hasK l)) := by
  apply formOf_congr
  intro s hs c hc1 hc2
  have h1 : maxAt [u] s = max 0 (vecAt u s) := rfl
  have h2 := hu.2 s hs
  rw [if_pos hs] at h2
  have hka := vecAt_bd hk.vec s
  have hlb := vecAt_bd hl.vec s
  rw [Bool.eq_iff_iff]
  simp only [setOf, andD, hasK, Bool.or_eq_true, Bool.and_eq_true, decide_eq_true_eq, List.contains_iff_mem, mem_meetD, inK]
  have hL : (⟨(s : Int), (c : Int)⟩ : Dot) ∈ [k.more, l.more].flatten ↔ (⟨(s : Int), (c : Int)⟩ : Dot) ∈ k.more ∨ (⟨(s : Int), (c : Int)⟩ : Dot) ∈ l.more := by simp
  rw [hL]
  have hS : (∃ t : Nat, t < 5 ∧ ((s : Int) = (t : Int))) := ⟨s, hs, rfl⟩
  simp only [hS, true_and]
  by_cases m1 : (⟨(s : Int), (c : Int)⟩ : Dot) ∈ k.more <;> by_cases m2 : (⟨(s : Int), (c : Int)⟩ : Dot) ∈ l.more <;> simp only [m1, m2, or_true, or_false, true_and, false_and, and_true] <;> omega
theorem MinOk.bound {k l : Know} {u : List Int} (hk : KnowOk k) (hl : KnowOk l) (hu : MinOk k l 5 u) : ∀ n ∈ u, 0 ≤ n ∧ n ≤ 1000 := by
  intro n hn
  obtain ⟨i, hi, rfl⟩ := List.getElem_of_mem hn
  have h := hu.2 i (by have := hu.1; omega)
  rw [if_pos (by have := hu.1; omega), vecAt_in hi] at h
  have hka := vecAt_bd hk.vec i
  have hlb := vecAt_bd hl.vec i
  omega

/-- where Meet stands: its two copies, its result, the vector and the dots that it builds. -/
structure MeetEnv (w wr : World) (va0 va1 vb0 vb1 : Value) (g : Nat) (u : List Int) (vd : Value) (dl : List Dot) : Prop where
  a0 : wr.cell? ⟨w.heap.size, 0, none⟩ = some va0
  a1 : wr.cell? ⟨w.heap.size, 1, none⟩ = some va1
  b0 : wr.cell? ⟨w.heap.size + 1, 0, none⟩ = some vb0
  b1 : wr.cell? ⟨w.heap.size + 1, 1, none⟩ = some vb1
  r0 : wr.cell? ⟨w.heap.size + 2, 0, none⟩ = some (.slice none 0 0)
  r1 : wr.cell? ⟨w.heap.size + 2, 1, none⟩ = some (.slice none 0 0)
  y0 : wr.frozen? ⟨w.heap.size + 2, 0, none⟩ = false
  y1 : wr.frozen? ⟨w.heap.size + 2, 1, none⟩ = false
  ty : tyAt wr (w.heap.size + 2) = some 72
  row : Blk wr g 3 (rowI u)
  own : Own RDot 2 74 wr (w.heap.size + 3) vd dl
  x : Ext w wr
  hg : w.heap.size + 2 < g
theorem MeetEnv.lt {w wr : World} {va0 va1 vb0 vb1 : Value} {g : Nat} {u : List Int} {vd : Value} {dl : List Dot} (h : MeetEnv w wr va0 va1 vb0 vb1 g u vd dl) : w.heap.size + 2 < wr.heap.size := World.block_lt_of_cell? _ _ h.r0
theorem MeetEnv.ext {w wr w' : World} {va0 va1 vb0 vb1 : Value} {g : Nat} {u : List Int} {vd : Value} {dl : List Dot} (h : MeetEnv w wr va0 va1 vb0 vb1 g u vd dl) (x : Ext wr w') : MeetEnv w w' va0 va1 vb0 vb1 g u vd dl :=
  ⟨x.cell h.a0, x.cell h.a1, x.cell h.b0, x.cell h.b1, x.cell h.r0, x.cell h.r1, (x.frozenAt h.lt).trans h.y0, (x.frozenAt h.lt).trans h.y1, (tyAt_of (x.blockAt h.lt)).trans h.ty, h.row.ext x, h.own.ext (B := 0) RPair.mono x, h.x.trans x, h.hg⟩
theorem MeetEnv.setRow {w wr : World} {va0 va1 vb0 vb1 : Value} {g : Nat} {u : List Int} {vd : Value} {dl : List Dot} (h : MeetEnv w wr va0 va1 vb0 vb1 g u vd dl) (i : Nat) (n : Int) : MeetEnv w (wr.setCell ⟨g, i, none⟩ (.int .i64 n)) va0 va1 vb0 vb1 g (u.set i n) vd dl := by
  have hg := h.hg
  exact ⟨cell_ne (by omega) h.a0, cell_ne (by omega) h.a1, cell_ne (by omega) h.b0, cell_ne (by omega) h.b1, cell_ne (by omega) h.r0, cell_ne (by omega) h.r1, (World.frozen?_setCell ..).trans h.y0, (World.frozen?_setCell ..).trans h.y1,
    (tyAt_of (Below.heap_setCell wr ⟨g, i, none⟩ _ _ (by show w.heap.size + 2 ≠ g; omega))).trans h.ty, set_rowI h.row i n,
    h.own.chgT (B := 0) (ts := [3]) RPair.mono (by decide) ((Chg.refl wr).setCell (p := ⟨g, i, none⟩) h.row.ty (by simp) _ (Nat.zero_le _)), h.x.setCell (by show w.heap.size ≤ g; omega) _, h.hg⟩
theorem MeetEnv.app {w w1 w2 : World} {va0 va1 vb0 vb1 : Value} {g B : Nat} {u : List Int} {vd vd' : Value} {dl dl' : List Dot} (h : MeetEnv w w1 va0 va1 vb0 vb1 g u vd dl) (b : Below (w.heap.size + 3) w1 w2) (c : Chg B [74] w1 w2) (ho : Own RDot 2 74 w2 (w.heap.size + 3) vd' dl') : MeetEnv w w2 va0 va1 vb0 vb1 g u vd' dl' :=
  ⟨(Below.cell b (by show w.heap.size < _; omega)).trans h.a0, (Below.cell b (by show w.heap.size < _; omega)).trans h.a1, (Below.cell b (by show w.heap.size + 1 < _; omega)).trans h.b0, (Below.cell b (by show w.heap.size + 1 < _; omega)).trans h.b1, (Below.cell b (by show w.heap.size + 2 < _; omega)).trans h.r0, (Below.cell b (by show w.heap.size + 2 < _; omega)).trans h.r1,
    (Below.frozen b (by show w.heap.size + 2 < _; omega)).trans h.y0, (Below.frozen b (by show w.heap.size + 2 < _; omega)).trans h.y1, (tyAt_of (Below.block b _ (by omega))).trans h.ty, h.row.chg c (by decide), ho, h.x.below b (by omega), h.hg⟩
/-- the row vc lies in another block than the row vd. -/
def Apart (vc vd : Value) : Prop := ∀ q, vc.ownBlock = some q → vd.ownBlock ≠ some q

theorem apart_of {α β : Type} {R : World → List Value → α → Prop} {R' : World → List Value → β → Prop} {sz sz' : Nat} {e e' : TypeId} {w w' : World} {base base' : Nat} {vc vd : Value} {l : List α} {m : List β} (hc : Own R sz e w' base vc l) (hd : Own R' sz' e' w base' vd m) (h : w.heap.size ≤ base) : Apart vc vd := by
  intro q hq hv
  have h1 := (hc.lt hq).1
  have h2 := (hd.lt hv).2
  omega

theorem res_meet {w : World} {v : Value} {b : Nat} {x y : Value} {tmps : Array Value} (h4 : tmps.getD 4 undef = .pointer (some ⟨b, 0, none⟩)) (h5 : tmps.getD 5 undef = v) (c1 : w.cell? ⟨b, 0, none⟩ = some x) (c2 : w.cell? ⟨b, 1, none⟩ = some y) :
    (results Try.f60 tmps).run Try.prog w = .ok (.tuple #[.agg #[x, y], v]) w := by
  have h4' : tmps[4]?.getD undef = .pointer (some ⟨b, 0, none⟩) := by simpa using h4
  have h5' : tmps[5]?.getD undef = v := by simpa using h5
  simp [results, Try.results60, go_sem, h4', h5', c1, c2]

set_option maxRecDepth 100000 in
set_option maxHeartbeats 8000000 in
theorem know_Meet (B : Nat) (va vb : Value) (k l : Know) (w : World) (ha : IsK B w va k) (hb : IsK B w vb l) :
    Calls Try.prog 60 #[va, vb] w fun e w' => ∃ x, e = .returned (.tuple #[x, .int .i64 (if twoErr k l = 0 then toldErr (formOf (andD (hasK k) (hasK l))) else twoErr k l)]) ∧ IsK 0 w' x (if twoErr k l = 0 then toldKn (formOf (andD (hasK k) (hasK l))) else ⟨[], []⟩) ∧ Ext w w' := by
  obtain ⟨Av, cv, Am, cm, rfl, ha1, ha2, ha3, ha4, h⟩ := ha
  obtain ⟨Bv, dv, Bm, dm, rfl, hb1, hb2, hb3, hb4, g⟩ := hb
  replace h := h.top
  have gg := g.top
  clear g
  have hx := (((Ext.refl w).alloc (.cells #[.slice Av k.vec.length cv, .slice Am k.more.length cm] 72)).alloc (.cells #[.slice Bv l.vec.length dv, .slice Bm l.more.length dm] 72)).alloc (.cells #[.slice none 0 0, .slice none 0 0] 72)
  have HKO := hid (two_ok (k := k) (l := l))
  obtain ⟨RE, hRE⟩ : ∃ E, E = (if twoErr k l = 0 then toldErr (formOf (andD (hasK k) (hasK l))) else twoErr k l) := ⟨_, rfl⟩
  obtain ⟨RK, hRK⟩ : ∃ K, K = (if twoErr k l = 0 then toldKn (formOf (andD (hasK k) (hasK l))) else ⟨[], []⟩) := ⟨_, rfl⟩
  rw [← hRE, ← hRK]
  have HE := hid hRE
  have HA := hid hRK
  clear hRE hRK
  go_enter Try.func60, Try.ntmps60
  go_wp2_with fail
  refine (know_two w.heap.size k l Av cv Am cm Bv dv Bm dm _ (h.ext hx) (gg.ext hx)).mono ?_
  rintro e w1 ⟨rfl, hx1⟩
  have q0 : w1.cell? ⟨w.heap.size, 0, none⟩ = some (.slice Av k.vec.length cv) := hx1.cell (by go_simp)
  have q1 : w1.cell? ⟨w.heap.size, 1, none⟩ = some (.slice Am k.more.length cm) := hx1.cell (by go_simp)
  have d0 : w1.cell? ⟨w.heap.size + 1, 0, none⟩ = some (.slice Bv l.vec.length dv) := hx1.cell (by go_simp)
  have d1 : w1.cell? ⟨w.heap.size + 1, 1, none⟩ = some (.slice Bm l.more.length dm) := hx1.cell (by go_simp)
  have r0 : w1.cell? ⟨w.heap.size + 2, 0, none⟩ = some (.slice none 0 0) := hx1.cell (by go_simp)
  have r1 : w1.cell? ⟨w.heap.size + 2, 1, none⟩ = some (.slice none 0 0) := hx1.cell (by go_simp)
  have f0 : w1.frozen? ⟨w.heap.size + 2, 0, none⟩ = false := (hx1.frozenAt (by simp)).trans (by go_simp)
  have f1 : w1.frozen? ⟨w.heap.size + 2, 1, none⟩ = false := (hx1.frozenAt (by simp)).trans (by go_simp)
  have t0 : tyAt w1 (w.heap.size + 2) = some 72 := by
    rw [tyAt_of (hx1.blockAt (by simp))]
    have := heap_alloc_new ((w.alloc (.cells #[.slice Av k.vec.length cv, .slice Am k.more.length cm] 72)).alloc (.cells #[.slice Bv l.vec.length dv, .slice Bm l.more.length dm] 72)) (.cells #[.slice none 0 0, .slice none 0 0] 72)
    rw [World.size_alloc, World.size_alloc] at this
    unfold tyAt
    rw [this]
  have hz : w.heap.size + 2 < w1.heap.size := World.block_lt_of_cell? _ _ r0
  have HX2 := hid (hx.trans hx1)
  clear hx hx1
  generalize hkc : twoErr k l = c at HE HA HKO ⊢
  clear hkc
  by_cases h0 : c = 0
  · subst h0
    have HK := hid (HKO.out rfl).1
    have HL := hid (HKO.out rfl).2
    have HE' := hid (show RE = toldErr (formOf (andD (hasK k) (hasK l))) by rw [HE.out]; rfl)
    have HA' := hid (show RK = toldKn (formOf (andD (hasK k) (hasK l))) by rw [HA.out]; rfl)
    clear HE HA HKO
    have HQ := hid (show w1.cell? ⟨w.heap.size, 0, none⟩ = some (.slice Av k.vec.length cv) ∧ w1.cell? ⟨w.heap.size, 1, none⟩ = some (.slice Am k.more.length cm) ∧ w1.cell? ⟨w.heap.size + 1, 0, none⟩ = some (.slice Bv l.vec.length dv) ∧ w1.cell? ⟨w.heap.size + 1, 1, none⟩ = some (.slice Bm l.more.length dm) ∧ w1.cell? ⟨w.heap.size + 2, 0, none⟩ = some (.slice none 0 0) ∧ w1.cell? ⟨w.heap.size + 2, 1, none⟩ = some (.slice none 0 0) ∧ w1.frozen? ⟨w.heap.size + 2, 0, none⟩ = false ∧ w1.frozen? ⟨w.heap.size + 2, 1, none⟩ = false ∧ tyAt w1 (w.heap.size + 2) = some 72 from ⟨q0, q1, d0, d1, r0, r1, f0, f1, t0⟩)
    clear q0 q1 d0 d1 r0 r1 f0 f1 t0
    go_wp2_with ((with_reducible refine at_op (some 19) (.makeSlice _ _ _) ?_); refine wpList_makeArr ei_int z_int rfl _ _ rfl rfl 5 rfl rfl (by omega) (by unfold maxLen; omega) ?_; intro g w3 hbi hx3 hb3 hs3)
    rw [rowI_zero] at hb3
    have henv : MeetEnv w w3 (.slice Av k.vec.length cv) (.slice Am k.more.length cm) (.slice Bv l.vec.length dv) (.slice Bm l.more.length dm) g [0, 0, 0, 0, 0] (.slice none 0 0) (meetD k l [k.more, l.more].flatten 0) := by
      obtain ⟨q0, q1, d0, d1, r0, r1, f0, f1, t0⟩ := HQ.out
      exact ⟨hx3.cell q0, hx3.cell q1, hx3.cell d0, hx3.cell d1, hx3.cell r0, hx3.cell r1, (hx3.frozenAt hz).trans f0, (hx3.frozenAt hz).trans f1, (tyAt_of (hx3.blockAt hz)).trans t0, hb3, Own.nil, HX2.out.trans hx3, by rw [← hbi]; exact hz⟩
    clear hbi hx3 hb3 hs3 hz HQ HX2
    go_loopw [22, 8] (fun i vd wr => ∃ j : Nat, j ≤ 5 ∧ i = .int .i64 j ∧ ∃ u, MinOk k l j u ∧ MeetEnv w wr (.slice Av k.vec.length cv) (.slice Am k.more.length cm) (.slice Bv l.vec.length dv) (.slice Bm l.more.length dm) g u vd (meetD k l [k.more, l.more].flatten j)) (fun i _ _ => 5 - (intOf i).toNat)
    case atStart => exact ⟨0, Nat.zero_le _, rfl, _, MinOk.start k l, henv⟩
    case round =>
      clear henv
      obtain ⟨j, hj, rfl, u, hu, henv⟩ := hrel
      by_cases hlt : j < 5
      · have j0 : (0 : Int) ≤ j := by omega
        have j5 : (j : Int) < 5 := by omega
        have HJ := hid hlt
        have HU := hid hu
        obtain ⟨x1, hx1⟩ : ∃ x, x = vecAt k.vec j := ⟨_, rfl⟩
        obtain ⟨x2, hx2⟩ : ∃ x, x = vecAt l.vec j := ⟨_, rfl⟩
        have hck := cell_rowI henv.row (show j < u.length by rw [hu.1]; exact hlt)
        have hz := henv.row.frozen j
        have hbw := henv.row.lt
        generalize u[j]'(by rw [hu.1]; exact hlt) = uj at hck
        have HX1 := hid hx1
        have HX2 := hid hx2
        have HVA := hid (fun w' (x : Ext wr w') => show Calls Try.prog 89 #[.agg #[.slice Av k.vec.length cv, .slice Am k.more.length cm], .int .i64 (j : Int)] w' fun e w2 => e = .returned (.int .i64 x1) ∧ Ext w' w2 by rw [hx1]; exact know_vec w.heap.size k Av cv Am cm j w' (h.ext (henv.x.trans x)))
        have HVB := hid (fun w' (x : Ext wr w') => show Calls Try.prog 89 #[.agg #[.slice Bv l.vec.length dv, .slice Bm l.more.length dm], .int .i64 (j : Int)] w' fun e w2 => e = .returned (.int .i64 x2) ∧ Ext w' w2 by rw [hx2]; exact know_vec w.heap.size l Bv dv Bm dm j w' (gg.ext (henv.x.trans x)))
        have HEnv := hid henv
        have HCK := hid (fun w' (x : Ext wr w') => show w'.cell? ⟨g, j, none⟩ = some (.int .i64 uj) ∧ w'.frozen? ⟨g, j, none⟩ = false from ⟨x.cell hck, (x.frozenAt hbw).trans hz⟩)
        clear hx1 hx2 hu hj hlt hck hz hbw
        go_upto_region 9 with fail
        obtain ⟨wc, hwc⟩ : ∃ wc, wc = wr.drew := ⟨_, rfl⟩
        have hyn : Ext wr wc := by rw [hwc]; exact (Ext.refl _).drew
        have HS := hid (fun w' (x : Ext wr w') => show w'.cell? ⟨w.heap.size, 0, none⟩ = some (.slice Av k.vec.length cv) ∧ w'.cell? ⟨w.heap.size, 1, none⟩ = some (.slice Am k.more.length cm) ∧ w'.cell? ⟨w.heap.size + 1, 0, none⟩ = some (.slice Bv l.vec.length dv) ∧ w'.cell? ⟨w.heap.size + 1, 1, none⟩ = some (.slice Bm l.more.length dm) from ⟨(HEnv.out.ext x).a0, (HEnv.out.ext x).a1, (HEnv.out.ext x).b0, (HEnv.out.ext x).b1⟩)
        refine wp_region_held_drew (S := fun w' => w'.cell? ⟨w.heap.size, 0, none⟩ = some (.slice Av k.vec.length cv) ∧ w'.cell? ⟨w.heap.size, 1, none⟩ = some (.slice Am k.more.length cm) ∧ w'.cell? ⟨w.heap.size + 1, 0, none⟩ = some (.slice Bv l.vec.length dv) ∧ w'.cell? ⟨w.heap.size + 1, 1, none⟩ = some (.slice Bm l.more.length dm)) (by kernel_rfl) (by rw [← hwc]; exact HS.out _ hyn) (fun hHeld => ?_)
        rw [← hwc] at hHeld ⊢
        clear hwc henv
        refine wpAnyH_take (i := 0) (oi := _) (v := ?_) rfl (by kernel_rfl) (by kernel_rfl) (by kernel_rfl) (fun _ _ _ h => h) (Or.inl ⟨by rfl, ?_⟩) (by assumption) ?_
        rotate_left
        · intro w' hSw
          try dsimp only at hSw
          first
            | (go_simp; done)
            | (go_simp; with_reducible rfl)
        simp only [List.getElem_toArray, List.getElem_cons_zero]
        try simp only [Act.put, List.setIfInBounds_toArray, List.set_cons_zero, List.set_cons_succ]
        refine wpAnyH_take (i := 1) (oi := _) (v := ?_) rfl (by kernel_rfl) (by kernel_rfl) (by kernel_rfl) (fun _ _ _ h => h) (Or.inl ⟨by rfl, ?_⟩) (by assumption) ?_
        rotate_left
        · intro w' hSw
          try dsimp only at hSw
          first
            | (go_simp; done)
            | (go_simp; with_reducible rfl)
        simp only [List.getElem_toArray, List.getElem_cons_zero, List.getElem_cons_succ]
        try simp only [Act.put, List.setIfInBounds_toArray, List.set_cons_zero, List.set_cons_succ]
        refine wpAnyH_take (i := 2) (oi := _) (v := ?_) rfl (by kernel_rfl) (by kernel_rfl) (by kernel_rfl) (fun _ _ _ h => h) (Or.inl ⟨by rfl, ?_⟩) (by assumption) ?_
        rotate_left
        · intro w' hSw
          try dsimp only at hSw
          first
            | (go_simp; done)
            | (go_simp; with_reducible rfl)
        simp only [List.getElem_toArray, List.getElem_cons_zero, List.getElem_cons_succ]
        try simp only [Act.put, List.setIfInBounds_toArray, List.set_cons_zero, List.set_cons_succ]
        refine wpAnyH_take (i := 3) (oi := _) (v := ?_) rfl (by kernel_rfl) (by kernel_rfl) (by kernel_rfl) (fun _ _ _ h => h) (Or.inl ⟨by rfl, ?_⟩) (by assumption) ?_
        rotate_left
        · intro w' hSw
          try dsimp only at hSw
          first
            | (go_simp; done)
            | (go_simp; with_reducible rfl)
        simp only [List.getElem_toArray, List.getElem_cons_zero, List.getElem_cons_succ]
        try simp only [Act.put, List.setIfInBounds_toArray, List.set_cons_zero, List.set_cons_succ]
        refine wpAnyH_take (i := 5) (oi := _) (v := ?_) rfl (by kernel_rfl) (by kernel_rfl) (by kernel_rfl) (fun _ _ _ h => h) (Or.inl ⟨by rfl, ?_⟩) (by assumption) ?_
        rotate_left
        · intro w' hSw
          try dsimp only at hSw
          first
            | (go_simp; done)
            | (go_simp; with_reducible rfl)
        simp only [List.getElem_toArray, List.getElem_cons_zero, List.getElem_cons_succ]
        try simp only [Act.put, List.setIfInBounds_toArray, List.set_cons_zero, List.set_cons_succ]
        refine wpAnyH_take (i := 6) (oi := _) (v := ?_) rfl (by kernel_rfl) (by kernel_rfl) (by kernel_rfl) (fun _ _ _ h => h) (Or.inl ⟨by rfl, ?_⟩) (by assumption) ?_
        rotate_left
        · intro w' hSw
          try dsimp only at hSw
          first
            | (go_simp; done)
            | (go_simp; with_reducible rfl)
        simp only [List.getElem_toArray, List.getElem_cons_zero, List.getElem_cons_succ]
        try simp only [Act.put, List.setIfInBounds_toArray, List.set_cons_zero, List.set_cons_succ]
        refine wpAnyH_ready (rs := [4]) (by kernel_rfl) (by simp) ?_
        refine AllReadyH.cons rfl (fun K hK => ?_) AllReadyH.nil
        simp only [List.getElem_toArray, List.getElem_cons_zero, List.getElem_cons_succ]
        go_simp
        refine (HVA.out _ hyn).mono ?_
        rintro e wn ⟨rfl, hxa⟩
        dsimp only
        replace hyn := hyn.trans hxa
        clear hxa
        obtain ⟨wc, rfl⟩ : ∃ wc', wc' = wn := ⟨_, rfl⟩
        refine hK.out _ _ (HS.out _ hyn) (fun hHeld => ?_)
        clear hK K
        try simp only [Act.put, List.setIfInBounds_toArray, List.set_cons_zero, List.set_cons_succ]
        refine wpAnyH_ready (rs := [7]) (by kernel_rfl) (by simp) ?_
        refine AllReadyH.cons rfl (fun K hK => ?_) AllReadyH.nil
        simp only [List.getElem_toArray, List.getElem_cons_zero, List.getElem_cons_succ]
        go_simp
        refine (HVB.out _ hyn).mono ?_
        rintro e wn ⟨rfl, hxa⟩
        dsimp only
        replace hyn := hyn.trans hxa
        clear hxa
        obtain ⟨wc, rfl⟩ : ∃ wc', wc' = wn := ⟨_, rfl⟩
        refine hK.out _ _ (HS.out _ hyn) (fun hHeld => ?_)
        clear hK K
        try simp only [Act.put, List.setIfInBounds_toArray, List.set_cons_zero, List.set_cons_succ]
        refine wpAnyH_take (i := 8) (oi := _) (v := ?_) rfl (by kernel_rfl) (by kernel_rfl) (by kernel_rfl) (fun _ _ _ h => h) (Or.inl ⟨by rfl, ?_⟩) (by assumption) ?_
        rotate_left
        · intro w' hSw
          try dsimp only at hSw
          first
            | (go_simp; done)
            | (go_simp; with_reducible rfl)
        simp only [List.getElem_toArray, List.getElem_cons_zero, List.getElem_cons_succ]
        try simp only [Act.put, List.setIfInBounds_toArray, List.set_cons_zero, List.set_cons_succ]
        refine wpAnyH_take (i := 9) (oi := _) (v := ?_) rfl (by kernel_rfl) (by kernel_rfl) (by kernel_rfl) (fun _ _ _ h => h) (Or.inl ⟨by rfl, ?_⟩) (by assumption) ?_
        rotate_left
        · intro w' hSw
          try dsimp only at hSw
          first
            | (go_simp; done)
            | (go_simp; with_reducible rfl)
        simp only [List.getElem_toArray, List.getElem_cons_zero, List.getElem_cons_succ]
        try simp only [Act.put, List.setIfInBounds_toArray, List.set_cons_zero, List.set_cons_succ]
        refine wpAnyH_ready (rs := [10]) (by kernel_rfl) (by simp) ?_
        refine AllReadyH.cons rfl (fun K hK => ?_) AllReadyH.nil
        simp only [List.getElem_toArray, List.getElem_cons_zero, List.getElem_cons_succ]
        obtain ⟨hck, hz⟩ := HCK.out _ hyn
        go_simp
        have henv := (HEnv.out.ext hyn).setRow j (min x1 x2)
        refine hK.out _ _ ⟨henv.a0, henv.a1, henv.b0, henv.b1⟩ (fun hHeld => ?_)
        clear hck hz
        clear hK K
        try simp only [Act.put, List.setIfInBounds_toArray, List.set_cons_zero, List.set_cons_succ]
        refine wpAnyH_done (by kernel_rfl) ?_ _
        obtain ⟨wz, hwz⟩ : ∃ wz, wz = wc.setCell ⟨g, j, none⟩ (.int .i64 (min x1 x2)) := ⟨_, rfl⟩
        rw [← hwz] at henv ⊢
        have HM := hid (show MinOk k l (j + 1) (u.set j (min x1 x2)) by rw [HX1.out, HX2.out]; exact HU.out.step HJ.out)
        generalize u.set j (min x1 x2) = u at *
        clear hwz hHeld hyn HVA HVB HEnv HCK HS HU HX1 HX2
        have a1 := henv.a1
        have b1 := henv.b1
        have hw2 := henv.lt
        have hw0 : w.heap.size < wz.heap.size := by omega
        have hw1 : w.heap.size + 1 < wz.heap.size := by omega
        go_wp2_with fail
        have hx4 := (Ext.refl wz).alloc (.cells #[.slice Am k.more.length cm, .slice Bm l.more.length dm] 70)
        have hl4 : SlDotss w.heap.size (wz.alloc (.cells #[.slice Am k.more.length cm, .slice Bm l.more.length dm] 70)) (some ⟨wz.heap.size, 0, none⟩) [k.more, l.more] := Sl.two rfl ⟨_, rfl, Am, cm, rfl, ha3, ha4, (h.ext (henv.x.trans hx4)).sm⟩ ⟨_, rfl, Bm, dm, rfl, hb3, hb4, (gg.ext (henv.x.trans hx4)).sm⟩
        replace henv := henv.ext hx4
        refine (concat_dots w.heap.size _ 2 [k.more, l.more] _ henv.x.size hl4 (by simp) (by have := HK.out.mlen; have := HL.out.mlen; simp; omega)).mono ?_
        rintro e w5 ⟨v5, rfl, hcat, hx5⟩
        obtain ⟨cb, hcb⟩ : ∃ cb, cb = (wz.alloc (.cells #[.slice Am k.more.length cm, .slice Bm l.more.length dm] 70)).heap.size := ⟨_, rfl⟩
        rw [← hcb] at hcat
        obtain ⟨L, hL⟩ : ∃ L, L = [k.more, l.more].flatten := ⟨_, rfl⟩
        rw [← hL] at hcat
        have HLL := hid hL
        have HLen := hid (show L.length ≤ 120 by rw [hL]; have := HK.out.mlen; have := HL.out.mlen; simp; omega)
        have HOk := hid (fun d (hd : d ∈ L) => (show dotOk d = true by rw [hL] at hd; simp at hd; rcases hd with hd | hd; exact (HK.out.more d hd).1; exact (HL.out.more d hd).1))
        obtain ⟨Ac, cc, rfl, _, _⟩ := hcat.len
        have hap := apart_of hcat henv.own (Nat.le_of_eq hcb.symm)
        have hLl : (L.length : Int) ≤ 120 := by have := HLen.out; omega
        replace henv := henv.ext hx5
        clear hx4 hl4 hx5 a1 b1 hw0 hw1 hw2 hcb hL
        go_wp2_with fail
        obtain ⟨wo, rfl⟩ : ∃ wo, wo = w5 := ⟨_, rfl⟩
        go_loopw [42, 8] (fun i vd wr => ∃ i' : Nat, i' ≤ L.length ∧ i = .int .i64 i' ∧ MeetEnv w wr (.slice Av k.vec.length cv) (.slice Am k.more.length cm) (.slice Bv l.vec.length dv) (.slice Bm l.more.length dm) g u vd (meetD k l [k.more, l.more].flatten j ++ meetTo k l L j i') ∧ Own RDot 2 74 wr cb (.slice Ac L.length cc) L ∧ Apart (.slice Ac L.length cc) vd) (fun i _ _ => L.length - (intOf i).toNat)
        case atStart => exact ⟨0, Nat.zero_le _, rfl, by rw [meetTo_zero, List.append_nil]; exact henv, hcat, hap⟩
        case round =>
          clear henv hcat hap
          obtain ⟨i, hi, rfl, henv, hcat, hap⟩ := hrel
          by_cases hlt : i < L.length
          · obtain ⟨b, off, rfl, _, g0, g1⟩ := (hcat.sl 0).pair hlt
            have HI := hid hlt
            have HOd := hid (HOk.out _ (List.getElem_mem hlt))
            generalize hdd : L[i] = d at g0 g1 HOd
            have HDD := hid hdd
            obtain ⟨s1, c1⟩ := d
            simp only at g0 g1
            have hxa := (Ext.refl wr).alloc (.cells #[.int .i64 s1, .int .i64 c1] 74)
            have hnv := henv.ext hxa
            have hct := hcat.ext (B := 0) RPair.mono hxa
            have a0 := henv.a0
            have a1 := henv.a1
            have hw2 := henv.lt
            have hw0 : w.heap.size < wr.heap.size := by omega
            have hw1 : w.heap.size + 1 < wr.heap.size := by omega
            clear hdd hi
            by_cases hs : s1 = (j : Int)
            · have hs' : (s1 == (j : Int)) = true := by simpa using hs
              have HSI := hid hs
              clear hs
              have HIn := hid (know_In w.heap.size k Av cv Am cm ⟨s1, c1⟩ (wr.alloc (.cells #[.int .i64 s1, .int .i64 c1] 74)) (h.ext hnv.x) HK.out HOd.out)
              go_wp2_with fail
              refine HIn.out.mono ?_
              rintro e w6 ⟨rfl, hx6⟩
              have p0 : w6.cell? ⟨wr.heap.size, 0, none⟩ = some (.int .i64 s1) := hx6.cell (by go_simp)
              have p1 : w6.cell? ⟨wr.heap.size, 1, none⟩ = some (.int .i64 c1) := hx6.cell (by go_simp)
              replace henv := hnv.ext hx6
              replace hcat := hct.ext (B := 0) RPair.mono hx6
              clear hnv hct hxa hx6 a0 a1 hw0 hw1 hw2 HIn g0 g1
              cases hp : inK k ⟨s1, c1⟩
              · have HP := hid hp
                clear hp
                have HM := hid (meetTo_no k l L j i HI.out ⟨s1, c1⟩ HDD.out (by rw [HP.out]; simp))
                go_wp2_with fail
                go_roundw
                case rel => exact ⟨i + 1, HI.out, by go_num, by rw [HM.out]; exact henv, hcat, hap⟩
                case measure => have := HI.out; simp [intOf]; omega
              · have HP := hid hp
                clear hp
                have b0 := henv.b0
                have b1 := henv.b1
                go_wp2_with fail
                refine (know_In w.heap.size l Bv dv Bm dm ⟨s1, c1⟩ w6 (gg.ext henv.x) HL.out HOd.out).mono ?_
                rintro e w7 ⟨rfl, hx7⟩
                replace p0 := hx7.cell p0
                replace p1 := hx7.cell p1
                replace henv := henv.ext hx7
                replace hcat := hcat.ext (B := 0) RPair.mono hx7
                clear hx7 b0 b1
                cases hq : inK l ⟨s1, c1⟩
                · have HQ := hid hq
                  clear hq
                  have HM := hid (meetTo_no k l L j i HI.out ⟨s1, c1⟩ HDD.out (by rw [HQ.out]; simp))
                  go_wp2_with fail
                  go_roundw
                  case rel => exact ⟨i + 1, HI.out, by go_num, by rw [HM.out]; exact henv, hcat, hap⟩
                  case measure => have := HI.out; simp [intOf]; omega
                · have HM := hid (meetTo_yes k l L j i HI.out ⟨s1, c1⟩ HDD.out (by rw [HP.out, hq, decide_eq_true HSI.out]; rfl))
                  clear hq
                  have hlen : (meetD k l [k.more, l.more].flatten j ++ meetTo k l L j i).length ≤ 720 := by
                    rw [List.length_append, ← HLL.out]
                    have h1 := meetD_len k l L j
                    have h2 := meetTo_len k l L j i
                    have h3 := HLen.out
                    have h4 : j * L.length ≤ 5 * 120 := Nat.mul_le_mul (by have := HJ.out; omega) h3
                    omega
                  generalize hdl : meetD k l [k.more, l.more].flatten j ++ meetTo k l L j i = dl at henv hlen
                  have HDL := hid (show dl ++ [(⟨s1, c1⟩ : Dot)] = meetD k l [k.more, l.more].flatten j ++ meetTo k l L j (i + 1) by rw [HM.out, ← List.append_assoc, hdl])
                  have hxa := (Ext.refl w7).alloc (.cells #[.int .i64 s1, .int .i64 c1] 74)
                  have hone : SlDots 0 (w7.alloc (.cells #[.int .i64 s1, .int .i64 c1] 74)) (some ⟨w7.heap.size, 0, none⟩) [(⟨s1, c1⟩ : Dot)] := Sl.one (cs := [.int .i64 s1, .int .i64 c1]) rfl rfl rfl
                  have hnv := henv.ext hxa
                  have hct := hcat.ext (B := 0) RPair.mono hxa
                  have hsz : w.heap.size + 3 ≤ (w7.alloc (.cells #[.int .i64 s1, .int .i64 c1] 74)).heap.size := hnv.lt
                  have h63 : dl.length + [(⟨s1, c1⟩ : Dot)].length ≤ maxLen := by simp [maxLen]; omega
                  have hby : (dl.length + [(⟨s1, c1⟩ : Dot)].length) * 16 ≤ 140737488355328 := by simp; omega
                  have HOwn := hid hnv.own
                  clear hdl hlen henv hcat
                  go_wp2_with (at_builtin; refine wpList_app2 (c := 1) (ys := [(⟨s1, c1⟩ : Dot)]) (B := w.heap.size + 3) rfl _ _ rfl ei_dot rfl HOwn.out (Nat.le_refl _) hsz rfl hone RPair.oneC RPair.mono h63 hby ?_; intro v2 w8 ho2 hch2 hb2 hg2 hbk2)
                  rw [HDL.out] at ho2
                  have hnv2 := hnv.app hb2 hch2 ho2
                  have hap2 : Apart (.slice (some ⟨b, off, none⟩) L.length cc) v2 := by
                    intro q hq hv
                    rcases hbk2 with e | e
                    · exact hap q hq (e ▸ hv)
                    · have h1 := (hct.lt hq).2
                      rw [hv] at e
                      injection e with e
                      omega
                  have hct2 := hct.chg (B := w.heap.size + 3) RPair.mono hch2 (fun q hq => hg2.block q (hct.lt hq).2 (fun e => hap q hq e.symm))
                  clear hnv hct hap ho2 hch2 hb2 hg2 hbk2 hone hsz h63 hby hxa p0 p1 HOwn HDL
                  go_wp2_with fail
                  go_roundw
                  case rel => exact ⟨i + 1, HI.out, by go_num, hnv2, hct2, hap2⟩
                  case measure => have := HI.out; simp [intOf]; omega
            · have hs' : (s1 == (j : Int)) = false := by simpa using hs
              have HSI := hid hs
              have hcat2 := hct
              have henv2 := hnv
              clear hs
              have HM := hid (meetTo_no k l L j i HI.out ⟨s1, c1⟩ HDD.out (by rw [decide_eq_false HSI.out]; rfl))
              go_wp2_with fail
              go_roundw
              case rel => exact ⟨i + 1, HI.out, by go_num, by rw [HM.out]; exact henv2, hcat2, hap⟩
              case measure => have := HI.out; simp [intOf]; omega
          · obtain rfl : i = L.length := by omega
            have HMD := hid (show meetD k l [k.more, l.more].flatten j ++ meetTo k l L j L.length = meetD k l [k.more, l.more].flatten (j + 1) by rw [meetD_succ, ← HLL.out])
            rw [HMD.out] at henv
            clear hlt hi hcat hap
            go_wp2_with fail
            go_roundw
            case rel => exact ⟨j + 1, HJ.out, by go_num, u, HM.out, henv⟩
            case measure => have := HJ.out; simp [intOf]; omega
      · obtain rfl : j = 5 := by omega
        clear hj hlt
        rw [show ((5 : Nat) : Int) = 5 from rfl]
        obtain ⟨Ad, cd, hvd, _, _⟩ := henv.own.len
        subst hvd
        obtain ⟨F, hF⟩ : ∃ F, F = formOf (andD (hasK k) (hasK l)) := ⟨_, rfl⟩
        have hmf := meet_form k l HK.out HL.out hu
        rw [← hF] at HE' HA' hmf
        have HHF := hid hF
        have hml : (meetD k l [k.more, l.more].flatten 5).length ≤ 1000 := by
          have h1 := meetD_len k l [k.more, l.more].flatten 5
          have h2 : [k.more, l.more].flatten.length ≤ 120 := by have := HK.out.mlen; have := HL.out.mlen; simp; omega
          omega
        have hmo : ∀ d ∈ meetD k l [k.more, l.more].flatten 5, dotOk d = true := by
          intro d hd
          have h1 := ((mem_meetD k l _ 5 d).1 hd).1
          simp at h1
          rcases h1 with h1 | h1
          · exact (HK.out.more d h1).1
          · exact (HL.out.more d h1).1
        obtain ⟨ml, hmm⟩ : ∃ ml, ml = meetD k l [k.more, l.more].flatten 5 := ⟨_, rfl⟩
        rw [← hmm] at henv hmf hml hmo
        rw [← hmm]
        have HMF := hid hmf
        have HMO := hid hmo
        have HUB := hid (hu.bound HK.out HL.out)
        have HU5 := hid hu.1
        clear hu hmf hmo hmm hF
        go_wp2_with fail
        have hx4 := (Ext.refl wr).alloc (.cells #[.slice (some ⟨g, 0, none⟩) 5 5] 69)
        have henv4 := henv.ext hx4
        have hsl := sl_rowI w.heap.size henv4.row (Nat.le_refl u.length)
        rw [List.take_length] at hsl
        have hl4 : SlVecs w.heap.size (wr.alloc (.cells #[.slice (some ⟨g, 0, none⟩) 5 5] 69)) (some ⟨wr.heap.size, 0, none⟩) [u] := Sl.one (cs := [.slice (some ⟨g, 0, none⟩) 5 5]) rfl rfl ⟨_, rfl, some ⟨g, 0, none⟩, 5, by rw [HU5.out], by rw [HU5.out]; omega, by unfold maxLen; omega, hsl⟩
        refine (know_Made w.heap.size _ 1 [u] Ad cd ml _ henv4.x.size hl4 (by simp) (by intro x hx; simp at hx; rw [hx, HU5.out]; omega) (by intro x hx; simp at hx; rw [hx]; exact HUB.out) (henv4.own.sl w.heap.size) hml HMO.out).mono ?_
        rintro e w6 ⟨v6, rfl, hk6, hx6⟩
        rw [HMF.out] at hk6
        replace henv := henv4.ext hx6
        clear hx4 henv4 hsl hl4 hx6 hml
        go_wp2_with fail
        refine (know_told _ v6 _ w6 hk6).mono ?_
        rintro e w7 ⟨x, rfl, hk7, hx7⟩
        obtain ⟨kk, hkk⟩ : ∃ kk, kk = toldKn F := ⟨_, rfl⟩
        rw [← hkk] at hk7 HA'
        obtain ⟨ee, hee⟩ : ∃ ee, ee = toldErr F := ⟨_, rfl⟩
        rw [← hee] at HE'
        rw [← hee]
        obtain ⟨Av', cv', Am', cm', rfl, k1, k2, k3, k4, hk7⟩ := hk7
        replace henv := henv.ext hx7
        clear hx7 hk6 hkk hee
        have r0 := henv.r0
        have r1 := henv.r1
        have y0 := henv.y0
        have y1 := henv.y1
        have HV := hid henv
        clear henv
        go_wp2_with fail
        have hyk := hk7.chg (((Chg.refl (ts := [72]) w7).setCell (p := ⟨w.heap.size + 2, 0, none⟩) HV.out.ty (by simp) (.slice Av' kk.vec.length cv') (Nat.zero_le _)).setCell (p := ⟨w.heap.size + 2, 1, none⟩) (tyAt_put HV.out.ty) (by simp) (.slice Am' kk.more.length cm') (Nat.zero_le _)) (by decide) (by decide)
        refine bodyPost_ret (v := .tuple #[.agg #[.slice Av' kk.vec.length cv', .slice Am' kk.more.length cm'], .int .i64 ee]) ?_ rfl ⟨.agg #[.slice Av' kk.vec.length cv', .slice Am' kk.more.length cm'], by rw [HE'.out], ?_, ?_⟩
        · refine res_meet (b := w.heap.size + 2) rfl rfl ?_ ?_ <;> go_simp
        · rw [HA'.out]
          exact ⟨Av', cv', Am', cm', rfl, k1, k2, k3, k4, hyk⟩
        · exact (HV.out.x.setCell (by first | omega | (dsimp only; omega)) _).setCell (by first | omega | (dsimp only; omega)) _
  · have HE' := hid (show RE = c by rw [HE.out, if_neg h0])
    have HA' := hid (show RK = ⟨[], []⟩ by rw [HA.out, if_neg h0])
    have hc : (c != 0) = true := by simpa using h0
    clear h0
    go_wp2_with fail
    refine bodyPost_ret (v := .tuple #[.agg #[.slice none 0 0, .slice none 0 0], .int .i64 c]) ?_ rfl ⟨.agg #[.slice none 0 0, .slice none 0 0], by rw [HE'.out], ?_, ?_⟩
    · refine res_meet (b := w.heap.size + 2) rfl rfl ?_ ?_ <;> go_simp
    · rw [HA'.out]
      exact IsK.empty
    · exact (HX2.out.setCell (by first | omega | (dsimp only; omega)) _).setCell (by first | omega | (dsimp only; omega)) _

end Go.Proofs.Ytiigbcnnapnceaa
