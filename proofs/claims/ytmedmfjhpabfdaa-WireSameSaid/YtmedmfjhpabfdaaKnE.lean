/- The walk of know.Meet. -/
import Derived.Test.YtmedmfjhpabfdaaKnJ
import Derived.Test.YtmedmfjhpabfdaaBase
import Derived.Test.YtmedmfjhpabfdaaKnF
namespace Go.Proofs.Ytmedmfjhpabfdaa
open Go Go.RowKit

/-- what is of both sets among the first i of some dots, at one site. -/
def meetTo (k l : Know) (L : List Dot) (j i : Nat) : List Dot := (L.take i).filter fun d => decide (d.site = (j : Int)) && (inK k d && inK l d)
def meetD (k l : Know) (L : List Dot) (j : Nat) : List Dot := (List.range j).flatMap fun s => meetTo k l L s L.length
theorem meetTo_len (k l : Know) (L : List Dot) (j i : Nat) : (meetTo k l L j i).length ≤ L.length := by
  unfold meetTo
  refine Nat.le_trans (List.length_filter_le _ _) ?_
  rw [List.length_take]; omega
theorem meetTo_zero (k l : Know) (L : List Dot) (j : Nat) : meetTo k l L j 0 = [] := by simp [meetTo]
theorem meetTo_succ (k l : Know) (L : List Dot) (j i : Nat) (hi : i < L.length) (d : Dot) (hd : L[i] = d) : meetTo k l L j (i + 1) = meetTo k l L j i ++ [d].filter fun d => decide (d.site = (j : Int)) && (inK k d && inK l d) := by
  unfold meetTo
  rw [← List.take_append_getElem hi, List.filter_append, hd]
theorem meetTo_yes (k l : Know) (L : List Dot) (j i : Nat) (hi : i < L.length) (d : Dot) (hd : L[i] = d) (h : (decide (d.site = (j : Int)) && (inK k d && inK l d)) = true) : meetTo k l L j (i + 1) = meetTo k l L j i ++ [d] := by
  rw [meetTo_succ k l L j i hi d hd]
  simp only [List.filter_cons, List.filter_nil, h, if_true]
theorem meetTo_no (k l : Know) (L : List Dot) (j i : Nat) (hi : i < L.length) (d : Dot) (hd : L[i] = d) (h : (decide (d.site = (j : Int)) && (inK k d && inK l d)) = false) : meetTo k l L j (i + 1) = meetTo k l L j i := by
  rw [meetTo_succ k l L j i hi d hd]
  simp [h]
theorem meetD_succ (k l : Know) (L : List Dot) (j : Nat) : meetD k l L (j + 1) = meetD k l L j ++ meetTo k l L j L.length := by simp [meetD, List.range_succ]
theorem meetD_len (k l : Know) (L : List Dot) : ∀ j, (meetD k l L j).length ≤ j * L.length
  | 0 => by simp [meetD]
  | j + 1 => by
    rw [meetD_succ, List.length_append, Nat.succ_mul]
    have h1 := meetD_len k l L j
    have h2 := meetTo_len k l L j L.length
    omega
theorem mem_meetD (k l : Know) (L : List Dot) (j : Nat) (d : Dot) : d ∈ meetD k l L j ↔ d ∈ L ∧ (∃ s : Nat, s < j ∧ d.site = (s : Int)) ∧ inK k d = true ∧ inK l d = true := by
  simp only [meetD, meetTo, List.mem_flatMap, List.mem_range, List.take_length, List.mem_filter, Bool.and_eq_true, decide_eq_true_eq]
  constructor
  · rintro ⟨s, h1, h2, h3, h4, h5⟩
    exact ⟨h2, ⟨s, h1, h3⟩, h4, h5⟩
  · rintro ⟨h2, ⟨s, h1, h3⟩, h4, h5⟩
    exact ⟨s, h1, h2, h3, h4, h5⟩
/-- the lesser entries of two vectors, the first j. -/
def MinOk (k l : Know) (j : Nat) (u : List Int) : Prop := u.length = 5 ∧ ∀ s : Nat, s < 5 → vecAt u s = if s < j then min (vecAt k.vec s) (vecAt l.vec s) else 0
theorem MinOk.start (k l : Know) : MinOk k l 0 [0, 0, 0, 0, 0] := by
  refine ⟨rfl, fun s hs => ?_⟩
  rw [if_neg (by omega)]
  match s, hs with
  | 0, _ => rfl
  | 1, _ => rfl
  | 2, _ => rfl
  | 3, _ => rfl
  | 4, _ => rfl
theorem MinOk.step {k l : Know} {j : Nat} {u : List Int} (h : MinOk k l j u) (hj : j < 5) : MinOk k l (j + 1) (u.set j (min (vecAt k.vec j) (vecAt l.vec j))) := by
  refine ⟨by simp [h.1], fun s hs => ?_⟩
  have e1 := vecAt_set u j s (min (vecAt k.vec j) (vecAt l.vec j)) (by omega) (by omega) (by simp [h.1]; omega)
  rw [Int.toNat_natCast] at e1
  rw [e1]
  by_cases e : s = j
  · subst e
    rw [if_pos rfl, if_pos (by omega)]
  · rw [if_neg (by omega), h.2 s hs]
    by_cases g : s < j
    · rw [if_pos g, if_pos (by omega)]
    · rw [if_neg g, if_neg (by omega)]
theorem meet_form (k l : Know) (hk : KnowOk k) (hl : KnowOk l) {u : List Int} (hu : MinOk k l 5 u) : formOf (setOf [u] (meetD k l [k.more, l.more].flatten 5)) = formOf (andD (hasK k) (hasK l)) := by
  apply formOf_congr
  intro s hs c hc1 hc2
  have h1 : maxAt [u] s = max 0 (vecAt u s) := rfl
  have h2 := hu.2 s hs
  rw [if_pos hs] at h2
  have hka := vecAt_bd hk.vec s
  have hlb := vecAt_bd hl.vec s
  rw [Bool.eq_iff_iff]
  simp only [setOf, andD, hasK, Bool.or_eq_true, Bool.and_eq_true, decide_eq_true_eq, List.contains_iff_mem, mem_meetD, inK]
  have hL : (⟨(s : Int), (c : Int)⟩ : Dot) ∈ [k.more, l.more].flatten ↔ (⟨(s : Int), (c : Int)⟩ : Dot) ∈ k.more ∨ (⟨(s : Int), (c : Int)⟩ : Dot) ∈ l.more := by simp
  rw [hL]
  have hS : (∃ t : Nat, t < 5 ∧ ((s : Int) = (t : Int))) := ⟨s, hs, rfl⟩
  simp only [hS, true_and]
  by_cases m1 : (⟨(s : Int), (c : Int)⟩ : Dot) ∈ k.more <;> by_cases m2 : (⟨(s : Int), (c : Int)⟩ : Dot) ∈ l.more <;> simp only [m1, m2, or_true, or_false, true_and, false_and, and_true] <;> omega
theorem MinOk.bound {k l : Know} {u : List Int} (hk : KnowOk k) (hl : KnowOk l) (hu : MinOk k l 5 u) : ∀ n ∈ u, 0 ≤ n ∧ n ≤ 1000 := by
  intro n hn
  obtain ⟨i, hi, rfl⟩ := List.getElem_of_mem hn
  have h := hu.2 i (by have := hu.1; omega)
  rw [if_pos (by have := hu.1; omega), vecAt_in hi] at h
  have hka := vecAt_bd hk.vec i
  have hlb := vecAt_bd hl.vec i
  omega

/-- where Meet stands: its two copies, its result, the vector and the dots that it builds. -/
structure MeetEnv (w wr : World) (va0 va1 vb0 vb1 : Value) (g : Nat) (u : List Int) (vd : Value) (dl : List Dot) : Prop where
  a0 : wr.cell? ⟨w.heap.size, 0, none⟩ = some va0
  a1 : wr.cell? ⟨w.heap.size, 1, none⟩ = some va1
  b0 : wr.cell? ⟨w.heap.size + 1, 0, none⟩ = some vb0
  b1 : wr.cell? ⟨w.heap.size + 1, 1, none⟩ = some vb1
  r0 : wr.cell? ⟨w.heap.size + 2, 0, none⟩ = some (.slice none 0 0)
  r1 : wr.cell? ⟨w.heap.size + 2, 1, none⟩ = some (.slice none 0 0)
  y0 : wr.frozen? ⟨w.heap.size + 2, 0, none⟩ = false
  y1 : wr.frozen? ⟨w.heap.size + 2, 1, none⟩ = false
  ty : tyAt wr (w.heap.size + 2) = some 44
  row : Blk wr g 3 (rowI u)
  own : Own RDot 2 38 wr (w.heap.size + 3) vd dl
  x : Ext w wr
  hg : w.heap.size + 2 < g
theorem MeetEnv.lt {w wr : World} {va0 va1 vb0 vb1 : Value} {g : Nat} {u : List Int} {vd : Value} {dl : List Dot} (h : MeetEnv w wr va0 va1 vb0 vb1 g u vd dl) : w.heap.size + 2 < wr.heap.size := World.block_lt_of_cell? _ _ h.r0
theorem MeetEnv.ext {w wr w' : World} {va0 va1 vb0 vb1 : Value} {g : Nat} {u : List Int} {vd : Value} {dl : List Dot} (h : MeetEnv w wr va0 va1 vb0 vb1 g u vd dl) (x : Ext wr w') : MeetEnv w w' va0 va1 vb0 vb1 g u vd dl :=
  ⟨x.cell h.a0, x.cell h.a1, x.cell h.b0, x.cell h.b1, x.cell h.r0, x.cell h.r1, (x.frozenAt h.lt).trans h.y0, (x.frozenAt h.lt).trans h.y1, (tyAt_of (x.blockAt h.lt)).trans h.ty, h.row.ext x, h.own.ext (B := 0) RPair.mono x, h.x.trans x, h.hg⟩
theorem MeetEnv.setRow {w wr : World} {va0 va1 vb0 vb1 : Value} {g : Nat} {u : List Int} {vd : Value} {dl : List Dot} (h : MeetEnv w wr va0 va1 vb0 vb1 g u vd dl) (i : Nat) (n : Int) : MeetEnv w (wr.setCell ⟨g, i, none⟩ (.int .i64 n)) va0 va1 vb0 vb1 g (u.set i n) vd dl := by
  have hg := h.hg
  exact ⟨cell_ne (by omega) h.a0, cell_ne (by omega) h.a1, cell_ne (by omega) h.b0, cell_ne (by omega) h.b1, cell_ne (by omega) h.r0, cell_ne (by omega) h.r1, (World.frozen?_setCell ..).trans h.y0, (World.frozen?_setCell ..).trans h.y1,
    (tyAt_of (Below.heap_setCell wr ⟨g, i, none⟩ _ _ (by show w.heap.size + 2 ≠ g; omega))).trans h.ty, set_rowI h.row i n,
    h.own.chgT (B := 0) (ts := [3]) RPair.mono (by decide) ((Chg.refl wr).setCell (p := ⟨g, i, none⟩) h.row.ty (by simp) _ (Nat.zero_le _)), h.x.setCell (by show w.heap.size ≤ g; omega) _, h.hg⟩
theorem MeetEnv.app {w w1 w2 : World} {va0 va1 vb0 vb1 : Value} {g B : Nat} {u : List Int} {vd vd' : Value} {dl dl' : List Dot} (h : MeetEnv w w1 va0 va1 vb0 vb1 g u vd dl) (b : Below (w.heap.size + 3) w1 w2) (c : Chg B [38] w1 w2) (ho : Own RDot 2 38 w2 (w.heap.size + 3) vd' dl') : MeetEnv w w2 va0 va1 vb0 vb1 g u vd' dl' :=
  ⟨(Below.cell b (by show w.heap.size < _; omega)).trans h.a0, (Below.cell b (by show w.heap.size < _; omega)).trans h.a1, (Below.cell b (by show w.heap.size + 1 < _; omega)).trans h.b0, (Below.cell b (by show w.heap.size + 1 < _; omega)).trans h.b1, (Below.cell b (by show w.heap.size + 2 < _; omega)).trans h.r0, (Below.cell b (by show w.heap.size + 2 < _; omega)).trans h.r1,
    (Below.frozen b (by show w.heap.size + 2 < _; omega)).trans h.y0, (Below.frozen b (by show w.heap.size + 2 < _; omega)).trans h.y1, (tyAt_of (Below.block b _ (by omega))).trans h.ty, h.row.chg c (by decide), ho, h.x.below b (by omega), h.hg⟩
/-- the row vc lies in another block than the row vd. -/
def Apart (vc vd : Value) : Prop := ∀ q, vc.ownBlock = some q → vd.ownBlock ≠ some q

theorem apart_of {α β : Type} {R : World → List Value → α → Prop} {R' : World → List Value → β → Prop} {sz sz' : Nat} {e e' : TypeId} {w w' : World} {base base' : Nat} {vc vd : Value} {l : List α} {m : List β} (hc : Own R sz e w' base vc l) (hd : Own R' sz' e' w base' vd m) (h : w.heap.size ≤ base) : Apart vc vd := by
  intro q hq hv
  have h1 := (hc.lt hq).1
  have h2 := (hd.lt hv).2
  omega

end Go.Proofs.Ytmedmfjhpabfdaa
