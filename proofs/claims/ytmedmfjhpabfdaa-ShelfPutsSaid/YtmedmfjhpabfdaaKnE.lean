/- The walk of know.Meet. -/
import Derived.Test.YtmedmfjhpabfdaaKnJ
import Derived.Test.YtmedmfjhpabfdaaBase
import Derived.Test.YtmedmfjhpabfdaaKnF
namespace Go.Proofs.Ytmedmfjhpabfdaa
open Go Go.RowKit

/-- the lesser entries of two vectors, the first j. -/
def MinOk (k l : Know) (j : Nat) (u : List Int) : Prop := u.length = 5 ∧ ∀ s : Nat, s < 5 → vecAt u s = if s < j then min (vecAt k.vec s) (vecAt l.vec s) else 0
theorem MinOk.start (k l : Know) : MinOk k l 0 [0, 0, 0, 0, 0] := by
  refine ⟨rfl, fun s hs => ?_⟩
  rw [if_neg (by omega)]
  match s, hs with
  | 0, _ => rfl
  | 1, _ => rfl
  | 2, _ => rfl
  | 3, _ => rfl
  | 4, _ => rfl
theorem MinOk.step {k l : Know} {j : Nat} {u : List Int} (h : MinOk k l j u) (hj : j < 5) : MinOk k l (j + 1) (u.set j (min (vecAt k.vec j) (vecAt l.vec j))) := by
  refine ⟨by simp [h.1], fun s hs => ?_⟩
  have e1 := vecAt_set u j s (min (vecAt k.vec j) (vecAt l.vec j)) (by omega) (by omega) (by simp [h.1]; omega)
  rw [Int.toNat_natCast] at e1
  rw [e1]
  by_cases e : s = j
  · subst e
    rw [if_pos rfl, if_pos (by omega)]
  · rw [if_neg (by omega), h.2 s hs]
    by_cases g : s < j
    · rw [if_pos g, if_pos (by omega)]
    · rw [if_neg g, if_neg (by omega)]
/-- where Meet stands: its two copies, its result, the vector and the dots that it builds. -/
structure MeetEnv (w wr : World) (va0 va1 vb0 vb1 : Value) (g : Nat) (u : List Int) (vd : Value) (dl : List Dot) : Prop where
  a0 : wr.cell? ⟨w.heap.size, 0, none⟩ = some va0
  a1 : wr.cell? ⟨w.heap.size, 1, none⟩ = some va1
  b0 : wr.cell? ⟨w.heap.size + 1, 0, none⟩ = some vb0
  b1 : wr.cell? ⟨w.heap.size + 1, 1, none⟩ = some vb1
  r0 : wr.cell? ⟨w.heap.size + 2, 0, none⟩ = some (.slice none 0 0)
  r1 : wr.cell? ⟨w.heap.size + 2, 1, none⟩ = some (.slice none 0 0)
  y0 : wr.frozen? ⟨w.heap.size + 2, 0, none⟩ = false
  y1 : wr.frozen? ⟨w.heap.size + 2, 1, none⟩ = false
  ty : tyAt wr (w.heap.size + 2) = some 44
  row : Blk wr g 3 (rowI u)
  own : Own RDot 2 38 wr (w.heap.size + 3) vd dl
  x : Ext w wr
  hg : w.heap.size + 2 < g
theorem MeetEnv.lt {w wr : World} {va0 va1 vb0 vb1 : Value} {g : Nat} {u : List Int} {vd : Value} {dl : List Dot} (h : MeetEnv w wr va0 va1 vb0 vb1 g u vd dl) : w.heap.size + 2 < wr.heap.size := World.block_lt_of_cell? _ _ h.r0
theorem MeetEnv.ext {w wr w' : World} {va0 va1 vb0 vb1 : Value} {g : Nat} {u : List Int} {vd : Value} {dl : List Dot} (h : MeetEnv w wr va0 va1 vb0 vb1 g u vd dl) (x : Ext wr w') : MeetEnv w w' va0 va1 vb0 vb1 g u vd dl :=
  ⟨x.cell h.a0, x.cell h.a1, x.cell h.b0, x.cell h.b1, x.cell h.r0, x.cell h.r1, (x.frozenAt h.lt).trans h.y0, (x.frozenAt h.lt).trans h.y1, (tyAt_of (x.blockAt h.lt)).trans h.ty, h.row.ext x, h.own.ext (B := 0) RPair.mono x, h.x.trans x, h.hg⟩
theorem MeetEnv.setRow {w wr : World} {va0 va1 vb0 vb1 : Value} {g : Nat} {u : List Int} {vd : Value} {dl : List Dot} (h : MeetEnv w wr va0 va1 vb0 vb1 g u vd dl) (i : Nat) (n : Int) : MeetEnv w (wr.setCell ⟨g, i, none⟩ (.int .i64 n)) va0 va1 vb0 vb1 g (u.set i n) vd dl := by
  have hg := h.hg
  exact ⟨cell_ne (by omega) h.a0, cell_ne (by omega) h.a1, cell_ne (by omega) h.b0, cell_ne (by omega) h.b1, cell_ne (by omega) h.r0, cell_ne (by omega) h.r1, (World.frozen?_setCell ..).trans h.y0, (World.frozen?_setCell ..).trans h.y1,
    (tyAt_of (Below.heap_setCell wr ⟨g, i, none⟩ _ _ (by show w.heap.size + 2 ≠ g; omega))).trans h.ty, set_rowI h.row i n,
    h.own.chgT (B := 0) (ts := [3]) RPair.mono (by decide) ((Chg.refl wr).setCell (p := ⟨g, i, none⟩) h.row.ty (by simp) _ (Nat.zero_le _)), h.x.setCell (by show w.heap.size ≤ g; omega) _, h.hg⟩
end Go.Proofs.Ytmedmfjhpabfdaa
