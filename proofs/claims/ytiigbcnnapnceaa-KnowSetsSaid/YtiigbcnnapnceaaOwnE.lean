/- A row of the call's own that holds nothing yet; a slice from nowhere. No program in sight. -/
import Derived.Test.YtiigbcnnapnceaaRep
namespace Go.Proofs.Ytiigbcnnapnceaa
open Go Go.RowKit

theorem Own.empty {α : Type} {R : World → List Value → α → Prop} {sz : Nat} {e : TypeId} {w : World} {base : Nat} (hb : base ≤ w.heap.size) :
    Own R sz e (w.alloc (.cells #[] e)) base (.slice (some ⟨w.heap.size, 0, none⟩) 0 0) ([] : List α) := by
  refine ⟨[], rfl, by intro i cs x h; simp at h, by simp, .inr ⟨w.heap.size, 0, #[], rfl, hb, heap_alloc_new w _, Nat.le_refl _, Nat.zero_le _, by simp, by simp⟩⟩

theorem Sl.none_nil {α : Type} {R : World → List Value → α → Prop} {sz B : Nat} {e : TypeId} {w : World} {l : List α} (h : Sl B e R sz w none l) : l = [] := by
  rcases l with _ | ⟨x, l⟩
  · rfl
  · obtain ⟨b, off, cs, hA, _⟩ := h.at_ (i := 0) (by simp)
    cases hA

theorem Chg.setNew {B : Nat} {ts : List TypeId} {a w : World} (h : Chg B ts a w) {p : Addr} (hp : a.heap.size ≤ p.block) (u : Value) : Chg B ts a (w.setCell p u) :=
  ⟨h.os, h.tape, h.output, by simpa [World.setCell] using h.size, fun k hk hc => (Below.heap_setCell w p u k (by omega)).trans (h.block k hk hc)⟩
theorem Chg.under {B k : Nat} {ts : List TypeId} {a w b : World} (h : Chg B ts a w) (x : Below k w b) (hk : a.heap.size ≤ k) : Chg B ts a b :=
  ⟨(Below.os x).trans h.os, (Below.tape x).trans h.tape, (Below.output x).trans h.output, Nat.le_trans h.size (Below.size x), fun i hi hc => (Below.block x i (by omega)).trans (h.block i hi hc)⟩
theorem Chg.alloc {B : Nat} {ts : List TypeId} {a w : World} (h : Chg B ts a w) (o : Obj) : Chg B ts a (w.alloc o) := h.trans (.of_ext ((Ext.refl w).alloc o))
theorem Chg.drewN {B : Nat} {ts : List TypeId} {a w : World} (h : Chg B ts a w) (n : Nat) : Chg B ts a (w.drewN n) := h.trans (.of_ext ((Ext.refl w).drewN n))
theorem Chg.ext' {B : Nat} {ts : List TypeId} {a w b : World} (h : Chg B ts a w) (x : Ext w b) : Chg B ts a b := h.trans (.of_ext x)

theorem cell_ne {w : World} {g k r o : Nat} {u v : Value} (hb : r ≠ g) (q : w.cell? ⟨r, o, none⟩ = some u) : (w.setCell ⟨g, k, none⟩ v).cell? ⟨r, o, none⟩ = some u :=
  (World.cell?_setCell_other _ _ _ _ (by intro e; injection e with e; omega)).trans q
theorem cell_off {w : World} {g k r o : Nat} {u v : Value} (hb : o ≠ k) (q : w.cell? ⟨r, o, none⟩ = some u) : (w.setCell ⟨g, k, none⟩ v).cell? ⟨r, o, none⟩ = some u :=
  (World.cell?_setCell_other _ _ _ _ (by intro e; injection e with _ e; omega)).trans q
theorem Own.far {α : Type} {R : World → List Value → α → Prop} {sz : Nat} {e : TypeId} {w : World} {base : Nat} {v : Value} {l : List α} (h : Own R sz e w base v l) (hRw : ∀ w w' cs x, R w cs x → R w' cs x) {p : Addr} (hp : p.block < base) (u : Value) : Own R sz e (w.setCell p u) base v l := by
  obtain ⟨xs, hx, hR, ho⟩ := h
  refine ⟨xs, hx, fun i cs x h1 h2 => ⟨(hR i cs x h1 h2).1, hRw _ _ _ _ (hR i cs x h1 h2).2⟩, ho.1, ?_⟩
  rcases ho.2 with hn | ⟨b, cap, cur, rfl, hb, hgg, rest⟩
  · exact .inl hn
  · exact .inr ⟨b, cap, cur, rfl, hb, (Below.heap_setCell w p u b (by omega)).trans hgg, rest⟩

theorem Own.farPair {α : Type} {f g : α → Int} {e : TypeId} {w : World} {base : Nat} {v : Value} {l : List α} (h : Own (RPair f g) 2 e w base v l) {p : Addr} (hp : p.block < base) (u : Value) : Own (RPair f g) 2 e (w.setCell p u) base v l :=
  h.far (fun _ _ _ _ h => h) hp u

/-- a row of integers. -/
def rowI (l : List Int) : Array Value := (l.map (Value.int .i64)).toArray
theorem rowI_get {l : List Int} {i : Nat} (h : i < l.length) : (rowI l)[i]? = some (.int .i64 l[i]) := by simp [rowI, h]
theorem rowI_set (l : List Int) (i : Nat) (x : Int) : (rowI l).setIfInBounds i (.int .i64 x) = rowI (l.set i x) := by simp [rowI, List.map_set]

end Go.Proofs.Ytiigbcnnapnceaa
