/- The walks of the reference's Form and Formed. -/
import Derived.Test.YtmedmfjhpabfdaaKnU
import Derived.Test.YtmedmfjhpabfdaaKnT
namespace Go.Proofs.Ytmedmfjhpabfdaa
open Go Go.RowKit

def vecL (S : DSet) (j : Nat) : List Int := (List.range j).map fun s => (pre S s : Int)
def moreL (S : DSet) (j : Nat) : List Dot := (List.range j).flatMap fun s => moreOf S s
theorem Own.chgT {α : Type} {R : World → List Value → α → Prop} {sz B : Nat} {e : TypeId} {ts : List TypeId} {w w' : World} {base : Nat} {v : Value} {l : List α} (m : Mono B ts R) (h : Own R sz e w base v l) (he : e ∉ ts) (x : Chg B ts w w') : Own R sz e w' base v l := by
  refine h.chg m x fun g hg => x.block g (h.lt hg).2 (.inr fun t ht h2 => ?_)
  rcases h.at_ with ⟨rfl, _⟩ | ⟨g', c, rfl, _, _, hty, _⟩
  · simp [Value.ownBlock] at hg
  · simp [Value.ownBlock] at hg
    subst hg
    rw [hty] at h2
    injection h2 with h2
    exact he (h2 ▸ ht)
/-- where Form stands: its own copy, its result, the set that it builds. -/
structure FormEnv (S : DSet) (w wr : World) (vl : List Int) (ml : List Dot) : Prop where
  blk : Blk wr w.heap.size 83 (rowD S)
  r0 : wr.cell? ⟨w.heap.size + 1, 0, none⟩ = some (.slice none 0 0)
  r1 : wr.cell? ⟨w.heap.size + 1, 1, none⟩ = some (.slice none 0 0)
  y0 : wr.frozen? ⟨w.heap.size + 1, 0, none⟩ = false
  y1 : wr.frozen? ⟨w.heap.size + 1, 1, none⟩ = false
  z0 : wr.frozen? ⟨w.heap.size + 1 + 1, 0, none⟩ = false
  z1 : wr.frozen? ⟨w.heap.size + 1 + 1, 1, none⟩ = false
  x : Ext w wr
  vec : ∃ v, wr.cell? ⟨w.heap.size + 1 + 1, 0, none⟩ = some v ∧ Own RInt 1 3 wr (w.heap.size + 1 + 1 + 1) v vl
  more : ∃ m, wr.cell? ⟨w.heap.size + 1 + 1, 1, none⟩ = some m ∧ Own RDot 2 38 wr (w.heap.size + 1 + 1 + 1) m ml
theorem FormEnv.lt {S : DSet} {w wr : World} {vl : List Int} {ml : List Dot} (h : FormEnv S w wr vl ml) : w.heap.size + 1 + 1 < wr.heap.size := by
  obtain ⟨v, hv, _⟩ := h.vec
  exact World.block_lt_of_cell? _ _ hv
theorem FormEnv.ext {S : DSet} {w wr w' : World} {vl : List Int} {ml : List Dot} (h : FormEnv S w wr vl ml) (x : Ext wr w') : FormEnv S w w' vl ml := by
  have hlt := h.lt
  refine ⟨h.blk.ext x, x.cell h.r0, x.cell h.r1, (x.frozenAt (by show w.heap.size + 1 < _; omega)).trans h.y0, (x.frozenAt (by show w.heap.size + 1 < _; omega)).trans h.y1, (x.frozenAt hlt).trans h.z0, (x.frozenAt hlt).trans h.z1, h.x.trans x, ?_, ?_⟩
  · obtain ⟨v, h1, h2⟩ := h.vec
    exact ⟨v, x.cell h1, h2.ext (B := 0) RInt.mono x⟩
  · obtain ⟨m, h1, h2⟩ := h.more
    exact ⟨m, x.cell h1, h2.ext (B := 0) RPair.mono x⟩
theorem Sl.take {α : Type} {R : World → List Value → α → Prop} {sz B : Nat} {e : TypeId} {w : World} {A : Option Addr} {l : List α} (h : Sl B e R sz w A l) (n : Nat) : Sl B e R sz w A (l.take n) := by
  intro i x hx
  refine h i x ?_
  rw [List.getElem?_take] at hx
  split at hx
  · exact hx
  · cases hx
/-- behind the sites: n entries are left. -/
structure FormEnd (S : DSet) (w wr : World) (Av : Option Addr) (cv : Nat) (Am : Option Addr) (cm : Nat) (vl : List Int) (ml : List Dot) (n : Nat) : Prop where
  r0 : wr.cell? ⟨w.heap.size + 1, 0, none⟩ = some (.slice none 0 0)
  r1 : wr.cell? ⟨w.heap.size + 1, 1, none⟩ = some (.slice none 0 0)
  y0 : wr.frozen? ⟨w.heap.size + 1, 0, none⟩ = false
  y1 : wr.frozen? ⟨w.heap.size + 1, 1, none⟩ = false
  z0 : wr.frozen? ⟨w.heap.size + 1 + 1, 0, none⟩ = false
  x : Ext w wr
  k0 : wr.cell? ⟨w.heap.size + 1 + 1, 0, none⟩ = some (.slice Av n cv)
  k1 : wr.cell? ⟨w.heap.size + 1 + 1, 1, none⟩ = some (.slice Am ml.length cm)
  ov : Own RInt 1 3 wr (w.heap.size + 1 + 1 + 1) (.slice Av 5 cv) vl
  om : Own RDot 2 38 wr (w.heap.size + 1 + 1 + 1) (.slice Am ml.length cm) ml
theorem FormEnd.start {S : DSet} {w wr : World} {Av Am : Option Addr} {cv cm n : Nat} {vl vl' : List Int} {ml ml' : List Dot} (h : FormEnv S w wr vl' ml') (k0 : wr.cell? ⟨w.heap.size + 1 + 1, 0, none⟩ = some (.slice Av n cv)) (k1 : wr.cell? ⟨w.heap.size + 1 + 1, 1, none⟩ = some (.slice Am ml.length cm)) (ov : Own RInt 1 3 wr (w.heap.size + 1 + 1 + 1) (.slice Av 5 cv) vl) (om : Own RDot 2 38 wr (w.heap.size + 1 + 1 + 1) (.slice Am ml.length cm) ml) : FormEnd S w wr Av cv Am cm vl ml n :=
  ⟨h.r0, h.r1, h.y0, h.y1, h.z0, h.x, k0, k1, ov, om⟩
theorem FormEnd.ext {S : DSet} {w wr w' : World} {Av Am : Option Addr} {cv cm n : Nat} {vl : List Int} {ml : List Dot} (h : FormEnd S w wr Av cv Am cm vl ml n) (x : Ext wr w') : FormEnd S w w' Av cv Am cm vl ml n := by
  have hlt : w.heap.size + 1 + 1 < wr.heap.size := World.block_lt_of_cell? _ _ h.k0
  exact ⟨x.cell h.r0, x.cell h.r1, (x.frozenAt (by show w.heap.size + 1 < _; omega)).trans h.y0, (x.frozenAt (by show w.heap.size + 1 < _; omega)).trans h.y1, (x.frozenAt hlt).trans h.z0, h.x.trans x, x.cell h.k0, x.cell h.k1, h.ov.ext (B := 0) RInt.mono x, h.om.ext (B := 0) RPair.mono x⟩
theorem FormEnd.done {S : DSet} {w wr : World} {Av Am : Option Addr} {cv cm n : Nat} {vl : List Int} {ml : List Dot} (h : FormEnd S w wr Av cv Am cm vl ml n) (hl : vl.length = 5) (hn : n ≤ 5) (ht : trim vl = vl.take n) (hv : vl = vecL S 5) (hm : ml = moreL S 5) :
    let w' := (wr.setCell ⟨w.heap.size + 1, 0, none⟩ (.slice Av n cv)).setCell ⟨w.heap.size + 1, 1, none⟩ (.slice Am ml.length cm)
    w'.cell? ⟨w.heap.size + 1, 0, none⟩ = some (.slice Av n cv) ∧ w'.cell? ⟨w.heap.size + 1, 1, none⟩ = some (.slice Am ml.length cm) ∧ IsK 0 w' (.agg #[.slice Av n cv, .slice Am ml.length cm]) (formOf S) ∧ Ext w w' ∧ w'.cell? ⟨w.heap.size + 1 + 1, 0, none⟩ = some (.slice Av n cv) ∧ w'.cell? ⟨w.heap.size + 1 + 1, 1, none⟩ = some (.slice Am ml.length cm) := by
  intro w'
  have e : formOf S = ⟨vl.take n, ml⟩ := by rw [← ht, hv, hm]; rfl
  have el : (vl.take n).length = n := by rw [List.length_take]; omega
  obtain ⟨A, c, hA, hc1, hc2⟩ := h.ov.len
  injection hA with _ _ hA
  subst hA
  refine ⟨cell_off (by omega) (World.cell?_setCell_same _ _ _ h.r0), World.cell?_setCell_same _ _ _ (cell_off (by omega) h.r1), ?_, (h.x.setCell (by dsimp only; omega) _).setCell (by dsimp only; omega) _, cell_ne (by omega) (cell_ne (by omega) h.k0), cell_ne (by omega) (cell_ne (by omega) h.k1)⟩
  rw [e]
  have ov := (h.ov.far (p := ⟨w.heap.size + 1, 0, none⟩) (fun _ _ _ _ h => h) (by dsimp only; omega) (.slice Av n cv)).far (p := ⟨w.heap.size + 1, 1, none⟩) (fun _ _ _ _ h => h) (by dsimp only; omega) (.slice Am ml.length cm)
  have om := (h.om.farPair (p := ⟨w.heap.size + 1, 0, none⟩) (by dsimp only; omega) (.slice Av n cv)).farPair (p := ⟨w.heap.size + 1, 1, none⟩) (by dsimp only; omega) (.slice Am ml.length cm)
  exact IsK.of ⟨Av, cv, by rw [el], by rw [el]; omega, hc2, (ov.sl 0).take n⟩ (om.isSl 0)
end Go.Proofs.Ytmedmfjhpabfdaa
