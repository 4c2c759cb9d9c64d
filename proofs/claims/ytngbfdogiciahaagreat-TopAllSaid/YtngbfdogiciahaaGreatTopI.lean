/- The laws on sites, opened: their arguments; and the plain law on one who asks all. -/
import Derived.Test.YtngbfdogiciahaaGreatTopG
import Derived.Test.YtngbfdogiciahaaGreatJoinKnU
namespace Go.Proofs.YtngbfdogiciahaaGreat
open Go Go.RowKit
section
open Go.ChangeShapes Go.WideShapes Go.Deep Go.Joins
variable {H : Type} {enc : TypeId × Value → H} {w : World} {spare : Nat → Bool} {held : Bool}
theorem cells_fil : Tryz.prog.cellsOf 30 = 1 := by kernel_rfl
theorem cells_vec : Tryz.prog.cellsOf 32 = 1 := by kernel_rfl
theorem fil_elem (n : Nat) (cs : List Value) (y : DataW H × List MemPlace) (_hl : cs.length = 1) (h : DataW.trod enc Tryz.prog w 0 spare held n 30 cs = some y) : ∃ z : List Box, RBoxes w.heap.size w cs z ∧ True := by
 obtain ⟨v, l, h1, h2, _⟩ := isSl_of_trod (P := Tryz.prog) (R := RBox w.heap.size) (Q := fun _ => True) Tryz.underlying30 cells_box (by omega) box_elem h
 exact ⟨l, ⟨v, h1, h2⟩, trivial⟩
theorem vec_elem (n : Nat) (cs : List Value) (y : DataW H × List MemPlace) (_hl : cs.length = 1) (h : DataW.trod enc Tryz.prog w 0 spare held n 32 cs = some y) : ∃ z : List Int, RVec w.heap.size w cs z ∧ True := by
 obtain ⟨v, l, h1, h2, _⟩ := isSl_of_trod (P := Tryz.prog) (R := RInt) (Q := fun _ => True) Tryz.underlying32 cells_int Nat.one_pos (fun _ _ _ _ h => by obtain ⟨z, hz, _⟩ := int_cell Tryz.underlying3 h; exact ⟨z, hz, trivial⟩) h
 exact ⟨l, ⟨v, h1, h2⟩, trivial⟩
theorem open_fils {A : Option Addr} {len cap : Nat} {d : DataW H} {p : List MemPlace} (h : DataW.Trod enc Tryz.prog w 0 spare held 22 (.slice A len cap) d p) :
  ∃ l : List (List Box), l.length = len ∧ len ≤ cap ∧ SlFils w.heap.size w A l ∧ True := by
 obtain ⟨fuel, hf⟩ := h
 obtain ⟨l, hl, h1, h2, h3, _⟩ := sl_of_trod (R := RBoxes w.heap.size) (Q := fun _ => True) Tryz.underlying22 cells_fil Nat.one_pos fil_elem hf
 exact ⟨l, hl, by omega, h3, trivial⟩
theorem open_vecs {A : Option Addr} {len cap : Nat} {d : DataW H} {p : List MemPlace} (h : DataW.Trod enc Tryz.prog w 0 spare held 23 (.slice A len cap) d p) :
  ∃ l : List (List Int), l.length = len ∧ len ≤ cap ∧ SlVecs w.heap.size w A l ∧ True := by
 obtain ⟨fuel, hf⟩ := h
 obtain ⟨l, hl, h1, h2, h3, _⟩ := sl_of_trod (R := RVec w.heap.size) (Q := fun _ => True) Tryz.underlying23 cells_vec Nat.one_pos vec_elem hf
 exact ⟨l, hl, by omega, h3, trivial⟩
end
def AllF (f : List Box) : Prop := ∀ p, pointOk p = true → filterIn f p = true
theorem allF_every : AllF (plainF everyF) := fun _ hp => by rw [filterIn_plain hp everyF_ok]; exact filterIn_every hp
def Got (H : List Version) (L : List SiteS) (n k : Nat) : Prop := ∃ g, L[n]? = some g ∧ AllF g.filter ∧ ∀ v ∈ H, ∀ i : Nat, i < k → v.dot.site = (i : Int) → HasOr H g v
section
variable {Fok : Nat → List Box → Prop} {b : Int} {M : Int → Int} {H : List Version} {L : List SiteS}
theorem got_zero {n : Nat} {g : SiteS} (hg : L[n]? = some g) (hF : AllF g.filter) : Got H L n 0 := ⟨g, hg, hF, fun _ _ i hi => by omega⟩
theorem got_step (h : TopJ Fok b M H L) {n k : Nat} (hG : Got H L n k) {g x : SiteS} (hg : L[n]? = some g) (hx : L[k]? = some x) (he : takeErr g (giveB x (askS g)) = 0) : Got H (L.set n (takeS g (giveB x (askS g)))) n (k + 1) := by
 obtain ⟨g', hg', hF, hh⟩ := hG
 rw [hg] at hg'
 injection hg' with hg'
 subst hg'
 obtain ⟨_, hst⟩ := h.asked hg hx
 obtain ⟨a1, a2, _, _⟩ := h.inv n g hg
 obtain ⟨b1, b2, _, _⟩ := h.inv k x hx
 refine ⟨_, List.getElem?_set_self (List.getElem?_eq_some_iff.1 hg).1, by rw [hst.filter]; exact hF, fun v hv i hi hd => ?_⟩
 by_cases e : i = k
 ·subst e
  exact asked_has h.hist b1 a1 he hv (own_has h.hist b1 hv (by rw [hd, b2])) (hF _ (h.hist.ok v hv).pt)
 ·exact hst.has v hv (hh v hv i (by omega) hd)
theorem got_full (h : TopJ Fok b M H L) {n : Nat} (hl : L.length = n + 1) (hG : Got H L n n) {g : SiteS} (hg : L[n]? = some g) : FullH H g := by
 obtain ⟨g', hg', hF, hh⟩ := hG
 rw [hg] at hg'
 injection hg' with hg'
 subst hg'
 obtain ⟨a1, a2, _, _⟩ := h.inv n g hg
 intro v hv
 obtain ⟨i, hi, hd⟩ := h.home v hv
 by_cases e : i = n
 ·exact own_has h.hist a1 hv (by rw [hd, a2, e])
 ·exact hh v hv i (by omega) hd
theorem asked_all (h : TopJ Fok b M H L) {n k : Nat} {g x : SiteS} (hg : L[n]? = some g) (hf : FullH H g) (hx : L[k]? = some x) (he : takeErr x (giveB g (askS x)) = 0) : (takeS x (giveB g (askS x))).shelf = wantedL g.shelf (takeS x (giveB g (askS x))).filter (k : Int) := by
 obtain ⟨a1, _⟩ := h.inv n g hg
 obtain ⟨b1, b2, _⟩ := h.inv k x hx
 obtain ⟨_, hst⟩ := h.asked hx hg
 rw [asked_wanted h.hist a1 b1 hf he, hst.filter, b2]
end
end Go.Proofs.YtngbfdogiciahaaGreat
