/- Several texts in one: data, readings, plain laws, walks. No condition. -/
import Derived.Test.YtngbfdogiciahaaGreatTopG
import Derived.Test.YtngbfdogiciahaaGreatJoinKnU
namespace Go.Proofs.YtngbfdogiciahaaGreat
open Go Go.RowKit
section
open Go.ChangeShapes Go.WideShapes Go.Deep Go.Joins
variable {H : Type} {enc : TypeId × Value → H} {w : World} {spare : Nat → Bool} {held : Bool}
theorem cells_vec : Tryz.prog.cellsOf 32 = 1 := by kernel_rfl
theorem vec_elem (n : Nat) (cs : List Value) (y : DataW H × List MemPlace) (_hl : cs.length = 1) (h : DataW.trod enc Tryz.prog w 0 spare held n 32 cs = some y) : ∃ z : List Int, RVec w.heap.size w cs z ∧ True := by
 obtain ⟨v, l, h1, h2, _⟩ := isSl_of_trod (P := Tryz.prog) (R := RInt) (Q := fun _ => True) Tryz.underlying32 cells_int Nat.one_pos (fun _ _ _ _ h => by obtain ⟨z, hz, _⟩ := int_cell Tryz.underlying3 h; exact ⟨z, hz, trivial⟩) h
 exact ⟨l, ⟨v, h1, h2⟩, trivial⟩
theorem open_vecs {A : Option Addr} {len cap : Nat} {d : DataW H} {p : List MemPlace} (h : DataW.Trod enc Tryz.prog w 0 spare held 23 (.slice A len cap) d p) :
  ∃ l : List (List Int), l.length = len ∧ len ≤ cap ∧ SlVecs w.heap.size w A l ∧ True := by
 obtain ⟨fuel, hf⟩ := h
 obtain ⟨l, hl, h1, h2, h3, _⟩ := sl_of_trod (R := RVec w.heap.size) (Q := fun _ => True) Tryz.underlying23 cells_vec Nat.one_pos vec_elem hf
 exact ⟨l, hl, by omega, h3, trivial⟩
end
def AllF (f : List Box) : Prop := ∀ p, pointOk p = true → filterIn f p = true
theorem allF_every : AllF (plainF everyF) := fun _ hp => by rw [filterIn_plain hp everyF_ok]; exact filterIn_every hp
section
variable {Fok : Nat → List Box → Prop} {b : Int} {M : Int → Int} {H : List Version} {L : List SiteS}
end
end Go.Proofs.YtngbfdogiciahaaGreat
namespace Go.Proofs.YtngbfdogiciahaaGreat
open Go Go.RowKit
section
variable {Fok : Nat → List Box → Prop} {b : Int} {M : Int → Int} {H : List Version} {L : List SiteS}
structure RInv (H : List Version) (L : List SiteS) (r i : Nat) : Prop where
 low : r = 0 → ∀ (j : Nat) (g : SiteS), j < i → L[j]? = some g → ∀ v ∈ H, ∀ q : Nat, v.dot.site = (q : Int) → q ≤ j → HasOr H g v
 last : 1 ≤ r → ∀ g, L[3]? = some g → FullH H g
 high : 1 ≤ r → ∀ (j : Nat) (g : SiteS), j < i → L[j]? = some g → FullH H g
 all : 2 ≤ r → ∀ (j : Nat) (g : SiteS), L[j]? = some g → FullH H g
theorem rinv_zero : RInv H L 0 0 := ⟨fun _ j _ hj => by omega, fun h => by omega, fun h => by omega, fun h => by omega⟩
theorem rinv_next (h : TopJ Fok b M H L) (hl : L.length = 4) {r : Nat} (hr : r < 2) (hI : RInv H L r 4) : RInv H L (r + 1) 0 := by
 have h4 : ∀ (j : Nat) (g : SiteS), L[j]? = some g → j < 4 := fun j g hj => by have := (List.getElem?_eq_some_iff.1 hj).1; omega
 refine ⟨fun h => by omega, fun _ g hg => ?_, fun _ j g hj => by omega, fun h2 j g hg => hI.high (by omega) j g (h4 j g hg) hg⟩
 by_cases e : r = 0
 ·intro v hv
  obtain ⟨i, hi, hd⟩ := h.home v hv
  exact hI.low e 3 g (by omega) hg v hv i hd (by omega)
 ·exact hI.last (by omega) g hg
theorem rinv_step (h : TopJ Fok b M H L) {r i j : Nat} (hr : r < 2) (hI : RInv H L r i) (hi : i < 4) (hj : j = (i + 3) % 4) {x g : SiteS} (hx : L[i]? = some x) (hg : L[j]? = some g) (hF : AllF x.filter) (he : takeErr x (giveB g (askS x)) = 0) : RInv H (L.set i (takeS x (giveB g (askS x)))) r (i + 1) := by
 obtain ⟨_, hst⟩ := h.asked hx hg
 obtain ⟨a1, a2, _, _⟩ := h.inv i x hx
 obtain ⟨b1, _⟩ := h.inv j g hg
 have hgot : ∀ v ∈ H, HasOr H g v → HasOr H (takeS x (giveB g (askS x))) v := fun v hv hh => asked_has h.hist b1 a1 he hv hh (hF _ (h.hist.ok v hv).pt)
 have hfull : FullH H g → FullH H (takeS x (giveB g (askS x))) := fun hf v hv => hgot v hv (hf v hv)
 have hgf : 1 ≤ r → FullH H g := fun h1 => by
  by_cases e : i = 0
  ·exact hI.last h1 g (by rw [hj, e] at hg; exact hg)
  ·exact hI.high h1 j g (by omega) hg
 refine ⟨fun h0 q t hq ht v hv p hd hp => ?_, fun h1 t ht => ?_, fun h1 q t hq ht => ?_, fun h2 => by omega⟩
 ·rcases set_get hx ht with ⟨rfl, rfl⟩ | ⟨hne, ht⟩
  ·by_cases e : p = q
   ·exact hst.has v hv (own_has h.hist a1 hv (by rw [hd, a2, e]))
   ·exact hgot v hv (hI.low h0 j g (by omega) hg v hv p hd (by omega))
  ·exact hI.low h0 q t (by omega) ht v hv p hd hp
 ·rcases set_get hx ht with ⟨_, rfl⟩ | ⟨_, ht⟩
  ·exact hfull (hgf h1)
  ·exact hI.last h1 t ht
 ·rcases set_get hx ht with ⟨_, rfl⟩ | ⟨hne, ht⟩
  ·exact hfull (hgf h1)
  ·exact hI.high h1 q t (by omega) ht
theorem full_same (h : TopJ Fok b M H L) {i j : Nat} {s t : SiteS} (hs : L[i]? = some s) (ht : L[j]? = some t) (fs : FullH H s) (ft : FullH H t) : s.shelf = t.shelf := by
 obtain ⟨a1, _⟩ := h.inv i s hs
 obtain ⟨b1, _⟩ := h.inv j t ht
 refine inc_ext a1.ok.shelf.inc b1.ok.shelf.inc fun v => ⟨fun hv => ?_, fun hv => ?_⟩
 ·have hH := a1.sub v hv
  exact (full_shelf h.hist b1 ft hH).2 ((full_shelf h.hist a1 fs hH).1 hv)
 ·have hH := b1.sub v hv
  exact (full_shelf h.hist a1 fs hH).2 ((full_shelf h.hist b1 ft hH).1 hv)
end
end Go.Proofs.YtngbfdogiciahaaGreat
