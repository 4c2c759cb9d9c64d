/- The walks of slices.Clone at dots and at ints, of know.Made. -/
import Derived.Test.YtmedmfjhpabfdaaWalks
import Derived.Shelf.SlLaysF0
import Derived.Test.YtmedmfjhpabfdaaProg
import Derived.Shelf.SlSortCmp.NoneTotal
import Derived.Test.YtmedmfjhpabfdaaBase
namespace Go.Proofs.Ytmedmfjhpabfdaa
open Go Go.RowKit

theorem ei_dot : ElemInfo Try.prog 42 38 2 16 := ElemInfo.mk_ (z := .agg #[.int .i64 0, .int .i64 0]) Try.underlying42 (by kernel_rfl) rfl (by decide)
theorem ei_int : ElemInfo Try.prog 41 3 1 8 := ElemInfo.mk_ (z := .int .i64 0) Try.underlying41 (by kernel_rfl) rfl (by decide)
set_option maxRecDepth 100000 in
theorem clone_dots (B : Nat) (A : Option Addr) (c : Nat) (l : List Dot) (w : World) (hl : l.length ≤ 1000000) (h : Sl B 38 RDot 2 w A l) :
    Calls Try.prog 137 #[.slice A l.length c] w fun e w' => ∃ v, e = .returned v ∧ Own RDot 2 38 w' w.heap.size v l ∧ Ext w w' := by
  cases A with
  | none =>
    obtain rfl : l = [] := Sl.none_nil h
    have he : ∀ w : World, (binOp .eql 42 (.slice none 0 c) (.slice none 0 0)).run Try.prog w = .ok (.bool true) w := fun _ => rfl
    go_enter Try.func137, Try.ntmps137
    go_wp2_with fail
    go_ret
    exact ⟨_, rfl, Own.nil, Ext.refl _⟩
  | some a =>
    have he : ∀ w : World, (binOp .eql 42 (.slice (some a) l.length c) (.slice none 0 0)).run Try.prog w = .ok (.bool false) w := fun _ => rfl
    have hx0 := (Ext.refl w).alloc (.cells #[] 38)
    go_enter Try.func137, Try.ntmps137
    go_wp2_with (at_builtin; refine wpList_app (ys := l) (B := w.heap.size) rfl _ _ rfl ei_dot rfl (Own.empty (Nat.le_refl _)) (Nat.le_refl _) hx0.size rfl (h.ext RPair.mono hx0) RPair.oneC RPair.mono ?_ ?_ ?_)
    · simp [maxLen]; omega
    · simp; omega
    · intro v w2 ho hc hb _
      have hx := hx0.below hb (Nat.le_refl _)
      clear hc hb
      go_wp2_with fail
      go_ret
      exact ⟨_, rfl, ho, hx⟩
set_option maxRecDepth 100000 in
theorem clone_ints (B : Nat) (A : Option Addr) (c : Nat) (l : List Int) (w : World) (hl : l.length ≤ 1000000) (h : Sl B 3 RInt 1 w A l) :
    Calls Try.prog 139 #[.slice A l.length c] w fun e w' => ∃ v, e = .returned v ∧ Own RInt 1 3 w' w.heap.size v l ∧ Ext w w' := by
  cases A with
  | none =>
    obtain rfl : l = [] := Sl.none_nil h
    have he : ∀ w : World, (binOp .eql 41 (.slice none 0 c) (.slice none 0 0)).run Try.prog w = .ok (.bool true) w := fun _ => rfl
    go_enter Try.func139, Try.ntmps139
    go_wp2_with fail
    go_ret
    exact ⟨_, rfl, Own.nil, Ext.refl _⟩
  | some a =>
    have he : ∀ w : World, (binOp .eql 41 (.slice (some a) l.length c) (.slice none 0 0)).run Try.prog w = .ok (.bool false) w := fun _ => rfl
    have hx0 := (Ext.refl w).alloc (.cells #[] 3)
    go_enter Try.func139, Try.ntmps139
    go_wp2_with (at_builtin; refine wpList_app (ys := l) (B := w.heap.size) rfl _ _ rfl ei_int rfl (Own.empty (Nat.le_refl _)) (Nat.le_refl _) hx0.size rfl (h.ext RInt.mono hx0) RInt.oneC RInt.mono ?_ ?_ ?_)
    · simp [maxLen]; omega
    · simp; omega
    · intro v w2 ho hc hb _
      have hx := hx0.below hb (Nat.le_refl _)
      clear hc hb
      go_wp2_with fail
      go_ret
      exact ⟨_, rfl, ho, hx⟩

/-- a vector in a cell. -/
def RVec (B : Nat) (w : World) (cs : List Value) (l : List Int) : Prop := ∃ v, cs = [v] ∧ IsInts B w v l
theorem RVec.monoE {B : Nat} : Mono B [] (RVec B) := by
  rintro w w' cs l x ⟨v, rfl, h⟩
  exact ⟨v, rfl, h.chg RInt.mono (by simp) x⟩
abbrev SlVecs (B : Nat) := Sl B 41 (RVec B) 1
theorem Sl.vec {B : Nat} {w : World} {A : Option Addr} {l : List (List Int)} (h : SlVecs B w A l) {i : Nat} (hi : i < l.length) :
    ∃ b off A' c, A = some ⟨b, off, none⟩ ∧ b < w.heap.size ∧ w.cell? ⟨b, off + i, none⟩ = some (.slice A' l[i].length c) ∧ SlInts B w A' l[i] := by
  obtain ⟨b, off, cs, hA, hb, _, hc, v, rfl, A', c, rfl, _, _, hs⟩ := h.at_ hi
  have := hc 0 _ rfl
  simp only [Nat.mul_one, Nat.add_zero] at this
  exact ⟨b, off, A', c, hA, hb, this, hs⟩

theorem set_rowI {w : World} {g : Nat} {u : List Int} (h : Blk w g 3 (rowI u)) (i : Nat) (x : Int) : Blk (w.setCell ⟨g, i, none⟩ (.int .i64 x)) g 3 (rowI (u.set i x)) := by
  rw [← rowI_set]; exact h.set i _
end Go.Proofs.Ytmedmfjhpabfdaa
