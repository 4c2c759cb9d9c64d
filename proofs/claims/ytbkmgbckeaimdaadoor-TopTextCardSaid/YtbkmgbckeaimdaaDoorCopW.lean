/- The walks of slices.Clone of spans, of filter.Copied. -/
import Derived.Test.YtbkmgbckeaimdaaDoorFilE
import Derived.Test.YtbkmgbckeaimdaaDoorBase
namespace Go.Proofs.YtbkmgbckeaimdaaDoor
open Go Go.RowKit

set_option maxRecDepth 100000 in
theorem clone_spans (B : Nat) (A : Option Addr) (c : Nat) (l : List Span) (w : World) (hl : l.length ≤ 1000000) (h : Sl B 56 (RPair Span.fr Span.to) 2 w A l) :
    Calls Tryd.prog 48 #[.slice A l.length c] w fun e w' => ∃ v, e = .returned v ∧ Own (RPair Span.fr Span.to) 2 56 w' w.heap.size v l ∧ Ext w w' := by
  cases A with
  | none =>
    obtain rfl : l = [] := Sl.none_nil h
    have he : ∀ w : World, (binOp .eql 49 (.slice none 0 c) (.slice none 0 0)).run Tryd.prog w = .ok (.bool true) w := fun _ => rfl
    go_enter Tryd.func48, Tryd.ntmps48
    go_wp2_with fail
    go_ret
    exact ⟨_, rfl, Own.nil, Ext.refl _⟩
  | some a =>
    have he : ∀ w : World, (binOp .eql 49 (.slice (some a) l.length c) (.slice none 0 0)).run Tryd.prog w = .ok (.bool false) w := fun _ => rfl
    have hx0 := (Ext.refl w).alloc (.cells #[] 56)
    go_enter Tryd.func48, Tryd.ntmps48
    go_wp2_with (at_builtin; refine wpList_app (ys := l) (B := w.heap.size) rfl _ _ rfl ei_span rfl (Own.empty (Nat.le_refl _)) (Nat.le_refl _) hx0.size rfl (h.ext RPair.mono hx0) RPair.oneC RPair.mono ?_ ?_ ?_)
    · simp [maxLen]; omega
    · simp; omega
    · intro v w2 ho hc hb _
      have hx := hx0.below hb (Nat.le_refl _)
      clear hc hb
      go_wp2_with fail
      go_ret
      exact ⟨_, rfl, ho, hx⟩

set_option maxRecDepth 100000 in
set_option maxHeartbeats 1000000 in
theorem filter_Copied (B : Nat) (A : Option Addr) (c : Nat) (f : List Box) (w : World) (hB : B ≤ w.heap.size) (hl : f.length ≤ 100000) (hs : ∀ b ∈ f, b.spans.length ≤ 1000000) (h : SlBoxes B w A f) :
    Calls Tryd.prog 29 #[.slice A f.length c] w fun e w' => ∃ v, e = .returned v ∧ IsBoxes B w' v f ∧ Ext w w' := by
  have HS := hid hs
  clear hs
  go_enter Tryd.func29, Tryd.ntmps29
  go_wp2_with fail
  go_loopw [3, 8] (fun o i wr => ∃ k : Nat, k ≤ f.length ∧ i = .int .i64 k ∧ Own (RBox B) 3 51 wr w.heap.size o (f.take k) ∧ Ext w wr) (fun _ i _ => f.length - (intOf i).toNat)
  case atStart => exact ⟨0, Nat.zero_le _, rfl, Own.nil, Ext.refl _⟩
  case round =>
    obtain ⟨k, hk, rfl, ho, hx⟩ := hrel
    by_cases hlt : k < f.length
    · obtain ⟨b, off, A', c', rfl, hbl, g0, g1, g2, hsl, hsp⟩ := (h.ext RBox.monoE hx).box hlt
      have hl1 := hid (show (f.take k).length + 1 ≤ 100000 by rw [List.length_take]; omega)
      have hxa := (Ext.refl wr).alloc (.cells #[.int .i64 f[k].cube.yes, .int .i64 f[k].cube.no, .slice A' f[k].spans.length c'] 51)
      go_wp2_with fail
      refine (clone_spans B A' c' f[k].spans _ (HS.out _ (List.getElem_mem hlt)) (hsp.ext RPair.mono hxa)).mono ?_
      rintro e w1 ⟨v, rfl, hv, hx1⟩
      obtain ⟨Av, cv, rfl, hvc, hvm⟩ := hv.len
      have p0 : w1.cell? ⟨wr.heap.size, 0, none⟩ = some (.int .i64 f[k].cube.yes) := hx1.cell (by go_simp)
      have p1 : w1.cell? ⟨wr.heap.size, 1, none⟩ = some (.int .i64 f[k].cube.no) := hx1.cell (by go_simp)
      have p2 : w1.cell? ⟨wr.heap.size, 2, none⟩ = some (.slice A' f[k].spans.length c') := hx1.cell (by go_simp)
      have pz : w1.frozen? ⟨wr.heap.size, 2, none⟩ = false := by rw [hx1.frozenAt (by simp)]; go_simp
      have pt : tyAt w1 wr.heap.size = some 51 := by rw [tyAt_of (hx1.blockAt (by simp))]; unfold tyAt; rw [heap_alloc_new]
      have hz : wr.heap.size < w1.heap.size := World.block_lt_of_cell? _ _ p0
      have hwr := hx.size
      have hs2 : Ext wr (w1.setCell ⟨wr.heap.size, 2, none⟩ (.slice Av f[k].spans.length cv)) := (hxa.trans hx1).setCell (Nat.le_refl _) _
      have hs3 : Chg B [51] w1 (w1.setCell ⟨wr.heap.size, 2, none⟩ (.slice Av f[k].spans.length cv)) := (Chg.refl w1).setCell (p := ⟨wr.heap.size, 2, none⟩) pt (by simp) _ (by show B ≤ wr.heap.size; omega)
      have hsl2 : IsSpans B (w1.setCell ⟨wr.heap.size, 2, none⟩ (.slice Av f[k].spans.length cv)) (.slice Av f[k].spans.length cv) f[k].spans := (hv.isSl B).chg RPair.mono (by decide) hs3
      replace hx := hx.trans hs2
      replace ho := ho.ext RBox.monoE hs2
      have hone : SlBoxes B ((w1.setCell ⟨wr.heap.size, 2, none⟩ (.slice Av f[k].spans.length cv)).alloc (.cells #[.int .i64 f[k].cube.yes, .int .i64 f[k].cube.no, .slice Av f[k].spans.length cv] 51)) (some ⟨w1.heap.size, 0, none⟩) [f[k]] := by
        have := Sl.one (R := RBox B) (B := B) (e := 51) (sz := 3) (w := w1.setCell ⟨wr.heap.size, 2, none⟩ (.slice Av f[k].spans.length cv)) (cs := [.int .i64 f[k].cube.yes, .int .i64 f[k].cube.no, .slice Av f[k].spans.length cv]) (y := f[k]) rfl rfl ⟨_, rfl, hsl2.ext RPair.mono ((Ext.refl _).alloc _)⟩
        rwa [World.size_setCell] at this
      clear hv hx1 hxa hs2 hs3 pt
      go_wp2_with (at_builtin; refine wpList_app (ys := [f[k]]) rfl _ _ rfl ei_box rfl (ho.ext (B := B) RBox.monoE ((Ext.refl _).alloc _)) hB (hx.alloc _).size rfl hone RBox.oneC (RBox.mono (by decide)) ?_ ?_ ?_)
      · have := hl1.out; simp [maxLen] at this ⊢; omega
      · have := hl1.out; simp at this ⊢; omega
      · intro v2 w3 ho2 hc2 hb2 _
        have hx3 := (hx.alloc (.cells #[.int .i64 f[k].cube.yes, .int .i64 f[k].cube.no, .slice Av f[k].spans.length cv] 51)).below hb2 (Nat.le_refl _)
        clear hc2 hb2 hx
        go_wp2_with fail
        go_roundw
        case rel => exact ⟨k + 1, by omega, by go_num, ho2, hx3⟩
        case measure => simp [intOf]; omega
    · obtain rfl : k = f.length := by omega
      rw [List.take_length] at ho
      go_wp2_with fail
      go_ret
      exact ⟨_, rfl, ho.isSl B, hx⟩

end Go.Proofs.YtbkmgbckeaimdaaDoor
