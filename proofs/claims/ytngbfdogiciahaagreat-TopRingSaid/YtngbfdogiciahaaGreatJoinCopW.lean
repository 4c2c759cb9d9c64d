/- Several texts in one: data, readings, plain laws, walks. No condition. -/
import Derived.Test.YtngbfdogiciahaaGreatJoinFilC
import Derived.Test.YtngbfdogiciahaaGreatBase
import Derived.Test.YtngbfdogiciahaaGreatKnM
import Derived.Lib.AppendZeros
namespace Go.Proofs.YtngbfdogiciahaaGreat
open Go Go.RowKit
set_option maxRecDepth 100000 in
theorem clone_spans (B : Nat) (A : Option Addr) (c : Nat) (l : List Span) (w : World) (hl : l.length ≤ 1000000) (h : Sl B 137 (RPair Span.fr Span.to) 2 w A l) :
  Calls Tryz.prog 136 #[.slice A l.length c] w fun e w' => ∃ v, e = .returned v ∧ Own (RPair Span.fr Span.to) 2 137 w' w.heap.size v l ∧ Ext w w' := by
 cases A with
 | none =>
  obtain rfl : l = [] := Sl.none_nil h
  have he : ∀ w : World, (binOp .eql 138 (.slice none 0 c) (.slice none 0 0)).run Tryz.prog w = .ok (.bool true) w := fun _ => rfl
  go_enter Tryz.func136, Tryz.ntmps136
  go_wp2_with fail
  go_ret
  exact ⟨_, rfl, Own.nil, Ext.refl _⟩
 | some a =>
  have he : ∀ w : World, (binOp .eql 138 (.slice (some a) l.length c) (.slice none 0 0)).run Tryz.prog w = .ok (.bool false) w := fun _ => rfl
  have hx0 := (Ext.refl w).alloc (.cells #[] 137)
  go_enter Tryz.func136, Tryz.ntmps136
  go_wp2_with (at_builtin; refine wpList_app (ys := l) (B := w.heap.size) rfl _ _ rfl ei_span rfl (Own.empty (Nat.le_refl _)) (Nat.le_refl _) hx0.size rfl (h.ext RPair.mono hx0) RPair.oneC RPair.mono ?_ ?_ ?_)
  ·simp [maxLen]; omega
  ·simp; omega
  ·intro v w2 ho hc hb _
   have hx := hx0.below hb (Nat.le_refl _)
   clear hc hb
   go_wp2_with fail
   go_ret
   exact ⟨_, rfl, ho, hx⟩
set_option maxRecDepth 100000 in
set_option maxHeartbeats 1000000 in
theorem filter_Copied (B : Nat) (A : Option Addr) (c : Nat) (f : List Box) (w : World) (hB : B ≤ w.heap.size) (hl : f.length ≤ 100000) (hs : ∀ b ∈ f, b.spans.length ≤ 1000000) (h : SlBoxes B w A f) :
  Calls Tryz.prog 82 #[.slice A f.length c] w fun e w' => ∃ v, e = .returned v ∧ IsBoxes B w' v f ∧ Ext w w' := by
 have HS := hid hs
 clear hs
 go_enter Tryz.func82, Tryz.ntmps82
 go_wp2_with fail
 go_loopw [3, 8] (fun o i wr => ∃ k : Nat, k ≤ f.length ∧ i = .int .i64 k ∧ Own (RBox B) 3 142 wr w.heap.size o (f.take k) ∧ Ext w wr) (fun _ i _ => f.length - (intOf i).toNat)
 case atStart => exact ⟨0, Nat.zero_le _, rfl, Own.nil, Ext.refl _⟩
 case round =>
  obtain ⟨k, hk, rfl, ho, hx⟩ := hrel
  by_cases hlt : k < f.length
  ·obtain ⟨b, off, A', c', rfl, hbl, g0, g1, g2, hsl, hsp⟩ := (h.ext RBox.monoE hx).box hlt
   have hl1 := hid (show (f.take k).length + 1 ≤ 100000 by rw [List.length_take]; omega)
   have hxa := (Ext.refl wr).alloc (.cells #[.int .i64 f[k].cube.yes, .int .i64 f[k].cube.no, .slice A' f[k].spans.length c'] 142)
   go_wp2_with fail
   refine (clone_spans B A' c' f[k].spans _ (HS.out _ (List.getElem_mem hlt)) (hsp.ext RPair.mono hxa)).mono ?_
   rintro e w1 ⟨v, rfl, hv, hx1⟩
   obtain ⟨Av, cv, rfl, hvc, hvm⟩ := hv.len
   have p0 : w1.cell? ⟨wr.heap.size, 0, none⟩ = some (.int .i64 f[k].cube.yes) := hx1.cell (by go_simp)
   have p1 : w1.cell? ⟨wr.heap.size, 1, none⟩ = some (.int .i64 f[k].cube.no) := hx1.cell (by go_simp)
   have p2 : w1.cell? ⟨wr.heap.size, 2, none⟩ = some (.slice A' f[k].spans.length c') := hx1.cell (by go_simp)
   have pz : w1.frozen? ⟨wr.heap.size, 2, none⟩ = false := by rw [hx1.frozenAt (by simp)]; go_simp
   have pt : tyAt w1 wr.heap.size = some 142 := by rw [tyAt_of (hx1.blockAt (by simp))]; unfold tyAt; rw [heap_alloc_new]
   have hz : wr.heap.size < w1.heap.size := World.block_lt_of_cell? _ _ p0
   have hwr := hx.size
   have hs2 : Ext wr (w1.setCell ⟨wr.heap.size, 2, none⟩ (.slice Av f[k].spans.length cv)) := (hxa.trans hx1).setCell (Nat.le_refl _) _
   have hs3 : Chg B [142] w1 (w1.setCell ⟨wr.heap.size, 2, none⟩ (.slice Av f[k].spans.length cv)) := (Chg.refl w1).setCell (p := ⟨wr.heap.size, 2, none⟩) pt (by simp) _ (by show B ≤ wr.heap.size; omega)
   have hsl2 : IsSpans B (w1.setCell ⟨wr.heap.size, 2, none⟩ (.slice Av f[k].spans.length cv)) (.slice Av f[k].spans.length cv) f[k].spans := (hv.isSl B).chg RPair.mono (by decide) hs3
   replace hx := hx.trans hs2
   replace ho := ho.ext RBox.monoE hs2
   have hone : SlBoxes B ((w1.setCell ⟨wr.heap.size, 2, none⟩ (.slice Av f[k].spans.length cv)).alloc (.cells #[.int .i64 f[k].cube.yes, .int .i64 f[k].cube.no, .slice Av f[k].spans.length cv] 142)) (some ⟨w1.heap.size, 0, none⟩) [f[k]] := by
    have := Sl.one (R := RBox B) (B := B) (e := 142) (sz := 3) (w := w1.setCell ⟨wr.heap.size, 2, none⟩ (.slice Av f[k].spans.length cv)) (cs := [.int .i64 f[k].cube.yes, .int .i64 f[k].cube.no, .slice Av f[k].spans.length cv]) (y := f[k]) rfl rfl ⟨_, rfl, hsl2.ext RPair.mono ((Ext.refl _).alloc _)⟩
    rwa [World.size_setCell] at this
   clear hv hx1 hxa hs2 hs3 pt
   go_wp2_with (at_builtin; refine wpList_app (ys := [f[k]]) rfl _ _ rfl ei_box rfl (ho.ext (B := B) RBox.monoE ((Ext.refl _).alloc _)) hB (hx.alloc _).size rfl hone RBox.oneC (RBox.mono (by decide)) ?_ ?_ ?_)
   ·have := hl1.out; simp [maxLen] at this ⊢; omega
   ·have := hl1.out; simp at this ⊢; omega
   ·intro v2 w3 ho2 hc2 hb2 _
    have hx3 := (hx.alloc (.cells #[.int .i64 f[k].cube.yes, .int .i64 f[k].cube.no, .slice Av f[k].spans.length cv] 142)).below hb2 (Nat.le_refl _)
    clear hc2 hb2 hx
    go_wp2_with fail
    go_roundw
    case rel => exact ⟨k + 1, by omega, by go_num, ho2, hx3⟩
    case measure => simp [intOf]; omega
  ·obtain rfl : k = f.length := by omega
   rw [List.take_length] at ho
   go_wp2_with fail
   go_ret
   exact ⟨_, rfl, ho.isSl B, hx⟩
end Go.Proofs.YtngbfdogiciahaaGreat
namespace Go.Proofs.YtngbfdogiciahaaGreat
open Go Go.RowKit
def RDots (B : Nat) (w : World) (cs : List Value) (l : List Dot) : Prop := ∃ v, cs = [v] ∧ IsDots B w v l
theorem RDots.monoE {B : Nat} : Mono B [] (RDots B) := by
 rintro w w' cs l x ⟨v, rfl, h⟩
 exact ⟨v, rfl, h.chg RPair.mono (by simp) x⟩
abbrev SlDotss (B : Nat) := Sl B 99 (RDots B) 1
theorem Sl.dots {B : Nat} {w : World} {A : Option Addr} {l : List (List Dot)} (h : SlDotss B w A l) {i : Nat} (hi : i < l.length) :
  ∃ b off A' c, A = some ⟨b, off, none⟩ ∧ b < w.heap.size ∧ w.cell? ⟨b, off + i, none⟩ = some (.slice A' l[i].length c) ∧ SlDots B w A' l[i] := by
 obtain ⟨b, off, cs, hA, hb, _, hc, v, rfl, A', c, rfl, _, _, hs⟩ := h.at_ hi
 have := hc 0 _ rfl
 simp only [Nat.mul_one, Nat.add_zero] at this
 exact ⟨b, off, A', c, hA, hb, this, hs⟩
theorem info_of {P : Program} {e : TypeId} {z : Value} {sz bytes : Nat} (hi : (P.info? e).map (fun i => (i.zero, i.size, i.bytes)) = some (some z, sz, bytes)) : ∃ i, P.info? e = some i ∧ i.zero = some z ∧ i.size = sz ∧ i.bytes = bytes := by
 cases h : P.info? e with
 | none => rw [h] at hi; cases hi
 | some i =>
  rw [h] at hi
  simp only [Option.map_some, Option.some.injEq, Prod.mk.injEq] at hi
  exact ⟨i, rfl, hi.1, hi.2.1, hi.2.2⟩
theorem zi_dot : ∃ i, Tryz.prog.info? 35 = some i ∧ i.zero = some (.agg #[.int .i64 0, .int .i64 0]) ∧ i.size = 2 ∧ i.bytes = 16 := info_of (by kernel_rfl)
theorem Own.room {α : Type} {R : World → List Value → α → Prop} {sz : Nat} {e : TypeId} {w : World} {cs : Array Value} {base cap : Nat} (hb : base ≤ w.heap.size) (hm : cap ≤ maxLen) (hs : cs.size = cap * sz) :
  Own R sz e (w.alloc (.cells cs e)) base (.slice (some ⟨w.heap.size, 0, none⟩) 0 cap) ([] : List α) := by
 refine ⟨[], rfl, by intro i cs x h; simp at h, by simp, .inr ⟨w.heap.size, cap, cs, rfl, hb, heap_alloc_new w _, Nat.zero_le _, hm, hs, by simp⟩⟩
set_option maxRecDepth 100000 in
theorem grow_dots (n : Nat) (w : World) (hn : n ≤ 1000000) :
  Calls Tryz.prog 249 #[.slice none 0 0, .int .i64 (n : Int)] w fun e w' => ∃ v, e = .returned v ∧ Own RDot 2 35 w' w.heap.size v [] ∧ Ext w w' := by
 have h1 : decide ((n : Int) < 0) = false := decide_eq_false (by omega)
 have h2 : IntKind.i64.wrap (n : Int) = (n : Int) := by rw [IntKind.wrap_i64]; omega
 by_cases h0 : n = 0
 ·subst h0
  go_enter Tryz.func249, Tryz.ntmps249
  go_wp2_with fail
  go_ret
  exact ⟨_, rfl, Own.nil, Ext.refl _⟩
 ·have h3 : decide ((0 : Int) < n) = true := decide_eq_true (by omega)
  have h4 : 0 < n := by omega
  obtain ⟨i, hi, hz, hs, hb⟩ := zi_dot
  have hr := fun ty => Lib.run_append_nil_zeros w 99 3 ty 35 i _ .i64 .i64 Tryz.underlying99 Tryz.underlying3 hi hz n h4 (by omega) (by omega) (by rw [hb]; omega)
  have hg := grownCap_ge w n 0 35
  have hgm := grownCap_le_maxLen w n 0 35 (by unfold maxLen; omega)
  generalize grownCap w n 0 35 = G at *
  have hsz : (Builtin.zeroCells (Value.agg #[.int .i64 0, .int .i64 0]).cells n ++ Builtin.zeroCells (Value.agg #[.int .i64 0, .int .i64 0]).cells (G - n)).size = G * 2 := by
   rw [Array.size_append, size_zeroCells, size_zeroCells, ← Nat.add_mul]
   show (n + (G - n)) * 2 = G * 2
   omega
  generalize Builtin.zeroCells (Value.agg #[.int .i64 0, .int .i64 0]).cells n ++ Builtin.zeroCells (Value.agg #[.int .i64 0, .int .i64 0]).cells (G - n) = cells at *
  have HS := hid hsz
  have HG := hid hgm
  have hG0 : (0 : Int) ≤ G := by omega
  clear hi hz hs hb hsz hgm h0
  go_enter Tryz.func249, Tryz.ntmps249
  go_wp2_with (at_builtin; refine Lib.wpList_append_run _ rfl _ _ _ _ rfl _ _ rfl rfl _ _ (hr _) ?_)
  go_ret
  exact ⟨_, rfl, Own.room (w := w.drew) (Nat.le_refl _) HG.out HS.out, (Ext.refl _).drew.alloc _⟩
theorem flat_succ (ls : List (List Dot)) (j : Nat) (hj : j < ls.length) : (ls.take (j + 1)).flatten = (ls.take j).flatten ++ ls[j] := by
 rw [← List.take_append_getElem hj, List.flatten_append, List.flatten_cons, List.flatten_nil, List.append_nil]
theorem wrap_nat {n : Nat} (h : n ≤ 1000000) : IntKind.i64.wrap (n : Int) = (n : Int) := by rw [IntKind.wrap_i64]; omega
theorem flat_le (ls : List (List Dot)) (j : Nat) : (ls.take j).flatten.length ≤ ls.flatten.length := by
 have h : ls.flatten = (ls.take j).flatten ++ (ls.drop j).flatten := by rw [← List.flatten_append, List.take_append_drop]
 rw [h, List.length_append]; omega
set_option maxRecDepth 100000 in
set_option maxHeartbeats 1000000 in
theorem concat_dots (B : Nat) (A : Option Addr) (c : Nat) (ls : List (List Dot)) (w : World) (hB : B ≤ w.heap.size) (h : SlDotss B w A ls) (hl : ls.length ≤ 1000) (hf : ls.flatten.length ≤ 10000) :
  Calls Tryz.prog 242 #[.slice A ls.length c] w fun e w' => ∃ v, e = .returned v ∧ Own RDot 2 35 w' w.heap.size v ls.flatten ∧ Ext w w' := by
 have HF := hid hf
 clear hf
 go_enter Tryz.func242, Tryz.ntmps242
 go_wp2_with fail
 go_loopw [11, 3] (fun i n wr => ∃ j : Nat, j ≤ ls.length ∧ i = .int .i64 j ∧ n = .int .i64 ((ls.take j).flatten.length : Nat) ∧ wr = w) (fun i _ _ => ls.length - (intOf i).toNat)
 case atStart => exact ⟨0, Nat.zero_le _, rfl, rfl, rfl⟩
 case round =>
  obtain ⟨j, hj, rfl, rfl, rfl⟩ := hrel
  by_cases hlt : j < ls.length
  ·obtain ⟨b, off, A', c', rfl, _, g0, hsl⟩ := h.dots hlt
   have hfl := flat_succ ls j hlt
   have hle := flat_le ls (j + 1)
   have hfb := HF.out
   have hlen : (ls.take (j + 1)).flatten.length = (ls.take j).flatten.length + ls[j].length := by rw [hfl, List.length_append]
   rw [hlen] at hle
   have HL := hid hlen
   generalize (ls.take j).flatten.length = a at *
   generalize ls[j].length = x at *
   obtain ⟨t, ht⟩ : ∃ t, t = a + x := ⟨_, rfl⟩
   have htl : t ≤ 1000000 := by omega
   have es : (a : Int) + (x : Int) = (t : Int) := by omega
   have ew := wrap_nat htl
   have hn : decide ((t : Int) < 0) = false := decide_eq_false (by omega)
   have HT := hid ht
   clear hfl hlen hle hsl hfb ht htl
   go_wp2_with fail
   go_roundw
   case rel => exact ⟨j + 1, hlt, by go_num, by rw [HL.out, ← HT.out], trivial⟩
   case measure => simp [intOf]; omega
  ·obtain rfl : j = ls.length := by omega
   rw [List.take_length]
   have hfb := HF.out
   generalize hn : ls.flatten.length = n at *
   have HN := hid hn
   clear hn hlt hj
   go_wp2_with fail
   refine (grow_dots n wr (by omega)).mono ?_
   rintro e w1 ⟨v, rfl, hov, hx⟩
   have hB1 := Nat.le_trans hB hx.size
   obtain ⟨ws, hws⟩ : ∃ ws, ws = wr.heap.size := ⟨_, rfl⟩
   rw [← hws] at hov
   have hsz : ws ≤ w1.heap.size := by rw [hws]; exact hx.size
   have HH := hid h
   have HW := hid (show wr.heap.size ≤ ws from Nat.le_of_eq hws.symm)
   obtain ⟨wo, rfl⟩ : ∃ wo, wo = wr := ⟨_, rfl⟩
   have HQ := hid (show ws = wo.heap.size from hws)
   clear hws h
   go_wp2_with fail
   go_loopw [27, 6] (fun i v wr => ∃ j : Nat, j ≤ ls.length ∧ i = .int .i64 j ∧ Own RDot 2 35 wr ws v (ls.take j).flatten ∧ Ext wo wr ∧ ws ≤ wr.heap.size) (fun i _ _ => ls.length - (intOf i).toNat)
   case atStart => exact ⟨0, Nat.zero_le _, rfl, hov, hx, hsz⟩
   case round =>
    clear hov hx hsz
    obtain ⟨j, hj, rfl, hov, hx, hsz⟩ := hrel
    by_cases hlt : j < ls.length
    ·obtain ⟨b, off, A', c', rfl, _, g0, hsl⟩ := (HH.out.ext RDots.monoE hx).dots hlt
     have hfl := hid (flat_succ ls j hlt)
     have hle := flat_le ls (j + 1)
     rw [hfl.out, List.length_append] at hle
     have hfb := HF.out
     have hnn := HN.out
     have h63 : (ls.take j).flatten.length + ls[j].length ≤ maxLen := by unfold maxLen; omega
     have hby : ((ls.take j).flatten.length + ls[j].length) * 16 ≤ 140737488355328 := by omega
     have hBs : B ≤ ws := by rw [HQ.out]; exact hB
     clear hle hfb hnn hj
     go_wp2_with (at_builtin; refine wpList_app (c := c') (ys := ls[j]) (B := B) rfl _ _ rfl ei_dot rfl hov hBs hsz rfl hsl RPair.oneC RPair.mono h63 hby ?_; intro v2 w2 ho2 _ hb2 _)
     rw [← hfl.out] at ho2
     have hs2 := Nat.le_trans hsz (Below.size hb2)
     have hx2 := hx.below hb2 HW.out
     clear hov hx hsz hb2 h63 hby hBs hsl g0
     go_wp2_with fail
     go_roundw
     case rel => exact ⟨j + 1, hlt, by go_num, ho2, hx2, hs2⟩
     case measure => simp [intOf]; omega
    ·obtain rfl : j = ls.length := by omega
     rw [List.take_length] at hov
     clear hlt hj
     go_wp2_with fail
     go_ret
     exact ⟨_, rfl, HQ.out ▸ hov, hx⟩
end Go.Proofs.YtngbfdogiciahaaGreat
