/- Several texts in one: data, readings, plain laws, walks. No condition. -/
import Derived.Test.YtngbfdogiciahaaGreatJoinFilC
import Derived.Test.YtngbfdogiciahaaGreatKnI
import Derived.Test.YtngbfdogiciahaaGreatWalks
import Derived.Test.YtngbfdogiciahaaGreatBase
import Derived.ChangeKeysEq
import Derived.Deep.RegionWith
import Derived.Deep.DeepCutAuto
namespace Go.Proofs.YtngbfdogiciahaaGreat
open Go Go.RowKit
theorem cube_InB (b : Box) (h : cubeCheck b.cube = 0) (t : Nat) (ht : t < 16) (w : World) : Calls Tryz.prog 144 #[.agg #[.int .i64 b.cube.yes, .int .i64 b.cube.no], .int .i64 t] w fun e w' => e = .returned (.bool (boxIn b t)) ∧ Ext w w' := by
 obtain ⟨y, n, hc⟩ := cubeOk_of h
 rw [show boxIn b t = cubeIn y n t by rw [boxIn, hc.yes, hc.no, Int.toNat_natCast, Int.toNat_natCast]]
 exact cube_In b.cube y n t hc ht w
theorem filter_In1 (B b0 : Nat) (b : Box) (A' : Option Addr) (c' t : Nat) (num : Int) (w : World) (ht : t < 16) (hb : BoxOk b) (hl : b.spans.length ≤ maxLen) (hs : SlSpans B w A' b.spans)
  (h0 : w.cell? ⟨b0, 0, none⟩ = some (.int .i64 t)) (h1 : w.cell? ⟨b0, 1, none⟩ = some (.int .i64 num)) :
  Calls Tryz.prog 143 #[.agg #[.int .i64 b.cube.yes, .int .i64 b.cube.no, .slice A' b.spans.length c'], .pointer (some ⟨b0, 0, none⟩)] w fun e w' => e = .returned (.bool (boxIn b t && spanIn b.spans num)) ∧ Ext w w' := by
 have hz : b0 < w.heap.size := World.block_lt_of_cell? _ _ h0
 have HB := hid hb.1
 clear hb
 go_enter Tryz.func143, Tryz.ntmps143
 go_wp2_with fail
 refine (cube_InB b HB.out t ht _).mono ?_
 rintro e w1 ⟨rfl, hx1⟩
 have g2 : w1.cell? ⟨w.heap.size, 2, none⟩ = some (.slice A' b.spans.length c') := hx1.cell (by go_simp)
 have hxa := ((Ext.refl w).alloc (.cells #[.int .i64 b.cube.yes, .int .i64 b.cube.no, .slice A' b.spans.length c'] 142)).trans hx1
 replace h1 := hxa.cell h1
 clear hx1
 cases hI : boxIn b t
 ·have HI := hid hI
  clear hI
  go_wp2_with fail
  go_ret
  exact ⟨ret_bool (by rw [HI.out]; rfl), hxa⟩
 ·have HI := hid hI
  clear hI
  go_wp2_with fail
  refine (span_In B A' c' b.spans num _ hl (hs.ext RPair.mono hxa)).mono ?_
  rintro e w2 ⟨rfl, hx2⟩
  go_wp2_with fail
  go_ret
  exact ⟨ret_bool (by rw [HI.out]; rfl), hxa.trans hx2⟩
theorem any_take (p : Box → Bool) (f : List Box) (k : Nat) (hk : k < f.length) : (f.take (k + 1)).any p = ((f.take k).any p || p f[k]) := by
 rw [List.take_succ_eq_append_getElem hk, List.any_append]; simp
theorem index_boxes (B : Nat) (fn : FuncId) (cap : Array Value) (A : Option Addr) (c : Nat) (f : List Box) (p : Box → Bool) (w : World) (hl : f.length ≤ maxLen) (h : SlBoxes B w A f)
  (hc : ∀ (args : Array Value) (wn : World), (callFunc fn args).run Tryz.prog wn = .ok (.enter fn args) wn)
  (hf : ∀ (k : Nat) (hk : k < f.length) (A' : Option Addr) (c' : Nat) (wn : World), Ext w wn → f[k].spans.length ≤ maxLen → SlSpans B wn A' f[k].spans →
   Calls Tryz.prog fn (#[.agg #[.int .i64 f[k].cube.yes, .int .i64 f[k].cube.no, .slice A' f[k].spans.length c']] ++ cap) wn fun e w' => e = .returned (.bool (p f[k])) ∧ Ext wn w') :
  Calls Tryz.prog 189 #[.slice A f.length c, .func (.func fn) #[] cap] w fun e w' => ∃ i : Int, e = .returned (.int .i64 i) ∧ decide (0 ≤ i) = f.any p ∧ Ext w w' := by
 unfold maxLen at hl
 have HF := hid hf
 clear hf
 go_enter Tryz.func189, Tryz.ntmps189
 go_wp2_with fail
 go_loopw [8] (fun i wr => ∃ k : Nat, k ≤ f.length ∧ i = .int .i64 k ∧ (f.take k).any p = false ∧ Ext w wr) (fun i _ => f.length - (intOf i).toNat)
 case atStart => exact ⟨0, Nat.zero_le _, rfl, rfl, Ext.refl _⟩
 case round =>
  obtain ⟨k, hk, rfl, hG, hx⟩ := hrel
  have HG := hid hG
  clear hG
  by_cases hlt : k < f.length
  ·obtain ⟨b, off, A', c', rfl, hb, g0, g1, g2, hsl, hs⟩ := (h.ext RBox.monoE hx).box hlt
   have HS := hid (any_take p f k hlt)
   go_wp2_with fail
   refine (HF.out k hlt A' c' _ hx hsl hs).mono ?_
   rintro e w1 ⟨rfl, hx1⟩
   cases hp : p f[k]
   ·have HP := hid hp
    clear hp
    go_wp2_with fail
    go_roundw
    case rel => exact ⟨k + 1, hlt, by go_num, by rw [HS.out, HG.out, HP.out]; rfl, hx.trans hx1⟩
    case measure => simp [intOf]; omega
   ·have HP := hid hp
    clear hp
    go_wp2_with fail
    go_ret
    exact ⟨k, rfl, by rw [List.any_eq_true.2 ⟨f[k], List.getElem_mem hlt, HP.out⟩]; simp, hx.trans hx1⟩
  ·obtain rfl : k = f.length := by omega
   rw [List.take_length] at HG
   go_wp2_with fail
   go_ret
   exact ⟨-1, rfl, by rw [HG.out]; rfl, hx⟩
theorem contains_boxes (B : Nat) (fn : FuncId) (cap : Array Value) (A : Option Addr) (c : Nat) (f : List Box) (p : Box → Bool) (w : World) (hl : f.length ≤ maxLen) (h : SlBoxes B w A f)
  (hc : ∀ (args : Array Value) (wn : World), (callFunc fn args).run Tryz.prog wn = .ok (.enter fn args) wn)
  (hf : ∀ (k : Nat) (hk : k < f.length) (A' : Option Addr) (c' : Nat) (wn : World), Ext w wn → f[k].spans.length ≤ maxLen → SlSpans B wn A' f[k].spans →
   Calls Tryz.prog fn (#[.agg #[.int .i64 f[k].cube.yes, .int .i64 f[k].cube.no, .slice A' f[k].spans.length c']] ++ cap) wn fun e w' => e = .returned (.bool (p f[k])) ∧ Ext wn w') :
  Calls Tryz.prog 142 #[.slice A f.length c, .func (.func fn) #[] cap] w fun e w' => e = .returned (.bool (f.any p)) ∧ Ext w w' := by
 have HF := hid hf
 clear hf
 go_enter Tryz.func142, Tryz.ntmps142
 go_wp2_with fail
 refine (index_boxes B fn cap A c f p _ hl h hc HF.out).mono ?_
 rintro e w1 ⟨i, rfl, hi, hx⟩
 go_wp2_with fail
 go_ret
 exact ⟨ret_bool rfl, hx⟩
theorem filter_In (B : Nat) (A : Option Addr) (c : Nat) (f : List Box) (p : Point) (w : World) (hl : f.length ≤ maxLen) (hok : ∀ b ∈ f, BoxOk b) (hp : pointOk p = true) (h : SlBoxes B w A f) :
  Calls Tryz.prog 87 #[.slice A f.length c, .agg #[.int .i64 p.tags, .int .i64 p.num]] w fun e w' => e = .returned (.bool (filterIn f p)) ∧ Ext w w' := by
 obtain ⟨h1, h2, h3, h4⟩ := pointOk_iff.1 hp
 obtain ⟨tags, num⟩ := p
 obtain ⟨t, rfl⟩ := Int.eq_ofNat_of_zero_le h1
 have ht : t < 16 := by simp at h2; omega
 have HOK := hid hok
 have HE := hid (show filterIn f ⟨t, num⟩ = f.any fun b => boxIn b t && spanIn b.spans num by simp [filterIn])
 clear hok hp h1 h2 h3 h4
 go_enter Tryz.func87, Tryz.ntmps87
 go_wp2_with fail
 have hx0 := (Ext.refl w).alloc (.cells #[.int .i64 t, .int .i64 num] 40)
 refine (contains_boxes B 143 #[.pointer (some ⟨w.heap.size, 0, none⟩)] A c f (fun b => boxIn b t && spanIn b.spans num) _ hl (h.ext RBox.monoE hx0) Tryz.call143 (fun k hk A' c' wn hxn hsl hs => filter_In1 B w.heap.size f[k] A' c' t num wn ht (HOK.out _ (List.getElem_mem hk)) hsl hs (hxn.cell (by go_simp)) (hxn.cell (by go_simp)))).mono ?_
 rintro e w1 ⟨rfl, hx⟩
 go_wp2_with fail
 go_ret
 exact ⟨ret_bool HE.out.symm, hx0.trans hx⟩
theorem filter_Has (B : Nat) (A : Option Addr) (c : Nat) (f : List Box) (p : Point) (w : World) (hl : f.length ≤ maxLen) (h : SlBoxes B w A f) :
  Calls Tryz.prog 77 #[.slice A f.length c, .agg #[.int .i64 p.tags, .int .i64 p.num]] w fun e w' => e = .returned (.tuple #[.bool (filterHas f p), .int .i64 (filterHasErr f p)]) ∧ Ext w w' := by
 have hx0 := (Ext.refl w).alloc (.cells #[.int .i64 p.tags, .int .i64 p.num] 40)
 by_cases h0 : filterCheck f = 0
 ·have HOK := hid (filterCheck_ok h0).2
  cases hp : pointOk p
  ·have hE : filterHasErr f p = 1 := by rw [filterHasErr, if_pos h0, hp]; rfl
   have hH : filterHas f p = false := by rw [filterHas, hE]; rfl
   go_enter Tryz.func77, Tryz.ntmps77
   go_wp2_with fail
   refine (filter_Check B A c f _ hl (h.ext RBox.monoE hx0)).mono ?_
   rintro e w1 ⟨rfl, hx1⟩
   have q1 : w1.cell? ⟨w.heap.size, 0, none⟩ = some (.int .i64 p.tags) := hx1.cell (by go_simp)
   have q2 : w1.cell? ⟨w.heap.size, 1, none⟩ = some (.int .i64 p.num) := hx1.cell (by go_simp)
   have hx := hx0.trans hx1
   clear hx1
   go_wp2_with fail
   refine (filter_Point p _).mono ?_
   rintro e w2 ⟨rfl, hx2⟩
   go_wp2_with fail
   go_ret2
   exact ⟨by simp [hE, hH], hx.trans hx2⟩
  ·have hE : filterHasErr f p = 0 := by rw [filterHasErr, if_pos h0, hp]; rfl
   have hH : filterHas f p = filterIn f p := by rw [filterHas, hE]; rfl
   have HP := hid hp
   go_enter Tryz.func77, Tryz.ntmps77
   go_wp2_with fail
   refine (filter_Check B A c f _ hl (h.ext RBox.monoE hx0)).mono ?_
   rintro e w1 ⟨rfl, hx1⟩
   have q1 : w1.cell? ⟨w.heap.size, 0, none⟩ = some (.int .i64 p.tags) := hx1.cell (by go_simp)
   have q2 : w1.cell? ⟨w.heap.size, 1, none⟩ = some (.int .i64 p.num) := hx1.cell (by go_simp)
   have hx := hx0.trans hx1
   clear hx1
   go_wp2_with fail
   refine (filter_Point p _).mono ?_
   rintro e w2 ⟨rfl, hx2⟩
   replace q1 := hx2.cell q1
   replace q2 := hx2.cell q2
   replace hx := hx.trans hx2
   go_wp2_with fail
   refine (filter_In B A c f p _ hl HOK.out HP.out (h.ext RBox.monoE hx)).mono ?_
   rintro e w3 ⟨rfl, hx3⟩
   go_wp2_with fail
   go_ret2
   exact ⟨by simp [hE, hH], hx.trans hx3⟩
 ·have hE : filterHasErr f p = filterCheck f := by rw [filterHasErr, if_neg h0]
  have hH : filterHas f p = false := by rw [filterHas, hE]; simp [h0]
  have hne : (filterCheck f != 0) = true := by simpa using h0
  go_enter Tryz.func77, Tryz.ntmps77
  go_wp2_with fail
  refine (filter_Check B A c f _ hl (h.ext RBox.monoE hx0)).mono ?_
  rintro e w1 ⟨rfl, hx1⟩
  go_wp2_with fail
  go_ret2
  exact ⟨by simp [hE, hH], hx0.trans hx1⟩
end Go.Proofs.YtngbfdogiciahaaGreat
namespace Go.Proofs.YtngbfdogiciahaaGreat
open Go Go.RowKit
set_option maxRecDepth 100000 in
theorem equal_ints (B1 B2 : Nat) (A1 : Option Addr) (c1 : Nat) (A2 : Option Addr) (c2 : Nat) (l m : List Int) (w : World) (h : SlInts B1 w A1 l) (g : SlInts B2 w A2 m) (hml : l.length ≤ maxLen) :
  Calls Tryz.prog 107 #[.slice A1 l.length c1, .slice A2 m.length c2] w fun e w' => e = .returned (.bool (decide (l = m))) ∧ Ext w w' := by
 have hmx : (l.length : Int) ≤ 9223372036854775807 := by unfold maxLen at hml; omega
 clear hml
 by_cases hlen : l.length = m.length
 ·have hne : ((l.length : Int) != (m.length : Int)) = false := by simp [hlen]
  have HL := hid hlen
  clear hlen
  go_enter Tryz.func107, Tryz.ntmps107
  go_wp2_with fail
  go_loopw [13] (fun i wr => ∃ j : Nat, j ≤ l.length ∧ i = .int .i64 j ∧ l.take j = m.take j ∧ Ext w wr) (fun i _ => l.length - (intOf i).toNat)
  case atStart => exact ⟨0, Nat.zero_le _, rfl, rfl, Ext.refl w⟩
  case round =>
   obtain ⟨j, hj, rfl, ht, hx⟩ := hrel
   have HT := hid ht
   clear ht
   by_cases hlt : j < l.length
   ·have hmt : j < m.length := by have := HL.out; omega
    have HX := hid hx
    have j0 : (0 : Int) ≤ j := by omega
    have j1 : (j : Int) < l.length := by omega
    have j2 : (j : Int) < m.length := by omega
    have HT1 := hid (List.take_append_getElem hlt)
    have HT2 := hid (List.take_append_getElem hmt)
    have HLT := hid hlt
    have HNE := hid (show l[j] ≠ m[j] → l ≠ m from fun hn he => hn (by subst he; rfl))
    obtain ⟨b1, o1, rfl, _, g0⟩ := (h.ext RInt.mono hx).int hlt
    obtain ⟨b2, o2, rfl, _, p0⟩ := (g.ext RInt.mono hx).int hmt
    generalize l[j] = x at *
    generalize m[j] = y at *
    clear hx hlt hmt
    by_cases he : x = y
    ·subst he
     go_upto_region 6 with fail
     go_quiet (fail)
     go_wp2_with fail
     go_roundw
     case rel => exact ⟨j + 1, HLT.out, by go_num, by rw [← HT1.out, ← HT2.out, HT.out], HX.out.drewN _⟩
     case measure => have := HLT.out; simp [intOf]; omega
    ·have hne' : (x != y) = true := by simpa using he
     have HD := hid he
     clear he
     go_upto_region 6 with fail
     go_quiet (fail)
     go_wp2_with fail
     go_ret
     exact ⟨ret_bool (decide_eq_false (HNE.out HD.out)).symm, HX.out.drewN _⟩
   ·obtain rfl : j = l.length := by omega
    have HE := hid (show l = m by
     have h1 := HT.out
     rwa [List.take_length, HL.out, List.take_length] at h1)
    clear hlt hj
    go_wp2_with fail
    go_ret
    exact ⟨ret_bool (by rw [HE.out]; simp), hx⟩
 ·have hne : ((l.length : Int) != (m.length : Int)) = true := by simp; omega
  have HE := hid (show l ≠ m from fun e => hlen (by rw [e]))
  clear hlen
  go_enter Tryz.func107, Tryz.ntmps107
  go_wp2_with fail
  go_ret
  exact ⟨ret_bool (decide_eq_false HE.out).symm, Ext.refl w⟩
set_option maxRecDepth 100000 in
theorem equal_dots (B1 B2 : Nat) (A1 : Option Addr) (c1 : Nat) (A2 : Option Addr) (c2 : Nat) (l m : List Dot) (w : World) (h : SlDots B1 w A1 l) (g : SlDots B2 w A2 m) (hml : l.length ≤ maxLen) :
  Calls Tryz.prog 108 #[.slice A1 l.length c1, .slice A2 m.length c2] w fun e w' => e = .returned (.bool (decide (l = m))) ∧ Ext w w' := by
 have hmx : (l.length : Int) ≤ 9223372036854775807 := by unfold maxLen at hml; omega
 clear hml
 by_cases hlen : l.length = m.length
 ·have hne : ((l.length : Int) != (m.length : Int)) = false := by simp [hlen]
  have HL := hid hlen
  clear hlen
  go_enter Tryz.func108, Tryz.ntmps108
  go_wp2_with fail
  go_loopw [13] (fun i wr => ∃ j : Nat, j ≤ l.length ∧ i = .int .i64 j ∧ l.take j = m.take j ∧ Ext w wr) (fun i _ => l.length - (intOf i).toNat)
  case atStart => exact ⟨0, Nat.zero_le _, rfl, rfl, Ext.refl w⟩
  case round =>
   obtain ⟨j, hj, rfl, ht, hx⟩ := hrel
   have HT := hid ht
   clear ht
   by_cases hlt : j < l.length
   ·have hmt : j < m.length := by have := HL.out; omega
    have HX := hid hx
    have j0 : (0 : Int) ≤ j := by omega
    have j1 : (j : Int) < l.length := by omega
    have j2 : (j : Int) < m.length := by omega
    have HT1 := hid (List.take_append_getElem hlt)
    have HT2 := hid (List.take_append_getElem hmt)
    have HLT := hid hlt
    have HNE := hid (show l[j] ≠ m[j] → l ≠ m from fun hn he => hn (by subst he; rfl))
    obtain ⟨b1, o1, rfl, _, g0, g1⟩ := (h.ext RPair.mono hx).pair hlt
    obtain ⟨b2, o2, rfl, _, p0, p1⟩ := (g.ext RPair.mono hx).pair hmt
    generalize l[j] = x at *
    generalize m[j] = y at *
    clear hx hlt hmt
    obtain ⟨x1, x2⟩ := x
    obtain ⟨y1, y2⟩ := y
    simp only at g0 g1 p0 p1
    by_cases he : x1 = y1
    ·subst he
     by_cases hf : x2 = y2
     ·subst hf
      go_upto_region 6 with fail
      go_quiet (fail)
      go_wp2_with fail
      go_roundw
      case rel => exact ⟨j + 1, HLT.out, by go_num, by rw [← HT1.out, ← HT2.out, HT.out], HX.out.drewN _⟩
      case measure => have := HLT.out; simp [intOf]; omega
     ·have hne' : (x2 == y2) = false := by simpa using hf
      have HD := hid (show (⟨x1, x2⟩ : Dot) ≠ ⟨x1, y2⟩ from fun e => hf (by injection e))
      clear hf
      go_upto_region 6 with fail
      go_quiet (fail)
      go_wp2_with fail
      go_ret
      exact ⟨ret_bool (decide_eq_false (HNE.out HD.out)).symm, HX.out.drewN _⟩
    ·have hne' : (x1 == y1) = false := by simpa using he
     have HD := hid (show (⟨x1, x2⟩ : Dot) ≠ ⟨y1, y2⟩ from fun e => he (by injection e))
     clear he
     go_upto_region 6 with fail
     go_quiet (fail)
     go_wp2_with fail
     go_ret
     exact ⟨ret_bool (decide_eq_false (HNE.out HD.out)).symm, HX.out.drewN _⟩
   ·obtain rfl : j = l.length := by omega
    have HE := hid (show l = m by
     have h1 := HT.out
     rwa [List.take_length, HL.out, List.take_length] at h1)
    clear hlt hj
    go_wp2_with fail
    go_ret
    exact ⟨ret_bool (by rw [HE.out]; simp), hx⟩
 ·have hne : ((l.length : Int) != (m.length : Int)) = true := by simp; omega
  have HE := hid (show l ≠ m from fun e => hlen (by rw [e]))
  clear hlen
  go_enter Tryz.func108, Tryz.ntmps108
  go_wp2_with fail
  go_ret
  exact ⟨ret_bool (decide_eq_false HE.out).symm, Ext.refl w⟩
theorem ref_SameKnow (B1 B2 : Nat) (k l : Know) (Av : Option Addr) (cv : Nat) (Am : Option Addr) (cm : Nat) (Bv : Option Addr) (dv : Nat) (Bm : Option Addr) (dm : Nat) (w : World) (h : InK B1 w Av Am k) (g : InK B2 w Bv Bm l) :
  Calls Tryz.prog 49 #[.agg #[.slice Av k.vec.length cv, .slice Am k.more.length cm], .agg #[.slice Bv l.vec.length dv, .slice Bm l.more.length dm]] w fun e w' => e = .returned (.bool (decide (k = l))) ∧ Ext w w' := by
 have hx := ((Ext.refl w).alloc (.cells #[.slice Av k.vec.length cv, .slice Am k.more.length cm] 101)).alloc (.cells #[.slice Bv l.vec.length dv, .slice Bm l.more.length dm] 101)
 have HF := hid (show decide (k = l) = (decide (k.vec = l.vec) && decide (k.more = l.more)) by
  rw [← Bool.decide_and]
  congr 1
  obtain ⟨a, b⟩ := k
  obtain ⟨c, d⟩ := l
  simp)
 have HC := hid (fun w' (a : SlInts B1 w' Av k.vec) (b : SlInts B2 w' Bv l.vec) => equal_ints B1 B2 Av cv Bv dv k.vec l.vec w' a b h.lv)
 generalize hb : decide (k.vec = l.vec) = b at *
 clear hb
 cases b
 ·go_enter Tryz.func49, Tryz.ntmps49
  go_wp2_with fail
  refine (HC.out _ (h.ext hx).sv (g.ext hx).sv).mono ?_
  rintro e w1 ⟨rfl, hx1⟩
  go_wp2_with fail
  go_ret
  exact ⟨ret_bool HF.out.symm, hx.trans hx1⟩
 ·go_enter Tryz.func49, Tryz.ntmps49
  go_wp2_with fail
  refine (HC.out _ (h.ext hx).sv (g.ext hx).sv).mono ?_
  rintro e w1 ⟨rfl, hx1⟩
  have q0 : w1.cell? ⟨w.heap.size, 1, none⟩ = some (.slice Am k.more.length cm) := hx1.cell (by go_simp)
  have q1 : w1.cell? ⟨w.heap.size + 1, 1, none⟩ = some (.slice Bm l.more.length dm) := hx1.cell (by go_simp)
  go_wp2_with fail
  refine (equal_dots B1 B2 Am cm Bm dm k.more l.more w1 (h.ext (hx.trans hx1)).sm (g.ext (hx.trans hx1)).sm h.lm).mono ?_
  rintro e w2 ⟨rfl, hx2⟩
  generalize decide (k.more = l.more) = bb at *
  go_wp2_with fail
  go_ret
  exact ⟨ret_bool HF.out.symm, (hx.trans hx1).trans hx2⟩
end Go.Proofs.YtngbfdogiciahaaGreat
