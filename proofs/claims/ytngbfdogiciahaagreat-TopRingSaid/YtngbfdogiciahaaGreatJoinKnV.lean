/- Several texts in one: data, readings, plain laws, walks. No condition. -/
import Derived.Test.YtngbfdogiciahaaGreatKnI
import Derived.Test.YtngbfdogiciahaaGreatWalks
import Derived.Test.YtngbfdogiciahaaGreatBase
import Derived.ChangeKeysEq
import Derived.Deep.RegionWith
import Derived.Deep.DeepCutAuto
import Derived.Test.YtngbfdogiciahaaGreatKnM
import Derived.Test.YtngbfdogiciahaaGreatJoinKnU
import Derived.Test.YtngbfdogiciahaaGreatJoinFilC
namespace Go.Proofs.YtngbfdogiciahaaGreat
open Go Go.RowKit
set_option maxRecDepth 100000 in
theorem equal_ints (B1 B2 : Nat) (A1 : Option Addr) (c1 : Nat) (A2 : Option Addr) (c2 : Nat) (l m : List Int) (w : World) (h : SlInts B1 w A1 l) (g : SlInts B2 w A2 m) (hml : l.length ≤ maxLen) :
  Calls Tryz.prog 107 #[.slice A1 l.length c1, .slice A2 m.length c2] w fun e w' => e = .returned (.bool (decide (l = m))) ∧ Ext w w' := by
 have hmx : (l.length : Int) ≤ 9223372036854775807 := by unfold maxLen at hml; omega
 clear hml
 by_cases hlen : l.length = m.length
 ·have hne : ((l.length : Int) != (m.length : Int)) = false := by simp [hlen]
  have HL := hid hlen
  clear hlen
  go_enter Tryz.func107, Tryz.ntmps107
  go_wp2_with fail
  go_loopw [13] (fun i wr => ∃ j : Nat, j ≤ l.length ∧ i = .int .i64 j ∧ l.take j = m.take j ∧ Ext w wr) (fun i _ => l.length - (intOf i).toNat)
  case atStart => exact ⟨0, Nat.zero_le _, rfl, rfl, Ext.refl w⟩
  case round =>
   obtain ⟨j, hj, rfl, ht, hx⟩ := hrel
   have HT := hid ht
   clear ht
   by_cases hlt : j < l.length
   ·have hmt : j < m.length := by have := HL.out; omega
    have HX := hid hx
    have j0 : (0 : Int) ≤ j := by omega
    have j1 : (j : Int) < l.length := by omega
    have j2 : (j : Int) < m.length := by omega
    have HT1 := hid (List.take_append_getElem hlt)
    have HT2 := hid (List.take_append_getElem hmt)
    have HLT := hid hlt
    have HNE := hid (show l[j] ≠ m[j] → l ≠ m from fun hn he => hn (by subst he; rfl))
    obtain ⟨b1, o1, rfl, _, g0⟩ := (h.ext RInt.mono hx).int hlt
    obtain ⟨b2, o2, rfl, _, p0⟩ := (g.ext RInt.mono hx).int hmt
    generalize l[j] = x at *
    generalize m[j] = y at *
    clear hx hlt hmt
    by_cases he : x = y
    ·subst he
     go_upto_region 6 with fail
     go_quiet (fail)
     go_wp2_with fail
     go_roundw
     case rel => exact ⟨j + 1, HLT.out, by go_num, by rw [← HT1.out, ← HT2.out, HT.out], HX.out.drewN _⟩
     case measure => have := HLT.out; simp [intOf]; omega
    ·have hne' : (x != y) = true := by simpa using he
     have HD := hid he
     clear he
     go_upto_region 6 with fail
     go_quiet (fail)
     go_wp2_with fail
     go_ret
     exact ⟨ret_bool (decide_eq_false (HNE.out HD.out)).symm, HX.out.drewN _⟩
   ·obtain rfl : j = l.length := by omega
    have HE := hid (show l = m by
     have h1 := HT.out
     rwa [List.take_length, HL.out, List.take_length] at h1)
    clear hlt hj
    go_wp2_with fail
    go_ret
    exact ⟨ret_bool (by rw [HE.out]; simp), hx⟩
 ·have hne : ((l.length : Int) != (m.length : Int)) = true := by simp; omega
  have HE := hid (show l ≠ m from fun e => hlen (by rw [e]))
  clear hlen
  go_enter Tryz.func107, Tryz.ntmps107
  go_wp2_with fail
  go_ret
  exact ⟨ret_bool (decide_eq_false HE.out).symm, Ext.refl w⟩
set_option maxRecDepth 100000 in
theorem equal_dots (B1 B2 : Nat) (A1 : Option Addr) (c1 : Nat) (A2 : Option Addr) (c2 : Nat) (l m : List Dot) (w : World) (h : SlDots B1 w A1 l) (g : SlDots B2 w A2 m) (hml : l.length ≤ maxLen) :
  Calls Tryz.prog 108 #[.slice A1 l.length c1, .slice A2 m.length c2] w fun e w' => e = .returned (.bool (decide (l = m))) ∧ Ext w w' := by
 have hmx : (l.length : Int) ≤ 9223372036854775807 := by unfold maxLen at hml; omega
 clear hml
 by_cases hlen : l.length = m.length
 ·have hne : ((l.length : Int) != (m.length : Int)) = false := by simp [hlen]
  have HL := hid hlen
  clear hlen
  go_enter Tryz.func108, Tryz.ntmps108
  go_wp2_with fail
  go_loopw [13] (fun i wr => ∃ j : Nat, j ≤ l.length ∧ i = .int .i64 j ∧ l.take j = m.take j ∧ Ext w wr) (fun i _ => l.length - (intOf i).toNat)
  case atStart => exact ⟨0, Nat.zero_le _, rfl, rfl, Ext.refl w⟩
  case round =>
   obtain ⟨j, hj, rfl, ht, hx⟩ := hrel
   have HT := hid ht
   clear ht
   by_cases hlt : j < l.length
   ·have hmt : j < m.length := by have := HL.out; omega
    have HX := hid hx
    have j0 : (0 : Int) ≤ j := by omega
    have j1 : (j : Int) < l.length := by omega
    have j2 : (j : Int) < m.length := by omega
    have HT1 := hid (List.take_append_getElem hlt)
    have HT2 := hid (List.take_append_getElem hmt)
    have HLT := hid hlt
    have HNE := hid (show l[j] ≠ m[j] → l ≠ m from fun hn he => hn (by subst he; rfl))
    obtain ⟨b1, o1, rfl, _, g0, g1⟩ := (h.ext RPair.mono hx).pair hlt
    obtain ⟨b2, o2, rfl, _, p0, p1⟩ := (g.ext RPair.mono hx).pair hmt
    generalize l[j] = x at *
    generalize m[j] = y at *
    clear hx hlt hmt
    obtain ⟨x1, x2⟩ := x
    obtain ⟨y1, y2⟩ := y
    simp only at g0 g1 p0 p1
    by_cases he : x1 = y1
    ·subst he
     by_cases hf : x2 = y2
     ·subst hf
      go_upto_region 6 with fail
      go_quiet (fail)
      go_wp2_with fail
      go_roundw
      case rel => exact ⟨j + 1, HLT.out, by go_num, by rw [← HT1.out, ← HT2.out, HT.out], HX.out.drewN _⟩
      case measure => have := HLT.out; simp [intOf]; omega
     ·have hne' : (x2 == y2) = false := by simpa using hf
      have HD := hid (show (⟨x1, x2⟩ : Dot) ≠ ⟨x1, y2⟩ from fun e => hf (by injection e))
      clear hf
      go_upto_region 6 with fail
      go_quiet (fail)
      go_wp2_with fail
      go_ret
      exact ⟨ret_bool (decide_eq_false (HNE.out HD.out)).symm, HX.out.drewN _⟩
    ·have hne' : (x1 == y1) = false := by simpa using he
     have HD := hid (show (⟨x1, x2⟩ : Dot) ≠ ⟨y1, y2⟩ from fun e => he (by injection e))
     clear he
     go_upto_region 6 with fail
     go_quiet (fail)
     go_wp2_with fail
     go_ret
     exact ⟨ret_bool (decide_eq_false (HNE.out HD.out)).symm, HX.out.drewN _⟩
   ·obtain rfl : j = l.length := by omega
    have HE := hid (show l = m by
     have h1 := HT.out
     rwa [List.take_length, HL.out, List.take_length] at h1)
    clear hlt hj
    go_wp2_with fail
    go_ret
    exact ⟨ret_bool (by rw [HE.out]; simp), hx⟩
 ·have hne : ((l.length : Int) != (m.length : Int)) = true := by simp; omega
  have HE := hid (show l ≠ m from fun e => hlen (by rw [e]))
  clear hlen
  go_enter Tryz.func108, Tryz.ntmps108
  go_wp2_with fail
  go_ret
  exact ⟨ret_bool (decide_eq_false HE.out).symm, Ext.refl w⟩
theorem ref_SameKnow (B1 B2 : Nat) (k l : Know) (Av : Option Addr) (cv : Nat) (Am : Option Addr) (cm : Nat) (Bv : Option Addr) (dv : Nat) (Bm : Option Addr) (dm : Nat) (w : World) (h : InK B1 w Av Am k) (g : InK B2 w Bv Bm l) :
  Calls Tryz.prog 49 #[.agg #[.slice Av k.vec.length cv, .slice Am k.more.length cm], .agg #[.slice Bv l.vec.length dv, .slice Bm l.more.length dm]] w fun e w' => e = .returned (.bool (decide (k = l))) ∧ Ext w w' := by
 have hx := ((Ext.refl w).alloc (.cells #[.slice Av k.vec.length cv, .slice Am k.more.length cm] 101)).alloc (.cells #[.slice Bv l.vec.length dv, .slice Bm l.more.length dm] 101)
 have HF := hid (show decide (k = l) = (decide (k.vec = l.vec) && decide (k.more = l.more)) by
  rw [← Bool.decide_and]
  congr 1
  obtain ⟨a, b⟩ := k
  obtain ⟨c, d⟩ := l
  simp)
 have HC := hid (fun w' (a : SlInts B1 w' Av k.vec) (b : SlInts B2 w' Bv l.vec) => equal_ints B1 B2 Av cv Bv dv k.vec l.vec w' a b h.lv)
 generalize hb : decide (k.vec = l.vec) = b at *
 clear hb
 cases b
 ·go_enter Tryz.func49, Tryz.ntmps49
  go_wp2_with fail
  refine (HC.out _ (h.ext hx).sv (g.ext hx).sv).mono ?_
  rintro e w1 ⟨rfl, hx1⟩
  go_wp2_with fail
  go_ret
  exact ⟨ret_bool HF.out.symm, hx.trans hx1⟩
 ·go_enter Tryz.func49, Tryz.ntmps49
  go_wp2_with fail
  refine (HC.out _ (h.ext hx).sv (g.ext hx).sv).mono ?_
  rintro e w1 ⟨rfl, hx1⟩
  have q0 : w1.cell? ⟨w.heap.size, 1, none⟩ = some (.slice Am k.more.length cm) := hx1.cell (by go_simp)
  have q1 : w1.cell? ⟨w.heap.size + 1, 1, none⟩ = some (.slice Bm l.more.length dm) := hx1.cell (by go_simp)
  go_wp2_with fail
  refine (equal_dots B1 B2 Am cm Bm dm k.more l.more w1 (h.ext (hx.trans hx1)).sm (g.ext (hx.trans hx1)).sm h.lm).mono ?_
  rintro e w2 ⟨rfl, hx2⟩
  generalize decide (k.more = l.more) = bb at *
  go_wp2_with fail
  go_ret
  exact ⟨ret_bool HF.out.symm, (hx.trans hx1).trans hx2⟩
end Go.Proofs.YtngbfdogiciahaaGreat
namespace Go.Proofs.YtngbfdogiciahaaGreat
open Go Go.RowKit
def Lead (v : List Int) (j : Nat) (u : List Int) : Prop := u.length = 5 ∧ ∀ s : Nat, s < 5 → vecAt u s = vecAt (v.take j) s
theorem Lead.start (v : List Int) : Lead v 0 [0, 0, 0, 0, 0] := by
 refine ⟨rfl, fun s hs => ?_⟩
 rw [List.take_zero, vecAt_nil]
 match s, hs with
 | 0, _ => rfl
 | 1, _ => rfl
 | 2, _ => rfl
 | 3, _ => rfl
 | 4, _ => rfl
theorem Lead.step {v u : List Int} {j : Nat} (h : Lead v j u) (hj : j < v.length) (h5 : j < 5) : Lead v (j + 1) (u.set j v[j]) := by
 refine ⟨by simp [h.1], fun s hs => ?_⟩
 have e1 := vecAt_set u j s v[j] (by omega) (by omega) (by simp [h.1]; omega)
 rw [Int.toNat_natCast] at e1
 rw [e1, vecAt_take]
 by_cases e : s = j
 ·subst e
  rw [if_pos rfl, if_pos (by omega), vecAt_in hj]
 ·rw [if_neg (by omega), h.2 s hs, vecAt_take]
  by_cases g : s < j
  ·rw [if_pos g, if_pos (by omega)]
  ·rw [if_neg g, if_neg (by omega)]
end Go.Proofs.YtngbfdogiciahaaGreat
namespace Go.Proofs.YtngbfdogiciahaaGreat
open Go Go.RowKit
set_option maxHeartbeats 1000000 in
theorem part_Check (B : Nat) (A : Option Addr) (c : Nat) (l : List Part) (w : World) (hl : l.length ≤ maxLen) (h : SlParts B w A l) :
  Calls Tryz.prog 103 #[.slice A l.length c] w fun e w' => e = .returned (.int .i64 (partsCheck l)) ∧ Ext w w' := by
 unfold maxLen at hl
 by_cases h30 : 30 < l.length
 ·go_enter Tryz.func103, Tryz.ntmps103
  go_wp2_with fail
  go_ret
  exact ⟨ret_int (by simp [partsCheck, h30]), Ext.refl _⟩
 have HE := hid (show partsCheck l = partsGo l by simp [partsCheck, h30])
 go_enter Tryz.func103, Tryz.ntmps103
 go_wp2_with fail
 go_loopw [12] (fun i wr => ∃ k : Nat, k ≤ l.length ∧ i = .int .i64 k ∧ partsGo (l.drop k) = partsGo l ∧ Ext w wr) (fun i _ => l.length - (intOf i).toNat)
 case atStart => exact ⟨0, Nat.zero_le _, rfl, rfl, Ext.refl _⟩
 case round =>
  obtain ⟨k, hk, rfl, hG, hx⟩ := hrel
  have HG := hid hG
  clear hG
  by_cases hlt : k < l.length
  ·obtain ⟨b, off, Af, cf, Av, cv, Am, cm, rfl, hb, g0, g1, g2, hp⟩ := (h.ext RPart.monoE hx).part hlt
   have HS := hid (partsGo_drop l k hlt)
   have HP := hid hp
   clear hp
   go_wp2_with fail
   refine (filter_Check B Af cf l[k].filter _ HP.out.lf (HP.out.sf.ext RBox.monoE ((Ext.refl wr).alloc _))).mono ?_
   rintro e w1 ⟨rfl, hx1⟩
   have q1 : w1.cell? ⟨wr.heap.size, 1, none⟩ = some (.slice Av l[k].know.vec.length cv) := hx1.cell (by go_simp)
   have q2 : w1.cell? ⟨wr.heap.size, 2, none⟩ = some (.slice Am l[k].know.more.length cm) := hx1.cell (by go_simp)
   have hxr : Ext wr w1 := ((Ext.refl wr).alloc _).trans hx1
   have HK := hid (HP.out.k.ext hxr)
   replace hx := hx.trans hxr
   clear hx1 hxr
   by_cases hc : filterCheck l[k].filter = 0
   ·rw [hc]
    have HC := hid hc
    clear hc
    go_wp2_with fail
    refine (know_Check B l[k].know Av cv Am cm _ HK.out).mono ?_
    rintro e w2 ⟨rfl, hx2⟩
    replace hx := hx.trans hx2
    by_cases hd : knowCheck l[k].know = 0
    ·rw [hd]
     have HD := hid hd
     clear hd
     go_wp2_with fail
     go_roundw
     case rel => exact ⟨k + 1, hlt, by go_num, by rw [← HG.out, HS.out, if_pos HC.out, if_pos HD.out], hx⟩
     case measure => simp [intOf]; omega
    ·have hne : (knowCheck l[k].know != 0) = true := by simpa using hd
     have HD := hid hd
     clear hd
     go_wp2_with fail
     go_ret
     exact ⟨ret_int (by rw [HE.out, ← HG.out, HS.out, if_pos HC.out, if_neg HD.out]), hx⟩
   ·have hne : (filterCheck l[k].filter != 0) = true := by simpa using hc
    have HC := hid hc
    clear hc
    go_wp2_with fail
    go_ret
    exact ⟨ret_int (by rw [HE.out, ← HG.out, HS.out, if_neg HC.out]), hx⟩
  ·obtain rfl : k = l.length := by omega
   go_wp2_with fail
   go_ret
   exact ⟨ret_int (by rw [HE.out, ← HG.out]; simp [partsGo]), hx⟩
theorem part_In1 (B b0 b1 : Nat) (x : Part) (Af : Option Addr) (cf : Nat) (Av : Option Addr) (cv : Nat) (Am : Option Addr) (cm : Nat) (p : Point) (d : Dot) (w : World) (hp : pointOk p = true) (hd : dotOk d = true) (hx : PartOk x) (hi : InP B w Af cf Av cv Am cm x)
  (p0 : w.cell? ⟨b0, 0, none⟩ = some (.int .i64 p.tags)) (p1 : w.cell? ⟨b0, 1, none⟩ = some (.int .i64 p.num)) (d0 : w.cell? ⟨b1, 0, none⟩ = some (.int .i64 d.site)) (d1 : w.cell? ⟨b1, 1, none⟩ = some (.int .i64 d.count)) :
  Calls Tryz.prog 168 #[.agg #[.slice Af x.filter.length cf, .slice Av x.know.vec.length cv, .slice Am x.know.more.length cm], .pointer (some ⟨b0, 0, none⟩), .pointer (some ⟨b1, 0, none⟩)] w fun e w' => e = .returned (.bool (partIn p d x)) ∧ Ext w w' := by
 have hz0 : b0 < w.heap.size := World.block_lt_of_cell? _ _ p0
 have hz1 : b1 < w.heap.size := World.block_lt_of_cell? _ _ d0
 have HI := hid hi
 have HX := hid hx
 have HP := hid hp
 have HD := hid hd
 clear hi hx hp hd
 go_enter Tryz.func168, Tryz.ntmps168
 go_wp2_with fail
 refine (filter_In B Af cf x.filter p _ HI.out.lf (filterCheck_ok HX.out.f).2 HP.out (HI.out.sf.ext RBox.monoE ((Ext.refl w).alloc _))).mono ?_
 rintro e w1 ⟨rfl, hx1⟩
 have q1 : w1.cell? ⟨w.heap.size, 1, none⟩ = some (.slice Av x.know.vec.length cv) := hx1.cell (by go_simp)
 have q2 : w1.cell? ⟨w.heap.size, 2, none⟩ = some (.slice Am x.know.more.length cm) := hx1.cell (by go_simp)
 have hxa := ((Ext.refl w).alloc (.cells #[.slice Af x.filter.length cf, .slice Av x.know.vec.length cv, .slice Am x.know.more.length cm] 181)).trans hx1
 replace d0 := hxa.cell d0
 replace d1 := hxa.cell d1
 have HE := hid (show partIn p d x = (filterIn x.filter p && inK x.know d) from rfl)
 clear hx1 p0 p1
 cases hI : filterIn x.filter p
 ·have HF := hid hI
  clear hI
  go_wp2_with fail
  go_ret
  exact ⟨ret_bool (by rw [HE.out, HF.out]; rfl), hxa⟩
 ·have HF := hid hI
  clear hI
  go_wp2_with fail
  refine (know_In B x.know Av cv Am cm d _ (HI.out.k.ext hxa) HX.out.k HD.out).mono ?_
  rintro e w2 ⟨rfl, hx2⟩
  go_wp2_with fail
  go_ret
  exact ⟨ret_bool (by rw [HE.out, HF.out]; rfl), hxa.trans hx2⟩
theorem index_parts (B : Nat) (fn : FuncId) (cap : Array Value) (A : Option Addr) (c : Nat) (f : List Part) (p : Part → Bool) (w : World) (hl : f.length ≤ maxLen) (h : SlParts B w A f)
  (hc : ∀ (args : Array Value) (wn : World), (callFunc fn args).run Tryz.prog wn = .ok (.enter fn args) wn)
  (hf : ∀ (k : Nat) (hk : k < f.length) (Af : Option Addr) (cf : Nat) (Av : Option Addr) (cv : Nat) (Am : Option Addr) (cm : Nat) (wn : World), Ext w wn → InP B wn Af cf Av cv Am cm f[k] →
   Calls Tryz.prog fn (#[.agg #[.slice Af f[k].filter.length cf, .slice Av f[k].know.vec.length cv, .slice Am f[k].know.more.length cm]] ++ cap) wn fun e w' => e = .returned (.bool (p f[k])) ∧ Ext wn w') :
  Calls Tryz.prog 201 #[.slice A f.length c, .func (.func fn) #[] cap] w fun e w' => ∃ i : Int, e = .returned (.int .i64 i) ∧ decide (0 ≤ i) = f.any p ∧ Ext w w' := by
 unfold maxLen at hl
 have HF := hid hf
 clear hf
 go_enter Tryz.func201, Tryz.ntmps201
 go_wp2_with fail
 go_loopw [8] (fun i wr => ∃ k : Nat, k ≤ f.length ∧ i = .int .i64 k ∧ (f.take k).any p = false ∧ Ext w wr) (fun i _ => f.length - (intOf i).toNat)
 case atStart => exact ⟨0, Nat.zero_le _, rfl, rfl, Ext.refl _⟩
 case round =>
  obtain ⟨k, hk, rfl, hG, hx⟩ := hrel
  have HG := hid hG
  clear hG
  by_cases hlt : k < f.length
  ·obtain ⟨b, off, Af, cf, Av, cv, Am, cm, rfl, hb, g0, g1, g2, hp⟩ := (h.ext RPart.monoE hx).part hlt
   have HS := hid (any_takeR p f k hlt)
   go_wp2_with fail
   refine (HF.out k hlt Af cf Av cv Am cm _ hx hp).mono ?_
   rintro e w1 ⟨rfl, hx1⟩
   cases hp : p f[k]
   ·have HP := hid hp
    clear hp
    go_wp2_with fail
    go_roundw
    case rel => exact ⟨k + 1, hlt, by go_num, by rw [HS.out, HG.out, HP.out]; rfl, hx.trans hx1⟩
    case measure => simp [intOf]; omega
   ·have HP := hid hp
    clear hp
    go_wp2_with fail
    go_ret
    exact ⟨k, rfl, by rw [List.any_eq_true.2 ⟨f[k], List.getElem_mem hlt, HP.out⟩]; simp, hx.trans hx1⟩
  ·obtain rfl : k = f.length := by omega
   rw [List.take_length] at HG
   go_wp2_with fail
   go_ret
   exact ⟨-1, rfl, by rw [HG.out]; rfl, hx⟩
theorem contains_parts (B : Nat) (fn : FuncId) (cap : Array Value) (A : Option Addr) (c : Nat) (f : List Part) (p : Part → Bool) (w : World) (hl : f.length ≤ maxLen) (h : SlParts B w A f)
  (hc : ∀ (args : Array Value) (wn : World), (callFunc fn args).run Tryz.prog wn = .ok (.enter fn args) wn)
  (hf : ∀ (k : Nat) (hk : k < f.length) (Af : Option Addr) (cf : Nat) (Av : Option Addr) (cv : Nat) (Am : Option Addr) (cm : Nat) (wn : World), Ext w wn → InP B wn Af cf Av cv Am cm f[k] →
   Calls Tryz.prog fn (#[.agg #[.slice Af f[k].filter.length cf, .slice Av f[k].know.vec.length cv, .slice Am f[k].know.more.length cm]] ++ cap) wn fun e w' => e = .returned (.bool (p f[k])) ∧ Ext wn w') :
  Calls Tryz.prog 167 #[.slice A f.length c, .func (.func fn) #[] cap] w fun e w' => e = .returned (.bool (f.any p)) ∧ Ext w w' := by
 have HF := hid hf
 clear hf
 go_enter Tryz.func167, Tryz.ntmps167
 go_wp2_with fail
 refine (index_parts B fn cap A c f p _ hl h hc HF.out).mono ?_
 rintro e w1 ⟨i, rfl, hi, hx⟩
 go_wp2_with fail
 go_ret
 exact ⟨ret_bool rfl, hx⟩
theorem part_In (B : Nat) (A : Option Addr) (c : Nat) (l : List Part) (p : Point) (d : Dot) (w : World) (hl : l.length ≤ maxLen) (hok : ∀ x ∈ l, PartOk x) (hp : pointOk p = true) (hd : dotOk d = true) (h : SlParts B w A l) :
  Calls Tryz.prog 104 #[.slice A l.length c, .agg #[.int .i64 p.tags, .int .i64 p.num], .agg #[.int .i64 d.site, .int .i64 d.count]] w fun e w' => e = .returned (.bool (partsIn l p d)) ∧ Ext w w' := by
 have HOK := hid hok
 have HP := hid hp
 have HD := hid hd
 clear hok hp hd
 have HE := hid (show partsIn l p d = l.any (partIn p d) from rfl)
 go_enter Tryz.func104, Tryz.ntmps104
 go_wp2_with fail
 have hx0 := ((Ext.refl w).alloc (.cells #[.int .i64 p.tags, .int .i64 p.num] 40)).alloc (.cells #[.int .i64 d.site, .int .i64 d.count] 35)
 refine (contains_parts B 168 #[.pointer (some ⟨w.heap.size, 0, none⟩), .pointer (some ⟨w.heap.size + 1, 0, none⟩)] A c l (partIn p d) _ hl (h.ext RPart.monoE hx0) Tryz.call168 (fun k hk Af cf Av cv Am cm wn hxn hi => part_In1 B w.heap.size (w.heap.size + 1) l[k] Af cf Av cv Am cm p d wn HP.out HD.out (HOK.out _ (List.getElem_mem hk)) hi (hxn.cell (by go_simp)) (hxn.cell (by go_simp)) (hxn.cell (by go_simp)) (hxn.cell (by go_simp)))).mono ?_
 rintro e w1 ⟨rfl, hx⟩
 go_wp2_with fail
 go_ret
 exact ⟨ret_bool HE.out.symm, hx0.trans hx⟩
end Go.Proofs.YtngbfdogiciahaaGreat
