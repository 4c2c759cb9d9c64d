/- Several texts in one: data, readings, plain laws, walks. No condition. -/
import Derived.Test.YtngbfdogiciahaaGreatKnI
import Derived.Test.YtngbfdogiciahaaGreatBase
import Derived.Test.YtngbfdogiciahaaGreatWalks
import Derived.ChangeKeysEq
import Derived.Deep.RegionWith
import Derived.Deep.DeepCutAuto
import Derived.Laws.Bits64b
import Derived.Deep.RegionHeld3
import Derived.Test.YtngbfdogiciahaaGreatJoinKnPl
import Derived.Lib.SmallJoins
import Derived.Shelf.SlLaysF0
import Derived.Test.YtngbfdogiciahaaGreatProg
import Derived.Shelf.SlSortCmp.NoneTotal
namespace Go.Proofs.YtngbfdogiciahaaGreat
open Go Go.RowKit
def rowD (S : DSet) : Array Value := rowF 80 fun i => .int .u64 ((wordOf S (i / 16) (i % 16) : Nat) : Int)
theorem rowD_all (S : DSet) : (rowD S).all (·.oneCell') = true := rowF_all fun _ => rfl
end Go.Proofs.YtngbfdogiciahaaGreat
namespace Go.Proofs.YtngbfdogiciahaaGreat
open Go Go.RowKit Go.ChangeShapes Go.WideShapes Go.Deep Go.Joins
def RPart (B : Nat) (w : World) (cs : List Value) (p : Part) : Prop := ∃ f v m, cs = [f, v, m] ∧ IsBoxes B w f p.filter ∧ IsInts B w v p.know.vec ∧ IsDots B w m p.know.more
theorem RPart.mono {B : Nat} {ts : List TypeId} (h1 : 137 ∉ ts) (h2 : 142 ∉ ts) (h3 : 3 ∉ ts) (h4 : 35 ∉ ts) : Mono B ts (RPart B) := by
 rintro w w' cs p x ⟨f, v, m, rfl, hf, hv, hm⟩
 exact ⟨f, v, m, rfl, hf.chg (RBox.mono h1) h2 x, hv.chg RInt.mono h3 x, hm.chg RPair.mono h4 x⟩
theorem RPart.monoE {B : Nat} : Mono B [] (RPart B) := RPart.mono (by simp) (by simp) (by simp) (by simp)
theorem RPart.oneC {B : Nat} : OneC (RPart B) := by
 rintro w cs p ⟨f, v, m, rfl, ⟨_, _, rfl, _⟩, ⟨_, _, rfl, _⟩, ⟨_, _, rfl, _⟩⟩ u hu
 simp at hu
 rcases hu with rfl | rfl | rfl <;> rfl
abbrev SlParts (B : Nat) := Sl B 181 (RPart B) 3
abbrev IsParts (B : Nat) := IsSl B 181 (RPart B) 3
structure InP (B : Nat) (w : World) (Af : Option Addr) (cf : Nat) (Av : Option Addr) (cv : Nat) (Am : Option Addr) (cm : Nat) (p : Part) : Prop where
 lf : p.filter.length ≤ maxLen
 lcf : p.filter.length ≤ cf ∧ cf ≤ maxLen
 sf : SlBoxes B w Af p.filter
 lcv : p.know.vec.length ≤ cv ∧ cv ≤ maxLen
 lcm : p.know.more.length ≤ cm ∧ cm ≤ maxLen
 k : InK B w Av Am p.know
theorem InP.ext {B : Nat} {w w' : World} {Af : Option Addr} {cf : Nat} {Av : Option Addr} {cv : Nat} {Am : Option Addr} {cm : Nat} {p : Part} (h : InP B w Af cf Av cv Am cm p) (x : Ext w w') : InP B w' Af cf Av cv Am cm p :=
 ⟨h.lf, h.lcf, h.sf.ext RBox.monoE x, h.lcv, h.lcm, h.k.ext x⟩
theorem InP.isK {B : Nat} {w : World} {Af : Option Addr} {cf : Nat} {Av : Option Addr} {cv : Nat} {Am : Option Addr} {cm : Nat} {p : Part} (h : InP B w Af cf Av cv Am cm p) : IsK B w (.agg #[.slice Av p.know.vec.length cv, .slice Am p.know.more.length cm]) p.know :=
 ⟨Av, cv, Am, cm, rfl, h.lcv.1, h.lcv.2, h.lcm.1, h.lcm.2, h.k⟩
theorem InP.rpart {B : Nat} {w : World} {Af : Option Addr} {cf : Nat} {Av : Option Addr} {cv : Nat} {Am : Option Addr} {cm : Nat} {p : Part} (h : InP B w Af cf Av cv Am cm p) : RPart B w [.slice Af p.filter.length cf, .slice Av p.know.vec.length cv, .slice Am p.know.more.length cm] p :=
 ⟨_, _, _, rfl, ⟨Af, cf, rfl, h.lcf.1, h.lcf.2, h.sf⟩, ⟨Av, cv, rfl, h.lcv.1, h.lcv.2, h.k.sv⟩, ⟨Am, cm, rfl, h.lcm.1, h.lcm.2, h.k.sm⟩⟩
theorem RPart.inP {B : Nat} {w : World} {cs : List Value} {p : Part} (h : RPart B w cs p) : ∃ Af cf Av cv Am cm, cs = [.slice Af p.filter.length cf, .slice Av p.know.vec.length cv, .slice Am p.know.more.length cm] ∧ InP B w Af cf Av cv Am cm p := by
 obtain ⟨f, v, m, rfl, ⟨Af, cf, rfl, f1, f2, f3⟩, ⟨Av, cv, rfl, v1, v2, v3⟩, ⟨Am, cm, rfl, m1, m2, m3⟩⟩ := h
 exact ⟨Af, cf, Av, cv, Am, cm, rfl, ⟨by omega, ⟨f1, f2⟩, f3, ⟨v1, v2⟩, ⟨m1, m2⟩, ⟨by omega, by omega, v3, m3⟩⟩⟩
theorem Sl.part {B : Nat} {w : World} {A : Option Addr} {l : List Part} (h : SlParts B w A l) {i : Nat} (hi : i < l.length) :
  ∃ b off Af cf Av cv Am cm, A = some ⟨b, off, none⟩ ∧ b < w.heap.size ∧ w.cell? ⟨b, off + i * 3, none⟩ = some (.slice Af l[i].filter.length cf) ∧ w.cell? ⟨b, off + i * 3 + 1, none⟩ = some (.slice Av l[i].know.vec.length cv) ∧
   w.cell? ⟨b, off + i * 3 + 2, none⟩ = some (.slice Am l[i].know.more.length cm) ∧ InP B w Af cf Av cv Am cm l[i] := by
 obtain ⟨b, off, cs, hA, hb, _, hc, hR⟩ := h.at_ hi
 obtain ⟨Af, cf, Av, cv, Am, cm, rfl, hP⟩ := hR.inP
 have g0 := hc 0 _ rfl
 have g1 := hc 1 _ rfl
 have g2 := hc 2 _ rfl
 simp only [Nat.add_zero] at g0
 exact ⟨b, off, Af, cf, Av, cv, Am, cm, hA, hb, g0, g1, g2, hP⟩
section
variable {H : Type} {enc : TypeId × Value → H} {w : World} {spare : Nat → Bool} {held : Bool}
end
def RRef (_ : World) (cs : List Value) (x : RP) : Prop := cs = (rowB 512 x.P ++ rowD x.K).toList
theorem RRef.mono {B : Nat} {ts : List TypeId} : Mono B ts RRef := fun _ _ _ _ _ h => h
theorem refRow_all (x : RP) : (rowB 512 x.P ++ rowD x.K).all (·.oneCell') = true := by
 rw [Array.all_append, rowB_all, rowD_all]; rfl
theorem RRef.oneC : OneC RRef := by
 intro w cs x h u hu
 unfold RRef at h
 rw [h] at hu
 exact Array.all_eq_true_iff_forall_mem.1 (refRow_all x) u (Array.mem_toList_iff.1 hu)
end Go.Proofs.YtngbfdogiciahaaGreat
namespace Go.Proofs.YtngbfdogiciahaaGreat
open Go Go.Shelf
def sortD_ren : Go.Shelf.Ren := ⟨fun | 6 => 191 | 15 => 210 | 14 => 209 | 28 => 235 | 29 => 236 | 20 => 227 | 21 => 228 | 22 => 229 | 23 => 230 | 24 => 231 | 25 => 232 | 26 => 233 | 27 => 234 | 46 => 243 | 47 => 244 | 48 => 245 | 49 => 246 | 50 => 247 | 57 => 250 | n => n, fun | 22 => 99 | 24 => 35 | 25 => 268 | 3 => 3 | 39 => 172 | 0 => 0 | 53 => 206 | 55 => 143 | 4 => 4 | 46 => 301 | 45 => 300 | 50 => 237 | 5 => 5 | 9 => 9 | 66 => 311 | 70 => 315 | 76 => 319 | 77 => 111 | n => n, fun | n => n⟩
theorem sortD : SlLaysF0.n6 Tryz.prog sortD_ren where
 mixed := by kernel_rfl
 f6 := ⟨ "slices.SortFunc[[]reedmace/api.Dot,reedmace/api.Dot]", by decide, Tryz.func191.trans (congrArg some (by kernel_rfl))⟩
 f14 := ⟨ "slices.pdqsortCmpFunc[reedmace/api.Dot]", by decide, Tryz.func209.trans (congrArg some (by kernel_rfl))⟩
 f15 := Tryz.func210.trans (congrArg some (by kernel_rfl))
 f20 := ⟨ "slices.insertionSortCmpFunc[reedmace/api.Dot]", by decide, Tryz.func227.trans (congrArg some (by kernel_rfl))⟩
 f21 := ⟨ "slices.heapSortCmpFunc[reedmace/api.Dot]", by decide, Tryz.func228.trans (congrArg some (by kernel_rfl))⟩
 f22 := ⟨ "slices.breakPatternsCmpFunc[reedmace/api.Dot]", by decide, Tryz.func229.trans (congrArg some (by kernel_rfl))⟩
 f23 := ⟨ "slices.choosePivotCmpFunc[reedmace/api.Dot]", by decide, Tryz.func230.trans (congrArg some (by kernel_rfl))⟩
 f24 := ⟨ "slices.reverseRangeCmpFunc[reedmace/api.Dot]", by decide, Tryz.func231.trans (congrArg some (by kernel_rfl))⟩
 f25 := ⟨ "slices.partialInsertionSortCmpFunc[reedmace/api.Dot]", by decide, Tryz.func232.trans (congrArg some (by kernel_rfl))⟩
 f26 := ⟨ "slices.partitionEqualCmpFunc[reedmace/api.Dot]", by decide, Tryz.func233.trans (congrArg some (by kernel_rfl))⟩
 f27 := ⟨ "slices.partitionCmpFunc[reedmace/api.Dot]", by decide, Tryz.func234.trans (congrArg some (by kernel_rfl))⟩
 f28 := Tryz.func235.trans (congrArg some (by kernel_rfl))
 f29 := Tryz.func236.trans (congrArg some (by kernel_rfl))
 f46 := ⟨ "slices.siftDownCmpFunc[reedmace/api.Dot]", by decide, Tryz.func243.trans (congrArg some (by kernel_rfl))⟩
 f47 := Tryz.func244.trans (congrArg some (by kernel_rfl))
 f48 := Tryz.func245.trans (congrArg some (by kernel_rfl))
 f49 := ⟨ "slices.medianAdjacentCmpFunc[reedmace/api.Dot]", by decide, Tryz.func246.trans (congrArg some (by kernel_rfl))⟩
 f50 := ⟨ "slices.medianCmpFunc[reedmace/api.Dot]", by decide, Tryz.func247.trans (congrArg some (by kernel_rfl))⟩
 f57 := ⟨ "slices.order2CmpFunc[reedmace/api.Dot]", by decide, Tryz.func250.trans (congrArg some (by kernel_rfl))⟩
 t0 := Tryz.underlying0
 a0 := Tryz.isAgg0
 z0 := Tryz.sizeOf0
 v0 := Tryz.zeroValue0
 t3 := Tryz.underlying3
 a3 := Tryz.isAgg3
 z3 := Tryz.sizeOf3
 v3 := Tryz.zeroValue3
 t4 := Tryz.underlying4
 a4 := Tryz.isAgg4
 z4 := Tryz.sizeOf4
 v4 := Tryz.zeroValue4
 t5 := Tryz.underlying5
 a5 := Tryz.isAgg5
 z5 := Tryz.sizeOf5
 v5 := Tryz.zeroValue5
 t9 := Tryz.underlying9
 a9 := Tryz.isAgg9
 z9 := Tryz.sizeOf9
 v9 := Tryz.zeroValue9
 t22 := Tryz.underlying99
 a22 := Tryz.isAgg99
 z22 := Tryz.sizeOf99
 v22 := Tryz.zeroValue99
 t25 := Tryz.underlying268
 a25 := Tryz.isAgg268
 z25 := Tryz.sizeOf268
 v25 := Tryz.zeroValue268
 t39 := Tryz.underlying172
 a39 := Tryz.isAgg172
 z39 := Tryz.sizeOf172
 v39 := Tryz.zeroValue172
 t45 := Tryz.underlying300
 a45 := Tryz.isAgg300
 z45 := Tryz.sizeOf300
 v45 := Tryz.zeroValue300
 t46 := Tryz.underlying301
 a46 := Tryz.isAgg301
 z46 := Tryz.sizeOf301
 v46 := Tryz.zeroValue301
 t50 := Tryz.underlying237
 a50 := Tryz.isAgg237
 z50 := Tryz.sizeOf237
 v50 := Tryz.zeroValue237
 t53 := Tryz.underlying206
 a53 := Tryz.isAgg206
 z53 := Tryz.sizeOf206
 v53 := Tryz.zeroValue206
 t55 := Tryz.underlying143
 a55 := Tryz.isAgg143
 z55 := Tryz.sizeOf143
 v55 := Tryz.zeroValue143
 t66 := Tryz.underlying311
 a66 := Tryz.isAgg311
 z66 := Tryz.sizeOf311
 v66 := Tryz.zeroValue311
 t70 := Tryz.underlying315
 a70 := Tryz.isAgg315
 z70 := Tryz.sizeOf315
 v70 := Tryz.zeroValue315
 t76 := Tryz.underlying319
 a76 := Tryz.isAgg319
 z76 := Tryz.sizeOf319
 v76 := Tryz.zeroValue319
 t77 := Tryz.underlying111
 a77 := Tryz.isAgg111
 z77 := Tryz.sizeOf111
 v77 := Tryz.zeroValue111
end Go.Proofs.YtngbfdogiciahaaGreat
namespace Go.Proofs.YtngbfdogiciahaaGreat
open Go Go.RowKit Go.Sort Go.Lib
set_option maxHeartbeats 2000000 in
theorem know_cmpG (a b : Dot) (w : World) (ha : dotOk a = true) (hb : dotOk b = true) :
  Calls Tryz.prog 192 #[.agg #[.int .i64 a.site, .int .i64 a.count], .agg #[.int .i64 b.site, .int .i64 b.count]] w fun e w' => e = .returned (.int .i64 (cmpD a b)) ∧ ∃ q os, w' = grow (w.drewN q) os := by
 have ha' := dotOk_iff.1 ha
 have hb' := dotOk_iff.1 hb
 by_cases hs : a.site = b.site
 ·have HV := hid (show cmpD a b = a.count - b.count by rw [cmpD, if_pos hs])
  have e1 : wrap64 (a.count - b.count) = a.count - b.count := by unfold wrap64; omega
  have e2 : (a.site != b.site) = false := by simp [hs]
  clear hs ha hb ha' hb'
  go_enter Tryz.func192, Tryz.ntmps192
  go_wp2_with fail
  go_ret
  exact ⟨ret_int (e1.trans HV.out.symm), 0, _, by rw [alloc_eq_grow, alloc_eq_grow, grow_grow]; rfl⟩
 ·have HV := hid (show cmpD a b = a.site - b.site by rw [cmpD, if_neg hs])
  have e1 : wrap64 (a.site - b.site) = a.site - b.site := by unfold wrap64; omega
  have e2 : (a.site != b.site) = true := by simp [hs]
  clear hs ha hb ha' hb'
  go_enter Tryz.func192, Tryz.ntmps192
  go_wp2_with fail
  go_ret
  exact ⟨ret_int (e1.trans HV.out.symm), 0, _, by rw [alloc_eq_grow, alloc_eq_grow, grow_grow]; rfl⟩
abbrev ODot := {d : Dot // dotOk d = true}
instance : Inhabited ODot := ⟨⟨⟨0, 1⟩, rfl⟩⟩
def encD (x : ODot) : List Value := [.int .i64 x.1.site, .int .i64 x.1.count]
def cfD (x y : ODot) : Int := cmpD x.1 y.1
theorem ltD (x y : ODot) : ltOf cfD x y = dlt x.1 y.1 := by
 unfold ltOf cfD
 rw [Bool.eq_iff_iff, decide_eq_true_iff, cmpD_lt]
theorem swoD : SWO (ltOf cfD) where
 irrefl x := by rw [ltD]; exact dlt_irrefl _
 trans x y z h1 h2 := by rw [ltD] at *; exact dlt_trans h1 h2
 ntrans x y z h1 h2 := by rw [ltD] at *; simp [dlt] at *; omega
theorem holdsD {w : World} {g : Nat} (ds : List ODot) (hfr : ∀ o, w.frozen? ⟨g, o, none⟩ = false)
  (hc : ∀ (i : Nat) (x : Dot), (ds.map (·.1))[i]? = some x → ∃ cs, cs.length = 2 ∧ CellsAt w g (i * 2) cs ∧ RDot w cs x) : HoldsK encD 2 w g 0 ds.toArray := by
 intro j hj
 rw [size_flatK] at hj
 have hj' : j < ds.length * 2 := by simpa using hj
 refine ⟨?_, hfr _⟩
 rw [get_flatK _ _ _ _ hj]
 have hi : j / 2 < ds.length := by omega
 obtain ⟨cs, _, h2, rfl⟩ := hc (j / 2) ds[j / 2].1 (by rw [List.getElem?_map, List.getElem?_eq_getElem hi]; rfl)
 have hg : ds.toArray[j / 2]! = ds[j / 2] := by simp [hi]
 have e : 0 + j = j / 2 * 2 + j % 2 := by omega
 have hm : j % 2 = 0 ∨ j % 2 = 1 := by omega
 rw [hg, e]
 rcases hm with hm | hm
 ·rw [hm]; exact h2 0 _ rfl
 ·rw [hm]; exact h2 1 _ rfl
theorem tyAt_sortWorldK {α : Type} [Inhabited α] (enc : α → List Value) (k : Nat) (w : World) (g n : Nat) (d : Array α) (os : Array Obj) {e : TypeId} (hg : g < w.heap.size) (ht : tyAt w g = some e) : tyAt (sortWorldK enc k w g 0 n d os) g = some e := by
 unfold tyAt at ht ⊢
 have : (sortWorldK enc k w g 0 n d os).heap[g]? = (w.heap[g]?).map (onCells (putCells id 0 (flatK enc k d))) := by
  simp [sortWorldK, grow, putRowK, putRow, mapBlock, Sort.ahead, Array.getElem?_append, hg, Array.getElem_modify]
 rw [this]
 cases h : w.heap[g]? with
 | none => rw [h] at ht; cases ht
 | some o =>
  rw [h] at ht
  cases o <;> first | exact ht | cases ht
theorem chg_sortWorldK {α : Type} [Inhabited α] (enc : α → List Value) (k : Nat) (w : World) (g n B : Nat) (d : Array α) (os : Array Obj) {e : TypeId} (ht : tyAt w g = some e) (hB : B ≤ g) : Chg B [e] w (sortWorldK enc k w g 0 n d os) := by
 refine ⟨rfl, rfl, rfl, size_sortWorldK_c enc k w g 0 n d os, fun i hi hc => ?_⟩
 have hne : g ≠ i := by
  rintro rfl
  rcases hc with hc | hc
  ·omega
  ·exact hc e (by simp) ht
 simp [sortWorldK, grow, putRowK, putRow, mapBlock, Sort.ahead, Array.getElem?_append, hi, Array.getElem_modify, hne]
theorem sort_dots (B base : Nat) (w : World) (v : Value) (l : List Dot) (hown : Own RDot 2 35 w base v l) (hB : B ≤ base) (hd : ∀ d ∈ l, dotOk d = true) (hl : l.length ≤ 10000) :
  Calls Tryz.prog 191 #[v, .func (.func 192) #[] #[]] w fun e w' => e = .returned (.tuple #[]) ∧ ∃ l' : List Dot, l'.Perm l ∧ OrdD l' ∧ IsDots B w' v l' ∧ Chg B [35] w w' := by
 have hlen := hown.len
 rcases hown.at_ with ⟨rfl, rfl⟩ | ⟨g, c, rfl, hbg, hgl, hty, hfr, hcells⟩
 ·have h := AnyF.slices_SortFunc_none sortD none 0 (.func (.func 192) #[] #[]) w
  change Calls _ 191 _ _ _ at h
  refine h.mono ?_
  rintro e w' ⟨rfl, rfl⟩
  exact ⟨rfl, [], List.Perm.refl _, List.Pairwise.nil, IsSl.nil, Chg.refl _⟩
 ·obtain ⟨ds, rfl⟩ : ∃ ds : List ODot, l = ds.map (·.1) := ⟨l.attachWith _ hd, by simp⟩
  have hH := holdsD ds hfr hcells
  rw [List.length_map] at hl
  have eg : ∀ args w, (callFunc 192 args).run Tryz.prog w = .ok (.enter 192 args) w := enters_of Tryz.func192 (by kernel_rfl) rfl
  have hcon := AnyQ.slices_SortFunc sortD 2 Tryz.isAgg35 Tryz.sizeOf35 encD (fun _ => rfl) (fun x v hv => by simp [encD] at hv; rcases hv with rfl | rfl <;> rfl) cfD swoD 192 #[] g 0 c ds.toArray w eg (fun _ _ _ _ x y => know_cmpG x.1 y.1 _ x.2 y.2) hH hgl (by simp; omega)
  change Calls _ 191 _ _ _ at hcon
  rw [List.size_toArray] at hcon
  rw [List.length_map]
  refine hcon.mono ?_
  rintro e w' ⟨rfl, d', n, os, hp, hs, rfl⟩
  obtain ⟨p1, _, p3⟩ := hp
  replace p1 : d'.size = ds.length := by simpa using p1
  have e1 : d'.extract 0 ds.length = d' := by rw [← p1]; simp
  have e2 : ds.toArray.extract 0 ds.length = ds.toArray := by simp
  rw [e1, e2] at p3
  have hlen' : (d'.toList.map (·.1)).length = ds.length := by simp [p1]
  refine ⟨rfl, d'.toList.map (·.1), p3.map _, ?_, ?_, chg_sortWorldK _ _ _ _ _ _ _ _ hty (by omega)⟩
  ·unfold OrdD
   rw [List.pairwise_map, List.pairwise_iff_getElem]
   intro i j hi hj hij
   have h := hs i j (Nat.zero_le _) hij (by simp at hj; omega)
   rw [ltD] at h
   simp at hi hj
   rw [getElem!_pos d' i hi, getElem!_pos d' j hj] at h
   simp [dle, h]
  ·obtain ⟨A, c', hv, h1, h2⟩ := hlen
   injection hv with hA hn hcc
   subst hcc
   rw [List.length_map] at h1
   refine ⟨some ⟨g, 0, none⟩, c, by rw [hlen'], by rw [hlen']; exact h1, h2, ?_⟩
   intro i x hx
   have hi : i < d'.size := by
    have := (List.getElem?_eq_some_iff.1 hx).1
    simpa using this
   have hx' : d'[i].1 = x := by
    rw [List.getElem?_map, List.getElem?_eq_getElem (by simpa using hi)] at hx
    simpa using hx
   have hK := holdsK_sortWorldK encD 2 w g 0 n ds.toArray d' os hgl hH (by simp [p1])
   refine ⟨g, 0, [.int .i64 x.site, .int .i64 x.count], rfl, Nat.lt_of_lt_of_le hgl (size_sortWorldK_c _ _ _ _ _ _ _ _), .inr (tyAt_sortWorldK _ _ _ _ _ _ _ hgl hty), rfl, ?_, rfl⟩
   intro j u hj
   have hg : d'[i]! = d'[i] := getElem!_pos d' i hi
   match j, hj with
   | 0, hj => have := (hK.cell hi (c := 0) (by omega)).1; rw [hg] at this; rw [this]; simp at hj; rw [← hj, ← hx']; rfl
   | 1, hj => have := (hK.cell hi (c := 1) (by omega)).1; rw [hg] at this; rw [this]; simp at hj; rw [← hj, ← hx']; rfl
end Go.Proofs.YtngbfdogiciahaaGreat
