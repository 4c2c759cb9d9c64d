/- Several texts in one: data, readings, plain laws, walks. No condition. -/
import Derived.Shelf.SlLaysF0
import Derived.Test.YtmedmfjhpabfdaaProg
import Derived.Test.YtmedmfjhpabfdaaWalks
import Derived.Shelf.SlSortCmp.NoneTotal
namespace Go.Proofs.Ytmedmfjhpabfdaa
open Go Go.Shelf

def sortD_ren : Go.Shelf.Ren := ⟨fun | 6 => 138 | 15 => 174 | 14 => 173 | 28 => 200 | 29 => 201 | 20 => 192 | 21 => 193 | 22 => 194 | 23 => 195 | 24 => 196 | 25 => 197 | 26 => 198 | 27 => 199 | 46 => 208 | 47 => 209 | 48 => 210 | 49 => 211 | 50 => 212 | 57 => 214 | n => n, fun | 22 => 42 | 24 => 38 | 25 => 172 | 3 => 3 | 39 => 111 | 0 => 0 | 53 => 201 | 55 => 80 | 4 => 4 | 46 => 234 | 45 => 233 | 50 => 127 | 5 => 5 | 9 => 9 | 66 => 245 | 70 => 249 | 76 => 251 | 77 => 252 | n => n, fun | n => n⟩
theorem sortD : SlLaysF0.n6 Try.prog sortD_ren where
  mixed := by kernel_rfl
  f6 := ⟨ "slices.SortFunc[[]reedmace/api.Dot,reedmace/api.Dot]", by decide, Try.func138.trans (congrArg some (by kernel_rfl))⟩
  f14 := ⟨ "slices.pdqsortCmpFunc[reedmace/api.Dot]", by decide, Try.func173.trans (congrArg some (by kernel_rfl))⟩
  f15 := Try.func174.trans (congrArg some (by kernel_rfl))
  f20 := ⟨ "slices.insertionSortCmpFunc[reedmace/api.Dot]", by decide, Try.func192.trans (congrArg some (by kernel_rfl))⟩
  f21 := ⟨ "slices.heapSortCmpFunc[reedmace/api.Dot]", by decide, Try.func193.trans (congrArg some (by kernel_rfl))⟩
  f22 := ⟨ "slices.breakPatternsCmpFunc[reedmace/api.Dot]", by decide, Try.func194.trans (congrArg some (by kernel_rfl))⟩
  f23 := ⟨ "slices.choosePivotCmpFunc[reedmace/api.Dot]", by decide, Try.func195.trans (congrArg some (by kernel_rfl))⟩
  f24 := ⟨ "slices.reverseRangeCmpFunc[reedmace/api.Dot]", by decide, Try.func196.trans (congrArg some (by kernel_rfl))⟩
  f25 := ⟨ "slices.partialInsertionSortCmpFunc[reedmace/api.Dot]", by decide, Try.func197.trans (congrArg some (by kernel_rfl))⟩
  f26 := ⟨ "slices.partitionEqualCmpFunc[reedmace/api.Dot]", by decide, Try.func198.trans (congrArg some (by kernel_rfl))⟩
  f27 := ⟨ "slices.partitionCmpFunc[reedmace/api.Dot]", by decide, Try.func199.trans (congrArg some (by kernel_rfl))⟩
  f28 := Try.func200.trans (congrArg some (by kernel_rfl))
  f29 := Try.func201.trans (congrArg some (by kernel_rfl))
  f46 := ⟨ "slices.siftDownCmpFunc[reedmace/api.Dot]", by decide, Try.func208.trans (congrArg some (by kernel_rfl))⟩
  f47 := Try.func209.trans (congrArg some (by kernel_rfl))
  f48 := Try.func210.trans (congrArg some (by kernel_rfl))
  f49 := ⟨ "slices.medianAdjacentCmpFunc[reedmace/api.Dot]", by decide, Try.func211.trans (congrArg some (by kernel_rfl))⟩
  f50 := ⟨ "slices.medianCmpFunc[reedmace/api.Dot]", by decide, Try.func212.trans (congrArg some (by kernel_rfl))⟩
  f57 := ⟨ "slices.order2CmpFunc[reedmace/api.Dot]", by decide, Try.func214.trans (congrArg some (by kernel_rfl))⟩
  t0 := Try.underlying0
  a0 := Try.isAgg0
  z0 := Try.sizeOf0
  v0 := Try.zeroValue0
  t3 := Try.underlying3
  a3 := Try.isAgg3
  z3 := Try.sizeOf3
  v3 := Try.zeroValue3
  t4 := Try.underlying4
  a4 := Try.isAgg4
  z4 := Try.sizeOf4
  v4 := Try.zeroValue4
  t5 := Try.underlying5
  a5 := Try.isAgg5
  z5 := Try.sizeOf5
  v5 := Try.zeroValue5
  t9 := Try.underlying9
  a9 := Try.isAgg9
  z9 := Try.sizeOf9
  v9 := Try.zeroValue9
  t22 := Try.underlying42
  a22 := Try.isAgg42
  z22 := Try.sizeOf42
  v22 := Try.zeroValue42
  t25 := Try.underlying172
  a25 := Try.isAgg172
  z25 := Try.sizeOf172
  v25 := Try.zeroValue172
  t39 := Try.underlying111
  a39 := Try.isAgg111
  z39 := Try.sizeOf111
  v39 := Try.zeroValue111
  t45 := Try.underlying233
  a45 := Try.isAgg233
  z45 := Try.sizeOf233
  v45 := Try.zeroValue233
  t46 := Try.underlying234
  a46 := Try.isAgg234
  z46 := Try.sizeOf234
  v46 := Try.zeroValue234
  t50 := Try.underlying127
  a50 := Try.isAgg127
  z50 := Try.sizeOf127
  v50 := Try.zeroValue127
  t53 := Try.underlying201
  a53 := Try.isAgg201
  z53 := Try.sizeOf201
  v53 := Try.zeroValue201
  t55 := Try.underlying80
  a55 := Try.isAgg80
  z55 := Try.sizeOf80
  v55 := Try.zeroValue80
  t66 := Try.underlying245
  a66 := Try.isAgg245
  z66 := Try.sizeOf245
  v66 := Try.zeroValue245
  t70 := Try.underlying249
  a70 := Try.isAgg249
  z70 := Try.sizeOf249
  v70 := Try.zeroValue249
  t76 := Try.underlying251
  a76 := Try.isAgg251
  z76 := Try.sizeOf251
  v76 := Try.zeroValue251
  t77 := Try.underlying252
  a77 := Try.isAgg252
  z77 := Try.sizeOf252
  v77 := Try.zeroValue252

end Go.Proofs.Ytmedmfjhpabfdaa

namespace Go.Proofs.Ytmedmfjhpabfdaa
open Go Go.RowKit Go.Sort Go.Lib

set_option maxHeartbeats 2000000 in
theorem know_cmpG (a b : Dot) (w : World) (ha : dotOk a = true) (hb : dotOk b = true) :
    Calls Try.prog 123 #[.agg #[.int .i64 a.site, .int .i64 a.count], .agg #[.int .i64 b.site, .int .i64 b.count]] w fun e w' => e = .returned (.int .i64 (cmpD a b)) ∧ ∃ q os, w' = grow (w.drewN q) os := by
  have ha' := dotOk_iff.1 ha
  have hb' := dotOk_iff.1 hb
  by_cases hs : a.site = b.site
  · have HV := hid (show cmpD a b = a.count - b.count by rw [cmpD, if_pos hs])
    have e1 : wrap64 (a.count - b.count) = a.count - b.count := by unfold wrap64; omega
    have e2 : (a.site != b.site) = false := by simp [hs]
    clear hs ha hb ha' hb'
    go_enter Try.func123, Try.ntmps123
    go_wp2_with fail
    go_ret
    exact ⟨ret_int (e1.trans HV.out.symm), 0, _, by rw [alloc_eq_grow, alloc_eq_grow, grow_grow]; rfl⟩
  · have HV := hid (show cmpD a b = a.site - b.site by rw [cmpD, if_neg hs])
    have e1 : wrap64 (a.site - b.site) = a.site - b.site := by unfold wrap64; omega
    have e2 : (a.site != b.site) = true := by simp [hs]
    clear hs ha hb ha' hb'
    go_enter Try.func123, Try.ntmps123
    go_wp2_with fail
    go_ret
    exact ⟨ret_int (e1.trans HV.out.symm), 0, _, by rw [alloc_eq_grow, alloc_eq_grow, grow_grow]; rfl⟩

/-- a dot that may be. -/
abbrev ODot := {d : Dot // dotOk d = true}
instance : Inhabited ODot := ⟨⟨⟨0, 1⟩, rfl⟩⟩
def encD (x : ODot) : List Value := [.int .i64 x.1.site, .int .i64 x.1.count]
def cfD (x y : ODot) : Int := cmpD x.1 y.1
theorem ltD (x y : ODot) : ltOf cfD x y = dlt x.1 y.1 := by
  unfold ltOf cfD
  rw [Bool.eq_iff_iff, decide_eq_true_iff, cmpD_lt]
theorem swoD : SWO (ltOf cfD) where
  irrefl x := by rw [ltD]; exact dlt_irrefl _
  trans x y z h1 h2 := by rw [ltD] at *; exact dlt_trans h1 h2
  ntrans x y z h1 h2 := by rw [ltD] at *; simp [dlt] at *; omega

theorem holdsD {w : World} {g : Nat} (ds : List ODot) (hfr : ∀ o, w.frozen? ⟨g, o, none⟩ = false)
    (hc : ∀ (i : Nat) (x : Dot), (ds.map (·.1))[i]? = some x → ∃ cs, cs.length = 2 ∧ CellsAt w g (i * 2) cs ∧ RDot w cs x) : HoldsK encD 2 w g 0 ds.toArray := by
  intro j hj
  rw [size_flatK] at hj
  have hj' : j < ds.length * 2 := by simpa using hj
  refine ⟨?_, hfr _⟩
  rw [get_flatK _ _ _ _ hj]
  have hi : j / 2 < ds.length := by omega
  obtain ⟨cs, _, h2, rfl⟩ := hc (j / 2) ds[j / 2].1 (by rw [List.getElem?_map, List.getElem?_eq_getElem hi]; rfl)
  have hg : ds.toArray[j / 2]! = ds[j / 2] := by simp [hi]
  have e : 0 + j = j / 2 * 2 + j % 2 := by omega
  have hm : j % 2 = 0 ∨ j % 2 = 1 := by omega
  rw [hg, e]
  rcases hm with hm | hm
  · rw [hm]; exact h2 0 _ rfl
  · rw [hm]; exact h2 1 _ rfl

theorem tyAt_sortWorldK {α : Type} [Inhabited α] (enc : α → List Value) (k : Nat) (w : World) (g n : Nat) (d : Array α) (os : Array Obj) {e : TypeId} (hg : g < w.heap.size) (ht : tyAt w g = some e) : tyAt (sortWorldK enc k w g 0 n d os) g = some e := by
  unfold tyAt at ht ⊢
  have : (sortWorldK enc k w g 0 n d os).heap[g]? = (w.heap[g]?).map (onCells (putCells id 0 (flatK enc k d))) := by
    simp [sortWorldK, grow, putRowK, putRow, mapBlock, Sort.ahead, Array.getElem?_append, hg, Array.getElem_modify]
  rw [this]
  cases h : w.heap[g]? with
  | none => rw [h] at ht; cases ht
  | some o =>
    rw [h] at ht
    cases o <;> first | exact ht | cases ht

theorem chg_sortWorldK {α : Type} [Inhabited α] (enc : α → List Value) (k : Nat) (w : World) (g n B : Nat) (d : Array α) (os : Array Obj) {e : TypeId} (ht : tyAt w g = some e) (hB : B ≤ g) : Chg B [e] w (sortWorldK enc k w g 0 n d os) := by
  refine ⟨rfl, rfl, rfl, size_sortWorldK_c enc k w g 0 n d os, fun i hi hc => ?_⟩
  have hne : g ≠ i := by
    rintro rfl
    rcases hc with hc | hc
    · omega
    · exact hc e (by simp) ht
  simp [sortWorldK, grow, putRowK, putRow, mapBlock, Sort.ahead, Array.getElem?_append, hi, Array.getElem_modify, hne]

theorem sort_dots (B base : Nat) (w : World) (v : Value) (l : List Dot) (hown : Own RDot 2 38 w base v l) (hB : B ≤ base) (hd : ∀ d ∈ l, dotOk d = true) (hl : l.length ≤ 10000) :
    Calls Try.prog 138 #[v, .func (.func 123) #[] #[]] w fun e w' => e = .returned (.tuple #[]) ∧ ∃ l' : List Dot, l'.Perm l ∧ OrdD l' ∧ IsDots B w' v l' ∧ Chg B [38] w w' := by
  have hlen := hown.len
  rcases hown.at_ with ⟨rfl, rfl⟩ | ⟨g, c, rfl, hbg, hgl, hty, hfr, hcells⟩
  · have h := AnyF.slices_SortFunc_none sortD none 0 (.func (.func 123) #[] #[]) w
    change Calls _ 138 _ _ _ at h
    refine h.mono ?_
    rintro e w' ⟨rfl, rfl⟩
    exact ⟨rfl, [], List.Perm.refl _, List.Pairwise.nil, IsSl.nil, Chg.refl _⟩
  · obtain ⟨ds, rfl⟩ : ∃ ds : List ODot, l = ds.map (·.1) := ⟨l.attachWith _ hd, by simp⟩
    have hH := holdsD ds hfr hcells
    rw [List.length_map] at hl
    have eg : ∀ args w, (callFunc 123 args).run Try.prog w = .ok (.enter 123 args) w := enters_of Try.func123 (by kernel_rfl) rfl
    have hcon := AnyQ.slices_SortFunc sortD 2 Try.isAgg38 Try.sizeOf38 encD (fun _ => rfl) (fun x v hv => by simp [encD] at hv; rcases hv with rfl | rfl <;> rfl) cfD swoD 123 #[] g 0 c ds.toArray w eg (fun _ _ _ _ x y => know_cmpG x.1 y.1 _ x.2 y.2) hH hgl (by simp; omega)
    change Calls _ 138 _ _ _ at hcon
    rw [List.size_toArray] at hcon
    rw [List.length_map]
    refine hcon.mono ?_
    rintro e w' ⟨rfl, d', n, os, hp, hs, rfl⟩
    obtain ⟨p1, _, p3⟩ := hp
    replace p1 : d'.size = ds.length := by simpa using p1
    have e1 : d'.extract 0 ds.length = d' := by rw [← p1]; simp
    have e2 : ds.toArray.extract 0 ds.length = ds.toArray := by simp
    rw [e1, e2] at p3
    have hlen' : (d'.toList.map (·.1)).length = ds.length := by simp [p1]
    refine ⟨rfl, d'.toList.map (·.1), p3.map _, ?_, ?_, chg_sortWorldK _ _ _ _ _ _ _ _ hty (by omega)⟩
    · unfold OrdD
      rw [List.pairwise_map, List.pairwise_iff_getElem]
      intro i j hi hj hij
      have h := hs i j (Nat.zero_le _) hij (by simp at hj; omega)
      rw [ltD] at h
      simp at hi hj
      rw [getElem!_pos d' i hi, getElem!_pos d' j hj] at h
      simp [dle, h]
    · obtain ⟨A, c', hv, h1, h2⟩ := hlen
      injection hv with hA hn hcc
      subst hcc
      rw [List.length_map] at h1
      refine ⟨some ⟨g, 0, none⟩, c, by rw [hlen'], by rw [hlen']; exact h1, h2, ?_⟩
      intro i x hx
      have hi : i < d'.size := by
        have := (List.getElem?_eq_some_iff.1 hx).1
        simpa using this
      have hx' : d'[i].1 = x := by
        rw [List.getElem?_map, List.getElem?_eq_getElem (by simpa using hi)] at hx
        simpa using hx
      have hK := holdsK_sortWorldK encD 2 w g 0 n ds.toArray d' os hgl hH (by simp [p1])
      refine ⟨g, 0, [.int .i64 x.site, .int .i64 x.count], rfl, Nat.lt_of_lt_of_le hgl (size_sortWorldK_c _ _ _ _ _ _ _ _), .inr (tyAt_sortWorldK _ _ _ _ _ _ _ hgl hty), rfl, ?_, rfl⟩
      intro j u hj
      have hg : d'[i]! = d'[i] := getElem!_pos d' i hi
      match j, hj with
      | 0, hj => have := (hK.cell hi (c := 0) (by omega)).1; rw [hg] at this; rw [this]; simp at hj; rw [← hj, ← hx']; rfl
      | 1, hj => have := (hK.cell hi (c := 1) (by omega)).1; rw [hg] at this; rw [this]; simp at hj; rw [← hj, ← hx']; rfl

end Go.Proofs.Ytmedmfjhpabfdaa
