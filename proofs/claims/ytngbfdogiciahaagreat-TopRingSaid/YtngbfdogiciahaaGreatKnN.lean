/- The walks of slices.BinarySearchFunc at dots, know.In, know.told, know.two. -/
import Derived.Test.YtngbfdogiciahaaGreatShort
import Derived.Test.YtngbfdogiciahaaGreatWalks
import Derived.Test.YtngbfdogiciahaaGreatBase
namespace Go.Proofs.YtngbfdogiciahaaGreat
open Go Go.RowKit
def Srch (l : List Dot) (d : Dot) (lo hi : Nat) : Prop := (∀ (t : Nat) (h : t < l.length), t < lo → cmpD l[t] d < 0) ∧ (∀ (t : Nat) (h : t < l.length), hi ≤ t → 0 ≤ cmpD l[t] d)
theorem Srch.start (l : List Dot) (d : Dot) : Srch l d 0 l.length := ⟨fun _ _ h => absurd h (by omega), fun _ h g => absurd h (by omega)⟩
theorem SortedD.lt_at {l : List Dot} {lo : Dot} (hs : SortedD lo l) {i j : Nat} (hij : i < j) (hj : j < l.length) : dlt (l[i]'(by omega)) l[j] = true := by
 have h := (List.pairwise_cons.1 hs).2
 exact List.pairwise_iff_getElem.1 h i j (by omega) hj hij
theorem cmpD_mono {a b d : Dot} (h : dlt a b = true) (k : cmpD b d < 0) : cmpD a d < 0 := by
 rw [cmpD_lt] at k ⊢
 exact dlt_trans h k
theorem Srch.right {l : List Dot} {d lo0 : Dot} {lo hi m : Nat} (hs : SortedD lo0 l) (h : Srch l d lo hi) (hm : m < l.length) (hc : cmpD l[m] d < 0) : Srch l d (m + 1) hi := by
 refine ⟨fun t ht hlt => ?_, h.2⟩
 rcases Nat.lt_or_ge t m with g | g
 ·exact cmpD_mono (hs.lt_at g hm) hc
 ·obtain rfl : t = m := by omega
  exact hc
theorem Srch.left {l : List Dot} {d lo0 : Dot} {lo hi m : Nat} (hs : SortedD lo0 l) (h : Srch l d lo hi) (hm : m < l.length) (hc : 0 ≤ cmpD l[m] d) : Srch l d lo m := by
 refine ⟨h.1, fun t ht hlt => ?_⟩
 rcases Nat.lt_or_ge m t with g | g
 ·apply Int.not_lt.1
  intro k
  have := cmpD_mono (hs.lt_at g ht) k
  omega
 ·obtain rfl : t = m := by omega
  exact hc
theorem Srch.found {l : List Dot} {d lo0 : Dot} {i : Nat} (hs : SortedD lo0 l) (h : Srch l d i i) (hi : i < l.length) : l.contains d = decide (cmpD l[i] d = 0) := by
 rw [Bool.eq_iff_iff, List.contains_iff_mem, decide_eq_true_iff]
 constructor
 ·intro hm
  obtain ⟨t, ht, e⟩ := List.getElem_of_mem hm
  have h0 : cmpD l[t] d = 0 := cmpD_zero.2 e
  rcases Nat.lt_trichotomy t i with g | g | g
  ·have := h.1 t ht g
   omega
  ·subst g
   exact h0
  ·have h1 := hs.lt_at g ht
   rw [e] at h1
   have h2 := cmpD_lt.2 h1
   have h3 := h.2 i hi (Nat.le_refl _)
   omega
 ·intro h0
  rw [← cmpD_zero.1 h0]
  exact List.getElem_mem hi
theorem Srch.none {l : List Dot} {d : Dot} (h : Srch l d l.length l.length) : l.contains d = false := by
 rw [← Bool.not_eq_true, List.contains_iff_mem]
 intro hm
 obtain ⟨t, ht, e⟩ := List.getElem_of_mem hm
 have h0 : cmpD l[t] d = 0 := cmpD_zero.2 e
 have := h.1 t ht ht
 omega
set_option maxRecDepth 100000 in
set_option maxHeartbeats 2000000 in
theorem know_search (B : Nat) (A : Option Addr) (c : Nat) (l : List Dot) (d : Dot) (w : World) (h : SlDots B w A l) (hl : l.length ≤ 1000) (hs : SortedD ⟨-1, 0⟩ l) (ho : ∀ x ∈ l, dotOk x = true) (hd : dotOk d = true) :
  Calls Tryz.prog 202 #[.slice A l.length c, .agg #[.int .i64 d.site, .int .i64 d.count], .func (.func 192) #[] #[]] w fun e w' => (∃ i : Nat, e = .returned (.tuple #[.int .i64 i, .bool (l.contains d)])) ∧ Ext w w' := by
 have HS := hid hs
 have HO := hid ho
 have HD := hid hd
 clear hs ho hd
 have hx := (Ext.refl w).alloc (.cells #[.int .i64 d.site, .int .i64 d.count] 35)
 go_enter Tryz.func202, Tryz.ntmps202
 go_wp2_with fail
 have q0 : (w.alloc (.cells #[.int .i64 d.site, .int .i64 d.count] 35)).cell? ⟨w.heap.size, 0, none⟩ = some (.int .i64 d.site) := by go_simp
 have q1 : (w.alloc (.cells #[.int .i64 d.site, .int .i64 d.count] 35)).cell? ⟨w.heap.size, 1, none⟩ = some (.int .i64 d.count) := by go_simp
 go_loopw [9, 10] (fun x y wr => ∃ lo hi : Nat, x = .int .i64 lo ∧ y = .int .i64 hi ∧ lo ≤ hi ∧ hi ≤ l.length ∧ Srch l d lo hi ∧ Ext w wr ∧ wr.cell? ⟨w.heap.size, 0, none⟩ = some (.int .i64 d.site) ∧ wr.cell? ⟨w.heap.size, 1, none⟩ = some (.int .i64 d.count)) (fun x y _ => (intOf y).toNat - (intOf x).toNat)
 case atStart => exact ⟨0, l.length, rfl, rfl, Nat.zero_le _, Nat.le_refl _, Srch.start l d, hx, q0, q1⟩
 case round =>
  clear hx q0 q1
  obtain ⟨lo, hi, rfl, rfl, h1, h2, hsr, hx, q0, q1⟩ := hrel
  have HR := hid hsr
  clear hsr
  by_cases hlt : lo < hi
  ·obtain ⟨m, hm⟩ : ∃ m, m = (lo + hi) / 2 := ⟨_, rfl⟩
   have hml : m < l.length := by omega
   have HML := hid hml
   obtain ⟨b, off, rfl, hb, g0, g1⟩ := (h.ext RPair.mono hx).pair hml
   have HC := hid (fun w' => know_cmp l[m] d w' (HO.out _ (List.getElem_mem HML.out)) HD.out)
   generalize hy0 : l[m] = y at g0 g1 HC
   have hy := hy0.symm
   have HY := hid hy
   obtain ⟨C, hC⟩ : ∃ C, C = cmpD y d := ⟨_, rfl⟩
   have HCC := hid hC
   rw [← hC] at HC
   clear hy hy0 hC
   have em : ((lo : Int) + (hi : Int)) / 2 = (m : Int) := by omega
   have HM := hid hm
   clear hm
   by_cases hc : C < 0
   ·have HN := hid (HR.out.right HS.out HML.out (show cmpD l[m] d < 0 by rw [← HY.out, ← HCC.out]; exact hc))
    have hc' : decide (C < 0) = true := decide_eq_true hc
    clear hc
    go_wp2_with fail
    have HAll := hid (fun w' (x : Ext wr w') => show w'.cell? ⟨w.heap.size, 0, none⟩ = some (.int .i64 d.site) ∧ w'.cell? ⟨w.heap.size, 1, none⟩ = some (.int .i64 d.count) ∧ w'.cell? ⟨b, off + m * 2, none⟩ = some (.int .i64 y.site) ∧ w'.cell? ⟨b, off + m * 2 + 1, none⟩ = some (.int .i64 y.count) from ⟨x.cell q0, x.cell q1, x.cell g0, x.cell g1⟩)
    have HQ0 := hid q0
    have HQ1 := hid q1
    clear q0 q1 g0 g1
    refine wq_region (fun w' => Ext wr w') (by kernel_rfl) (by kernel_rfl) (Ext.refl _).drew ?_
    refine wq_get (v := ?_) (fun w' hw' => ?_) ?_
    rotate_left
    ·have hA := HAll.out w' hw'; go_split_ands; go_simp <;> with_reducible rfl
    try simp only [pq]
    refine wq_get (v := ?_) (fun w' hw' => ?_) ?_
    rotate_left
    ·have hA := HAll.out w' hw'; go_split_ands; go_simp <;> with_reducible rfl
    try simp only [pq]
    refine wq_get (v := ?_) (fun w' hw' => ?_) ?_
    rotate_left
    ·have hA := HAll.out w' hw'; go_split_ands; go_simp <;> with_reducible rfl
    try simp only [pq]
    refine wq_get (v := ?_) (fun w' hw' => ?_) ?_
    rotate_left
    ·have hA := HAll.out w' hw'; go_split_ands; go_simp <;> with_reducible rfl
    try simp only [pq]
    refine wq_get (v := ?_) (fun w' hw' => ?_) ?_
    rotate_left
    ·have hA := HAll.out w' hw'; go_split_ands; go_simp <;> with_reducible rfl
    try simp only [pq]
    refine wq_get (v := ?_) (fun w' hw' => ?_) ?_
    rotate_left
    ·have hA := HAll.out w' hw'; go_split_ands; go_simp <;> with_reducible rfl
    try simp only [pq]
    refine wq_callV (by rfl) Tryz.call192 (by rfl) (fun w' x => (HC.out w').mono fun _ _ h => ⟨h.1, x.trans h.2⟩) ?_
    try simp only [pq]
    refine wq_get (v := ?_) (fun w' hw' => ?_) ?_
    rotate_left
    ·have hA := HAll.out w' hw'; go_split_ands; go_simp <;> with_reducible rfl
    try simp only [pq]
    try simp only [hc']
    refine wq_nil ?_
    intro w25 hyn
    go_wp2_with fail
    go_roundw
    case rel => exact ⟨m + 1, hi, by go_num, rfl, by have := HM.out; omega, h2, HN.out, hx.trans hyn, hyn.cell HQ0.out, hyn.cell HQ1.out⟩
    case measure => have := HM.out; simp [intOf]; omega
   ·have HN := hid (HR.out.left HS.out HML.out (show 0 ≤ cmpD l[m] d by rw [← HY.out, ← HCC.out]; omega))
    have hc' : decide (C < 0) = false := decide_eq_false hc
    clear hc
    go_wp2_with fail
    have HAll := hid (fun w' (x : Ext wr w') => show w'.cell? ⟨w.heap.size, 0, none⟩ = some (.int .i64 d.site) ∧ w'.cell? ⟨w.heap.size, 1, none⟩ = some (.int .i64 d.count) ∧ w'.cell? ⟨b, off + m * 2, none⟩ = some (.int .i64 y.site) ∧ w'.cell? ⟨b, off + m * 2 + 1, none⟩ = some (.int .i64 y.count) from ⟨x.cell q0, x.cell q1, x.cell g0, x.cell g1⟩)
    have HQ0 := hid q0
    have HQ1 := hid q1
    clear q0 q1 g0 g1
    refine wq_region (fun w' => Ext wr w') (by kernel_rfl) (by kernel_rfl) (Ext.refl _).drew ?_
    refine wq_get (v := ?_) (fun w' hw' => ?_) ?_
    rotate_left
    ·have hA := HAll.out w' hw'; go_split_ands; go_simp <;> with_reducible rfl
    try simp only [pq]
    refine wq_get (v := ?_) (fun w' hw' => ?_) ?_
    rotate_left
    ·have hA := HAll.out w' hw'; go_split_ands; go_simp <;> with_reducible rfl
    try simp only [pq]
    refine wq_get (v := ?_) (fun w' hw' => ?_) ?_
    rotate_left
    ·have hA := HAll.out w' hw'; go_split_ands; go_simp <;> with_reducible rfl
    try simp only [pq]
    refine wq_get (v := ?_) (fun w' hw' => ?_) ?_
    rotate_left
    ·have hA := HAll.out w' hw'; go_split_ands; go_simp <;> with_reducible rfl
    try simp only [pq]
    refine wq_get (v := ?_) (fun w' hw' => ?_) ?_
    rotate_left
    ·have hA := HAll.out w' hw'; go_split_ands; go_simp <;> with_reducible rfl
    try simp only [pq]
    refine wq_get (v := ?_) (fun w' hw' => ?_) ?_
    rotate_left
    ·have hA := HAll.out w' hw'; go_split_ands; go_simp <;> with_reducible rfl
    try simp only [pq]
    refine wq_callV (by rfl) Tryz.call192 (by rfl) (fun w' x => (HC.out w').mono fun _ _ h => ⟨h.1, x.trans h.2⟩) ?_
    try simp only [pq]
    refine wq_get (v := ?_) (fun w' hw' => ?_) ?_
    rotate_left
    ·have hA := HAll.out w' hw'; go_split_ands; go_simp <;> with_reducible rfl
    try simp only [pq]
    try simp only [hc']
    refine wq_nil ?_
    intro w25 hyn
    go_wp2_with fail
    go_roundw
    case rel => exact ⟨lo, m, rfl, rfl, by have := HM.out; omega, by omega, HN.out, hx.trans hyn, hyn.cell HQ0.out, hyn.cell HQ1.out⟩
    case measure => have := HM.out; simp [intOf]; omega
  ·obtain rfl : hi = lo := by omega
   by_cases hn : hi < l.length
   ·have HML := hid hn
    obtain ⟨b, off, rfl, hb, g0, g1⟩ := (h.ext RPair.mono hx).pair hn
    have HC := hid (fun w' => know_cmp l[hi] d w' (HO.out _ (List.getElem_mem HML.out)) HD.out)
    generalize hy0 : l[hi] = y at g0 g1 HC
    have hy := hy0.symm
    have HY := hid hy
    obtain ⟨C, hC⟩ : ∃ C, C = cmpD y d := ⟨_, rfl⟩
    have HCC := hid hC
    rw [← hC] at HC
    clear hy hy0 hC
    have HF := hid (show l.contains d = decide (C = 0) by rw [HCC.out, HY.out]; exact HR.out.found HS.out HML.out)
    have hn' : decide (hi < l.length) = true := decide_eq_true hn
    have hni : decide ((hi : Int) < l.length) = true := decide_eq_true (by omega)
    by_cases hc : C = 0
    ·have HN := hid (show l.contains d = true by rw [HF.out]; exact decide_eq_true hc)
     have hc' : (C == 0) = true := beq_iff_eq.2 hc
     clear hc
     go_wp2_with fail
     have HAll := hid (fun w' (x : Ext wr w') => show w'.cell? ⟨w.heap.size, 0, none⟩ = some (.int .i64 d.site) ∧ w'.cell? ⟨w.heap.size, 1, none⟩ = some (.int .i64 d.count) ∧ w'.cell? ⟨b, off + hi * 2, none⟩ = some (.int .i64 y.site) ∧ w'.cell? ⟨b, off + hi * 2 + 1, none⟩ = some (.int .i64 y.count) from ⟨x.cell q0, x.cell q1, x.cell g0, x.cell g1⟩)
     have HQ0 := hid q0
     have HQ1 := hid q1
     clear q0 q1 g0 g1
     refine wq_region (fun w' => Ext wr w') (by kernel_rfl) (by kernel_rfl) (Ext.refl _).drew ?_
     refine wq_get (v := ?_) (fun w' hw' => ?_) ?_
     rotate_left
     ·have hA := HAll.out w' hw'; go_split_ands; go_simp <;> with_reducible rfl
     try simp only [pq]
     refine wq_get (v := ?_) (fun w' hw' => ?_) ?_
     rotate_left
     ·have hA := HAll.out w' hw'; go_split_ands; go_simp <;> with_reducible rfl
     try simp only [pq]
     refine wq_get (v := ?_) (fun w' hw' => ?_) ?_
     rotate_left
     ·have hA := HAll.out w' hw'; go_split_ands; go_simp <;> with_reducible rfl
     try simp only [pq]
     refine wq_get (v := ?_) (fun w' hw' => ?_) ?_
     rotate_left
     ·have hA := HAll.out w' hw'; go_split_ands; go_simp <;> with_reducible rfl
     try simp only [pq]
     try simp only [hc']
     try simp only [hn']
     try simp only [hni]
     refine wq_get (v := ?_) (fun w' hw' => ?_) ?_
     rotate_left
     ·have hA := HAll.out w' hw'; go_split_ands; go_simp <;> with_reducible rfl
     try simp only [pq]
     refine wq_getOn (v := ?_) (yields_at rfl rfl rfl) (fun w' hw' => ?_) ?_
     rotate_left
     ·have hA := HAll.out w' hw'; go_split_ands; go_simp <;> with_reducible rfl
     try simp only [pq]
     refine wq_getOn (v := ?_) (yields_at rfl rfl rfl) (fun w' hw' => ?_) ?_
     rotate_left
     ·have hA := HAll.out w' hw'; go_split_ands; go_simp <;> with_reducible rfl
     try simp only [pq]
     refine wq_getOn (v := ?_) (yields_at rfl rfl rfl) (fun w' hw' => ?_) ?_
     rotate_left
     ·have hA := HAll.out w' hw'; go_split_ands; go_simp <;> with_reducible rfl
     try simp only [pq]
     refine wq_getOn (v := ?_) (yields_at rfl rfl rfl) (fun w' hw' => ?_) ?_
     rotate_left
     ·have hA := HAll.out w' hw'; go_split_ands; go_simp <;> with_reducible rfl
     try simp only [pq]
     refine wq_getOn (v := ?_) (yields_at rfl rfl rfl) (fun w' hw' => ?_) ?_
     rotate_left
     ·have hA := HAll.out w' hw'; go_split_ands; go_simp <;> with_reducible rfl
     try simp only [pq]
     refine wq_getOn (v := ?_) (yields_at rfl rfl rfl) (fun w' hw' => ?_) ?_
     rotate_left
     ·have hA := HAll.out w' hw'; go_split_ands; go_simp <;> with_reducible rfl
     try simp only [pq]
     refine wq_callVOn (by rfl) Tryz.call192 (yields_at rfl rfl rfl) (by rfl) (fun w' x => (HC.out w').mono fun _ _ h => ⟨h.1, x.trans h.2⟩) ?_
     try simp only [pq]
     refine wq_getOn (v := ?_) (yields_at rfl rfl rfl) (fun w' hw' => ?_) ?_
     rotate_left
     ·have hA := HAll.out w' hw'; go_split_ands; go_simp <;> with_reducible rfl
     try simp only [pq]
     try simp only [hc']
     try simp only [hn']
     try simp only [hni]
     refine wq_get (v := ?_) (fun w' hw' => ?_) ?_
     rotate_left
     ·have hA := HAll.out w' hw'; go_split_ands; go_simp <;> with_reducible rfl
     try simp only [pq]
     refine wq_get (v := ?_) (fun w' hw' => ?_) ?_
     rotate_left
     ·have hA := HAll.out w' hw'; go_split_ands; go_simp <;> with_reducible rfl
     try simp only [pq]
     refine wq_get (v := ?_) (fun w' hw' => ?_) ?_
     rotate_left
     ·have hA := HAll.out w' hw'; go_split_ands; go_simp <;> with_reducible rfl
     try simp only [pq]
     refine wq_nil ?_
     intro w25 hyn
     go_wp2_with fail
     go_ret2
     exact ⟨⟨hi, by rw [HN.out]; rfl⟩, hx.trans hyn⟩
    ·have HN := hid (show l.contains d = false by rw [HF.out]; exact decide_eq_false hc)
     have hc' : (C == 0) = false := beq_eq_false_iff_ne.2 hc
     clear hc
     go_wp2_with fail
     have HAll := hid (fun w' (x : Ext wr w') => show w'.cell? ⟨w.heap.size, 0, none⟩ = some (.int .i64 d.site) ∧ w'.cell? ⟨w.heap.size, 1, none⟩ = some (.int .i64 d.count) ∧ w'.cell? ⟨b, off + hi * 2, none⟩ = some (.int .i64 y.site) ∧ w'.cell? ⟨b, off + hi * 2 + 1, none⟩ = some (.int .i64 y.count) from ⟨x.cell q0, x.cell q1, x.cell g0, x.cell g1⟩)
     have HQ0 := hid q0
     have HQ1 := hid q1
     clear q0 q1 g0 g1
     refine wq_region (fun w' => Ext wr w') (by kernel_rfl) (by kernel_rfl) (Ext.refl _).drew ?_
     refine wq_get (v := ?_) (fun w' hw' => ?_) ?_
     rotate_left
     ·have hA := HAll.out w' hw'; go_split_ands; go_simp <;> with_reducible rfl
     try simp only [pq]
     refine wq_get (v := ?_) (fun w' hw' => ?_) ?_
     rotate_left
     ·have hA := HAll.out w' hw'; go_split_ands; go_simp <;> with_reducible rfl
     try simp only [pq]
     refine wq_get (v := ?_) (fun w' hw' => ?_) ?_
     rotate_left
     ·have hA := HAll.out w' hw'; go_split_ands; go_simp <;> with_reducible rfl
     try simp only [pq]
     refine wq_get (v := ?_) (fun w' hw' => ?_) ?_
     rotate_left
     ·have hA := HAll.out w' hw'; go_split_ands; go_simp <;> with_reducible rfl
     try simp only [pq]
     try simp only [hc']
     try simp only [hn']
     try simp only [hni]
     refine wq_get (v := ?_) (fun w' hw' => ?_) ?_
     rotate_left
     ·have hA := HAll.out w' hw'; go_split_ands; go_simp <;> with_reducible rfl
     try simp only [pq]
     refine wq_getOn (v := ?_) (yields_at rfl rfl rfl) (fun w' hw' => ?_) ?_
     rotate_left
     ·have hA := HAll.out w' hw'; go_split_ands; go_simp <;> with_reducible rfl
     try simp only [pq]
     refine wq_getOn (v := ?_) (yields_at rfl rfl rfl) (fun w' hw' => ?_) ?_
     rotate_left
     ·have hA := HAll.out w' hw'; go_split_ands; go_simp <;> with_reducible rfl
     try simp only [pq]
     refine wq_getOn (v := ?_) (yields_at rfl rfl rfl) (fun w' hw' => ?_) ?_
     rotate_left
     ·have hA := HAll.out w' hw'; go_split_ands; go_simp <;> with_reducible rfl
     try simp only [pq]
     refine wq_getOn (v := ?_) (yields_at rfl rfl rfl) (fun w' hw' => ?_) ?_
     rotate_left
     ·have hA := HAll.out w' hw'; go_split_ands; go_simp <;> with_reducible rfl
     try simp only [pq]
     refine wq_getOn (v := ?_) (yields_at rfl rfl rfl) (fun w' hw' => ?_) ?_
     rotate_left
     ·have hA := HAll.out w' hw'; go_split_ands; go_simp <;> with_reducible rfl
     try simp only [pq]
     refine wq_getOn (v := ?_) (yields_at rfl rfl rfl) (fun w' hw' => ?_) ?_
     rotate_left
     ·have hA := HAll.out w' hw'; go_split_ands; go_simp <;> with_reducible rfl
     try simp only [pq]
     refine wq_callVOn (by rfl) Tryz.call192 (yields_at rfl rfl rfl) (by rfl) (fun w' x => (HC.out w').mono fun _ _ h => ⟨h.1, x.trans h.2⟩) ?_
     try simp only [pq]
     refine wq_getOn (v := ?_) (yields_at rfl rfl rfl) (fun w' hw' => ?_) ?_
     rotate_left
     ·have hA := HAll.out w' hw'; go_split_ands; go_simp <;> with_reducible rfl
     try simp only [pq]
     try simp only [hc']
     try simp only [hn']
     try simp only [hni]
     refine wq_get (v := ?_) (fun w' hw' => ?_) ?_
     rotate_left
     ·have hA := HAll.out w' hw'; go_split_ands; go_simp <;> with_reducible rfl
     try simp only [pq]
     refine wq_get (v := ?_) (fun w' hw' => ?_) ?_
     rotate_left
     ·have hA := HAll.out w' hw'; go_split_ands; go_simp <;> with_reducible rfl
     try simp only [pq]
     refine wq_get (v := ?_) (fun w' hw' => ?_) ?_
     rotate_left
     ·have hA := HAll.out w' hw'; go_split_ands; go_simp <;> with_reducible rfl
     try simp only [pq]
     refine wq_nil ?_
     intro w25 hyn
     go_wp2_with fail
     go_ret2
     exact ⟨⟨hi, by rw [HN.out]; rfl⟩, hx.trans hyn⟩
   ·have HN := hid (show l.contains d = false by
     obtain rfl : hi = l.length := by omega
     exact HR.out.none)
    have hn' : decide (hi < l.length) = false := decide_eq_false hn
    have hni : decide ((hi : Int) < l.length) = false := decide_eq_false (by omega)
    clear hn
    go_wp2_with fail
    have HAll := hid (fun w' (_ : Ext wr w') => trivial)
    refine wq_region (fun w' => Ext wr w') (by kernel_rfl) (by kernel_rfl) (Ext.refl _).drew ?_
    refine wq_get (v := ?_) (fun w' hw' => ?_) ?_
    rotate_left
    ·have hA := HAll.out w' hw'; go_split_ands; go_simp <;> with_reducible rfl
    try simp only [pq]
    refine wq_get (v := ?_) (fun w' hw' => ?_) ?_
    rotate_left
    ·have hA := HAll.out w' hw'; go_split_ands; go_simp <;> with_reducible rfl
    try simp only [pq]
    refine wq_get (v := ?_) (fun w' hw' => ?_) ?_
    rotate_left
    ·have hA := HAll.out w' hw'; go_split_ands; go_simp <;> with_reducible rfl
    try simp only [pq]
    refine wq_get (v := ?_) (fun w' hw' => ?_) ?_
    rotate_left
    ·have hA := HAll.out w' hw'; go_split_ands; go_simp <;> with_reducible rfl
    try simp only [pq]
    try simp only [hn']
    try simp only [hni]
    refine wq_get (v := ?_) (fun w' hw' => ?_) ?_
    rotate_left
    ·have hA := HAll.out w' hw'; go_split_ands; go_simp <;> with_reducible rfl
    try simp only [pq]
    refine wq_skip (yields_at rfl rfl rfl) ?_
    try simp only [pq]
    refine wq_skip (yields_at rfl rfl rfl) ?_
    try simp only [pq]
    refine wq_skip (yields_at rfl rfl rfl) ?_
    try simp only [pq]
    refine wq_skip (yields_at rfl rfl rfl) ?_
    try simp only [pq]
    refine wq_skip (yields_at rfl rfl rfl) ?_
    try simp only [pq]
    refine wq_skip (yields_at rfl rfl rfl) ?_
    try simp only [pq]
    refine wq_skip (yields_at rfl rfl rfl) ?_
    try simp only [pq]
    refine wq_skip (yields_at rfl rfl rfl) ?_
    try simp only [pq]
    refine wq_get (v := ?_) (fun w' hw' => ?_) ?_
    rotate_left
    ·have hA := HAll.out w' hw'; go_split_ands; go_simp <;> with_reducible rfl
    try simp only [pq]
    refine wq_get (v := ?_) (fun w' hw' => ?_) ?_
    rotate_left
    ·have hA := HAll.out w' hw'; go_split_ands; go_simp <;> with_reducible rfl
    try simp only [pq]
    refine wq_get (v := ?_) (fun w' hw' => ?_) ?_
    rotate_left
    ·have hA := HAll.out w' hw'; go_split_ands; go_simp <;> with_reducible rfl
    try simp only [pq]
    refine wq_nil ?_
    intro w25 hyn
    go_wp2_with fail
    go_ret2
    exact ⟨⟨hi, by rw [HN.out]; rfl⟩, hx.trans hyn⟩
end Go.Proofs.YtngbfdogiciahaaGreat
