/- The walks of know.In, told, two, Has, Count. -/
import Derived.Test.YtngbfdogiciahaaGreatShort
import Derived.Test.YtngbfdogiciahaaGreatKnN
import Derived.Test.YtngbfdogiciahaaGreatKnB
namespace Go.Proofs.YtngbfdogiciahaaGreat
open Go Go.RowKit
def inK (k : Know) (d : Dot) : Bool := decide (d.count ≤ vecAt k.vec d.site) || k.more.contains d
def countK (k : Know) : Int := if knowCheck k = 0 then k.more.length + k.vec.sum else 0
def twoErr (a b : Know) : Int := if knowCheck a = 0 then knowCheck b else knowCheck a
set_option maxRecDepth 100000 in
theorem know_In (B : Nat) (k : Know) (Av : Option Addr) (cv : Nat) (Am : Option Addr) (cm : Nat) (d : Dot) (w : World) (h : InK B w Av Am k) (hk : KnowOk k) (hd : dotOk d = true) :
  Calls Tryz.prog 169 #[.agg #[.slice Av k.vec.length cv, .slice Am k.more.length cm], .agg #[.int .i64 d.site, .int .i64 d.count]] w fun e w' => e = .returned (.bool (inK k d)) ∧ Ext w w' := by
 obtain ⟨site, ct⟩ := d
 obtain ⟨o1, o2, o3, o4⟩ := dotOk_iff.1 hd
 simp only at o1 o2 o3 o4
 obtain ⟨s, rfl⟩ := Int.eq_ofNat_of_zero_le o1
 have HK := hid hk
 have HD := hid hd
 clear hk hd
 have hx := ((Ext.refl w).alloc (.cells #[.slice Av k.vec.length cv, .slice Am k.more.length cm] 101)).alloc (.cells #[.int .i64 (s : Int), .int .i64 ct] 35)
 have q0 : ((w.alloc (.cells #[.slice Av k.vec.length cv, .slice Am k.more.length cm] 101)).alloc (.cells #[.int .i64 (s : Int), .int .i64 ct] 35)).cell? ⟨w.heap.size, 0, none⟩ = some (.slice Av k.vec.length cv) := by go_simp
 have q1 : ((w.alloc (.cells #[.slice Av k.vec.length cv, .slice Am k.more.length cm] 101)).alloc (.cells #[.int .i64 (s : Int), .int .i64 ct] 35)).cell? ⟨w.heap.size, 1, none⟩ = some (.slice Am k.more.length cm) := by go_simp
 have d0 : ((w.alloc (.cells #[.slice Av k.vec.length cv, .slice Am k.more.length cm] 101)).alloc (.cells #[.int .i64 (s : Int), .int .i64 ct] 35)).cell? ⟨w.heap.size + 1, 0, none⟩ = some (.int .i64 (s : Int)) := by go_simp
 have d1 : ((w.alloc (.cells #[.slice Av k.vec.length cv, .slice Am k.more.length cm] 101)).alloc (.cells #[.int .i64 (s : Int), .int .i64 ct] 35)).cell? ⟨w.heap.size + 1, 1, none⟩ = some (.int .i64 ct) := by go_simp
 obtain ⟨V, hV⟩ : ∃ V, V = vecAt k.vec s := ⟨_, rfl⟩
 have HV := hid hV
 clear hV
 obtain ⟨w1, hw1⟩ : ∃ w1, w1 = (w.alloc (.cells #[.slice Av k.vec.length cv, .slice Am k.more.length cm] 101)).alloc (.cells #[.int .i64 (s : Int), .int .i64 ct] 35) := ⟨_, rfl⟩
 have HW1 := hid hw1
 rw [← hw1] at hx q0 q1 d0 d1
 clear hw1
 have HVec := hid (fun w' (x : Ext w1 w') => show Calls Tryz.prog 200 #[.agg #[.slice Av k.vec.length cv, .slice Am k.more.length cm], .int .i64 (s : Int)] w' fun e w2 => e = .returned (.int .i64 V) ∧ Ext w' w2 by rw [HV.out]; exact know_vec B k Av cv Am cm s w' (h.ext (hx.trans x)))
 have HAll := hid (fun w' (x : Ext w1 w') => show w'.cell? ⟨w.heap.size, 0, none⟩ = some (.slice Av k.vec.length cv) ∧ w'.cell? ⟨w.heap.size, 1, none⟩ = some (.slice Am k.more.length cm) ∧ w'.cell? ⟨w.heap.size + 1, 0, none⟩ = some (.int .i64 (s : Int)) ∧ w'.cell? ⟨w.heap.size + 1, 1, none⟩ = some (.int .i64 ct) from ⟨x.cell q0, x.cell q1, x.cell d0, x.cell d1⟩)
 clear d0 d1 q0 q1
 by_cases hc : ct ≤ V
 ·have HF := hid (show inK k ⟨s, ct⟩ = true by simp only [inK]; rw [← HV.out, decide_eq_true hc]; rfl)
  have hc' : decide (ct ≤ V) = true := decide_eq_true hc
  clear hc
  go_enter Tryz.func169, Tryz.ntmps169
  go_wp2_with fail
  rw [← HW1.out]
  refine wq_region (fun w' => Ext w1 w') (by kernel_rfl) (by kernel_rfl) (Ext.refl _).drew ?_
  refine wq_get (v := ?_) (fun w' hw' => ?_) ?_
  rotate_left
  ·have hA := HAll.out w' hw'; go_split_ands; go_simp <;> with_reducible rfl
  try simp only [pq]
  refine wq_get (v := ?_) (fun w' hw' => ?_) ?_
  rotate_left
  ·have hA := HAll.out w' hw'; go_split_ands; go_simp <;> with_reducible rfl
  try simp only [pq]
  refine wq_get (v := ?_) (fun w' hw' => ?_) ?_
  rotate_left
  ·have hA := HAll.out w' hw'; go_split_ands; go_simp <;> with_reducible rfl
  try simp only [pq]
  refine wq_get (v := ?_) (fun w' hw' => ?_) ?_
  rotate_left
  ·have hA := HAll.out w' hw'; go_split_ands; go_simp <;> with_reducible rfl
  try simp only [pq]
  refine wq_get (v := ?_) (fun w' hw' => ?_) ?_
  rotate_left
  ·have hA := HAll.out w' hw'; go_split_ands; go_simp <;> with_reducible rfl
  try simp only [pq]
  refine wq_call Tryz.call200 (by rfl) (fun w' x => (HVec.out w' x).mono fun _ _ h => ⟨h.1, x.trans h.2⟩) ?_
  try simp only [pq]
  refine wq_get (v := ?_) (fun w' hw' => ?_) ?_
  rotate_left
  ·have hA := HAll.out w' hw'; go_split_ands; go_simp <;> with_reducible rfl
  try simp only [pq]
  try simp only [hc']
  refine wq_nil ?_
  intro w2 hyn
  go_wp2_with fail
  go_ret
  exact ⟨ret_bool HF.out.symm, hx.trans hyn⟩
 ·have HF := hid (show inK k ⟨s, ct⟩ = k.more.contains ⟨s, ct⟩ by simp only [inK]; rw [← HV.out, decide_eq_false hc]; rfl)
  have hc' : decide (ct ≤ V) = false := decide_eq_false hc
  clear hc
  go_enter Tryz.func169, Tryz.ntmps169
  go_wp2_with fail
  rw [← HW1.out]
  refine wq_region (fun w' => Ext w1 w') (by kernel_rfl) (by kernel_rfl) (Ext.refl _).drew ?_
  refine wq_get (v := ?_) (fun w' hw' => ?_) ?_
  rotate_left
  ·have hA := HAll.out w' hw'; go_split_ands; go_simp <;> with_reducible rfl
  try simp only [pq]
  refine wq_get (v := ?_) (fun w' hw' => ?_) ?_
  rotate_left
  ·have hA := HAll.out w' hw'; go_split_ands; go_simp <;> with_reducible rfl
  try simp only [pq]
  refine wq_get (v := ?_) (fun w' hw' => ?_) ?_
  rotate_left
  ·have hA := HAll.out w' hw'; go_split_ands; go_simp <;> with_reducible rfl
  try simp only [pq]
  refine wq_get (v := ?_) (fun w' hw' => ?_) ?_
  rotate_left
  ·have hA := HAll.out w' hw'; go_split_ands; go_simp <;> with_reducible rfl
  try simp only [pq]
  refine wq_get (v := ?_) (fun w' hw' => ?_) ?_
  rotate_left
  ·have hA := HAll.out w' hw'; go_split_ands; go_simp <;> with_reducible rfl
  try simp only [pq]
  refine wq_call Tryz.call200 (by rfl) (fun w' x => (HVec.out w' x).mono fun _ _ h => ⟨h.1, x.trans h.2⟩) ?_
  try simp only [pq]
  refine wq_get (v := ?_) (fun w' hw' => ?_) ?_
  rotate_left
  ·have hA := HAll.out w' hw'; go_split_ands; go_simp <;> with_reducible rfl
  try simp only [pq]
  try simp only [hc']
  refine wq_nil ?_
  intro w2 hyn
  obtain ⟨q0, q1, d0, d1⟩ := HAll.out w2 hyn
  go_wp2_with fail
  refine (know_search B Am cm k.more ⟨s, ct⟩ w2 (h.ext (hx.trans hyn)).sm (by have := HK.out.mlen; omega) HK.out.sorted (fun x hm => (HK.out.more x hm).1) HD.out).mono ?_
  rintro e w3 ⟨⟨i, rfl⟩, hx3⟩
  generalize k.more.contains ⟨(s : Int), ct⟩ = bb at *
  go_wp2_with fail
  go_ret
  exact ⟨ret_bool HF.out.symm, (hx.trans hyn).trans hx3⟩
theorem know_two (B : Nat) (k l : Know) (Av : Option Addr) (cv : Nat) (Am : Option Addr) (cm : Nat) (Bv : Option Addr) (dv : Nat) (Bm : Option Addr) (dm : Nat) (w : World) (h : InK B w Av Am k) (g : InK B w Bv Bm l) :
  Calls Tryz.prog 225 #[.agg #[.slice Av k.vec.length cv, .slice Am k.more.length cm], .agg #[.slice Bv l.vec.length dv, .slice Bm l.more.length dm]] w fun e w' => e = .returned (.int .i64 (twoErr k l)) ∧ Ext w w' := by
 have hx := ((Ext.refl w).alloc (.cells #[.slice Av k.vec.length cv, .slice Am k.more.length cm] 101)).alloc (.cells #[.slice Bv l.vec.length dv, .slice Bm l.more.length dm] 101)
 have HF := hid (show twoErr k l = if knowCheck k = 0 then knowCheck l else knowCheck k from rfl)
 go_enter Tryz.func225, Tryz.ntmps225
 go_wp2_with fail
 refine (know_Check B k Av cv Am cm _ (h.ext hx)).mono ?_
 rintro e w1 ⟨rfl, hx1⟩
 have q0 : w1.cell? ⟨w.heap.size + 1, 0, none⟩ = some (.slice Bv l.vec.length dv) := hx1.cell (by go_simp)
 have q1 : w1.cell? ⟨w.heap.size + 1, 1, none⟩ = some (.slice Bm l.more.length dm) := hx1.cell (by go_simp)
 have HX := hid (hx.trans hx1)
 have HG := hid (g.ext (hx.trans hx1))
 clear hx hx1
 generalize knowCheck k = c at *
 by_cases h0 : c = 0
 ·have HR := hid (show twoErr k l = knowCheck l by rw [HF.out, if_pos h0])
  subst h0
  go_wp2_with fail
  refine (know_Check B l Bv dv Bm dm _ HG.out).mono ?_
  rintro e w2 ⟨rfl, hx2⟩
  go_wp2_with fail
  go_ret
  exact ⟨ret_int HR.out.symm, HX.out.trans hx2⟩
 ·have HR := hid (show twoErr k l = c by rw [HF.out, if_neg h0])
  have hc : (c != 0) = true := by simpa using h0
  clear h0
  go_wp2_with fail
  go_ret
  exact ⟨ret_int HR.out.symm, HX.out⟩
theorem sum_succ (l : List Int) (j : Nat) (h : j < l.length) : (l.take (j + 1)).sum = (l.take j).sum + l[j] := by
 rw [← List.take_append_getElem h, List.sum_append]; simp
theorem sum_bd (l : List Int) (hl : ∀ n ∈ l, 0 ≤ n ∧ n ≤ 1000) : 0 ≤ l.sum ∧ l.sum ≤ 1000 * l.length := by
 induction l with
 | nil => simp
 | cons x r ih =>
  have h1 := hl x (by simp)
  have h2 := ih fun n hn => hl n (by simp [hn])
  simp only [List.sum_cons, List.length_cons]
  omega
theorem know_Count (B : Nat) (k : Know) (Av : Option Addr) (cv : Nat) (Am : Option Addr) (cm : Nat) (w : World) (h : InK B w Av Am k) :
  Calls Tryz.prog 206 #[.agg #[.slice Av k.vec.length cv, .slice Am k.more.length cm]] w fun e w' => e = .returned (.tuple #[.int .i64 (countK k), .int .i64 (knowCheck k)]) ∧ Ext w w' := by
 have hx := (Ext.refl w).alloc (.cells #[.slice Av k.vec.length cv, .slice Am k.more.length cm] 101)
 have HC := hid (show countK k = if knowCheck k = 0 then k.more.length + k.vec.sum else 0 from rfl)
 have HKO := hid (knowCheck_iff (k := k))
 go_enter Tryz.func206, Tryz.ntmps206
 go_wp2_with fail
 refine (know_Check B k Av cv Am cm _ (h.ext hx)).mono ?_
 rintro e w1 ⟨rfl, hx1⟩
 have q0 : w1.cell? ⟨w.heap.size, 0, none⟩ = some (.slice Av k.vec.length cv) := hx1.cell (by go_simp)
 have q1 : w1.cell? ⟨w.heap.size, 1, none⟩ = some (.slice Am k.more.length cm) := hx1.cell (by go_simp)
 replace hx := hx.trans hx1
 clear hx1
 generalize hkc : knowCheck k = c at HC HKO ⊢
 have HCC := hid hkc
 clear hkc
 by_cases h0 : c = 0
 ·subst h0
  have HK := hid (HKO.out.1 rfl)
  have HR := hid (show countK k = k.more.length + k.vec.sum by rw [HC.out]; rfl)
  have hml := HK.out.mlen
  have hvl := HK.out.vlen
  have HB := hid (fun j => sum_bd (k.vec.take j) fun n hn => HK.out.vec n (List.mem_of_mem_take hn))
  have hsv := h.sv
  go_wp2_with fail
  go_loopw [19, 5] (fun i x wr => ∃ j : Nat, j ≤ k.vec.length ∧ i = .int .i64 j ∧ x = .int .i64 (k.more.length + (k.vec.take j).sum) ∧ Ext w wr ∧ wr.cell? ⟨w.heap.size, 0, none⟩ = some (.slice Av k.vec.length cv)) (fun i _ _ => k.vec.length - (intOf i).toNat)
  case atStart => exact ⟨0, Nat.zero_le _, rfl, by simp, hx, q0⟩
  case round =>
   clear hx q0 q1
   obtain ⟨j, hj, rfl, rfl, hx, q0⟩ := hrel
   by_cases hlt : j < k.vec.length
   ·obtain ⟨b, off, rfl, _, g0⟩ := (hsv.ext RInt.mono hx).int hlt
    have HS := hid (sum_succ k.vec j hlt)
    have hb1 := HB.out j
    have hb2 := HB.out (j + 1)
    rw [HS.out] at hb2
    simp only [List.length_take] at hb1 hb2
    generalize k.vec[j] = y at *
    generalize (k.vec.take j).sum = z at *
    have ew : IntKind.i64.wrap ((k.more.length : Int) + z + y) = (k.more.length : Int) + z + y := by rw [IntKind.wrap_i64]; omega
    clear hb1 hb2
    go_wp2_with fail
    go_roundw
    case rel => exact ⟨j + 1, hlt, by go_num, by rw [HS.out, Int.add_assoc], hx, q0⟩
    case measure => simp [intOf]; omega
   ·obtain rfl : j = k.vec.length := by omega
    have HT := hid (show k.vec.take k.vec.length = k.vec from List.take_length)
    generalize k.vec.take k.vec.length = t at *
    clear hlt hj
    go_wp2_with fail
    go_ret2
    exact ⟨by rw [HR.out, HT.out, HCC.out]; rfl, hx⟩
 ·have HR := hid (show countK k = 0 by rw [HC.out, if_neg h0])
  have hc : (c != 0) = true := by simpa using h0
  clear h0
  go_wp2_with fail
  go_ret2
  exact ⟨by rw [HR.out, HCC.out]; rfl, hx⟩
end Go.Proofs.YtngbfdogiciahaaGreat
