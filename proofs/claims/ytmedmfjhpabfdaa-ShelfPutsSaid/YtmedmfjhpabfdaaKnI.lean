/- The walks of know.In, told, two, Has, Count. -/
import Derived.Test.YtmedmfjhpabfdaaKnN
import Derived.Test.YtmedmfjhpabfdaaKnB
namespace Go.Proofs.Ytmedmfjhpabfdaa
open Go Go.RowKit

/-- is a dot in a set? -/
def inK (k : Know) (d : Dot) : Bool := decide (d.count ≤ vecAt k.vec d.site) || k.more.contains d
set_option maxRecDepth 100000 in
theorem know_In (B : Nat) (k : Know) (Av : Option Addr) (cv : Nat) (Am : Option Addr) (cm : Nat) (d : Dot) (w : World) (h : InK B w Av Am k) (hk : KnowOk k) (hd : dotOk d = true) :
    Calls Try.prog 81 #[.agg #[.slice Av k.vec.length cv, .slice Am k.more.length cm], .agg #[.int .i64 d.site, .int .i64 d.count]] w fun e w' => e = .returned (.bool (inK k d)) ∧ Ext w w' := by
  obtain ⟨site, ct⟩ := d
  obtain ⟨o1, o2, o3, o4⟩ := dotOk_iff.1 hd
  simp only at o1 o2 o3 o4
  obtain ⟨s, rfl⟩ := Int.eq_ofNat_of_zero_le o1
  have HK := hid hk
  have HD := hid hd
  clear hk hd
  have hx := ((Ext.refl w).alloc (.cells #[.slice Av k.vec.length cv, .slice Am k.more.length cm] 44)).alloc (.cells #[.int .i64 (s : Int), .int .i64 ct] 38)
  have q0 : ((w.alloc (.cells #[.slice Av k.vec.length cv, .slice Am k.more.length cm] 44)).alloc (.cells #[.int .i64 (s : Int), .int .i64 ct] 38)).cell? ⟨w.heap.size, 0, none⟩ = some (.slice Av k.vec.length cv) := by go_simp
  have q1 : ((w.alloc (.cells #[.slice Av k.vec.length cv, .slice Am k.more.length cm] 44)).alloc (.cells #[.int .i64 (s : Int), .int .i64 ct] 38)).cell? ⟨w.heap.size, 1, none⟩ = some (.slice Am k.more.length cm) := by go_simp
  have d0 : ((w.alloc (.cells #[.slice Av k.vec.length cv, .slice Am k.more.length cm] 44)).alloc (.cells #[.int .i64 (s : Int), .int .i64 ct] 38)).cell? ⟨w.heap.size + 1, 0, none⟩ = some (.int .i64 (s : Int)) := by go_simp
  have d1 : ((w.alloc (.cells #[.slice Av k.vec.length cv, .slice Am k.more.length cm] 44)).alloc (.cells #[.int .i64 (s : Int), .int .i64 ct] 38)).cell? ⟨w.heap.size + 1, 1, none⟩ = some (.int .i64 ct) := by go_simp
  obtain ⟨V, hV⟩ : ∃ V, V = vecAt k.vec s := ⟨_, rfl⟩
  have HV := hid hV
  clear hV
  obtain ⟨w1, hw1⟩ : ∃ w1, w1 = (w.alloc (.cells #[.slice Av k.vec.length cv, .slice Am k.more.length cm] 44)).alloc (.cells #[.int .i64 (s : Int), .int .i64 ct] 38) := ⟨_, rfl⟩
  have HW1 := hid hw1
  rw [← hw1] at hx q0 q1 d0 d1
  clear hw1
  have HVec := hid (fun w' (x : Ext w1 w') => show Calls Try.prog 122 #[.agg #[.slice Av k.vec.length cv, .slice Am k.more.length cm], .int .i64 (s : Int)] w' fun e w2 => e = .returned (.int .i64 V) ∧ Ext w' w2 by rw [HV.out]; exact know_vec B k Av cv Am cm s w' (h.ext (hx.trans x)))
  have HAll := hid (fun w' (x : Ext w1 w') => show w'.cell? ⟨w.heap.size, 0, none⟩ = some (.slice Av k.vec.length cv) ∧ w'.cell? ⟨w.heap.size, 1, none⟩ = some (.slice Am k.more.length cm) ∧ w'.cell? ⟨w.heap.size + 1, 0, none⟩ = some (.int .i64 (s : Int)) ∧ w'.cell? ⟨w.heap.size + 1, 1, none⟩ = some (.int .i64 ct) from ⟨x.cell q0, x.cell q1, x.cell d0, x.cell d1⟩)
  clear d0 d1 q0 q1
  by_cases hc : ct ≤ V
  · have HF := hid (show inK k ⟨s, ct⟩ = true by simp only [inK]; rw [← HV.out, decide_eq_true hc]; rfl)
    have hc' : decide (ct ≤ V) = true := decide_eq_true hc
    clear hc
    go_enter Try.func81, Try.ntmps81
    go_wp2_with fail
    rw [← HW1.out]
    refine wq_region (fun w' => Ext w1 w') (by kernel_rfl) (by kernel_rfl) (Ext.refl _).drew ?_
    refine wq_get (v := ?_) (fun w' hw' => ?_) ?_
    rotate_left
    · have hA := HAll.out w' hw'
      go_split_ands
      first
        | (go_simp; done)
        | (go_simp; with_reducible rfl)
    try simp only [Act.put, List.setIfInBounds_toArray, List.set_cons_zero, List.set_cons_succ]
    refine wq_get (v := ?_) (fun w' hw' => ?_) ?_
    rotate_left
    · have hA := HAll.out w' hw'
      go_split_ands
      first
        | (go_simp; done)
        | (go_simp; with_reducible rfl)
    try simp only [Act.put, List.setIfInBounds_toArray, List.set_cons_zero, List.set_cons_succ]
    refine wq_get (v := ?_) (fun w' hw' => ?_) ?_
    rotate_left
    · have hA := HAll.out w' hw'
      go_split_ands
      first
        | (go_simp; done)
        | (go_simp; with_reducible rfl)
    try simp only [Act.put, List.setIfInBounds_toArray, List.set_cons_zero, List.set_cons_succ]
    refine wq_get (v := ?_) (fun w' hw' => ?_) ?_
    rotate_left
    · have hA := HAll.out w' hw'
      go_split_ands
      first
        | (go_simp; done)
        | (go_simp; with_reducible rfl)
    try simp only [Act.put, List.setIfInBounds_toArray, List.set_cons_zero, List.set_cons_succ]
    refine wq_get (v := ?_) (fun w' hw' => ?_) ?_
    rotate_left
    · have hA := HAll.out w' hw'
      go_split_ands
      first
        | (go_simp; done)
        | (go_simp; with_reducible rfl)
    try simp only [Act.put, List.setIfInBounds_toArray, List.set_cons_zero, List.set_cons_succ]
    refine wq_call Try.call122 (by rfl) (fun w' x => (HVec.out w' x).mono fun _ _ h => ⟨h.1, x.trans h.2⟩) ?_
    try simp only [Act.put, List.setIfInBounds_toArray, List.set_cons_zero, List.set_cons_succ]
    refine wq_get (v := ?_) (fun w' hw' => ?_) ?_
    rotate_left
    · have hA := HAll.out w' hw'
      go_split_ands
      first
        | (go_simp; done)
        | (go_simp; with_reducible rfl)
    try simp only [Act.put, List.setIfInBounds_toArray, List.set_cons_zero, List.set_cons_succ]
    try simp only [hc']
    refine wq_nil ?_
    intro w2 hyn
    go_wp2_with fail
    go_ret
    exact ⟨ret_bool HF.out.symm, hx.trans hyn⟩
  · have HF := hid (show inK k ⟨s, ct⟩ = k.more.contains ⟨s, ct⟩ by simp only [inK]; rw [← HV.out, decide_eq_false hc]; rfl)
    have hc' : decide (ct ≤ V) = false := decide_eq_false hc
    clear hc
    go_enter Try.func81, Try.ntmps81
    go_wp2_with fail
    rw [← HW1.out]
    refine wq_region (fun w' => Ext w1 w') (by kernel_rfl) (by kernel_rfl) (Ext.refl _).drew ?_
    refine wq_get (v := ?_) (fun w' hw' => ?_) ?_
    rotate_left
    · have hA := HAll.out w' hw'
      go_split_ands
      first
        | (go_simp; done)
        | (go_simp; with_reducible rfl)
    try simp only [Act.put, List.setIfInBounds_toArray, List.set_cons_zero, List.set_cons_succ]
    refine wq_get (v := ?_) (fun w' hw' => ?_) ?_
    rotate_left
    · have hA := HAll.out w' hw'
      go_split_ands
      first
        | (go_simp; done)
        | (go_simp; with_reducible rfl)
    try simp only [Act.put, List.setIfInBounds_toArray, List.set_cons_zero, List.set_cons_succ]
    refine wq_get (v := ?_) (fun w' hw' => ?_) ?_
    rotate_left
    · have hA := HAll.out w' hw'
      go_split_ands
      first
        | (go_simp; done)
        | (go_simp; with_reducible rfl)
    try simp only [Act.put, List.setIfInBounds_toArray, List.set_cons_zero, List.set_cons_succ]
    refine wq_get (v := ?_) (fun w' hw' => ?_) ?_
    rotate_left
    · have hA := HAll.out w' hw'
      go_split_ands
      first
        | (go_simp; done)
        | (go_simp; with_reducible rfl)
    try simp only [Act.put, List.setIfInBounds_toArray, List.set_cons_zero, List.set_cons_succ]
    refine wq_get (v := ?_) (fun w' hw' => ?_) ?_
    rotate_left
    · have hA := HAll.out w' hw'
      go_split_ands
      first
        | (go_simp; done)
        | (go_simp; with_reducible rfl)
    try simp only [Act.put, List.setIfInBounds_toArray, List.set_cons_zero, List.set_cons_succ]
    refine wq_call Try.call122 (by rfl) (fun w' x => (HVec.out w' x).mono fun _ _ h => ⟨h.1, x.trans h.2⟩) ?_
    try simp only [Act.put, List.setIfInBounds_toArray, List.set_cons_zero, List.set_cons_succ]
    refine wq_get (v := ?_) (fun w' hw' => ?_) ?_
    rotate_left
    · have hA := HAll.out w' hw'
      go_split_ands
      first
        | (go_simp; done)
        | (go_simp; with_reducible rfl)
    try simp only [Act.put, List.setIfInBounds_toArray, List.set_cons_zero, List.set_cons_succ]
    try simp only [hc']
    refine wq_nil ?_
    intro w2 hyn
    obtain ⟨q0, q1, d0, d1⟩ := HAll.out w2 hyn
    go_wp2_with fail
    refine (know_search B Am cm k.more ⟨s, ct⟩ w2 (h.ext (hx.trans hyn)).sm (by have := HK.out.mlen; omega) HK.out.sorted (fun x hm => (HK.out.more x hm).1) HD.out).mono ?_
    rintro e w3 ⟨⟨i, rfl⟩, hx3⟩
    generalize k.more.contains ⟨(s : Int), ct⟩ = bb at *
    go_wp2_with fail
    go_ret
    exact ⟨ret_bool HF.out.symm, (hx.trans hyn).trans hx3⟩

end Go.Proofs.Ytmedmfjhpabfdaa
