/- THE LAW KnowSays: whatever set and dot are handed in, Dot, Check, Has, Add and Count answer what the document says. The conditions are the statement's own. -/
import Derived.Test.YtiigbcnnapnceaaKnY
import Derived.Test.YtiigbcnnapnceaaKnR
import Derived.Test.YtiigbcnnapnceaaKnF
import Derived.Test.YtiigbcnnapnceaaKnO
import Derived.Test.YtiigbcnnapnceaaRows
namespace Go.Proofs.Ytiigbcnnapnceaa
open Go Go.RowKit

set_option maxRecDepth 100000 in
set_option maxHeartbeats 4000000 in
theorem law_KnowSays_err (k : Know) (Av : Option Addr) (cv : Nat) (Am : Option Addr) (cm : Nat) (d : Dot) (w : World) (h : InK w.heap.size w Av Am k) (hcv : k.vec.length ≤ cv ∧ cv ≤ maxLen) (h0 : knowCheck k ≠ 0) :
    Calls Try.prog 8 #[.agg #[.slice Av k.vec.length cv, .slice Am k.more.length cm], .agg #[.int .i64 d.site, .int .i64 d.count]] w fun e w' => e = .returned (.bool true) ∧ Ext w w' := by
  have HE1 := hid (show hasErr k d = knowCheck k from if_neg h0)
  have HI1 := hid (show hasIs k d = false from if_neg h0)
  have HE2 := hid (show addErr k d = knowCheck k from if_neg h0)
  have HA := hid (show addK k d = ⟨[], []⟩ from if_neg h0)
  have HC := hid (show knowCheck k = knowCheck k from rfl)
  have HN := hid (show countK k = 0 from if_neg h0)
  have hc : (knowCheck k != 0) = true := by simpa using h0
  obtain ⟨D, hD⟩ : ∃ D, D = dotOk d := ⟨_, rfl⟩
  have HD := hid hD.symm
  clear hD h0
  have hx := ((Ext.refl w).alloc (.cells #[.slice Av k.vec.length cv, .slice Am k.more.length cm] 72)).alloc (.cells #[.int .i64 d.site, .int .i64 d.count] 74)
  go_enter Try.func8, Try.ntmps8
  go_wp2_with fail
  refine (know_Has _ k Av cv Am cm d _ (h.ext hx)).mono ?_
  rintro e w1 ⟨rfl, hx1⟩
  rw [HE1.out, HI1.out]
  have q0 : w1.cell? ⟨w.heap.size, 0, none⟩ = some (.slice Av k.vec.length cv) := hx1.cell (by go_simp)
  have q1 : w1.cell? ⟨w.heap.size, 1, none⟩ = some (.slice Am k.more.length cm) := hx1.cell (by go_simp)
  have d0 : w1.cell? ⟨w.heap.size + 1, 0, none⟩ = some (.int .i64 d.site) := hx1.cell (by go_simp)
  have d1 : w1.cell? ⟨w.heap.size + 1, 1, none⟩ = some (.int .i64 d.count) := hx1.cell (by go_simp)
  replace hx := hx.trans hx1
  clear hx1
  go_wp2_with fail
  refine (know_Add w.heap.size k Av cv Am cm d w1 hx.size (h.ext hx) hcv).mono ?_
  rintro e w2 ⟨x, rfl, hk1, hx2⟩
  rw [HE2.out]
  obtain ⟨K1, hK1⟩ : ∃ K1, K1 = addK k d := ⟨_, rfl⟩
  rw [← hK1] at hk1
  have HK1 := hid (hK1.trans HA.out)
  obtain ⟨Ax, cx, Ay, cy, rfl, _, _, _, _, hk1⟩ := hk1
  replace hx := hx.trans hx2
  replace q0 := hx2.cell q0
  replace q1 := hx2.cell q1
  replace d0 := hx2.cell d0
  replace d1 := hx2.cell d1
  have hw0 : w.heap.size < w2.heap.size := World.block_lt_of_cell? _ _ q0
  have hw1 : w.heap.size + 1 < w2.heap.size := World.block_lt_of_cell? _ _ d0
  clear hx2 hK1
  go_wp2_with fail
  have hxa := (Ext.refl w2).alloc (.cells #[.slice Ax K1.vec.length cx, .slice Ay K1.more.length cy] 72)
  have p0 : (w2.alloc (.cells #[.slice Ax K1.vec.length cx, .slice Ay K1.more.length cy] 72)).cell? ⟨w2.heap.size, 0, none⟩ = some (.slice Ax K1.vec.length cx) := by go_simp
  have p1 : (w2.alloc (.cells #[.slice Ax K1.vec.length cx, .slice Ay K1.more.length cy] 72)).cell? ⟨w2.heap.size, 1, none⟩ = some (.slice Ay K1.more.length cy) := by go_simp
  replace hx := hx.trans hxa
  replace hk1 := hk1.ext hxa
  replace q0 := hxa.cell q0
  replace q1 := hxa.cell q1
  replace d0 := hxa.cell d0
  replace d1 := hxa.cell d1
  obtain ⟨b7, hb7⟩ : ∃ b, b = w2.heap.size := ⟨_, rfl⟩
  obtain ⟨w3, hw3⟩ : ∃ w3, w3 = w2.alloc (.cells #[.slice Ax K1.vec.length cx, .slice Ay K1.more.length cy] 72) := ⟨_, rfl⟩
  rw [← hw3] at hx hk1 q0 q1 d0 d1 p0 p1
  rw [← hw3]
  rw [← hb7] at p0 p1
  rw [← hb7]
  clear hxa hw3 hb7 hw0 hw1
  refine (know_Count _ k Av cv Am cm w3 (h.ext hx)).mono ?_
  rintro e w4 ⟨rfl, hx4⟩
  rw [HN.out]
  replace hx := hx.trans hx4
  replace hk1 := hk1.ext hx4
  replace q0 := hx4.cell q0
  replace q1 := hx4.cell q1
  replace d0 := hx4.cell d0
  replace d1 := hx4.cell d1
  replace p0 := hx4.cell p0
  replace p1 := hx4.cell p1
  clear hx4
  go_wp2_with fail
  refine (ref_Know _ k Av cv Am cm w4 (h.ext hx)).mono ?_
  rintro e w5 ⟨rfl, hx5⟩
  replace hx := hx.trans hx5
  replace hk1 := hk1.ext hx5
  replace q0 := hx5.cell q0
  replace q1 := hx5.cell q1
  replace d0 := hx5.cell d0
  replace d1 := hx5.cell d1
  replace p0 := hx5.cell p0
  replace p1 := hx5.cell p1
  clear hx5
  go_wp2_with fail
  have HKn := hid (fun w' (x : Ext w5 w') => h.ext (hx.trans x))
  have HKD := hid (fun w' => know_Dot d w')
  have HRD := hid (fun w' => ref_Dot d w')
  rw [HD.out] at HKD HRD
  have HK0 := hid (fun w' => show Calls Try.prog 50 #[.agg #[.int .i64 0, .int .i64 1]] w' fun e w2 => e = .returned (.bool true) ∧ Ext w' w2 from know_Dot ⟨0, 1⟩ w')
  have HKC := hid (fun w' (x : Ext w5 w') => know_Check _ k Av cv Am cm w' (HKn.out w' x))
  have HAll := hid (fun w' (x : Ext w5 w') => show w'.cell? ⟨w.heap.size, 0, none⟩ = some (.slice Av k.vec.length cv) ∧ w'.cell? ⟨w.heap.size, 1, none⟩ = some (.slice Am k.more.length cm) ∧ w'.cell? ⟨w.heap.size + 1, 0, none⟩ = some (.int .i64 d.site) ∧ w'.cell? ⟨w.heap.size + 1, 1, none⟩ = some (.int .i64 d.count) from ⟨x.cell q0, x.cell q1, x.cell d0, x.cell d1⟩)
  have HQ0 := hid q0
  have HQ1 := hid q1
  have HD0 := hid d0
  have HD1 := hid d1
  clear q0 q1 d0 d1
  refine wq_region (fun w' => Ext w5 w') (by kernel_rfl) (by kernel_rfl) (Ext.refl _).drew ?_
  refine wq_get (v := ?_) (fun w' hw' => ?_) ?_
  rotate_left
  · have hA := HAll.out w' hw'
    go_split_ands
    first
      | (go_simp; done)
      | (go_simp; with_reducible rfl)
  try simp only [Act.put, List.setIfInBounds_toArray, List.set_cons_zero, List.set_cons_succ]
  refine wq_call Try.call50 (by rfl) (fun w' x => (HKD.out w').mono fun _ _ h => ⟨h.1, x.trans h.2⟩) ?_
  try simp only [Act.put, List.setIfInBounds_toArray, List.set_cons_zero, List.set_cons_succ]
  refine wq_get (v := ?_) (fun w' hw' => ?_) ?_
  rotate_left
  · have hA := HAll.out w' hw'
    go_split_ands
    first
      | (go_simp; done)
      | (go_simp; with_reducible rfl)
  try simp only [Act.put, List.setIfInBounds_toArray, List.set_cons_zero, List.set_cons_succ]
  refine wq_call Try.call51 (by rfl) (fun w' x => (HRD.out w').mono fun _ _ h => ⟨h.1, x.trans h.2⟩) ?_
  try simp only [Act.put, List.setIfInBounds_toArray, List.set_cons_zero, List.set_cons_succ]
  refine wq_get (v := ?_) (fun w' hw' => ?_) ?_
  rotate_left
  · have hA := HAll.out w' hw'
    go_split_ands
    first
      | (go_simp; done)
      | (go_simp; with_reducible rfl)
  try simp only [Act.put, List.setIfInBounds_toArray, List.set_cons_zero, List.set_cons_succ]
  refine wq_get (v := ?_) (fun w' hw' => ?_) ?_
  rotate_left
  · have hA := HAll.out w' hw'
    go_split_ands
    first
      | (go_simp; done)
      | (go_simp; with_reducible rfl)
  try simp only [Act.put, List.setIfInBounds_toArray, List.set_cons_zero, List.set_cons_succ]
  refine wq_getOn (v := ?_) (yields_at rfl rfl rfl) (fun w' hw' => ?_) ?_
  rotate_left
  · have hA := HAll.out w' hw'
    go_split_ands
    first
      | (go_simp; done)
      | (go_simp; with_reducible rfl)
  try simp only [Act.put, List.setIfInBounds_toArray, List.set_cons_zero, List.set_cons_succ]
  refine wq_callOn Try.call52 (yields_at rfl rfl rfl) (by rfl) (fun w' x => (HKC.out w' x).mono fun _ _ h => ⟨h.1, x.trans h.2⟩) ?_
  try simp only [Act.put, List.setIfInBounds_toArray, List.set_cons_zero, List.set_cons_succ]
  refine wq_getOn (v := ?_) (yields_at rfl rfl rfl) (fun w' hw' => ?_) ?_
  rotate_left
  · have hA := HAll.out w' hw'
    go_split_ands
    first
      | (go_simp; done)
      | (go_simp; with_reducible rfl)
  try simp only [Act.put, List.setIfInBounds_toArray, List.set_cons_zero, List.set_cons_succ]
  refine wq_getOn (v := ?_) (yields_at rfl rfl rfl) (fun w' hw' => ?_) ?_
  rotate_left
  · have hA := HAll.out w' hw'
    go_split_ands
    first
      | (go_simp; done)
      | (go_simp; with_reducible rfl)
  try simp only [Act.put, List.setIfInBounds_toArray, List.set_cons_zero, List.set_cons_succ]
  refine wq_get (v := ?_) (fun w' hw' => ?_) ?_
  rotate_left
  · have hA := HAll.out w' hw'
    go_split_ands
    first
      | (go_simp; done)
      | (go_simp; with_reducible rfl)
  try simp only [Act.put, List.setIfInBounds_toArray, List.set_cons_zero, List.set_cons_succ]
  refine wq_get (v := ?_) (fun w' hw' => ?_) ?_
  rotate_left
  · have hA := HAll.out w' hw'
    go_split_ands
    first
      | (go_simp; done)
      | (go_simp; with_reducible rfl)
  try simp only [Act.put, List.setIfInBounds_toArray, List.set_cons_zero, List.set_cons_succ]
  refine wq_getOn (v := ?_) (yields_at rfl rfl rfl) (fun w' hw' => ?_) ?_
  rotate_left
  · have hA := HAll.out w' hw'
    go_split_ands
    first
      | (go_simp; done)
      | (go_simp; with_reducible rfl)
  try simp only [Act.put, List.setIfInBounds_toArray, List.set_cons_zero, List.set_cons_succ]
  refine wq_callOn Try.call50 (yields_at rfl rfl rfl) (by rfl) (fun w' x => (HK0.out w').mono fun _ _ h => ⟨h.1, x.trans h.2⟩) ?_
  try simp only [Act.put, List.setIfInBounds_toArray, List.set_cons_zero, List.set_cons_succ]
  refine wq_getOn (v := ?_) (yields_at rfl rfl rfl) (fun w' hw' => ?_) ?_
  rotate_left
  · have hA := HAll.out w' hw'
    go_split_ands
    first
      | (go_simp; done)
      | (go_simp; with_reducible rfl)
  try simp only [Act.put, List.setIfInBounds_toArray, List.set_cons_zero, List.set_cons_succ]
  refine wq_get (v := ?_) (fun w' hw' => ?_) ?_
  rotate_left
  · have hA := HAll.out w' hw'
    go_split_ands
    first
      | (go_simp; done)
      | (go_simp; with_reducible rfl)
  try simp only [Act.put, List.setIfInBounds_toArray, List.set_cons_zero, List.set_cons_succ]
  refine wq_nil ?_
  intro w6 hyn
  replace hx := hx.trans hyn
  replace hk1 := hk1.ext hyn
  have q0 := hyn.cell HQ0.out
  have q1 := hyn.cell HQ1.out
  have d0 := hyn.cell HD0.out
  have d1 := hyn.cell HD1.out
  replace p0 := hyn.cell p0
  replace p1 := hyn.cell p1
  clear hyn HKn HKD HRD HK0 HKC HAll HQ0 HQ1 HD0 HD1
  go_wp2_with fail
  have HS := hid (show decide (K1 = (⟨[], []⟩ : Know)) = true by rw [HK1.out]; rfl)
  refine (ref_SameKnow 0 0 K1 ⟨[], []⟩ Ax cx Ay cy none 0 none 0 w6 hk1 ⟨Nat.zero_le _, Nat.zero_le _, Sl.nil, Sl.nil⟩).mono ?_
  rintro e w9 ⟨rfl, hx9⟩
  rw [HS.out]
  go_wp2_with fail
  go_ret
  exact ⟨rfl, hx.trans hx9⟩

set_option maxRecDepth 100000 in
set_option maxHeartbeats 4000000 in
theorem law_KnowSays_bad (k : Know) (Av : Option Addr) (cv : Nat) (Am : Option Addr) (cm : Nat) (d : Dot) (w : World) (h : InK w.heap.size w Av Am k) (hcv : k.vec.length ≤ cv ∧ cv ≤ maxLen) (h0 : knowCheck k = 0) (hd : dotOk d = false) :
    Calls Try.prog 8 #[.agg #[.slice Av k.vec.length cv, .slice Am k.more.length cm], .agg #[.int .i64 d.site, .int .i64 d.count]] w fun e w' => e = .returned (.bool true) ∧ Ext w w' := by
  have hk := knowCheck_iff.1 h0
  have HK := hid hk
  have HE1 := hid (show hasErr k d = 1 by simp [hasErr, h0, hd])
  have HI1 := hid (show hasIs k d = false by simp [hasIs, h0, hd])
  have HE2 := hid (show addErr k d = 1 by simp [addErr, h0, hd])
  have HA := hid (show addK k d = ⟨[], []⟩ by simp [addK, h0, hd])
  have HC := hid h0
  have HD := hid hd
  obtain ⟨N, hN⟩ : ∃ N, N = countK k := ⟨_, rfl⟩
  have HN := hid hN
  have HSZ := hid (show sizeN (hasK k) 5 = N by rw [hN]; exact size_has k hk)
  clear h0 hd hk hN
  have hx := ((Ext.refl w).alloc (.cells #[.slice Av k.vec.length cv, .slice Am k.more.length cm] 72)).alloc (.cells #[.int .i64 d.site, .int .i64 d.count] 74)
  go_enter Try.func8, Try.ntmps8
  go_wp2_with fail
  refine (know_Has _ k Av cv Am cm d _ (h.ext hx)).mono ?_
  rintro e w1 ⟨rfl, hx1⟩
  rw [HE1.out, HI1.out]
  have q0 : w1.cell? ⟨w.heap.size, 0, none⟩ = some (.slice Av k.vec.length cv) := hx1.cell (by go_simp)
  have q1 : w1.cell? ⟨w.heap.size, 1, none⟩ = some (.slice Am k.more.length cm) := hx1.cell (by go_simp)
  have d0 : w1.cell? ⟨w.heap.size + 1, 0, none⟩ = some (.int .i64 d.site) := hx1.cell (by go_simp)
  have d1 : w1.cell? ⟨w.heap.size + 1, 1, none⟩ = some (.int .i64 d.count) := hx1.cell (by go_simp)
  replace hx := hx.trans hx1
  clear hx1
  go_wp2_with fail
  refine (know_Add w.heap.size k Av cv Am cm d w1 hx.size (h.ext hx) hcv).mono ?_
  rintro e w2 ⟨x, rfl, hk1, hx2⟩
  rw [HE2.out]
  obtain ⟨K1, hK1⟩ : ∃ K1, K1 = addK k d := ⟨_, rfl⟩
  rw [← hK1] at hk1
  have HK1 := hid (hK1.trans HA.out)
  obtain ⟨Ax, cx, Ay, cy, rfl, _, _, _, _, hk1⟩ := hk1
  replace hx := hx.trans hx2
  replace q0 := hx2.cell q0
  replace q1 := hx2.cell q1
  replace d0 := hx2.cell d0
  replace d1 := hx2.cell d1
  have hw0 : w.heap.size < w2.heap.size := World.block_lt_of_cell? _ _ q0
  have hw1 : w.heap.size + 1 < w2.heap.size := World.block_lt_of_cell? _ _ d0
  clear hx2 hK1
  go_wp2_with fail
  have hxa := (Ext.refl w2).alloc (.cells #[.slice Ax K1.vec.length cx, .slice Ay K1.more.length cy] 72)
  have p0 : (w2.alloc (.cells #[.slice Ax K1.vec.length cx, .slice Ay K1.more.length cy] 72)).cell? ⟨w2.heap.size, 0, none⟩ = some (.slice Ax K1.vec.length cx) := by go_simp
  have p1 : (w2.alloc (.cells #[.slice Ax K1.vec.length cx, .slice Ay K1.more.length cy] 72)).cell? ⟨w2.heap.size, 1, none⟩ = some (.slice Ay K1.more.length cy) := by go_simp
  replace hx := hx.trans hxa
  replace hk1 := hk1.ext hxa
  replace q0 := hxa.cell q0
  replace q1 := hxa.cell q1
  replace d0 := hxa.cell d0
  replace d1 := hxa.cell d1
  obtain ⟨b7, hb7⟩ : ∃ b, b = w2.heap.size := ⟨_, rfl⟩
  obtain ⟨w3, hw3⟩ : ∃ w3, w3 = w2.alloc (.cells #[.slice Ax K1.vec.length cx, .slice Ay K1.more.length cy] 72) := ⟨_, rfl⟩
  rw [← hw3] at hx hk1 q0 q1 d0 d1 p0 p1
  rw [← hw3]
  rw [← hb7] at p0 p1
  rw [← hb7]
  clear hxa hw3 hb7 hw0 hw1
  refine (know_Count _ k Av cv Am cm w3 (h.ext hx)).mono ?_
  rintro e w4 ⟨rfl, hx4⟩
  rw [HC.out, ← HN.out]
  replace hx := hx.trans hx4
  replace hk1 := hk1.ext hx4
  replace q0 := hx4.cell q0
  replace q1 := hx4.cell q1
  replace d0 := hx4.cell d0
  replace d1 := hx4.cell d1
  replace p0 := hx4.cell p0
  replace p1 := hx4.cell p1
  clear hx4
  go_wp2_with fail
  refine (ref_Know _ k Av cv Am cm w4 (h.ext hx)).mono ?_
  rintro e w5 ⟨rfl, hx5⟩
  rw [HC.out]
  replace hx := hx.trans hx5
  replace hk1 := hk1.ext hx5
  replace q0 := hx5.cell q0
  replace q1 := hx5.cell q1
  replace d0 := hx5.cell d0
  replace d1 := hx5.cell d1
  replace p0 := hx5.cell p0
  replace p1 := hx5.cell p1
  clear hx5
  go_wp2_with fail
  have HKn := hid (fun w' (x : Ext w5 w') => h.ext (hx.trans x))
  have HKD := hid (fun w' => know_Dot d w')
  have HRD := hid (fun w' => ref_Dot d w')
  rw [HD.out] at HKD HRD
  have HK0 := hid (fun w' => show Calls Try.prog 50 #[.agg #[.int .i64 0, .int .i64 1]] w' fun e w2 => e = .returned (.bool true) ∧ Ext w' w2 from know_Dot ⟨0, 1⟩ w')
  have HKC := hid (fun w' (x : Ext w5 w') => know_Check _ k Av cv Am cm w' (HKn.out w' x))
  rw [HC.out] at HKC
  have HAll := hid (fun w' (x : Ext w5 w') => show w'.cell? ⟨w.heap.size, 0, none⟩ = some (.slice Av k.vec.length cv) ∧ w'.cell? ⟨w.heap.size, 1, none⟩ = some (.slice Am k.more.length cm) ∧ w'.cell? ⟨w.heap.size + 1, 0, none⟩ = some (.int .i64 d.site) ∧ w'.cell? ⟨w.heap.size + 1, 1, none⟩ = some (.int .i64 d.count) from ⟨x.cell q0, x.cell q1, x.cell d0, x.cell d1⟩)
  have HQ0 := hid q0
  have HQ1 := hid q1
  have HD0 := hid d0
  have HD1 := hid d1
  clear q0 q1 d0 d1
  refine wq_region (fun w' => Ext w5 w') (by kernel_rfl) (by kernel_rfl) (Ext.refl _).drew ?_
  refine wq_get (v := ?_) (fun w' hw' => ?_) ?_
  rotate_left
  · have hA := HAll.out w' hw'
    go_split_ands
    first
      | (go_simp; done)
      | (go_simp; with_reducible rfl)
  try simp only [Act.put, List.setIfInBounds_toArray, List.set_cons_zero, List.set_cons_succ]
  refine wq_call Try.call50 (by rfl) (fun w' x => (HKD.out w').mono fun _ _ h => ⟨h.1, x.trans h.2⟩) ?_
  try simp only [Act.put, List.setIfInBounds_toArray, List.set_cons_zero, List.set_cons_succ]
  refine wq_get (v := ?_) (fun w' hw' => ?_) ?_
  rotate_left
  · have hA := HAll.out w' hw'
    go_split_ands
    first
      | (go_simp; done)
      | (go_simp; with_reducible rfl)
  try simp only [Act.put, List.setIfInBounds_toArray, List.set_cons_zero, List.set_cons_succ]
  refine wq_call Try.call51 (by rfl) (fun w' x => (HRD.out w').mono fun _ _ h => ⟨h.1, x.trans h.2⟩) ?_
  try simp only [Act.put, List.setIfInBounds_toArray, List.set_cons_zero, List.set_cons_succ]
  refine wq_get (v := ?_) (fun w' hw' => ?_) ?_
  rotate_left
  · have hA := HAll.out w' hw'
    go_split_ands
    first
      | (go_simp; done)
      | (go_simp; with_reducible rfl)
  try simp only [Act.put, List.setIfInBounds_toArray, List.set_cons_zero, List.set_cons_succ]
  refine wq_get (v := ?_) (fun w' hw' => ?_) ?_
  rotate_left
  · have hA := HAll.out w' hw'
    go_split_ands
    first
      | (go_simp; done)
      | (go_simp; with_reducible rfl)
  try simp only [Act.put, List.setIfInBounds_toArray, List.set_cons_zero, List.set_cons_succ]
  refine wq_getOn (v := ?_) (yields_at rfl rfl rfl) (fun w' hw' => ?_) ?_
  rotate_left
  · have hA := HAll.out w' hw'
    go_split_ands
    first
      | (go_simp; done)
      | (go_simp; with_reducible rfl)
  try simp only [Act.put, List.setIfInBounds_toArray, List.set_cons_zero, List.set_cons_succ]
  refine wq_callOn Try.call52 (yields_at rfl rfl rfl) (by rfl) (fun w' x => (HKC.out w' x).mono fun _ _ h => ⟨h.1, x.trans h.2⟩) ?_
  try simp only [Act.put, List.setIfInBounds_toArray, List.set_cons_zero, List.set_cons_succ]
  refine wq_getOn (v := ?_) (yields_at rfl rfl rfl) (fun w' hw' => ?_) ?_
  rotate_left
  · have hA := HAll.out w' hw'
    go_split_ands
    first
      | (go_simp; done)
      | (go_simp; with_reducible rfl)
  try simp only [Act.put, List.setIfInBounds_toArray, List.set_cons_zero, List.set_cons_succ]
  refine wq_getOn (v := ?_) (yields_at rfl rfl rfl) (fun w' hw' => ?_) ?_
  rotate_left
  · have hA := HAll.out w' hw'
    go_split_ands
    first
      | (go_simp; done)
      | (go_simp; with_reducible rfl)
  try simp only [Act.put, List.setIfInBounds_toArray, List.set_cons_zero, List.set_cons_succ]
  refine wq_get (v := ?_) (fun w' hw' => ?_) ?_
  rotate_left
  · have hA := HAll.out w' hw'
    go_split_ands
    first
      | (go_simp; done)
      | (go_simp; with_reducible rfl)
  try simp only [Act.put, List.setIfInBounds_toArray, List.set_cons_zero, List.set_cons_succ]
  refine wq_get (v := ?_) (fun w' hw' => ?_) ?_
  rotate_left
  · have hA := HAll.out w' hw'
    go_split_ands
    first
      | (go_simp; done)
      | (go_simp; with_reducible rfl)
  try simp only [Act.put, List.setIfInBounds_toArray, List.set_cons_zero, List.set_cons_succ]
  refine wq_getOn (v := ?_) (yields_at rfl rfl rfl) (fun w' hw' => ?_) ?_
  rotate_left
  · have hA := HAll.out w' hw'
    go_split_ands
    first
      | (go_simp; done)
      | (go_simp; with_reducible rfl)
  try simp only [Act.put, List.setIfInBounds_toArray, List.set_cons_zero, List.set_cons_succ]
  refine wq_callOn Try.call50 (yields_at rfl rfl rfl) (by rfl) (fun w' x => (HK0.out w').mono fun _ _ h => ⟨h.1, x.trans h.2⟩) ?_
  try simp only [Act.put, List.setIfInBounds_toArray, List.set_cons_zero, List.set_cons_succ]
  refine wq_getOn (v := ?_) (yields_at rfl rfl rfl) (fun w' hw' => ?_) ?_
  rotate_left
  · have hA := HAll.out w' hw'
    go_split_ands
    first
      | (go_simp; done)
      | (go_simp; with_reducible rfl)
  try simp only [Act.put, List.setIfInBounds_toArray, List.set_cons_zero, List.set_cons_succ]
  refine wq_get (v := ?_) (fun w' hw' => ?_) ?_
  rotate_left
  · have hA := HAll.out w' hw'
    go_split_ands
    first
      | (go_simp; done)
      | (go_simp; with_reducible rfl)
  try simp only [Act.put, List.setIfInBounds_toArray, List.set_cons_zero, List.set_cons_succ]
  refine wq_nil ?_
  intro w6 hyn
  replace hx := hx.trans hyn
  replace hk1 := hk1.ext hyn
  have q0 := hyn.cell HQ0.out
  have q1 := hyn.cell HQ1.out
  have d0 := hyn.cell HD0.out
  have d1 := hyn.cell HD1.out
  replace p0 := hyn.cell p0
  replace p1 := hyn.cell p1
  clear hyn HKn HKD HRD HK0 HKC HAll HQ0 HQ1 HD0 HD1
  go_wp2_with fail
  have hnn : (N != N) = false := by simp
  refine (ref_All _ k Av cv Am cm w6 (h.ext hx) HK.out).mono ?_
  rintro e w7 ⟨rfl, hx7⟩
  go_wp2_with (first
    | ((with_reducible refine wpList_allocArr (o := ⟨some 12, _, _, _, _, _⟩) zi_dots rfl rfl ?_); intro w8 hx8 hb8 hs8)
    | ((with_reducible refine wpList_storeArr (o := ⟨none, _, _, _, _, _⟩) ai_dots _ _ rfl rfl rfl rfl hb8 (rowD_size _) (rowD_size _) (rowD_all _) ?_); intro w9 hx9 hb12 hs9 ho9)
    | ((with_reducible refine wpList_loadArr (o := ⟨some 83, _, _, _, _, _⟩) ai_dots _ rfl rfl rfl hb12 (rowD_size _) ?_)))
  have hx79 : Ext w7 w9 := hx8.below hx9 (Nat.le_refl _)
  refine (dots_Size (hasK k) w9).mono ?_
  rintro e w10 ⟨rfl, hx10⟩
  rw [HSZ.out]
  have hxs := hx10
  replace hx10 := (hx7.trans hx79).trans hx10
  replace hx := hx.trans hx10
  replace hk1 := hk1.ext hx10
  replace hb12 := hb12.ext hxs
  replace p0 := hx10.cell p0
  replace p1 := hx10.cell p1
  replace d0 := hx10.cell d0
  replace d1 := hx10.cell d1
  clear hx7 hx8 hx9 hx79 hb8 hs8 hs9 ho9 hx10 hxs q0 q1
  go_wp2_with fail
  refine (ref_Dot d w10).mono ?_
  rintro e w11 ⟨rfl, hx11⟩
  rw [HD.out]
  replace hx := hx.trans hx11
  replace hk1 := hk1.ext hx11
  replace p0 := hx11.cell p0
  replace p1 := hx11.cell p1
  clear hx11
  go_wp2_with fail
  have HS := hid (show decide (K1 = (⟨[], []⟩ : Know)) = true by rw [HK1.out]; rfl)
  refine (ref_SameKnow 0 0 K1 ⟨[], []⟩ Ax cx Ay cy none 0 none 0 w11 hk1 ⟨Nat.zero_le _, Nat.zero_le _, Sl.nil, Sl.nil⟩).mono ?_
  rintro e w9 ⟨rfl, hx9⟩
  rw [HS.out]
  go_wp2_with fail
  go_ret
  exact ⟨rfl, hx.trans hx9⟩

set_option maxRecDepth 100000 in
set_option maxHeartbeats 4000000 in
theorem law_KnowSays_ok (k : Know) (Av : Option Addr) (cv : Nat) (Am : Option Addr) (cm : Nat) (s c : Nat) (w : World) (h : InK w.heap.size w Av Am k) (hcv : k.vec.length ≤ cv ∧ cv ≤ maxLen) (h0 : knowCheck k = 0) (hd : dotOk ⟨(s : Int), (c : Int)⟩ = true) :
    Calls Try.prog 8 #[.agg #[.slice Av k.vec.length cv, .slice Am k.more.length cm], .agg #[.int .i64 (s : Int), .int .i64 (c : Int)]] w fun e w' => e = .returned (.bool true) ∧ Ext w w' := by
  have hk := knowCheck_iff.1 h0
  have HK := hid hk
  obtain ⟨o1, o2, o3, o4⟩ := dotOk_iff.1 hd
  simp only at o1 o2 o3 o4
  have hs5 : s < 5 := by omega
  have hc10 : c < 1024 := by omega
  have hc1 : 1 ≤ c := by omega
  obtain ⟨b, hb⟩ : ∃ b, b = hasK k s c := ⟨_, rfl⟩
  obtain ⟨E, hE⟩ : ∃ E, E = toldErr (formOf (withD (hasK k) s c)) := ⟨_, rfl⟩
  have HE1 := hid (show hasErr k ⟨(s : Int), (c : Int)⟩ = 0 by simp [hasErr, h0, hd])
  have HI1 := hid (show hasIs k ⟨(s : Int), (c : Int)⟩ = b by rw [hb, ← inK_has k s c hc1]; simp [hasIs, h0, hd])
  have HE2 := hid (show addErr k ⟨(s : Int), (c : Int)⟩ = E by rw [(add_ok h0 hd).1, add_set k s c hc1, hE])
  have HA := hid (show addK k ⟨(s : Int), (c : Int)⟩ = toldKn (formOf (withD (hasK k) s c)) by rw [(add_ok h0 hd).2, add_set k s c hc1])
  have HC := hid h0
  have HD := hid hd
  have HB := hid hb
  have HEE := hid hE
  obtain ⟨N, hN⟩ : ∃ N, N = countK k := ⟨_, rfl⟩
  have HN := hid hN
  have HSZ := hid (show sizeN (hasK k) 5 = N by rw [hN]; exact size_has k hk)
  have HS5 := hid hs5
  have HC10 := hid hc10
  clear h0 hd hk hN hb hE o1 o2 o3 o4 hs5 hc10 hc1
  have hx := ((Ext.refl w).alloc (.cells #[.slice Av k.vec.length cv, .slice Am k.more.length cm] 72)).alloc (.cells #[.int .i64 (s : Int), .int .i64 (c : Int)] 74)
  go_enter Try.func8, Try.ntmps8
  go_wp2_with fail
  refine (know_Has _ k Av cv Am cm (⟨(s : Int), (c : Int)⟩ : Dot) _ (h.ext hx)).mono ?_
  rintro e w1 ⟨rfl, hx1⟩
  rw [HE1.out, HI1.out]
  have q0 : w1.cell? ⟨w.heap.size, 0, none⟩ = some (.slice Av k.vec.length cv) := hx1.cell (by go_simp)
  have q1 : w1.cell? ⟨w.heap.size, 1, none⟩ = some (.slice Am k.more.length cm) := hx1.cell (by go_simp)
  have d0 : w1.cell? ⟨w.heap.size + 1, 0, none⟩ = some (.int .i64 (s : Int)) := hx1.cell (by go_simp)
  have d1 : w1.cell? ⟨w.heap.size + 1, 1, none⟩ = some (.int .i64 (c : Int)) := hx1.cell (by go_simp)
  replace hx := hx.trans hx1
  clear hx1
  go_wp2_with fail
  refine (know_Add w.heap.size k Av cv Am cm (⟨(s : Int), (c : Int)⟩ : Dot) w1 hx.size (h.ext hx) hcv).mono ?_
  rintro e w2 ⟨x, rfl, hk1, hx2⟩
  rw [HE2.out]
  obtain ⟨K1, hK1⟩ : ∃ K1, K1 = addK k (⟨(s : Int), (c : Int)⟩ : Dot) := ⟨_, rfl⟩
  rw [← hK1] at hk1
  have HK1 := hid (hK1.trans HA.out)
  obtain ⟨Ax, cx, Ay, cy, rfl, _, _, _, _, hk1⟩ := hk1
  replace hx := hx.trans hx2
  replace q0 := hx2.cell q0
  replace q1 := hx2.cell q1
  replace d0 := hx2.cell d0
  replace d1 := hx2.cell d1
  have hw0 : w.heap.size < w2.heap.size := World.block_lt_of_cell? _ _ q0
  have hw1 : w.heap.size + 1 < w2.heap.size := World.block_lt_of_cell? _ _ d0
  clear hx2 hK1
  go_wp2_with fail
  have hxa := (Ext.refl w2).alloc (.cells #[.slice Ax K1.vec.length cx, .slice Ay K1.more.length cy] 72)
  have p0 : (w2.alloc (.cells #[.slice Ax K1.vec.length cx, .slice Ay K1.more.length cy] 72)).cell? ⟨w2.heap.size, 0, none⟩ = some (.slice Ax K1.vec.length cx) := by go_simp
  have p1 : (w2.alloc (.cells #[.slice Ax K1.vec.length cx, .slice Ay K1.more.length cy] 72)).cell? ⟨w2.heap.size, 1, none⟩ = some (.slice Ay K1.more.length cy) := by go_simp
  replace hx := hx.trans hxa
  replace hk1 := hk1.ext hxa
  replace q0 := hxa.cell q0
  replace q1 := hxa.cell q1
  replace d0 := hxa.cell d0
  replace d1 := hxa.cell d1
  obtain ⟨b7, hb7⟩ : ∃ b, b = w2.heap.size := ⟨_, rfl⟩
  obtain ⟨w3, hw3⟩ : ∃ w3, w3 = w2.alloc (.cells #[.slice Ax K1.vec.length cx, .slice Ay K1.more.length cy] 72) := ⟨_, rfl⟩
  rw [← hw3] at hx hk1 q0 q1 d0 d1 p0 p1
  rw [← hw3]
  rw [← hb7] at p0 p1
  rw [← hb7]
  clear hxa hw3 hb7 hw0 hw1
  refine (know_Count _ k Av cv Am cm w3 (h.ext hx)).mono ?_
  rintro e w4 ⟨rfl, hx4⟩
  rw [HC.out, ← HN.out]
  replace hx := hx.trans hx4
  replace hk1 := hk1.ext hx4
  replace q0 := hx4.cell q0
  replace q1 := hx4.cell q1
  replace d0 := hx4.cell d0
  replace d1 := hx4.cell d1
  replace p0 := hx4.cell p0
  replace p1 := hx4.cell p1
  clear hx4
  go_wp2_with fail
  refine (ref_Know _ k Av cv Am cm w4 (h.ext hx)).mono ?_
  rintro e w5 ⟨rfl, hx5⟩
  rw [HC.out]
  replace hx := hx.trans hx5
  replace hk1 := hk1.ext hx5
  replace q0 := hx5.cell q0
  replace q1 := hx5.cell q1
  replace d0 := hx5.cell d0
  replace d1 := hx5.cell d1
  replace p0 := hx5.cell p0
  replace p1 := hx5.cell p1
  clear hx5
  go_wp2_with fail
  have HKn := hid (fun w' (x : Ext w5 w') => h.ext (hx.trans x))
  have HKD := hid (fun w' => know_Dot (⟨(s : Int), (c : Int)⟩ : Dot) w')
  have HRD := hid (fun w' => ref_Dot (⟨(s : Int), (c : Int)⟩ : Dot) w')
  rw [HD.out] at HKD HRD
  have HK0 := hid (fun w' => show Calls Try.prog 50 #[.agg #[.int .i64 0, .int .i64 1]] w' fun e w2 => e = .returned (.bool true) ∧ Ext w' w2 from know_Dot ⟨0, 1⟩ w')
  have HKC := hid (fun w' (x : Ext w5 w') => know_Check _ k Av cv Am cm w' (HKn.out w' x))
  rw [HC.out] at HKC
  have HAll := hid (fun w' (x : Ext w5 w') => show w'.cell? ⟨w.heap.size, 0, none⟩ = some (.slice Av k.vec.length cv) ∧ w'.cell? ⟨w.heap.size, 1, none⟩ = some (.slice Am k.more.length cm) ∧ w'.cell? ⟨w.heap.size + 1, 0, none⟩ = some (.int .i64 (s : Int)) ∧ w'.cell? ⟨w.heap.size + 1, 1, none⟩ = some (.int .i64 (c : Int)) from ⟨x.cell q0, x.cell q1, x.cell d0, x.cell d1⟩)
  have HQ0 := hid q0
  have HQ1 := hid q1
  have HD0 := hid d0
  have HD1 := hid d1
  clear q0 q1 d0 d1
  refine wq_region (fun w' => Ext w5 w') (by kernel_rfl) (by kernel_rfl) (Ext.refl _).drew ?_
  refine wq_get (v := ?_) (fun w' hw' => ?_) ?_
  rotate_left
  · have hA := HAll.out w' hw'
    go_split_ands
    first
      | (go_simp; done)
      | (go_simp; with_reducible rfl)
  try simp only [Act.put, List.setIfInBounds_toArray, List.set_cons_zero, List.set_cons_succ]
  refine wq_call Try.call50 (by rfl) (fun w' x => (HKD.out w').mono fun _ _ h => ⟨h.1, x.trans h.2⟩) ?_
  try simp only [Act.put, List.setIfInBounds_toArray, List.set_cons_zero, List.set_cons_succ]
  refine wq_get (v := ?_) (fun w' hw' => ?_) ?_
  rotate_left
  · have hA := HAll.out w' hw'
    go_split_ands
    first
      | (go_simp; done)
      | (go_simp; with_reducible rfl)
  try simp only [Act.put, List.setIfInBounds_toArray, List.set_cons_zero, List.set_cons_succ]
  refine wq_call Try.call51 (by rfl) (fun w' x => (HRD.out w').mono fun _ _ h => ⟨h.1, x.trans h.2⟩) ?_
  try simp only [Act.put, List.setIfInBounds_toArray, List.set_cons_zero, List.set_cons_succ]
  refine wq_get (v := ?_) (fun w' hw' => ?_) ?_
  rotate_left
  · have hA := HAll.out w' hw'
    go_split_ands
    first
      | (go_simp; done)
      | (go_simp; with_reducible rfl)
  try simp only [Act.put, List.setIfInBounds_toArray, List.set_cons_zero, List.set_cons_succ]
  refine wq_get (v := ?_) (fun w' hw' => ?_) ?_
  rotate_left
  · have hA := HAll.out w' hw'
    go_split_ands
    first
      | (go_simp; done)
      | (go_simp; with_reducible rfl)
  try simp only [Act.put, List.setIfInBounds_toArray, List.set_cons_zero, List.set_cons_succ]
  refine wq_getOn (v := ?_) (yields_at rfl rfl rfl) (fun w' hw' => ?_) ?_
  rotate_left
  · have hA := HAll.out w' hw'
    go_split_ands
    first
      | (go_simp; done)
      | (go_simp; with_reducible rfl)
  try simp only [Act.put, List.setIfInBounds_toArray, List.set_cons_zero, List.set_cons_succ]
  refine wq_callOn Try.call52 (yields_at rfl rfl rfl) (by rfl) (fun w' x => (HKC.out w' x).mono fun _ _ h => ⟨h.1, x.trans h.2⟩) ?_
  try simp only [Act.put, List.setIfInBounds_toArray, List.set_cons_zero, List.set_cons_succ]
  refine wq_getOn (v := ?_) (yields_at rfl rfl rfl) (fun w' hw' => ?_) ?_
  rotate_left
  · have hA := HAll.out w' hw'
    go_split_ands
    first
      | (go_simp; done)
      | (go_simp; with_reducible rfl)
  try simp only [Act.put, List.setIfInBounds_toArray, List.set_cons_zero, List.set_cons_succ]
  refine wq_getOn (v := ?_) (yields_at rfl rfl rfl) (fun w' hw' => ?_) ?_
  rotate_left
  · have hA := HAll.out w' hw'
    go_split_ands
    first
      | (go_simp; done)
      | (go_simp; with_reducible rfl)
  try simp only [Act.put, List.setIfInBounds_toArray, List.set_cons_zero, List.set_cons_succ]
  refine wq_get (v := ?_) (fun w' hw' => ?_) ?_
  rotate_left
  · have hA := HAll.out w' hw'
    go_split_ands
    first
      | (go_simp; done)
      | (go_simp; with_reducible rfl)
  try simp only [Act.put, List.setIfInBounds_toArray, List.set_cons_zero, List.set_cons_succ]
  refine wq_get (v := ?_) (fun w' hw' => ?_) ?_
  rotate_left
  · have hA := HAll.out w' hw'
    go_split_ands
    first
      | (go_simp; done)
      | (go_simp; with_reducible rfl)
  try simp only [Act.put, List.setIfInBounds_toArray, List.set_cons_zero, List.set_cons_succ]
  refine wq_getOn (v := ?_) (yields_at rfl rfl rfl) (fun w' hw' => ?_) ?_
  rotate_left
  · have hA := HAll.out w' hw'
    go_split_ands
    first
      | (go_simp; done)
      | (go_simp; with_reducible rfl)
  try simp only [Act.put, List.setIfInBounds_toArray, List.set_cons_zero, List.set_cons_succ]
  refine wq_callOn Try.call50 (yields_at rfl rfl rfl) (by rfl) (fun w' x => (HK0.out w').mono fun _ _ h => ⟨h.1, x.trans h.2⟩) ?_
  try simp only [Act.put, List.setIfInBounds_toArray, List.set_cons_zero, List.set_cons_succ]
  refine wq_getOn (v := ?_) (yields_at rfl rfl rfl) (fun w' hw' => ?_) ?_
  rotate_left
  · have hA := HAll.out w' hw'
    go_split_ands
    first
      | (go_simp; done)
      | (go_simp; with_reducible rfl)
  try simp only [Act.put, List.setIfInBounds_toArray, List.set_cons_zero, List.set_cons_succ]
  refine wq_get (v := ?_) (fun w' hw' => ?_) ?_
  rotate_left
  · have hA := HAll.out w' hw'
    go_split_ands
    first
      | (go_simp; done)
      | (go_simp; with_reducible rfl)
  try simp only [Act.put, List.setIfInBounds_toArray, List.set_cons_zero, List.set_cons_succ]
  refine wq_nil ?_
  intro w6 hyn
  replace hx := hx.trans hyn
  replace hk1 := hk1.ext hyn
  have q0 := hyn.cell HQ0.out
  have q1 := hyn.cell HQ1.out
  have d0 := hyn.cell HD0.out
  have d1 := hyn.cell HD1.out
  replace p0 := hyn.cell p0
  replace p1 := hyn.cell p1
  clear hyn HKn HKD HRD HK0 HKC HAll HQ0 HQ1 HD0 HD1
  go_wp2_with fail
  have hnn : (N != N) = false := by simp
  refine (ref_All _ k Av cv Am cm w6 (h.ext hx) HK.out).mono ?_
  rintro e w7 ⟨rfl, hx7⟩
  go_wp2_with (first
    | ((with_reducible refine wpList_allocArr (o := ⟨some 12, _, _, _, _, _⟩) zi_dots rfl rfl ?_); intro w8 hx8 hb8 hs8)
    | ((with_reducible refine wpList_storeArr (o := ⟨none, _, _, _, _, _⟩) ai_dots _ _ rfl rfl rfl rfl hb8 (rowD_size _) (rowD_size _) (rowD_all _) ?_); intro w9 hx9 hb12 hs9 ho9)
    | ((with_reducible refine wpList_loadArr (o := ⟨some 83, _, _, _, _, _⟩) ai_dots _ rfl rfl rfl hb12 (rowD_size _) ?_)))
  have hx79 : Ext w7 w9 := hx8.below hx9 (Nat.le_refl _)
  refine (dots_Size (hasK k) w9).mono ?_
  rintro e w10 ⟨rfl, hx10⟩
  rw [HSZ.out]
  have hxs := hx10
  replace hx10 := (hx7.trans hx79).trans hx10
  replace hx := hx.trans hx10
  replace hk1 := hk1.ext hx10
  replace hb12 := hb12.ext hxs
  replace p0 := hx10.cell p0
  replace p1 := hx10.cell p1
  replace d0 := hx10.cell d0
  replace d1 := hx10.cell d1
  clear hx7 hx8 hx9 hx79 hb8 hs8 hs9 ho9 hx10 hxs q0 q1
  go_wp2_with fail
  refine (ref_Dot (⟨(s : Int), (c : Int)⟩ : Dot) w10).mono ?_
  rintro e w11 ⟨rfl, hx11⟩
  rw [HD.out]
  replace hx := hx.trans hx11
  replace hk1 := hk1.ext hx11
  replace hb12 := hb12.ext hx11
  replace p0 := hx11.cell p0
  replace p1 := hx11.cell p1
  replace d0 := hx11.cell d0
  replace d1 := hx11.cell d1
  clear hx11
  go_wp2_with ((with_reducible refine wpList_loadArr (o := ⟨some 106, _, _, _, _, _⟩) ai_dots _ rfl rfl rfl hb12 (rowD_size _) ?_))
  refine (dots_With (hasK k) s c w11 HS5.out HC10.out).mono ?_
  rintro e w14 ⟨rfl, hx14⟩
  replace hx := hx.trans hx14
  replace hk1 := hk1.ext hx14
  replace hb12 := hb12.ext hx14
  replace p0 := hx14.cell p0
  replace p1 := hx14.cell p1
  replace d0 := hx14.cell d0
  replace d1 := hx14.cell d1
  clear hx14
  go_wp2_with fail
  refine (ref_Formed (withD (hasK k) s c) w14).mono ?_
  rintro e w15 ⟨y, rfl, hk2, hx15⟩
  rw [← HEE.out]
  obtain ⟨K2, hK2⟩ : ∃ K2, K2 = toldKn (formOf (withD (hasK k) s c)) := ⟨_, rfl⟩
  rw [← hK2] at hk2
  have HK2 := hid hK2
  obtain ⟨Bx, dx, By, dy, rfl, _, _, _, _, hk2⟩ := hk2
  replace hx := hx.trans hx15
  replace hk1 := hk1.ext hx15
  replace hb12 := hb12.ext hx15
  replace p0 := hx15.cell p0
  replace p1 := hx15.cell p1
  replace d0 := hx15.cell d0
  replace d1 := hx15.cell d1
  clear hx15 hK2
  have hxa := (Ext.refl w15).alloc (.cells #[.slice Bx K2.vec.length dx, .slice By K2.more.length dy] 72)
  have hb13 := hb12.ext hxa
  have hw0 : w.heap.size < w15.heap.size := by have := World.block_lt_of_cell? _ _ d0; simp only at this; omega
  have hw1 : w.heap.size + 1 < w15.heap.size := World.block_lt_of_cell? _ _ d0
  have hw7 : b7 < w15.heap.size := World.block_lt_of_cell? _ _ p0
  have hbb : (b == b) = true := by simp
  have hee : (E == E) = true := by simp
  go_wp2_with ((with_reducible refine wpList_loadArr (o := ⟨some 116, _, _, _, _, _⟩) ai_dots _ rfl rfl rfl hb13 (rowD_size _) ?_))
  refine (dots_Has (hasK k) s c _ HS5.out HC10.out).mono ?_
  rintro e w16 ⟨rfl, hx16⟩
  rw [← HB.out]
  have z0 : w16.cell? ⟨w15.heap.size, 0, none⟩ = some (.slice Bx K2.vec.length dx) := hx16.cell (by go_simp)
  have z1 : w16.cell? ⟨w15.heap.size, 1, none⟩ = some (.slice By K2.more.length dy) := hx16.cell (by go_simp)
  replace p0 := hx16.cell (hxa.cell p0)
  replace p1 := hx16.cell (hxa.cell p1)
  replace hk1 := (hk1.ext hxa).ext hx16
  replace hk2 := (hk2.ext hxa).ext hx16
  replace hx := (hx.trans hxa).trans hx16
  clear hxa hx16 hb13 hw0 hw1 hw7 hb12 d0 d1
  go_wp2_with fail
  have HSS := hid (show decide (K1 = K2) = true by rw [HK1.out, HK2.out]; simp)
  refine (ref_SameKnow 0 0 K1 K2 Ax cx Ay cy Bx dx By dy w16 hk1 hk2).mono ?_
  rintro e w17 ⟨rfl, hx17⟩
  rw [HSS.out]
  go_wp2_with fail
  go_ret
  exact ⟨rfl, hx.trans hx17⟩

theorem law_KnowSays (k : Know) (v : Value) (d : Dot) (w : World) (hk : KArg w v k) :
    Calls Try.prog 8 #[v, .agg #[.int .i64 d.site, .int .i64 d.count]] w fun e w' => e = .returned (.bool true) ∧ Ext w w' := by
  obtain ⟨Av, cv, Am, cm, rfl, h1, h2, _, _, h⟩ := hk
  by_cases h0 : knowCheck k = 0
  · cases hd : dotOk d
    · exact law_KnowSays_bad k Av cv Am cm d w h ⟨h1, h2⟩ h0 hd
    · obtain ⟨site, count⟩ := d
      obtain ⟨o1, _, o3, _⟩ := dotOk_iff.1 hd
      obtain ⟨s, rfl⟩ := Int.eq_ofNat_of_zero_le o1
      obtain ⟨c, rfl⟩ := Int.eq_ofNat_of_zero_le (Int.le_trans (show (0 : Int) ≤ 1 by omega) o3)
      exact law_KnowSays_ok k Av cv Am cm s c w h ⟨h1, h2⟩ h0 hd
  · exact law_KnowSays_err k Av cv Am cm d w h ⟨h1, h2⟩ h0

namespace KnowSaysProof
open Go.ChangeShapes Go.WideShapes Go.ChangeAt Go.Joins

set_option maxRecDepth 100000 in
theorem lifted (os : Os) (started : os.Started) (H : Type) (enc : TypeId × Value → H) :
    ReturnsInHanded {} Try.checked os 8 .any (Rows.knowSaysSpec.pre6 enc Try.prog Try.f8 Rows.knowSaysRow.domain false) (Rows.knowSaysSpec.post enc Try.prog Try.f8 false true false false) := by
  refine returnsInHanded_of_change (C := Try.checked) own started (by kernel_rfl) Try.func8
    (ChangeSpec.witness6 (enc := enc) (C := Try.checked) false ⟨#[], #[.agg #[.slice none 0 0, .slice none 0 0], .agg #[.int .i64 0, .int .i64 0]], []⟩ 8 (by kernel_rfl) (by kernel_rfl) (by kernel_rfl) (by kernel_rfl)) ?_
  intro W base args ds gs before hval0 hW hcnd _
  have hval : ∀ (j : Nat) t v, Try.f8.params[j]? = some t → args[j]? = some v → Value.okWide Try.prog W .any base t v := hval0
  have hW' := hW
  obtain ⟨p, q, hA0, hV, rfl, hfz, hnd⟩ := hW
  have hA : DataW.TrodAll enc Try.prog W 0 (fun _ => true) true Try.f8.params.toList args.toList ds p := hA0
  rw [Try.params8] at hA hval
  obtain ⟨v0, vs0, d0, ds0, p0, q0, hargs, rfl, rfl, h0, r0⟩ := trodAll_cons hA
  obtain ⟨v1, vs1, d1, ds1, p1, q1, rfl, rfl, rfl, h1, r1⟩ := trodAll_cons r0
  obtain ⟨rfl, rfl, rfl⟩ := trodAll_nil r1
  obtain rfl : args = #[v0, v1] := by cases args; simp_all
  obtain ⟨rfl, rfl⟩ := trodVars_none hV
  have k0 := h0
  have lt0 : ∀ x ∈ p0, x.block < W.heap.size := by obtain ⟨m, hm⟩ := k0; exact DataW.trod_lt m _ _ _ hm
  obtain ⟨l0, s0⟩ := open_know (hval 0 72 v0 rfl rfl) h0
  have k1 := h1
  have lt1 : ∀ x ∈ p1, x.block < W.heap.size := by obtain ⟨m, hm⟩ := k1; exact DataW.trod_lt m _ _ _ hm
  obtain ⟨x1, y1, rfl, g1, _⟩ := open_pair Try.underlying74 (by kernel_rfl) cells_dot Try.underlying3 rfl rfl (hval 1 74 v1 rfl rfl) h1
  clear hA0 hval0
  refine (law_KnowSays l0 v0 ⟨x1, y1⟩ W s0).mono fun e W' ⟨he, bel⟩ => ?_
  subst he
  exact ⟨_, rfl, _, _, _, [], _, [], hW', trodAll_mk1 (shut_bool Try.underlying4 _), (trodAll_cons_mk (Below.trod laidOut (by kernel_rfl) (of_decide_eq_true (by kernel_rfl)) k0 bel lt0) (trodAll_cons_mk (Below.trod laidOut (by kernel_rfl) (of_decide_eq_true (by kernel_rfl)) k1 bel lt1) trodAll_mk0)), rfl, Below.frame bel _, fun h => by cases h⟩

theorem over : Rows.knowSaysRow.holds Try.pinned (OpenSpec.ofChange Rows.knowSaysSpec) :=
  OpenClaim.holds_of_wide 8 Try.f8 rfl rfl rfl rfl rfl rfl rfl ⟨rfl, rfl, rfl, rfl, rfl⟩ rfl rfl rfl rfl rfl (by kernel_rfl) Try.func8 (by kernel_rfl)
    (of_decide_eq_true (by kernel_rfl)) (by unfold Func.isWrapper; first | (rw [if_pos (by decide +kernel)]; kernel_rfl) | (rw [if_neg (by decide +kernel)]; exact ⟨rfl, rfl⟩))
    (fun os started H enc _ => lifted os started H enc)
end KnowSaysProof

theorem knowSays_holds : Rows.KnowSaysSaid := KnowSaysProof.over
#print axioms knowSays_holds

end Go.Proofs.Ytiigbcnnapnceaa
