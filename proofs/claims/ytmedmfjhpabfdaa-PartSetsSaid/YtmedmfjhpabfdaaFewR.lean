/- The walks of the reference's under, Few. -/
import Derived.Test.YtmedmfjhpabfdaaPartM
import Derived.Test.YtmedmfjhpabfdaaFilM
import Derived.Test.YtmedmfjhpabfdaaRowP
namespace Go.Proofs.Ytmedmfjhpabfdaa
open Go Go.RowKit

def underR (a b : RP) : Bool := eqD (andD a.K b.K) a.K && allTo (fun i => (a.P i && b.P i) == a.P i) 512
def noneR (p : RP) : Bool := allTo (fun i => p.P i == false) 512 || eqD p.K (fun _ _ => false)
theorem under1 (a b : Bool) (w : World) : Calls Try.prog 159 #[.bool a, .bool b] w fun e w' => e = .returned (.bool (a && b)) ∧ w = w' := by
  cases a
  · go_enter Try.func159, Try.ntmps159
    go_wp2_with fail
    go_ret
    exact ⟨rfl, rfl⟩
  · go_enter Try.func159, Try.ntmps159
    go_wp2_with fail
    go_ret
    exact ⟨rfl, rfl⟩

set_option maxRecDepth 100000 in
set_option maxHeartbeats 2000000 in
theorem ref_under (a b : RP) (w : World) :
    Calls Try.prog 120 #[.agg (rowB 512 a.P ++ rowD a.K), .agg (rowB 512 b.P ++ rowD b.K)] w fun e w' => e = .returned (.bool (underR a b)) ∧ Ext w w' := by
  obtain ⟨W, hW⟩ : ∃ W : Bool, W = eqD (andD a.K b.K) a.K := ⟨_, rfl⟩
  obtain ⟨V, hV⟩ : ∃ V : Bool, V = allTo (fun i => (a.P i && b.P i) == a.P i) 512 := ⟨_, rfl⟩
  have HU := hid (show underR a b = (W && V) by rw [hW, hV, underR])
  have HW := hid hW
  have HV := hid hV
  have heq1 : ∀ w, (Op.equalIn 10000 83 (.agg (rowD (andD a.K b.K))) (.agg (rowD a.K))).run Try.prog w = .ok W w := fun w => by rw [HW.out]; exact eq_dotsets _ _ w
  have heq2 : ∀ w, (Op.equalIn 10000 79 (.agg (rowB 512 fun i => a.P i && b.P i)) (.agg (rowB 512 a.P))).run Try.prog w = .ok V w := fun w => by rw [HV.out, eq_points]
  have HE := hid (fun w' => ref_Each 159 (fun a b => a && b) a.P b.P w' Try.call159 under1)
  clear hW hV
  go_enter Try.func120, Try.ntmps120
  go_wp2_with (first
    | ((with_reducible refine wpList_boxArr (o := ⟨some 2, _, _, _, _, _⟩) _ rfl rfl rfl ?_); intro w1 hx1 hb1 hs1)
    | ((with_reducible refine wpList_boxArr (o := ⟨some 3, _, _, _, _, _⟩) _ rfl rfl rfl ?_); intro w2 hx2 hb2 hs2))
  have hx := hx1.trans hx2
  rw [hs1] at hb2
  have H2 := hid (fun w' (x : Ext w2 w') => (hb1.ext hx2).ext x)
  have H3 := hid (fun w' (x : Ext w2 w') => hb2.ext x)
  clear hx1 hx2 hb1 hb2 hs2
  cases W
  · refine wq_region (fun w' => Ext w2 w') (by kernel_rfl) (by kernel_rfl) (Ext.refl _).drew ?_
    refine wq_get (v := ?_) (fun w' hw' => ?_) ?_
    rotate_left
    · first
        | (go_simp; done)
        | (go_simp; with_reducible rfl)
    try simp only [Act.put, List.setIfInBounds_toArray, List.set_cons_zero, List.set_cons_succ]
    refine wq_loadMid ri_dots (by rfl) (fun w' x => ref_K (H2.out w' x)) (rowD_size _) ?_
    try simp only [Act.put, List.setIfInBounds_toArray, List.set_cons_zero, List.set_cons_succ]
    refine wq_get (v := ?_) (fun w' hw' => ?_) ?_
    rotate_left
    · first
        | (go_simp; done)
        | (go_simp; with_reducible rfl)
    try simp only [Act.put, List.setIfInBounds_toArray, List.set_cons_zero, List.set_cons_succ]
    refine wq_loadMid ri_dots (by rfl) (fun w' x => ref_K (H3.out w' x)) (rowD_size _) ?_
    try simp only [Act.put, List.setIfInBounds_toArray, List.set_cons_zero, List.set_cons_succ]
    refine wq_call Try.call105 (by rfl) (fun w' x => (dots_Meet a.K b.K w').mono fun _ _ h => ⟨h.1, x.trans h.2⟩) ?_
    try simp only [Act.put, List.setIfInBounds_toArray, List.set_cons_zero, List.set_cons_succ]
    refine wq_get (v := ?_) (fun w' hw' => ?_) ?_
    rotate_left
    · first
        | (go_simp; done)
        | (go_simp; with_reducible rfl)
    try simp only [Act.put, List.setIfInBounds_toArray, List.set_cons_zero, List.set_cons_succ]
    refine wq_loadMid ri_dots (by rfl) (fun w' x => ref_K (H2.out w' x)) (rowD_size _) ?_
    try simp only [Act.put, List.setIfInBounds_toArray, List.set_cons_zero, List.set_cons_succ]
    refine wq_get (v := ?_) (fun w' hw' => ?_) ?_
    rotate_left
    · first
        | (go_simp; done)
        | (go_simp; with_reducible rfl)
    try simp only [Act.put, List.setIfInBounds_toArray, List.set_cons_zero, List.set_cons_succ]
    refine wq_get (v := ?_) (fun w' hw' => ?_) ?_
    rotate_left
    · first
        | (go_simp; done)
        | (go_simp; with_reducible rfl)
    try simp only [Act.put, List.setIfInBounds_toArray, List.set_cons_zero, List.set_cons_succ]
    refine wq_skip (yields_at rfl rfl rfl) ?_
    try simp only [Act.put, List.setIfInBounds_toArray, List.set_cons_zero, List.set_cons_succ]
    refine wq_skip (yields_at rfl rfl rfl) ?_
    try simp only [Act.put, List.setIfInBounds_toArray, List.set_cons_zero, List.set_cons_succ]
    refine wq_skip (yields_at rfl rfl rfl) ?_
    try simp only [Act.put, List.setIfInBounds_toArray, List.set_cons_zero, List.set_cons_succ]
    refine wq_skip (yields_at rfl rfl rfl) ?_
    try simp only [Act.put, List.setIfInBounds_toArray, List.set_cons_zero, List.set_cons_succ]
    refine wq_skip (yields_at rfl rfl rfl) ?_
    try simp only [Act.put, List.setIfInBounds_toArray, List.set_cons_zero, List.set_cons_succ]
    refine wq_skip (yields_at rfl rfl rfl) ?_
    try simp only [Act.put, List.setIfInBounds_toArray, List.set_cons_zero, List.set_cons_succ]
    refine wq_skip (yields_at rfl rfl rfl) ?_
    try simp only [Act.put, List.setIfInBounds_toArray, List.set_cons_zero, List.set_cons_succ]
    refine wq_skip (yields_at rfl rfl rfl) ?_
    try simp only [Act.put, List.setIfInBounds_toArray, List.set_cons_zero, List.set_cons_succ]
    refine wq_get (v := ?_) (fun w' hw' => ?_) ?_
    rotate_left
    · first
        | (go_simp; done)
        | (go_simp; with_reducible rfl)
    try simp only [Act.put, List.setIfInBounds_toArray, List.set_cons_zero, List.set_cons_succ]
    refine wq_get (v := ?_) (fun w' hw' => ?_) ?_
    rotate_left
    · first
        | (go_simp; done)
        | (go_simp; with_reducible rfl)
    try simp only [Act.put, List.setIfInBounds_toArray, List.set_cons_zero, List.set_cons_succ]
    refine wq_nil ?_
    intro w8 hyn
    go_wp2_with fail
    go_ret
    exact ⟨ret_bool (by rw [HU.out]; rfl), hx.trans hyn⟩
  · refine wq_region (fun w' => Ext w2 w') (by kernel_rfl) (by kernel_rfl) (Ext.refl _).drew ?_
    refine wq_get (v := ?_) (fun w' hw' => ?_) ?_
    rotate_left
    · first
        | (go_simp; done)
        | (go_simp; with_reducible rfl)
    try simp only [Act.put, List.setIfInBounds_toArray, List.set_cons_zero, List.set_cons_succ]
    refine wq_loadMid ri_dots (by rfl) (fun w' x => ref_K (H2.out w' x)) (rowD_size _) ?_
    try simp only [Act.put, List.setIfInBounds_toArray, List.set_cons_zero, List.set_cons_succ]
    refine wq_get (v := ?_) (fun w' hw' => ?_) ?_
    rotate_left
    · first
        | (go_simp; done)
        | (go_simp; with_reducible rfl)
    try simp only [Act.put, List.setIfInBounds_toArray, List.set_cons_zero, List.set_cons_succ]
    refine wq_loadMid ri_dots (by rfl) (fun w' x => ref_K (H3.out w' x)) (rowD_size _) ?_
    try simp only [Act.put, List.setIfInBounds_toArray, List.set_cons_zero, List.set_cons_succ]
    refine wq_call Try.call105 (by rfl) (fun w' x => (dots_Meet a.K b.K w').mono fun _ _ h => ⟨h.1, x.trans h.2⟩) ?_
    try simp only [Act.put, List.setIfInBounds_toArray, List.set_cons_zero, List.set_cons_succ]
    refine wq_get (v := ?_) (fun w' hw' => ?_) ?_
    rotate_left
    · first
        | (go_simp; done)
        | (go_simp; with_reducible rfl)
    try simp only [Act.put, List.setIfInBounds_toArray, List.set_cons_zero, List.set_cons_succ]
    refine wq_loadMid ri_dots (by rfl) (fun w' x => ref_K (H2.out w' x)) (rowD_size _) ?_
    try simp only [Act.put, List.setIfInBounds_toArray, List.set_cons_zero, List.set_cons_succ]
    refine wq_get (v := ?_) (fun w' hw' => ?_) ?_
    rotate_left
    · first
        | (go_simp; done)
        | (go_simp; with_reducible rfl)
    try simp only [Act.put, List.setIfInBounds_toArray, List.set_cons_zero, List.set_cons_succ]
    refine wq_get (v := ?_) (fun w' hw' => ?_) ?_
    rotate_left
    · first
        | (go_simp; done)
        | (go_simp; with_reducible rfl)
    try simp only [Act.put, List.setIfInBounds_toArray, List.set_cons_zero, List.set_cons_succ]
    refine wq_getOn (v := ?_) (yields_at rfl rfl rfl) (fun w' hw' => ?_) ?_
    rotate_left
    · first
        | (go_simp; done)
        | (go_simp; with_reducible rfl)
    try simp only [Act.put, List.setIfInBounds_toArray, List.set_cons_zero, List.set_cons_succ]
    refine wq_loadMidOn ri_points (yields_at rfl rfl rfl) (by rfl) (fun w' x => ref_P (H2.out w' x)) (rowB_size _ _) ?_
    try simp only [Act.put, List.setIfInBounds_toArray, List.set_cons_zero, List.set_cons_succ]
    refine wq_getOn (v := ?_) (yields_at rfl rfl rfl) (fun w' hw' => ?_) ?_
    rotate_left
    · first
        | (go_simp; done)
        | (go_simp; with_reducible rfl)
    try simp only [Act.put, List.setIfInBounds_toArray, List.set_cons_zero, List.set_cons_succ]
    refine wq_loadMidOn ri_points (yields_at rfl rfl rfl) (by rfl) (fun w' x => ref_P (H3.out w' x)) (rowB_size _ _) ?_
    try simp only [Act.put, List.setIfInBounds_toArray, List.set_cons_zero, List.set_cons_succ]
    refine wq_callOn Try.call116 (yields_at rfl rfl rfl) (by rfl) (fun w' x => (HE.out w').mono fun _ _ h => ⟨h.1, x.trans h.2⟩) ?_
    try simp only [Act.put, List.setIfInBounds_toArray, List.set_cons_zero, List.set_cons_succ]
    refine wq_getOn (v := ?_) (yields_at rfl rfl rfl) (fun w' hw' => ?_) ?_
    rotate_left
    · first
        | (go_simp; done)
        | (go_simp; with_reducible rfl)
    try simp only [Act.put, List.setIfInBounds_toArray, List.set_cons_zero, List.set_cons_succ]
    refine wq_loadMidOn ri_points (yields_at rfl rfl rfl) (by rfl) (fun w' x => ref_P (H2.out w' x)) (rowB_size _ _) ?_
    try simp only [Act.put, List.setIfInBounds_toArray, List.set_cons_zero, List.set_cons_succ]
    refine wq_getOn (v := ?_) (yields_at rfl rfl rfl) (fun w' hw' => ?_) ?_
    rotate_left
    · first
        | (go_simp; done)
        | (go_simp; with_reducible rfl)
    try simp only [Act.put, List.setIfInBounds_toArray, List.set_cons_zero, List.set_cons_succ]
    refine wq_get (v := ?_) (fun w' hw' => ?_) ?_
    rotate_left
    · first
        | (go_simp; done)
        | (go_simp; with_reducible rfl)
    try simp only [Act.put, List.setIfInBounds_toArray, List.set_cons_zero, List.set_cons_succ]
    refine wq_get (v := ?_) (fun w' hw' => ?_) ?_
    rotate_left
    · first
        | (go_simp; done)
        | (go_simp; with_reducible rfl)
    try simp only [Act.put, List.setIfInBounds_toArray, List.set_cons_zero, List.set_cons_succ]
    refine wq_nil ?_
    intro w8 hyn
    go_wp2_with fail
    go_ret
    exact ⟨ret_bool (by rw [HU.out]; rfl), hx.trans hyn⟩

end Go.Proofs.Ytmedmfjhpabfdaa
