/- Several texts in one: data, readings, plain laws, walks. No condition. -/
import Derived.Test.YtmedmfjhpabfdaaFilR
import Derived.Deep.RegionHeld3
import Derived.Test.YtmedmfjhpabfdaaPartM
import Derived.Test.YtmedmfjhpabfdaaRowP
namespace Go.Proofs.Ytmedmfjhpabfdaa
open Go Go.RowKit

theorem rangeAt_ext {w w' : World} {b o : Nat} {cs : List Value} (x : Ext w w') (h : w.rangeAt b o cs) : w'.rangeAt b o cs := fun j v hv => x.cell (h j v hv)
theorem Blk.range {w : World} {b : Nat} {e : TypeId} {cs : Array Value} (h : Blk w b e cs) : w.rangeAt b 0 cs.toList := fun j v hv => by
  rw [Nat.zero_add]
  exact h.cell (by rwa [Array.getElem?_toList] at hv)
theorem info_bool : (Try.prog.info? 4).isSome = true := by kernel_rfl
theorem eq_points (p q : Nat → Bool) (w : World) : (Op.equalIn 10000 79 (.agg (rowB 512 p)) (.agg (rowB 512 q))).run Try.prog w = .ok (allTo (fun i => p i == q i) 512) w := by
  obtain ⟨i, hi⟩ := Option.isSome_iff_exists.1 info_bool
  exact run_equalIn_row Try.underlying79 hi (by kernel_rfl) (fun _ => by kernel_rfl) 9999 (fun i _ w => run_equalIn_bool w 9998 4 _ _ Try.underlying4) w

set_option maxRecDepth 100000 in
set_option maxHeartbeats 4000000 in
theorem ref_Means (B : Nat) (A : Option Addr) (c : Nat) (f : List Box) (p : Nat → Bool) (w : World) (hl : f.length ≤ 16) (h0 : filterCheck f = 0) (hp : ∀ i, i < 512 → pts f i = p i) (h : SlBoxes B w A f) :
    Calls Try.prog 114 #[.slice A f.length c, .agg (rowB 512 p)] w fun e w' => e = .returned (.bool true) ∧ Ext w w' := by
  have hlm : f.length ≤ maxLen := by unfold maxLen; omega
  have hok := (filterCheck_ok h0).2
  have e16 : decide ((f.length : Int) ≤ 16) = true := by simp; omega
  obtain ⟨cs, hcs⟩ : ∃ cs : List Value, cs = (rowB 512 p).toList := ⟨_, rfl⟩
  have hu := Try.underlying79
  have hi : (Try.prog.info? 79).map (·.size) = some cs.length := by rw [hcs, Array.length_toList, rowB_size]; exact ai_points.2
  have heq : ∀ w, (Op.equalIn 10000 79 (.agg (rowB 512 (pts f))) (.agg cs.toArray)).run Try.prog w = .ok true w := fun w => by
    rw [hcs, Array.toArray_toList, eq_points]
    congr 1
    rw [allTo_iff]
    intro i hi
    simp [hp i hi]
  have HFil := hid (fun w (hs : SlBoxes B w A f) => show Calls Try.prog 47 #[.slice A f.length c] w fun e w' => e = .returned (.int .i64 0) ∧ Ext w w' by have := ref_Filter B A c f w hlm hs; rwa [h0] at this)
  have HOf := hid (fun w (hs : SlBoxes B w A f) => ref_Of B A c f w hlm hok hs)
  clear hok hp h0 hlm
  generalize pts f = q at *
  go_enter Try.func114, Try.ntmps114
  go_upto_region 1 with ((with_reducible refine wpList_boxArr (o := ⟨some 3, _, _, _, _, _⟩) _ rfl rfl rfl ?_); intro w1 hx1 hb1 hs1)
  have hr : w1.rangeAt w.heap.size 0 cs := by rw [hcs]; exact hb1.range
  clear hcs
  have HX := hid hx1
  have HS := hid h
  clear hx1 hb1 h
  go_region_held3 (fun w' => w'.rangeAt w.heap.size 0 cs) (first | go_keep | (exact rangeAt_ext hx7 (by assumption)) | (exact rangeAt_ext hx8 (by assumption)))
    (first
      | (go_at_call 47; refine (HFil.out _ (HS.out.ext RBox.monoE HX.out.drew)).mono ?_; rintro e w7 ⟨rfl, hx7⟩; have hy7 := HX.out.drew.trans hx7)
      | (go_at_call 50; refine (HOf.out _ (HS.out.ext RBox.monoE hy7)).mono ?_; rintro e w8 ⟨rfl, hx8⟩; have hy8 := hy7.trans hx8))
  all_goals
    go_wp2_with fail
    go_ret
    exact ⟨rfl, hy8⟩

end Go.Proofs.Ytmedmfjhpabfdaa

namespace Go.Proofs.Ytmedmfjhpabfdaa
open Go Go.RowKit

def underR (a b : RP) : Bool := eqD (andD a.K b.K) a.K && allTo (fun i => (a.P i && b.P i) == a.P i) 512
def noneR (p : RP) : Bool := allTo (fun i => p.P i == false) 512 || eqD p.K (fun _ _ => false)
theorem under1 (a b : Bool) (w : World) : Calls Try.prog 159 #[.bool a, .bool b] w fun e w' => e = .returned (.bool (a && b)) ∧ w = w' := by
  cases a
  · go_enter Try.func159, Try.ntmps159
    go_wp2_with fail
    go_ret
    exact ⟨rfl, rfl⟩
  · go_enter Try.func159, Try.ntmps159
    go_wp2_with fail
    go_ret
    exact ⟨rfl, rfl⟩

set_option maxRecDepth 100000 in
set_option maxHeartbeats 2000000 in
theorem ref_under (a b : RP) (w : World) :
    Calls Try.prog 120 #[.agg (rowB 512 a.P ++ rowD a.K), .agg (rowB 512 b.P ++ rowD b.K)] w fun e w' => e = .returned (.bool (underR a b)) ∧ Ext w w' := by
  obtain ⟨W, hW⟩ : ∃ W : Bool, W = eqD (andD a.K b.K) a.K := ⟨_, rfl⟩
  obtain ⟨V, hV⟩ : ∃ V : Bool, V = allTo (fun i => (a.P i && b.P i) == a.P i) 512 := ⟨_, rfl⟩
  have HU := hid (show underR a b = (W && V) by rw [hW, hV, underR])
  have HW := hid hW
  have HV := hid hV
  have heq1 : ∀ w, (Op.equalIn 10000 83 (.agg (rowD (andD a.K b.K))) (.agg (rowD a.K))).run Try.prog w = .ok W w := fun w => by rw [HW.out]; exact eq_dotsets _ _ w
  have heq2 : ∀ w, (Op.equalIn 10000 79 (.agg (rowB 512 fun i => a.P i && b.P i)) (.agg (rowB 512 a.P))).run Try.prog w = .ok V w := fun w => by rw [HV.out, eq_points]
  have HE := hid (fun w' => ref_Each 159 (fun a b => a && b) a.P b.P w' Try.call159 under1)
  clear hW hV
  go_enter Try.func120, Try.ntmps120
  go_wp2_with (first
    | ((with_reducible refine wpList_boxArr (o := ⟨some 2, _, _, _, _, _⟩) _ rfl rfl rfl ?_); intro w1 hx1 hb1 hs1)
    | ((with_reducible refine wpList_boxArr (o := ⟨some 3, _, _, _, _, _⟩) _ rfl rfl rfl ?_); intro w2 hx2 hb2 hs2))
  have hx := hx1.trans hx2
  rw [hs1] at hb2
  have H2 := hid (fun w' (x : Ext w2 w') => (hb1.ext hx2).ext x)
  have H3 := hid (fun w' (x : Ext w2 w') => hb2.ext x)
  clear hx1 hx2 hb1 hb2 hs2
  cases W
  · refine wq_region (fun w' => Ext w2 w') (by kernel_rfl) (by kernel_rfl) (Ext.refl _).drew ?_
    refine wq_get (v := ?_) (fun w' hw' => ?_) ?_
    rotate_left
    · first
        | (go_simp; done)
        | (go_simp; with_reducible rfl)
    try simp only [Act.put, List.setIfInBounds_toArray, List.set_cons_zero, List.set_cons_succ]
    refine wq_loadMid ri_dots (by rfl) (fun w' x => ref_K (H2.out w' x)) (rowD_size _) ?_
    try simp only [Act.put, List.setIfInBounds_toArray, List.set_cons_zero, List.set_cons_succ]
    refine wq_get (v := ?_) (fun w' hw' => ?_) ?_
    rotate_left
    · first
        | (go_simp; done)
        | (go_simp; with_reducible rfl)
    try simp only [Act.put, List.setIfInBounds_toArray, List.set_cons_zero, List.set_cons_succ]
    refine wq_loadMid ri_dots (by rfl) (fun w' x => ref_K (H3.out w' x)) (rowD_size _) ?_
    try simp only [Act.put, List.setIfInBounds_toArray, List.set_cons_zero, List.set_cons_succ]
    refine wq_call Try.call105 (by rfl) (fun w' x => (dots_Meet a.K b.K w').mono fun _ _ h => ⟨h.1, x.trans h.2⟩) ?_
    try simp only [Act.put, List.setIfInBounds_toArray, List.set_cons_zero, List.set_cons_succ]
    refine wq_get (v := ?_) (fun w' hw' => ?_) ?_
    rotate_left
    · first
        | (go_simp; done)
        | (go_simp; with_reducible rfl)
    try simp only [Act.put, List.setIfInBounds_toArray, List.set_cons_zero, List.set_cons_succ]
    refine wq_loadMid ri_dots (by rfl) (fun w' x => ref_K (H2.out w' x)) (rowD_size _) ?_
    try simp only [Act.put, List.setIfInBounds_toArray, List.set_cons_zero, List.set_cons_succ]
    refine wq_get (v := ?_) (fun w' hw' => ?_) ?_
    rotate_left
    · first
        | (go_simp; done)
        | (go_simp; with_reducible rfl)
    try simp only [Act.put, List.setIfInBounds_toArray, List.set_cons_zero, List.set_cons_succ]
    refine wq_get (v := ?_) (fun w' hw' => ?_) ?_
    rotate_left
    · first
        | (go_simp; done)
        | (go_simp; with_reducible rfl)
    try simp only [Act.put, List.setIfInBounds_toArray, List.set_cons_zero, List.set_cons_succ]
    refine wq_skip (yields_at rfl rfl rfl) ?_
    try simp only [Act.put, List.setIfInBounds_toArray, List.set_cons_zero, List.set_cons_succ]
    refine wq_skip (yields_at rfl rfl rfl) ?_
    try simp only [Act.put, List.setIfInBounds_toArray, List.set_cons_zero, List.set_cons_succ]
    refine wq_skip (yields_at rfl rfl rfl) ?_
    try simp only [Act.put, List.setIfInBounds_toArray, List.set_cons_zero, List.set_cons_succ]
    refine wq_skip (yields_at rfl rfl rfl) ?_
    try simp only [Act.put, List.setIfInBounds_toArray, List.set_cons_zero, List.set_cons_succ]
    refine wq_skip (yields_at rfl rfl rfl) ?_
    try simp only [Act.put, List.setIfInBounds_toArray, List.set_cons_zero, List.set_cons_succ]
    refine wq_skip (yields_at rfl rfl rfl) ?_
    try simp only [Act.put, List.setIfInBounds_toArray, List.set_cons_zero, List.set_cons_succ]
    refine wq_skip (yields_at rfl rfl rfl) ?_
    try simp only [Act.put, List.setIfInBounds_toArray, List.set_cons_zero, List.set_cons_succ]
    refine wq_skip (yields_at rfl rfl rfl) ?_
    try simp only [Act.put, List.setIfInBounds_toArray, List.set_cons_zero, List.set_cons_succ]
    refine wq_get (v := ?_) (fun w' hw' => ?_) ?_
    rotate_left
    · first
        | (go_simp; done)
        | (go_simp; with_reducible rfl)
    try simp only [Act.put, List.setIfInBounds_toArray, List.set_cons_zero, List.set_cons_succ]
    refine wq_get (v := ?_) (fun w' hw' => ?_) ?_
    rotate_left
    · first
        | (go_simp; done)
        | (go_simp; with_reducible rfl)
    try simp only [Act.put, List.setIfInBounds_toArray, List.set_cons_zero, List.set_cons_succ]
    refine wq_nil ?_
    intro w8 hyn
    go_wp2_with fail
    go_ret
    exact ⟨ret_bool (by rw [HU.out]; rfl), hx.trans hyn⟩
  · refine wq_region (fun w' => Ext w2 w') (by kernel_rfl) (by kernel_rfl) (Ext.refl _).drew ?_
    refine wq_get (v := ?_) (fun w' hw' => ?_) ?_
    rotate_left
    · first
        | (go_simp; done)
        | (go_simp; with_reducible rfl)
    try simp only [Act.put, List.setIfInBounds_toArray, List.set_cons_zero, List.set_cons_succ]
    refine wq_loadMid ri_dots (by rfl) (fun w' x => ref_K (H2.out w' x)) (rowD_size _) ?_
    try simp only [Act.put, List.setIfInBounds_toArray, List.set_cons_zero, List.set_cons_succ]
    refine wq_get (v := ?_) (fun w' hw' => ?_) ?_
    rotate_left
    · first
        | (go_simp; done)
        | (go_simp; with_reducible rfl)
    try simp only [Act.put, List.setIfInBounds_toArray, List.set_cons_zero, List.set_cons_succ]
    refine wq_loadMid ri_dots (by rfl) (fun w' x => ref_K (H3.out w' x)) (rowD_size _) ?_
    try simp only [Act.put, List.setIfInBounds_toArray, List.set_cons_zero, List.set_cons_succ]
    refine wq_call Try.call105 (by rfl) (fun w' x => (dots_Meet a.K b.K w').mono fun _ _ h => ⟨h.1, x.trans h.2⟩) ?_
    try simp only [Act.put, List.setIfInBounds_toArray, List.set_cons_zero, List.set_cons_succ]
    refine wq_get (v := ?_) (fun w' hw' => ?_) ?_
    rotate_left
    · first
        | (go_simp; done)
        | (go_simp; with_reducible rfl)
    try simp only [Act.put, List.setIfInBounds_toArray, List.set_cons_zero, List.set_cons_succ]
    refine wq_loadMid ri_dots (by rfl) (fun w' x => ref_K (H2.out w' x)) (rowD_size _) ?_
    try simp only [Act.put, List.setIfInBounds_toArray, List.set_cons_zero, List.set_cons_succ]
    refine wq_get (v := ?_) (fun w' hw' => ?_) ?_
    rotate_left
    · first
        | (go_simp; done)
        | (go_simp; with_reducible rfl)
    try simp only [Act.put, List.setIfInBounds_toArray, List.set_cons_zero, List.set_cons_succ]
    refine wq_get (v := ?_) (fun w' hw' => ?_) ?_
    rotate_left
    · first
        | (go_simp; done)
        | (go_simp; with_reducible rfl)
    try simp only [Act.put, List.setIfInBounds_toArray, List.set_cons_zero, List.set_cons_succ]
    refine wq_getOn (v := ?_) (yields_at rfl rfl rfl) (fun w' hw' => ?_) ?_
    rotate_left
    · first
        | (go_simp; done)
        | (go_simp; with_reducible rfl)
    try simp only [Act.put, List.setIfInBounds_toArray, List.set_cons_zero, List.set_cons_succ]
    refine wq_loadMidOn ri_points (yields_at rfl rfl rfl) (by rfl) (fun w' x => ref_P (H2.out w' x)) (rowB_size _ _) ?_
    try simp only [Act.put, List.setIfInBounds_toArray, List.set_cons_zero, List.set_cons_succ]
    refine wq_getOn (v := ?_) (yields_at rfl rfl rfl) (fun w' hw' => ?_) ?_
    rotate_left
    · first
        | (go_simp; done)
        | (go_simp; with_reducible rfl)
    try simp only [Act.put, List.setIfInBounds_toArray, List.set_cons_zero, List.set_cons_succ]
    refine wq_loadMidOn ri_points (yields_at rfl rfl rfl) (by rfl) (fun w' x => ref_P (H3.out w' x)) (rowB_size _ _) ?_
    try simp only [Act.put, List.setIfInBounds_toArray, List.set_cons_zero, List.set_cons_succ]
    refine wq_callOn Try.call116 (yields_at rfl rfl rfl) (by rfl) (fun w' x => (HE.out w').mono fun _ _ h => ⟨h.1, x.trans h.2⟩) ?_
    try simp only [Act.put, List.setIfInBounds_toArray, List.set_cons_zero, List.set_cons_succ]
    refine wq_getOn (v := ?_) (yields_at rfl rfl rfl) (fun w' hw' => ?_) ?_
    rotate_left
    · first
        | (go_simp; done)
        | (go_simp; with_reducible rfl)
    try simp only [Act.put, List.setIfInBounds_toArray, List.set_cons_zero, List.set_cons_succ]
    refine wq_loadMidOn ri_points (yields_at rfl rfl rfl) (by rfl) (fun w' x => ref_P (H2.out w' x)) (rowB_size _ _) ?_
    try simp only [Act.put, List.setIfInBounds_toArray, List.set_cons_zero, List.set_cons_succ]
    refine wq_getOn (v := ?_) (yields_at rfl rfl rfl) (fun w' hw' => ?_) ?_
    rotate_left
    · first
        | (go_simp; done)
        | (go_simp; with_reducible rfl)
    try simp only [Act.put, List.setIfInBounds_toArray, List.set_cons_zero, List.set_cons_succ]
    refine wq_get (v := ?_) (fun w' hw' => ?_) ?_
    rotate_left
    · first
        | (go_simp; done)
        | (go_simp; with_reducible rfl)
    try simp only [Act.put, List.setIfInBounds_toArray, List.set_cons_zero, List.set_cons_succ]
    refine wq_get (v := ?_) (fun w' hw' => ?_) ?_
    rotate_left
    · first
        | (go_simp; done)
        | (go_simp; with_reducible rfl)
    try simp only [Act.put, List.setIfInBounds_toArray, List.set_cons_zero, List.set_cons_succ]
    refine wq_nil ?_
    intro w8 hyn
    go_wp2_with fail
    go_ret
    exact ⟨ret_bool (by rw [HU.out]; rfl), hx.trans hyn⟩

end Go.Proofs.Ytmedmfjhpabfdaa
