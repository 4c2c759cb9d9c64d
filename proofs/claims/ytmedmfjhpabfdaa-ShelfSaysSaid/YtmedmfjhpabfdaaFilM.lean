/- The walk of the reference's Means. -/
import Derived.Test.YtmedmfjhpabfdaaFilR
import Derived.Deep.RegionHeld3
namespace Go.Proofs.Ytmedmfjhpabfdaa
open Go Go.RowKit

theorem rangeAt_ext {w w' : World} {b o : Nat} {cs : List Value} (x : Ext w w') (h : w.rangeAt b o cs) : w'.rangeAt b o cs := fun j v hv => x.cell (h j v hv)
theorem Blk.range {w : World} {b : Nat} {e : TypeId} {cs : Array Value} (h : Blk w b e cs) : w.rangeAt b 0 cs.toList := fun j v hv => by
  rw [Nat.zero_add]
  exact h.cell (by rwa [Array.getElem?_toList] at hv)
theorem info_bool : (Try.prog.info? 4).isSome = true := by kernel_rfl
theorem eq_points (p q : Nat → Bool) (w : World) : (Op.equalIn 10000 79 (.agg (rowB 512 p)) (.agg (rowB 512 q))).run Try.prog w = .ok (allTo (fun i => p i == q i) 512) w := by
  obtain ⟨i, hi⟩ := Option.isSome_iff_exists.1 info_bool
  exact run_equalIn_row Try.underlying79 hi (by kernel_rfl) (fun _ => by kernel_rfl) 9999 (fun i _ w => run_equalIn_bool w 9998 4 _ _ Try.underlying4) w

set_option maxRecDepth 100000 in
set_option maxHeartbeats 4000000 in
theorem ref_Means (B : Nat) (A : Option Addr) (c : Nat) (f : List Box) (p : Nat → Bool) (w : World) (hl : f.length ≤ 16) (h0 : filterCheck f = 0) (hp : ∀ i, i < 512 → pts f i = p i) (h : SlBoxes B w A f) :
    Calls Try.prog 114 #[.slice A f.length c, .agg (rowB 512 p)] w fun e w' => e = .returned (.bool true) ∧ Ext w w' := by
  have hlm : f.length ≤ maxLen := by unfold maxLen; omega
  have hok := (filterCheck_ok h0).2
  have e16 : decide ((f.length : Int) ≤ 16) = true := by simp; omega
  obtain ⟨cs, hcs⟩ : ∃ cs : List Value, cs = (rowB 512 p).toList := ⟨_, rfl⟩
  have hu := Try.underlying79
  have hi : (Try.prog.info? 79).map (·.size) = some cs.length := by rw [hcs, Array.length_toList, rowB_size]; exact ai_points.2
  have heq : ∀ w, (Op.equalIn 10000 79 (.agg (rowB 512 (pts f))) (.agg cs.toArray)).run Try.prog w = .ok true w := fun w => by
    rw [hcs, Array.toArray_toList, eq_points]
    congr 1
    rw [allTo_iff]
    intro i hi
    simp [hp i hi]
  have HFil := hid (fun w (hs : SlBoxes B w A f) => show Calls Try.prog 47 #[.slice A f.length c] w fun e w' => e = .returned (.int .i64 0) ∧ Ext w w' by have := ref_Filter B A c f w hlm hs; rwa [h0] at this)
  have HOf := hid (fun w (hs : SlBoxes B w A f) => ref_Of B A c f w hlm hok hs)
  clear hok hp h0 hlm
  generalize pts f = q at *
  go_enter Try.func114, Try.ntmps114
  go_upto_region 1 with ((with_reducible refine wpList_boxArr (o := ⟨some 3, _, _, _, _, _⟩) _ rfl rfl rfl ?_); intro w1 hx1 hb1 hs1)
  have hr : w1.rangeAt w.heap.size 0 cs := by rw [hcs]; exact hb1.range
  clear hcs
  have HX := hid hx1
  have HS := hid h
  clear hx1 hb1 h
  go_region_held3 (fun w' => w'.rangeAt w.heap.size 0 cs) (first | go_keep | (exact rangeAt_ext hx7 (by assumption)) | (exact rangeAt_ext hx8 (by assumption)))
    (first
      | (go_at_call 47; refine (HFil.out _ (HS.out.ext RBox.monoE HX.out.drew)).mono ?_; rintro e w7 ⟨rfl, hx7⟩; have hy7 := HX.out.drew.trans hx7)
      | (go_at_call 50; refine (HOf.out _ (HS.out.ext RBox.monoE hy7)).mono ?_; rintro e w8 ⟨rfl, hx8⟩; have hy8 := hy7.trans hx8))
  all_goals
    go_wp2_with fail
    go_ret
    exact ⟨rfl, hy8⟩

end Go.Proofs.Ytmedmfjhpabfdaa
