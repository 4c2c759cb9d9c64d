/- The walk of the reference's Show. -/
import Derived.Test.YtbkmgbckeaimdaaDoorTextI
namespace Go.Proofs.YtbkmgbckeaimdaaDoor
open Go Go.RowKit

theorem ei_sizes : ElemInfo Tryd.prog 75 3 1 8 := ElemInfo.mk_ (z := .int .i64 0) Tryd.underlying75 (by kernel_rfl) rfl (by decide)
theorem z_sizes : (Tryd.prog.info? 3).bind (·.zero) = some (.int .i64 0) := by kernel_rfl

def rowM (n : Nat) (f : Nat → Int) : Array Value := rowF n fun j => .int .i64 (f j)
theorem rowM_get {n : Nat} (f : Nat → Int) {i : Nat} (h : i < n) : (rowM n f)[i]? = some (.int .i64 (f i)) := rowF_get _ h
theorem rowM_set (n : Nat) (f : Nat → Int) (i : Nat) (b : Int) : (rowM n f).setIfInBounds i (.int .i64 b) = rowM n (fun j => if j = i then b else f j) := by
  unfold rowM
  rw [rowF_set]
  congr 1
  funext j
  by_cases h : j = i <;> simp [h]
theorem rowM_congr {n : Nat} {f g : Nat → Int} (h : ∀ i, i < n → f i = g i) : rowM n f = rowM n g := rowF_congr fun i hi => by rw [h i hi]
theorem Blk.setM {w : World} {b : Nat} {e : TypeId} {n : Nat} {f : Nat → Int} (h : Blk w b e (rowM n f)) (i : Nat) (v : Int) : Blk (w.setCell ⟨b, i, none⟩ (.int .i64 v)) b e (rowM n fun j => if j = i then v else f j) := by
  rw [← rowM_set]; exact h.set i _
/-- what the row of sizes holds when k nodes are measured. -/
def cutM (l : List Node) (i : Nat) : Int := (min (textAt l i).length 401 : Nat)
def mS (l : List Node) (k j : Nat) : Int := if j < k then cutM l j else 0
theorem mS_step (l : List Node) (k : Nat) (u x : Int) (hu : u = cutM l k) : (fun j => if j = k then u else if j = k then x else mS l k j) = mS l (k + 1) := by
  funext j
  by_cases h : j = k
  · subst h; simp [mS, hu]
  · rw [if_neg h, if_neg h]
    unfold mS
    by_cases h2 : j < k
    · rw [if_pos h2, if_pos (by omega)]
    · rw [if_neg h2, if_neg (by omega)]
theorem cutM_small {l : List Node} {i : Nat} {x : Int} (h : x = ((textAt l i).length : Int)) (hx : x ≤ 401) : x = cutM l i := by unfold cutM; omega
set_option maxRecDepth 100000 in
set_option maxHeartbeats 8000000 in
theorem ref_Show (B : Nat) (A : Option Addr) (c : Nat) (l : List Node) (w : World) (hf : FormOk l) (h : Sl B 39 RNode 3 w A l) :
    Calls Tryd.prog 15 #[.slice A l.length c] w fun e w' => e = .returned (.tuple #[.string (showT l), .bool (decide (showErr l = 0))]) ∧ Ext w w' := by
  have hmf : ∀ (fn : Fn) (first cap : Array Value) (w : World), (Instr.makeFunc fn first cap).run Tryd.prog w = .ok (.func fn first cap) w := fun _ _ _ _ => rfl
  have hc := Tryd.call36
  have hlo := hf.lo
  have hhi := hf.hi
  have HF := hid hf
  clear hf
  obtain ⟨W, hW⟩ : ∃ W, W = w.alloc (.cells #[.slice A l.length c] 26) := ⟨_, rfl⟩
  have hxW : Ext w W := by rw [hW]; exact (Ext.refl w).alloc _
  have hbW : Blk W w.heap.size 26 #[.slice A l.length c] := by rw [hW]; exact Blk.new w _ _
  have HW := hid hbW
  have HXW := hid hxW
  have c0 : W.cell? ⟨w.heap.size, 0, none⟩ = some (.slice A l.length c) := hbW.cell rfl
  clear hbW hxW
  go_enter Tryd.func15, Tryd.ntmps15
  go_wp2_with ((with_reducible refine at_op (some 10) (.makeSlice _ _ _) ?_); rw [← hW]; refine wpList_makeArr ei_sizes z_sizes rfl _ _ rfl rfl l.length rfl rfl (by omega) (by unfold maxLen; omega) ?_; intro bi w3 hbi hx3 hb3 hs3; have c3 := hx3.cell c0)
  have hbl : W.heap.size ≤ bi := by rw [← hbi]; exact Nat.le_refl _
  have hb0 : Blk w3 bi 3 (rowM l.length (mS l 0)) := by
    rw [rowM_congr (g := fun _ => 0) (fun i _ => by simp [mS])]; exact hb3
  have hx := hx3
  clear hbi hx3 hs3 hb3
  go_loopw [13] (fun i wr => ∃ k : Nat, k ≤ l.length ∧ i = .int .i64 k ∧ Blk wr bi 3 (rowM l.length (mS l k)) ∧ Ext W wr) (fun i _ => l.length - (intOf i).toNat)
  case atStart => exact ⟨0, Nat.zero_le _, rfl, hb0, hx⟩
  case round =>
    clear hb0 hx c3
    obtain ⟨k, hk, rfl, hb, hx⟩ := hrel
    have c3 := hx.cell c0
    by_cases hlt : k < l.length
    · obtain ⟨b, off, rfl, hbk, g0, g1, g2⟩ := (h.ext RTrip.mono (HXW.out.trans hx)).trip hlt
      have k0 : (0 : Int) ≤ k := by omega
      have kl : (k : Int) < l.length := by omega
      have hz := hb.frozen k
      have hck := hb.cell (rowM_get _ hlt)
      have hbw := hb.lt
      rcases textAt_cases hlt (HF.out.node k hlt) with ⟨hq, ht⟩ | ⟨a, hq, ha, ha3, ht⟩ | ⟨a, d, hq, ha, hd, hd1, had, ht⟩ | ⟨a, hq, ha, hai, ht⟩ | ⟨a, d, hq, ha, hd, hai, hdi, ht⟩ | ⟨a, d, hq, ha, hd, hai, hdi, ht⟩
      · rw [hq] at g0
        have HT := hid ht
        clear hq ht
        go_wp2_with fail
        go_roundw
        case rel => exact ⟨k + 1, hlt, by go_num, by rw [← mS_step l k 1 1 (cutM_small (by rw [HT.out]; rfl) (by omega))]; exact ((hb.setM k _).setM k _).alloc _, ((hx.setCell hbl _).setCell hbl _).alloc _⟩
        case measure => simp [intOf]; omega
      · rw [hq] at g0
        rw [ha] at g1
        have hL : (textAt l k).length = 2 := by rw [ht, dd1 a (by omega)]; rfl
        have HL := hid hL
        clear hq ht ha ha3 hL
        go_wp2_with fail
        go_roundw
        case rel => exact ⟨k + 1, hlt, by go_num, by rw [← mS_step l k (min 2 401) 2 (by unfold cutM; have := HL.out; omega)]; exact ((hb.setM k _).setM k _).alloc _, ((hx.setCell hbl _).setCell hbl _).alloc _⟩
        case measure => simp [intOf]; omega
      · rw [hq] at g0
        rw [ha] at g1
        rw [hd] at g2
        have hL : (textAt l k).length = 3 + (Lib.decDigits a).length + (Lib.decDigits d).length := by rw [ht]; simp; omega
        have HDA := hid (fun w => ref_Dec a w (by omega))
        have HDD := hid (fun w => ref_Dec d w (by omega))
        have hys : (tstr (Lib.decDigits a)).size ≤ 40 := by rw [tstr_size]; have := decDigits_len a; omega
        have hzs : (tstr (Lib.decDigits d)).size ≤ 40 := by rw [tstr_size]; have := decDigits_len d; omega
        rw [← tstr_size (Lib.decDigits a), ← tstr_size (Lib.decDigits d)] at hL
        have HL := hid hL
        have HS0 := hid (show ((wr.alloc (.cells #[.int .i64 3, .int .i64 a, .int .i64 d] 39)).drew.cell? ⟨wr.heap.size, 1, none⟩ = some (.int .i64 a) ∧ (wr.alloc (.cells #[.int .i64 3, .int .i64 a, .int .i64 d] 39)).drew.cell? ⟨wr.heap.size, 2, none⟩ = some (.int .i64 d)) from ⟨(Blk.new wr _ _).cell rfl, (Blk.new wr _ _).cell rfl⟩)
        clear hq ht ha hd hd1 had hL
        generalize tstr (Lib.decDigits a) = y at *
        generalize tstr (Lib.decDigits d) = z at *
        go_wp2_with fail
        go_region_held3 (fun w' => w'.cell? ⟨wr.heap.size, 1, none⟩ = some (.int .i64 a) ∧ w'.cell? ⟨wr.heap.size, 2, none⟩ = some (.int .i64 d)) (first | exact HS0.out | exact ⟨cell_new rfl rfl, cell_new rfl rfl⟩) (first | ((with_reducible refine (HDA.out _).mono ?_); rintro e w7 ⟨rfl, rfl⟩) | ((with_reducible refine (HDD.out _).mono ?_); rintro e w7 ⟨rfl, rfl⟩))
        all_goals
          go_wp2_with fail
          go_roundw
          case rel => exact ⟨k + 1, hlt, by go_num, by rw [← mS_step l k (min (3 + y.size + z.size) 401) (3 + y.size + z.size) (by unfold cutM; have := HL.out; omega)]; exact (((hb.setM k _).setM k _).alloc _).ext (Ext.refl _).drew, (((hx.setCell hbl _).setCell hbl _).alloc _).drew⟩
          case measure => simp [intOf]; omega
      · rw [hq] at g0
        rw [ha] at g1
        have hL : (textAt l k).length = 1 + (textAt l a).length := by rw [ht]; simp; omega
        have hca := hb.cell (rowM_get (mS l k) (show a < l.length by omega))
        have hy : mS l k a = cutM l a := by unfold mS; rw [if_pos hai]
        rw [hy] at hca
        clear hy
        have hy0 : 0 ≤ cutM l a := by unfold cutM; omega
        have hy1 : cutM l a ≤ 401 := by unfold cutM; omega
        have HL := hid hL
        have al : (a : Int) < l.length := by omega
        obtain ⟨y, hyy⟩ : ∃ y, y = cutM l a := ⟨_, rfl⟩
        rw [← hyy] at hca hy0 hy1
        have HY := hid hyy
        clear hq ht ha hL hyy
        go_wp2_with fail
        go_roundw
        case rel => exact ⟨k + 1, hlt, by go_num, by rw [← mS_step l k (min (1 + y) 401) (1 + y) (by rw [HY.out] at *; unfold cutM at *; have := HL.out; omega)]; exact ((hb.setM k _).setM k _).alloc _, ((hx.setCell hbl _).setCell hbl _).alloc _⟩
        case measure => simp [intOf]; omega
      · rw [hq] at g0
        rw [ha] at g1
        rw [hd] at g2
        have hL : (textAt l k).length = 3 + (textAt l a).length + (textAt l d).length := by rw [ht]; simp; omega
        have hca := hb.cell (rowM_get (mS l k) (show a < l.length by omega))
        have hcd := hb.cell (rowM_get (mS l k) (show d < l.length by omega))
        rw [show mS l k a = cutM l a by unfold mS; rw [if_pos hai]] at hca
        rw [show mS l k d = cutM l d by unfold mS; rw [if_pos hdi]] at hcd
        have hy0 : 0 ≤ cutM l a := by unfold cutM; omega
        have hy1 : cutM l a ≤ 401 := by unfold cutM; omega
        have hz0 : 0 ≤ cutM l d := by unfold cutM; omega
        have hz1 : cutM l d ≤ 401 := by unfold cutM; omega
        have HL := hid hL
        have al : (a : Int) < l.length := by omega
        have dl : (d : Int) < l.length := by omega
        obtain ⟨y, hyy⟩ : ∃ y, y = cutM l a := ⟨_, rfl⟩
        obtain ⟨z, hzz⟩ : ∃ z, z = cutM l d := ⟨_, rfl⟩
        rw [← hyy] at hca hy0 hy1
        rw [← hzz] at hcd hz0 hz1
        have HY := hid hyy
        have HZ := hid hzz
        have HN := hid (And.intro hai hdi)
        have HCA := hid hca
        have HCD := hid hcd
        have HS0 := hid (show ((wr.alloc (.cells #[.int .i64 5, .int .i64 a, .int .i64 d] 39)).drew.cell? ⟨wr.heap.size, 1, none⟩ = some (.int .i64 a) ∧ (wr.alloc (.cells #[.int .i64 5, .int .i64 a, .int .i64 d] 39)).drew.cell? ⟨wr.heap.size, 2, none⟩ = some (.int .i64 d) ∧ (wr.alloc (.cells #[.int .i64 5, .int .i64 a, .int .i64 d] 39)).drew.cell? ⟨bi, a, none⟩ = some (.int .i64 y) ∧ (wr.alloc (.cells #[.int .i64 5, .int .i64 a, .int .i64 d] 39)).drew.cell? ⟨bi, d, none⟩ = some (.int .i64 z)) from ⟨(Blk.new wr _ _).cell rfl, (Blk.new wr _ _).cell rfl, (((Ext.refl wr).alloc _).drew).cell hca, (((Ext.refl wr).alloc _).drew).cell hcd⟩)
        clear hq ht ha hd hL hyy hzz hai hdi
        go_wp2_with fail
        go_region_held3 (fun w' => w'.cell? ⟨wr.heap.size, 1, none⟩ = some (.int .i64 a) ∧ w'.cell? ⟨wr.heap.size, 2, none⟩ = some (.int .i64 d) ∧ w'.cell? ⟨bi, a, none⟩ = some (.int .i64 y) ∧ w'.cell? ⟨bi, d, none⟩ = some (.int .i64 z)) (first | exact HS0.out | exact ⟨cell_new rfl rfl, cell_new rfl rfl, cell_old (Nat.ne_of_gt HN.out.1) HCA.out, cell_old (Nat.ne_of_gt HN.out.2) HCD.out⟩) (fail)
        all_goals
          go_wp2_with fail
          go_roundw
          case rel => exact ⟨k + 1, hlt, by go_num, by rw [← mS_step l k (min (3 + y + z) 401) (3 + y + z) (by rw [HY.out, HZ.out] at *; unfold cutM at *; have := HL.out; omega)]; exact (((hb.setM k _).setM k _).alloc _).ext (Ext.refl _).drew, (((hx.setCell hbl _).setCell hbl _).alloc _).drew⟩
          case measure => simp [intOf]; omega
      · rw [hq] at g0
        rw [ha] at g1
        rw [hd] at g2
        have hL : (textAt l k).length = 3 + (textAt l a).length + (textAt l d).length := by rw [ht]; simp; omega
        have hca := hb.cell (rowM_get (mS l k) (show a < l.length by omega))
        have hcd := hb.cell (rowM_get (mS l k) (show d < l.length by omega))
        rw [show mS l k a = cutM l a by unfold mS; rw [if_pos hai]] at hca
        rw [show mS l k d = cutM l d by unfold mS; rw [if_pos hdi]] at hcd
        have hy0 : 0 ≤ cutM l a := by unfold cutM; omega
        have hy1 : cutM l a ≤ 401 := by unfold cutM; omega
        have hz0 : 0 ≤ cutM l d := by unfold cutM; omega
        have hz1 : cutM l d ≤ 401 := by unfold cutM; omega
        have HL := hid hL
        have al : (a : Int) < l.length := by omega
        have dl : (d : Int) < l.length := by omega
        obtain ⟨y, hyy⟩ : ∃ y, y = cutM l a := ⟨_, rfl⟩
        obtain ⟨z, hzz⟩ : ∃ z, z = cutM l d := ⟨_, rfl⟩
        rw [← hyy] at hca hy0 hy1
        rw [← hzz] at hcd hz0 hz1
        have HY := hid hyy
        have HZ := hid hzz
        have HN := hid (And.intro hai hdi)
        have HCA := hid hca
        have HCD := hid hcd
        have HS0 := hid (show ((wr.alloc (.cells #[.int .i64 6, .int .i64 a, .int .i64 d] 39)).drew.cell? ⟨wr.heap.size, 1, none⟩ = some (.int .i64 a) ∧ (wr.alloc (.cells #[.int .i64 6, .int .i64 a, .int .i64 d] 39)).drew.cell? ⟨wr.heap.size, 2, none⟩ = some (.int .i64 d) ∧ (wr.alloc (.cells #[.int .i64 6, .int .i64 a, .int .i64 d] 39)).drew.cell? ⟨bi, a, none⟩ = some (.int .i64 y) ∧ (wr.alloc (.cells #[.int .i64 6, .int .i64 a, .int .i64 d] 39)).drew.cell? ⟨bi, d, none⟩ = some (.int .i64 z)) from ⟨(Blk.new wr _ _).cell rfl, (Blk.new wr _ _).cell rfl, (((Ext.refl wr).alloc _).drew).cell hca, (((Ext.refl wr).alloc _).drew).cell hcd⟩)
        clear hq ht ha hd hL hyy hzz hai hdi
        go_wp2_with fail
        go_region_held3 (fun w' => w'.cell? ⟨wr.heap.size, 1, none⟩ = some (.int .i64 a) ∧ w'.cell? ⟨wr.heap.size, 2, none⟩ = some (.int .i64 d) ∧ w'.cell? ⟨bi, a, none⟩ = some (.int .i64 y) ∧ w'.cell? ⟨bi, d, none⟩ = some (.int .i64 z)) (first | exact HS0.out | exact ⟨cell_new rfl rfl, cell_new rfl rfl, cell_old (Nat.ne_of_gt HN.out.1) HCA.out, cell_old (Nat.ne_of_gt HN.out.2) HCD.out⟩) (fail)
        all_goals
          go_wp2_with fail
          go_roundw
          case rel => exact ⟨k + 1, hlt, by go_num, by rw [← mS_step l k (min (3 + y + z) 401) (3 + y + z) (by rw [HY.out, HZ.out] at *; unfold cutM at *; have := HL.out; omega)]; exact (((hb.setM k _).setM k _).alloc _).ext (Ext.refl _).drew, (((hx.setCell hbl _).setCell hbl _).alloc _).drew⟩
          case measure => simp [intOf]; omega
    · obtain rfl : k = l.length := by omega
      have hll := hb.cell (rowM_get (mS l l.length) (show l.length - 1 < l.length by omega))
      rw [show mS l l.length (l.length - 1) = cutM l (l.length - 1) by unfold mS; rw [if_pos (by omega)]] at hll
      have HX := hid hx
      have e1 : ((l.length : Int) - 1).toNat = l.length - 1 := by omega
      have e2 : ((l.length - 1 : Nat) : Int) = (l.length : Int) - 1 := by omega
      have l0 : (0 : Int) ≤ (l.length : Int) - 1 := by omega
      have l1 : (l.length : Int) - 1 < l.length := by omega
      obtain ⟨y, hyy⟩ : ∃ y, y = cutM l (l.length - 1) := ⟨_, rfl⟩
      rw [← hyy] at hll
      have hll2 := hll
      rw [← e1] at hll2
      have H0 := hid (formCheck_iff.2 HF.out)
      by_cases h4 : (textAt l (l.length - 1)).length ≤ 400
      · have hy : y ≤ 400 := by rw [hyy]; unfold cutM; omega
        have hE : showErr l = 0 := by rw [showErr, if_pos H0.out, if_neg (by omega)]
        have HT := hid (show showT l = tstr (textAt l (l.length - 1)) by rw [showT, if_pos hE])
        have HE := hid hE
        have HC := hid (show_1 B l HF.out (l.length - 1) (by omega) h4)
        rw [e2] at HC
        have hbs := World.block_lt_of_cell? _ _ c3
        clear hyy hx e1 h4 hE e2
        go_wp2_with fail
        refine (HC.out _ w.heap.size _ A c ⟨?_, ?_, ?_⟩).mono ?_
        · exact ((Ext.refl wr).alloc _).cell c3
        · exact (Blk.new wr _ _).cell rfl
        · exact h.ext RTrip.mono (HXW.out.trans (HX.out.alloc _))
        rintro e w5 ⟨rfl, hx5⟩
        go_wp2_with fail
        go_ret2
        exact ⟨by rw [HE.out, HT.out]; rfl, HXW.out.trans ((HX.out.alloc _).trans hx5)⟩
      · have hy : 400 < y := by rw [hyy]; unfold cutM; omega
        have hE : showErr l = 2 := by rw [showErr, if_pos H0.out, if_pos (by omega)]
        have HE := hid (show showErr l = 2 ∧ showT l = ByteArray.empty from ⟨hE, by rw [showT, if_neg (by rw [hE]; decide)]⟩)
        clear hyy hx e1 h4 hE e2
        go_wp2_with fail
        go_ret2
        exact ⟨by rw [HE.out.1, HE.out.2]; rfl, HXW.out.trans HX.out⟩

end Go.Proofs.YtbkmgbckeaimdaaDoor
