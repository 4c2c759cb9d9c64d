/- The walk of filter.boxes. -/
import Derived.Test.YtbkmgbckeaimdaaDoorFilT
import Derived.Test.YtbkmgbckeaimdaaDoorWalks
import Derived.Deep.RegionHeld3
import Derived.Test.YtbkmgbckeaimdaaDoorBase
namespace Go.Proofs.YtbkmgbckeaimdaaDoor
open Go Go.RowKit

theorem zi_16b : ZeroInfo Tryd.prog 97 (rowB 16 fun _ => false) := fun w => by kernel_rfl
theorem ei_box : ElemInfo Tryd.prog 22 51 3 40 := ElemInfo.mk_ (z := .agg #[.int .i64 0, .int .i64 0, .slice none 0 0]) Tryd.underlying22 (by kernel_rfl) rfl (by decide)
theorem andn16 : ∀ a, a < 16 → ∀ k, k < 4 → bits .andNot .i64 ((a : Nat) : Int) ((2 : Int) ^ k) = ((clr a k : Nat) : Int) := by decide +kernel
theorem CubeOk.of {y n : Nat} (hy : y < 16) (hn : n < 16) (hd : y &&& n = 0) : CubeOk ⟨(y : Int), (n : Int)⟩ y n := ⟨rfl, rfl, hy, hn, hd⟩
theorem bit32 (v n : Nat) : (((v / 2 ^ n % 2 : Nat) : Int) == 1) = v.testBit n := by
  rw [Nat.testBit_eq_decide_div_mod_eq]
  have : v / 2 ^ n % 2 = 0 ∨ v / 2 ^ n % 2 = 1 := by omega
  rcases this with h | h <;> simp [h]
theorem mask1 (v : Nat) (h : v < 4294967296) : bits .and .u32 (v : Int) 1 = ((v % 2 : Nat) : Int) := by
  have := u32_and_nat v 1 h (by omega)
  rw [nat_mask1] at this
  exact this

set_option maxHeartbeats 1000000 in
theorem filter_boxes1 (tb tg : Nat) (T : Nat → Nat) (k n : Nat) (w : World) (hk : k < 16) (hn : n < 32) (hT : T k < 4294967296) (hb : Blk w tb 79 (rowU 16 T)) (ht : w.cell? ⟨tg, 0, none⟩ = some (.int .i64 k)) :
    Calls Tryd.prog 58 #[.int .i64 n, .pointer (some ⟨tb, 0, none⟩), .pointer (some ⟨tg, 0, none⟩)] w fun e w' => e = .returned (.bool ((T k).testBit n)) ∧ Ext w w' := by
  have hc := hb.cell (rowU_get T hk)
  have e1 := mask1 (T k / 2 ^ n) (Nat.lt_of_le_of_lt (Nat.div_le_self _ _) hT)
  have hm : ((T k / 2 ^ n : Nat) : Int) = (T k : Int) / 2 ^ n := by rw [Int.natCast_ediv, Int.natCast_pow]; rfl
  rw [hm] at e1
  clear hm hT
  have hB := bit32 (T k) n
  generalize T k / 2 ^ n % 2 = m at *
  have HB := hid hB
  clear hB
  go_enter Tryd.func58, Tryd.ntmps58
  go_wp2_with fail
  go_ret
  exact ⟨ret_bool HB.out, Ext.refl _⟩

/-- do other tags in the cube have the same numbers? -/
def sameP (T : Nat → Nat) (k dy dn o : Nat) : Bool := !cubeIn dy dn o || T o == T k

set_option maxRecDepth 100000 in
set_option maxHeartbeats 8000000 in
theorem filter_boxes (B : Nat) (T : Nat → Nat) (hT : ∀ i, T i < 4294967296) (w : World) (hB : B ≤ w.heap.size) :
    Calls Tryd.prog 49 #[.agg (rowU 16 T)] w fun e w' => ∃ v, e = .returned v ∧ IsBoxes B w' v (mkBoxes T) ∧ Ext w w' := by
  have HT := hid hT
  clear hT
  go_enter Tryd.func49, Tryd.ntmps49
  go_wp2_with (first
    | ((with_reducible refine wpList_boxArr (o := ⟨some 1, _, _, _, _, _⟩) _ rfl rfl rfl ?_); intro w1 hx1 hb1 hs1)
    | ((with_reducible refine wpList_allocArr (o := ⟨some 4, _, _, _, _, _⟩) zi_16b rfl rfl ?_); intro w2 hx2 hb2 hs2))
  have hb1' := hb1.ext hx2
  rw [hs1] at hb2
  have hx0 := hx1.trans hx2
  have hz0 : w.heap.size + 2 ≤ w2.heap.size := by omega
  clear hx1 hx2 hb1
  go_loopw [3, 12] (fun v i wr => ∃ k : Nat, k ≤ 16 ∧ i = .int .i64 k ∧ Own (RBox B) 3 51 wr (w.heap.size + 2) v (boxK T k).2 ∧ Blk wr w.heap.size 79 (rowU 16 T) ∧ Blk wr (w.heap.size + 1) 97 (rowB 16 (boxK T k).1) ∧ Ext w wr) (fun _ i _ => 16 - (intOf i).toNat)
  case atStart => exact ⟨0, Nat.zero_le _, rfl, Own.nil, hb1', hb2, hx0⟩
  case round =>
    obtain ⟨k, hk, rfl, ho, hb, hd, hx⟩ := hrel
    by_cases hlt : k < 16
    · have k0 : (0 : Int) ≤ k := by omega
      have k16 : (k : Int) < 16 := by omega
      have hcd := hd.cell (rowB_get _ hlt)
      have hct := hb.cell (rowU_get T hlt)
      have hwt : w.heap.size < wr.heap.size := hb.lt
      have hwd : w.heap.size + 1 < wr.heap.size := hd.lt
      by_cases hskip : ((boxK T k).1 k || T k == 0) = true
      · have HS := hid (show boxK T (k + 1) = boxK T k by rw [boxK, if_pos hskip])
        cases hD : (boxK T k).1 k
        · have hT0 : T k = 0 := by simpa [hD] using hskip
          rw [hD] at hcd
          rw [hT0] at hct
          clear hskip hD hT0
          go_wp2_with fail
          go_roundw
          case rel => exact ⟨k + 1, hlt, by go_num, by rw [HS.out]; exact ho.ext RBox.monoE ((Ext.refl _).alloc _), hb.alloc _, by rw [HS.out]; exact hd.alloc _, hx.alloc _⟩
          case measure => simp [intOf]; omega
        · rw [hD] at hcd
          clear hskip hD
          go_wp2_with fail
          go_roundw
          case rel => exact ⟨k + 1, hlt, by go_num, by rw [HS.out]; exact ho.ext RBox.monoE ((Ext.refl _).alloc _), hb.alloc _, by rw [HS.out]; exact hd.alloc _, hx.alloc _⟩
          case measure => simp [intOf]; omega
      · have HS := hid (show boxK T (k + 1) = _ by rw [boxK, if_neg hskip])
        have hD : (boxK T k).1 k = false := by
          cases h : (boxK T k).1 k
          · rfl
          · simp [h] at hskip
        have hT0 : ((T k : Int) == 0) = false := by
          rw [cast_beq0]
          cases h : (T k == 0)
          · rfl
          · rw [hD, h] at hskip; simp at hskip
        rw [hD] at hcd
        have e15 : (15 : Int) - k = ((15 - k : Nat) : Int) := by omega
        clear hskip hD
        go_wp2_with fail
        obtain ⟨wq, rfl⟩ : ∃ wq, wq = wr := ⟨_, rfl⟩
        go_loopw [28] (fun i ws => ∃ j : Nat, j ≤ 4 ∧ i = .int .i64 j ∧ Ext wq ws ∧ wq.heap.size + 1 < ws.heap.size ∧ ws.cell? ⟨wq.heap.size, 0, none⟩ = some (.int .i64 k) ∧
            ws.cell? ⟨wq.heap.size + 1, 0, none⟩ = some (.int .i64 ((growK T k j).1 : Nat)) ∧ ws.cell? ⟨wq.heap.size + 1, 1, none⟩ = some (.int .i64 ((growK T k j).2 : Nat)) ∧ ws.frozen? ⟨wq.heap.size + 1, 0, none⟩ = false ∧ ws.frozen? ⟨wq.heap.size + 1, 1, none⟩ = false) (fun i _ => 4 - (intOf i).toNat)
        case atStart =>
          refine ⟨0, by omega, rfl, ((Ext.refl _).alloc _).alloc _, ?_, ?_, ?_, ?_, ?_, ?_⟩
          · simp
          · go_simp
          · go_simp; rfl
          · go_simp; rfl
          · go_simp
          · go_simp
        case round =>
          obtain ⟨j, hj, rfl, hx3, hz3, p0, p1, p2, z1, z2⟩ := hrel
          by_cases hj4 : j < 4
          · have g := growK_ok T k hlt j (by omega)
            have hgy := g.y
            have hgn := g.n
            have hgd := g.dis
            have HG := hid (show growK T k (j + 1) = _ by rw [growK])
            have HY := hid (show growK T k j = ((growK T k j).1, (growK T k j).2) from rfl)
            clear g
            generalize (growK T k j).1 = y at *
            generalize (growK T k j).2 = n at *
            have j0 : (0 : Int) ≤ j := by omega
            have jl : (j : Int) < 4 := by omega
            have hsh := shl_bit j hj4
            have e1 := andn16 y hgy j hj4
            have e2 := andn16 n hgn j hj4
            have hcy := clr_lt j hj4 y hgy
            have hcn := clr_lt j hj4 n hgn
            have hcd := clr_dis j hj4 y hgy n hgn hgd
            go_wp2_with fail
            obtain ⟨wt, rfl⟩ : ∃ wt, wt = wr := ⟨_, rfl⟩
            go_cut [8] (fun s8 wx => s8 = .pointer (some ⟨wt.heap.size, 0, none⟩) ∧ Ext wt wx ∧ wt.heap.size < wx.heap.size ∧ wx.cell? ⟨wt.heap.size, 0, none⟩ = some (.int .i64 (clr y j : Nat)) ∧ wx.cell? ⟨wt.heap.size, 1, none⟩ = some (.int .i64 (clr n j : Nat)))
            case first =>
              go_region
              all_goals (go_wp2_with fail; go_meet; exact ⟨rfl, ((Ext.refl _).alloc _).drew, by simp, by go_simp, by go_simp⟩)
            case rest =>
              obtain ⟨rfl, hx4, hz4, d1, d2⟩ := hcut
              have hx5 := hx3.trans hx4
              replace hz3 := Nat.lt_of_lt_of_le hz3 hx4.size
              replace z1 := (hx4.frozenAt (World.block_lt_of_cell? _ _ p1)).trans z1
              replace z2 := (hx4.frozenAt (World.block_lt_of_cell? _ _ p1)).trans z2
              have hwz : wq.heap.size + 1 < wt.heap.size := World.block_lt_of_cell? _ _ p1
              replace p0 := hx4.cell p0
              replace p1 := hx4.cell p1
              replace p2 := hx4.cell p2
              have hcx : CubeOk ⟨(clr y j : Nat), (clr n j : Nat)⟩ (clr y j) (clr n j) := CubeOk.of hcy hcn hcd
              generalize clr y j = dy at *
              generalize clr n j = dn at *
              have hbc := hb.ext hx5
              have hwc : wt.heap.size < wc.heap.size := hz4
              go_wp2_with fail
              obtain ⟨wu, rfl⟩ : ∃ wu, wu = wc := ⟨_, rfl⟩
              go_loopw [9, 42] (fun sm i ws => ∃ q : Nat, q ≤ 16 ∧ i = .int .i64 q ∧ sm = .bool (allTo (sameP T k dy dn) q) ∧ Ext wu ws) (fun _ i _ => 16 - (intOf i).toNat)
              case atStart => exact ⟨0, Nat.zero_le _, rfl, rfl, Ext.refl _⟩
              case round =>
                obtain ⟨q, hq, rfl, rfl, hx6⟩ := hrel
                by_cases hq16 : q < 16
                · have q0 : (0 : Int) ≤ q := by omega
                  have q16 : (q : Int) < 16 := by omega
                  have HA := hid (show allTo (sameP T k dy dn) (q + 1) = (allTo (sameP T k dy dn) q && (!cubeIn dy dn q || T q == T k)) from rfl)
                  replace p0 := hx6.cell p0
                  replace d1 := hx6.cell d1
                  replace d2 := hx6.cell d2
                  replace hbc := hbc.ext hx6
                  have hcq := hbc.cell (rowU_get T hq16)
                  have hck := hbc.cell (rowU_get T hlt)
                  go_upto_region 16 with fail
                  cases hA : allTo (sameP T k dy dn) q
                  · have HAq := hid hA
                    clear hA
                    go_quiet (fail)
                    go_wp2_with fail
                    go_roundw
                    case rel => exact ⟨q + 1, by omega, by go_num, by rw [HA.out, HAq.out]; rfl, hx6.trans ((Ext.refl _).drewN _)⟩
                    case measure => simp [intOf]; omega
                  · have HAq := hid hA
                    clear hA
                    cases hI : cubeIn dy dn q
                    · have HI := hid hI
                      have HC := hid (fun w => cube_In ⟨(dy : Nat), (dn : Nat)⟩ dy dn q hcx hq16 w)
                      rw [hI] at HC
                      clear hI
                      first | (go_region_with (go_at_call 53; refine (HC.out _).mono ?_; rintro e w7 ⟨rfl, hx7⟩)) | fail
                      all_goals
                        go_wp2_with fail
                        go_roundw
                        case rel => exact ⟨q + 1, by omega, by go_num, by rw [HA.out, HAq.out, HI.out]; rfl, hx6.trans ((Ext.refl _).drew.trans hx7)⟩
                        case measure => simp [intOf]; omega
                    · have HI := hid hI
                      have HC := hid (fun w => cube_In ⟨(dy : Nat), (dn : Nat)⟩ dy dn q hcx hq16 w)
                      rw [hI] at HC
                      clear hI
                      go_region_held3 (fun w' => w'.cell? ⟨wt.heap.size, 0, none⟩ = some (.int .i64 (dy : Nat)) ∧ w'.cell? ⟨wt.heap.size, 1, none⟩ = some (.int .i64 (dn : Nat)) ∧ w'.cell? ⟨w.heap.size, q, none⟩ = some (.int .u32 (T q : Nat)) ∧ w'.cell? ⟨w.heap.size, k, none⟩ = some (.int .u32 (T k : Nat)) ∧ w'.cell? ⟨wq.heap.size, 0, none⟩ = some (.int .i64 k)) (first | go_keep | (exact ⟨hx7.cell (by assumption), hx7.cell (by assumption), hx7.cell (by assumption), hx7.cell (by assumption), hx7.cell (by assumption)⟩)) (first | (go_at_call 53; refine (HC.out _).mono ?_; rintro e w7 ⟨rfl, hx7⟩))
                      go_wp2_with fail
                      go_roundw
                      case rel => exact ⟨q + 1, by omega, by go_num, by rw [HA.out, HAq.out, HI.out, cast_beq]; rfl, hx6.trans ((Ext.refl _).drew.trans hx7)⟩
                      case measure => simp [intOf]; omega
                · obtain rfl : q = 16 := by omega
                  replace p0 := hx6.cell p0
                  replace p1 := hx6.cell p1
                  replace p2 := hx6.cell p2
                  replace d1 := hx6.cell d1
                  replace d2 := hx6.cell d2
                  replace z1 := (hx6.frozenAt (by omega)).trans z1
                  replace z2 := (hx6.frozenAt (by omega)).trans z2
                  have hx9 := hx5.trans hx6
                  have hz9 : wq.heap.size + 1 < wr.heap.size := World.block_lt_of_cell? _ _ p1
                  cases hS : allTo (sameP T k dy dn) 16
                  · have HS' := hid (show sameAll T k (dy, dn) = false from hS)
                    clear hS
                    go_wp2_with fail
                    go_roundw
                    case rel =>
                      have e : growK T k (j + 1) = (y, n) := by rw [HG.out, HS'.out, HY.out]; rfl
                      exact ⟨j + 1, by omega, by go_num, hx9, hz9, p0, by rw [e]; exact p1, by rw [e]; exact p2, z1, z2⟩
                    case measure => simp [intOf]; omega
                  · have HS' := hid (show sameAll T k (dy, dn) = true from hS)
                    clear hS
                    go_wp2_with fail
                    go_roundw
                    case rel =>
                      have e : growK T k (j + 1) = (dy, dn) := by rw [HG.out, HS'.out]; rfl
                      refine ⟨j + 1, by omega, by go_num, (hx9.setCell (by simp) _).setCell (by simp) _, by simpa using hz9, ?_, ?_, ?_, ?_, ?_⟩
                      · go_simp
                      · rw [e]; exact Blk2.first p1 p2
                      · rw [e]; exact Blk2.second p1 p2
                      · go_simp
                      · go_simp
                    case measure => simp [intOf]; omega
          · obtain rfl : j = 4 := by omega
            rw [show ((4 : Nat) : Int) = 4 from rfl]
            have g := growK_ok T k hlt 4 (by omega)
            have hcx : CubeOk ⟨((growK T k 4).1 : Nat), ((growK T k 4).2 : Nat)⟩ (growK T k 4).1 (growK T k 4).2 := CubeOk.of g.y g.n g.dis
            have HBX := hid (show boxOf T k = ⟨⟨((growK T k 4).1 : Nat), ((growK T k 4).2 : Nat)⟩, mkSpans (fun n => (T k).testBit n.toNat) 32⟩ from rfl)
            clear g
            generalize (growK T k 4).1 = y at *
            generalize (growK T k 4).2 = n at *
            have hbc := hb.ext hx3
            have hdc := hd.ext hx3
            have hoc := ho.ext RBox.monoE hx3
            have hxc := hx.trans hx3
            have HLen := hid (show (boxK T k).2.length ≤ k from (boxK_ok T k (by omega)).len)
            generalize hD : (boxK T k).1 = D at *
            generalize hL : (boxK T k).2 = L at *
            clear hD hL
            go_wp2_with fail
            obtain ⟨wt, rfl⟩ : ∃ wt, wt = wr := ⟨_, rfl⟩
            have hwq2 : w.heap.size + 2 ≤ wq.heap.size := by omega
            go_loopw [65] (fun i ws => ∃ q : Nat, q ≤ 16 ∧ i = .int .i64 q ∧ Blk ws w.heap.size 79 (rowU 16 T) ∧ Blk ws (w.heap.size + 1) 97 (rowB 16 fun o => D o || (decide (o < q) && cubeIn y n o)) ∧ Own (RBox B) 3 51 ws (w.heap.size + 2) u3 L ∧
                ws.cell? ⟨wq.heap.size, 0, none⟩ = some (.int .i64 k) ∧ ws.cell? ⟨wq.heap.size + 1, 0, none⟩ = some (.int .i64 (y : Nat)) ∧ ws.cell? ⟨wq.heap.size + 1, 1, none⟩ = some (.int .i64 (n : Nat)) ∧ Ext w ws) (fun i _ => 16 - (intOf i).toNat)
            case atStart =>
              refine ⟨0, Nat.zero_le _, rfl, hbc, ?_, hoc, p0, p1, p2, hxc⟩
              rwa [rowB_congr (q := fun o => D o || (decide (o < 0) && cubeIn y n o)) (fun i _ => by simp)] at hdc
            case round =>
              clear hbc hdc hoc hxc p0 p1 p2
              obtain ⟨q, hq, rfl, hbc, hdc, hoc, p0, p1, p2, hxc⟩ := hrel
              by_cases hq16 : q < 16
              · have q0 : (0 : Int) ≤ q := by omega
                have q16 : (q : Int) < 16 := by omega
                have hcq := hdc.cell (rowB_get _ hq16)
                have hzq := hdc.frozen q
                rw [show (D q || (decide (q < q) && cubeIn y n q)) = D q by simp] at hcq
                cases hDq : D q
                · rw [hDq] at hcq
                  have HDq := hid hDq
                  clear hDq
                  go_wp2_with fail
                  refine (cube_In ⟨(y : Nat), (n : Nat)⟩ y n q hcx hq16 _).mono ?_
                  rintro e w7 ⟨rfl, hx7⟩
                  replace hcq := hx7.cell hcq
                  replace hzq := (hx7.frozenAt hdc.lt).trans hzq
                  replace p0 := hx7.cell p0
                  replace p1 := hx7.cell p1
                  replace p2 := hx7.cell p2
                  replace hbc := hbc.ext hx7
                  replace hdc := hdc.ext hx7
                  replace hoc := hoc.ext RBox.monoE hx7
                  replace hxc := hxc.trans hx7
                  go_wp2_with fail
                  have hs' := hdc.setB q (cubeIn y n q)
                  go_roundw
                  case rel =>
                    refine ⟨q + 1, by omega, by go_num, hbc.far (by simp) _, ?_, hoc.setBelow (by show w.heap.size + 1 < w.heap.size + 2; omega) _ (fun cs x h => ?_), ?_, ?_, ?_, hxc.setCell (by simp) _⟩
                    · rwa [rowB_congr (q := fun o => D o || (decide (o < q + 1) && cubeIn y n o)) (fun i _ => by
                        by_cases hi : i = q
                        · subst hi; simp [HDq.out]
                        · rw [if_neg hi]
                          have : (decide (i < q) : Bool) = decide (i < q + 1) := by rw [decide_eq_decide]; omega
                          rw [this])] at hs'
                    · obtain ⟨v, rfl, hv⟩ := h
                      exact ⟨v, rfl, hv.chg RPair.mono (by decide) (Chg.setCell (ts := [97]) (Chg.refl _) (by show tyAt _ (w.heap.size + 1) = _; exact hdc.ty) (by simp) _ (by show B ≤ w.heap.size + 1; omega))⟩
                    · exact (World.cell?_setCell_other _ _ _ _ (by intro e; injection e with e; omega)).trans p0
                    · exact (World.cell?_setCell_other _ _ _ _ (by intro e; injection e with e; omega)).trans p1
                    · exact (World.cell?_setCell_other _ _ _ _ (by intro e; injection e with e; omega)).trans p2
                  case measure => simp [intOf]; omega
                · rw [hDq] at hcq
                  have HDq := hid hDq
                  clear hDq
                  go_wp2_with fail
                  have hs' := hdc.setB q true
                  go_roundw
                  case rel =>
                    refine ⟨q + 1, by omega, by go_num, hbc.far (by simp) _, ?_, hoc.setBelow (by show w.heap.size + 1 < w.heap.size + 2; omega) _ (fun cs x h => ?_), ?_, ?_, ?_, hxc.setCell (by simp) _⟩
                    · rwa [rowB_congr (q := fun o => D o || (decide (o < q + 1) && cubeIn y n o)) (fun i _ => by
                        by_cases hi : i = q
                        · subst hi; simp [HDq.out]
                        · rw [if_neg hi]
                          have : (decide (i < q) : Bool) = decide (i < q + 1) := by rw [decide_eq_decide]; omega
                          rw [this])] at hs'
                    · obtain ⟨v, rfl, hv⟩ := h
                      exact ⟨v, rfl, hv.chg RPair.mono (by decide) (Chg.setCell (ts := [97]) (Chg.refl _) (by show tyAt _ (w.heap.size + 1) = _; exact hdc.ty) (by simp) _ (by show B ≤ w.heap.size + 1; omega))⟩
                    · exact (World.cell?_setCell_other _ _ _ _ (by intro e; injection e with e; omega)).trans p0
                    · exact (World.cell?_setCell_other _ _ _ _ (by intro e; injection e with e; omega)).trans p1
                    · exact (World.cell?_setCell_other _ _ _ _ (by intro e; injection e with e; omega)).trans p2
                  case measure => simp [intOf]; omega
              · obtain rfl : q = 16 := by omega
                clear hq hq16
                have hdc' : Blk wr (w.heap.size + 1) 97 (rowB 16 fun o => D o || cubeIn y n o) := by
                  rwa [rowB_congr (q := fun o => D o || cubeIn y n o) (fun i hi => by simp [hi])] at hdc
                clear hdc
                have hbl := hbc.lt
                have hTk := HT.out k
                have hLl : L.length ≤ k := HLen.out
                have HBX' := HBX
                have HM := hid (span_Make B 58 #[.pointer (some ⟨w.heap.size, 0, none⟩), .pointer (some ⟨wq.heap.size, 0, none⟩)] (fun i => (T k).testBit i.toNat) wr.drew (by show B ≤ wr.heap.size; omega) Tryd.call58 (fun i wn hi hxn => filter_boxes1 _ _ T k i wn hlt hi hTk ((hbc.ext (Ext.refl _).drew).ext hxn) (hxn.cell p0)))
                go_wp2_with fail
                go_region_law (first
                  | ((with_reducible refine step_call (dst := some 82) Tryd.call57 ?_ HM.out ?_); (rfl); rintro e w8 ⟨v8, rfl, hv8, hx8⟩; obtain ⟨A8, c8, rfl, hv8a, hv8b, hv8c⟩ := hv8; refine ⟨_, rfl, ?_⟩; have p1' := hx8.cell p1; have p2' := hx8.cell p2)
                  | ((with_reducible refine step_app (dst := some 85) (l := L) (ys := [boxOf T k]) (B := B) (c := 1) (A := some ⟨w8.heap.size, 0, none⟩) (B' := B) (e' := 51) ei_box ?_ (hoc.ext RBox.monoE (((Ext.refl wr).drew.trans hx8).alloc _)) ?_ ?_ ?_ (Sl.one (w := w8) (cs := [.int .i64 (y : Nat), .int .i64 (n : Nat), .slice A8 (mkSpans (fun n => (T k).testBit n.toNat) 32).length c8]) ?_ ?_ ?_) RBox.oneC (RBox.mono ?_) ?_ ?_ ?_); (rfl); (omega); (simp; have := hx8.size; simp at this; omega); (rfl); (rfl); (rfl); (rw [HBX'.out]; exact ⟨_, rfl, A8, c8, rfl, hv8a, hv8b, hv8c.ext RPair.mono ((Ext.refl _).alloc _)⟩); (decide); (simp [maxLen]; omega); (simp; omega); intro v9 w9 ho9 hc9 hb9 _))
                all_goals
                  have hx10 := (((Ext.refl wr).drew.trans hx8).alloc (.cells #[.int .i64 (y : Nat), .int .i64 (n : Nat), .slice A8 (mkSpans (fun i => (T k).testBit i.toNat) 32).length c8] 51))
                  have hbc' := (hbc.ext hx10).below hb9 (by omega)
                  have hdc2 := (hdc'.ext hx10).below hb9 (by omega)
                  have hxc' := (hxc.trans hx10).below hb9 (by omega)
                  clear hx10 hb9 hc9 hbc hdc' hxc p1' p2' p0 p1 p2
                  go_wp2_with fail
                  go_roundw
                  case rel => exact ⟨k + 1, hlt, by go_num, by rw [HS.out]; exact ho9, hbc', by rw [HS.out]; exact hdc2, hxc'⟩
                  case measure => simp [intOf]; omega
    · obtain rfl : k = 16 := by omega
      go_wp2_with fail
      go_ret
      exact ⟨_, rfl, ho.isSl B, hx⟩

end Go.Proofs.YtbkmgbckeaimdaaDoor
