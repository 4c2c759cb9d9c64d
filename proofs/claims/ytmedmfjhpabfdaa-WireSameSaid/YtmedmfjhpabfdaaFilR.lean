/- The walks of the reference's Of, Many, At, Each, Point. -/
import Derived.Test.YtmedmfjhpabfdaaWalks
import Derived.Test.YtmedmfjhpabfdaaBase
import Derived.Deep.RegionWith
import Derived.Deep.DeepCutAuto
namespace Go.Proofs.Ytmedmfjhpabfdaa
open Go Go.RowKit

theorem ai_points : ArrInfo Try.prog 79 512 := ⟨⟨_, _, Try.underlying79⟩, by kernel_rfl⟩
theorem zi_points : ZeroInfo Try.prog 79 (rowB 512 fun _ => false) := fun w => by kernel_rfl
theorem ref_InB (b : Box) (h : cubeCheck b.cube = 0) (t : Nat) (ht : t < 16) (w : World) : Calls Try.prog 119 #[.agg #[.int .i64 b.cube.yes, .int .i64 b.cube.no], .int .i64 t] w fun e w' => e = .returned (.bool (boxIn b t)) ∧ Ext w w' := by
  obtain ⟨y, n, hc⟩ := cubeOk_of h
  rw [show boxIn b t = cubeIn y n t by rw [boxIn, hc.yes, hc.no, Int.toNat_natCast, Int.toNat_natCast]]
  exact ref_In b.cube y n t hc ht w

theorem tmod_nat (a b : Nat) : Int.tmod (a : Int) (b : Int) = ((a % b : Nat) : Int) := (Int.ofNat_tmod a b).symm
theorem tdiv_nat (a b : Nat) : Int.tdiv (a : Int) (b : Int) = ((a / b : Nat) : Int) := (Int.ofNat_tdiv a b).symm

set_option maxHeartbeats 4000000 in
theorem ref_Of (B : Nat) (A : Option Addr) (c : Nat) (f : List Box) (w : World) (hl : f.length ≤ maxLen) (hok : ∀ b ∈ f, BoxOk b) (h : SlBoxes B w A f) :
    Calls Try.prog 50 #[.slice A f.length c] w fun e w' => e = .returned (.agg (rowB 512 (pts f))) ∧ Ext w w' := by
  unfold maxLen at hl
  have HOK := hid hok
  clear hok
  go_enter Try.func50, Try.ntmps50
  go_wp2_with (first
    | ((with_reducible refine wpList_allocArr (o := ⟨some 2, _, _, _, _, _⟩) zi_points rfl rfl ?_); intro w1 hx1 hb1 hs1)
    | ((with_reducible refine wpList_allocArr (o := ⟨some 3, _, _, _, _, _⟩) zi_points rfl rfl ?_); intro w2 hx2 hb2 hs2))
  have hx2' := hx1.trans hx2
  have hb3 : Blk w2 (w.heap.size + 1) 79 (rowB 512 fun _ => false) := by rw [← hs1]; exact hb2
  have hb1' := hb1.ext hx2
  go_loopw [10] (fun i wr => ∃ k : Nat, k ≤ f.length ∧ i = .int .i64 k ∧ Blk wr (w.heap.size + 1) 79 (rowB 512 (pts (f.take k))) ∧ Blk wr w.heap.size 79 (rowB 512 fun _ => false) ∧ Ext w wr) (fun i _ => f.length - (intOf i).toNat)
  case atStart => exact ⟨0, Nat.zero_le _, rfl, hb3, hb1', hx2'⟩
  case round =>
    clear hb1 hb2 hb3 hb1' hx1 hx2 hx2' hs1 hs2
    obtain ⟨k, hk, rfl, hb, hbr, hx⟩ := hrel
    by_cases hlt : k < f.length
    · obtain ⟨b, off, A', c', rfl, hbl, g0, g1, g2, hsl, hs⟩ := (h.ext RBox.monoE hx).box hlt
      have hbok := HOK.out _ (List.getElem_mem hlt)
      obtain ⟨hso, hsn⟩ := spanCheck_ok hbok.2
      have HBC := hid hbok.1
      have HSO := hid hso
      clear hbok hso
      go_wp2_with fail
      refine (ref_Set B A' c' f[k].spans _ hsl HSO.out (hs.ext RPair.mono ((Ext.refl wr).alloc _))).mono ?_
      rintro e w3 ⟨rfl, hx3⟩
      have p0 : w3.cell? ⟨wr.heap.size, 0, none⟩ = some (.int .i64 f[k].cube.yes) := hx3.cell (by go_simp)
      have p1 : w3.cell? ⟨wr.heap.size, 1, none⟩ = some (.int .i64 f[k].cube.no) := hx3.cell (by go_simp)
      have hxa := ((Ext.refl wr).alloc (.cells #[.int .i64 f[k].cube.yes, .int .i64 f[k].cube.no, .slice A' f[k].spans.length c'] 108)).trans hx3
      go_wp2_with (first
        | ((with_reducible refine wpList_allocArr (o := ⟨some 6, _, _, _, _, _⟩) zi_nums rfl rfl ?_); intro w5 hx5 hb5 hs5)
        | ((with_reducible refine wpList_storeArr (o := ⟨none, _, _, _, _, _⟩) ai_nums _ _ rfl rfl rfl rfl hb5 (rowB_size _ _) (rowB_size _ _) (rowB_all _ _) ?_); intro w6 hx6 hb6 hs6 ho6))
      have hxb : Ext w3 w6 := hx5.below hx6 (Nat.le_refl _)
      replace p0 := hxb.cell p0
      replace p1 := hxb.cell p1
      have hxc := hxa.trans hxb
      have hz0 : w.heap.size + 1 < wr.heap.size := hb.lt
      have hz1 : w.heap.size + 1 < w3.heap.size := Nat.lt_of_lt_of_le hb.lt hxa.size
      replace hb := hb.ext hxc
      replace hbr := hbr.ext hxc
      replace hx := hx.trans hxc
      clear hx3 hx5 hx6 hb5 hs5 ho6 hxa hxb hxc
      have HTT := hid (pts_take f k hlt)
      obtain ⟨T, hT⟩ : ∃ T, T = pts (f.take k) := ⟨_, rfl⟩
      rw [← hT] at hb HTT
      clear hT
      go_wp2_with fail
      obtain ⟨wo, rfl⟩ : ∃ wo, wo = w6 := ⟨_, rfl⟩
      go_loopw [17] (fun i ws => ∃ q : Nat, q ≤ 512 ∧ i = .int .i64 q ∧ Blk ws (w.heap.size + 1) 79 (rowB 512 fun i => T i || (decide (i < q) && (spanIn f[k].spans (i % 32 : Nat) && boxIn f[k] (i / 32)))) ∧ Blk ws w.heap.size 79 (rowB 512 fun _ => false) ∧
          Blk ws w3.heap.size 164 (rowB 32 fun i => spanIn f[k].spans i) ∧ ws.cell? ⟨wr.heap.size, 0, none⟩ = some (.int .i64 f[k].cube.yes) ∧ ws.cell? ⟨wr.heap.size, 1, none⟩ = some (.int .i64 f[k].cube.no) ∧ Ext w ws) (fun i _ => 512 - (intOf i).toNat)
      case atStart =>
        refine ⟨0, by omega, rfl, ?_, hbr, hb6, p0, p1, hx⟩
        rwa [rowB_congr (q := fun i => T i || (decide (i < 0) && (spanIn f[k].spans (i % 32 : Nat) && boxIn f[k] (i / 32)))) (fun i _ => by simp)] at hb
      case round =>
        clear hb hbr hb6 p0 p1 hx
        obtain ⟨q, hq, rfl, hb, hbr, hbn, p0, p1, hx⟩ := hrel
        by_cases hlq : q < 512
        · have q0 : (0 : Int) ≤ q := by omega
          have q4 : (q : Int) < 512 := by omega
          have hq32 : q % 32 < 32 := by omega
          have hcn := hbn.cell (rowB_get (fun i => spanIn f[k].spans i) hq32)
          have e1 : Int.tmod (q : Int) 32 = ((q % 32 : Nat) : Int) := tmod_nat q 32
          have e2 : Int.tdiv (q : Int) 32 = ((q / 32 : Nat) : Int) := tdiv_nat q 32
          go_upto_region 9 with fail
          cases hS : spanIn f[k].spans (q % 32 : Nat)
          · rw [hS] at hcn
            have HS := hid hS
            clear hS
            go_wp2_with fail
            go_roundw
            case rel =>
              refine ⟨q + 1, by omega, by go_num, ?_, hbr, hbn, p0, p1, hx⟩
              rwa [rowB_congr (q := fun i => T i || (decide (i < q + 1) && (spanIn f[k].spans (i % 32 : Nat) && boxIn f[k] (i / 32)))) (fun i _ => by
                by_cases hi : i = q
                · subst hi; rw [HS.out]; simp
                · have : (decide (i < q) : Bool) = decide (i < q + 1) := by rw [decide_eq_decide]; omega
                  rw [this])] at hb
            case measure => simp [intOf]; omega
          · rw [hS] at hcn
            have HS := hid hS
            clear hS
            go_wp2_with fail
            refine (ref_InB f[k] HBC.out (q / 32) (by omega) _).mono ?_
            rintro e w7 ⟨rfl, hx7⟩
            replace hb := hb.ext hx7
            replace hbr := hbr.ext hx7
            replace hbn := hbn.ext hx7
            replace p0 := hx7.cell p0
            replace p1 := hx7.cell p1
            replace hx := hx.trans hx7
            cases hI : boxIn f[k] (q / 32)
            · have HI := hid hI
              clear hI
              go_wp2_with fail
              go_roundw
              case rel =>
                refine ⟨q + 1, by omega, by go_num, ?_, hbr, hbn, p0, p1, hx⟩
                rwa [rowB_congr (q := fun i => T i || (decide (i < q + 1) && (spanIn f[k].spans (i % 32 : Nat) && boxIn f[k] (i / 32)))) (fun i _ => by
                  by_cases hi : i = q
                  · subst hi; simp [HI.out]
                  · have : (decide (i < q) : Bool) = decide (i < q + 1) := by rw [decide_eq_decide]; omega
                    rw [this])] at hb
              case measure => simp [intOf]; omega
            · have HI := hid hI
              clear hI
              have hcq := hb.cell (rowB_get _ hlq)
              have hzq := hb.frozen q
              have hlr := hbn.lt
              go_wp2_with fail
              have hs' := hb.setB q true
              go_roundw
              case rel =>
                refine ⟨q + 1, by omega, by go_num, ?_, hbr.far (by simp) _, hbn.far (by show w3.heap.size ≠ w.heap.size + 1; omega) _, ?_, ?_, hx.setCell (by simp) _⟩
                · rwa [rowB_congr (q := fun i => T i || (decide (i < q + 1) && (spanIn f[k].spans (i % 32 : Nat) && boxIn f[k] (i / 32)))) (fun i _ => by
                    by_cases hi : i = q
                    · subst hi; rw [HI.out, HS.out]; simp
                    · rw [if_neg hi]
                      have : (decide (i < q) : Bool) = decide (i < q + 1) := by rw [decide_eq_decide]; omega
                      rw [this])] at hs'
                · exact (World.cell?_setCell_other _ _ _ _ (by intro e; injection e with e; omega)).trans p0
                · exact (World.cell?_setCell_other _ _ _ _ (by intro e; injection e with e; omega)).trans p1
              case measure => simp [intOf]; omega
        · obtain rfl : q = 512 := by omega
          go_wp2_with fail
          go_roundw
          case rel =>
            refine ⟨k + 1, hlt, by go_num, ?_, hbr, hx⟩
            rwa [rowB_congr (q := pts (f.take (k + 1))) (fun i hi => by rw [HTT.out]; simp [hi])] at hb
          case measure => simp [intOf]; omega
    · obtain rfl : k = f.length := by omega
      rw [List.take_length] at hb
      go_wp2_with (first
        | ((with_reducible refine wpList_loadArr (o := ⟨some 35, _, _, _, _, _⟩) ai_points _ rfl rfl rfl hb (rowB_size _ _) ?_))
        | ((with_reducible refine wpList_storeArr (o := ⟨none, _, _, _, _, _⟩) ai_points _ _ rfl rfl rfl rfl hbr (rowB_size _ _) (rowB_size _ _) (rowB_all _ _) ?_); intro w3 hx3 hb3' hs3 ho3))
      exact ret_arr rfl ai_points rfl hb3' (rowB_size _ _) rfl ⟨rfl, hx.below hx3 (Nat.le_refl _)⟩

theorem betw_num (x : Int) : betw x 0 31 = (decide (0 ≤ x) && decide (x ≤ 31)) := by
  unfold betw
  rw [Bool.decide_and]

theorem ref_Point (p : Point) (w : World) :
    Calls Try.prog 37 #[.agg #[.int .i64 p.tags, .int .i64 p.num]] w fun e w' => e = .returned (.bool (pointOk p)) ∧ Ext w w' := by
  have HP := hid (show pointOk p = (tagsOk p.tags && betw p.num 0 31) by rw [pointOk, betw_num])
  cases h1 : tagsOk p.tags
  · have H1 := hid h1
    go_enter Try.func37, Try.ntmps37
    go_wp2_with fail
    refine (ref_within _ _ _ _).mono ?_
    rintro e w1 ⟨rfl, rfl⟩
    rw [betw_tags, h1]
    clear h1
    go_wp2_with fail
    go_ret
    exact ⟨ret_bool (by rw [HP.out, H1.out]; rfl), (Ext.refl w).alloc _⟩
  · have H1 := hid h1
    go_enter Try.func37, Try.ntmps37
    go_wp2_with fail
    refine (ref_within _ _ _ _).mono ?_
    rintro e w1 ⟨rfl, rfl⟩
    rw [betw_tags, h1]
    clear h1
    go_wp2_with fail
    refine (ref_within _ _ _ _).mono ?_
    rintro e w1 ⟨rfl, rfl⟩
    go_wp2_with fail
    go_ret
    exact ⟨ret_bool (by rw [HP.out, H1.out]; rfl), (Ext.refl w).alloc _⟩

theorem ref_At (q : Nat → Bool) (p : Point) (hp : pointOk p = true) (w : World) :
    Calls Try.prog 104 #[.agg (rowB 512 q), .agg #[.int .i64 p.tags, .int .i64 p.num]] w fun e w' => e = .returned (.bool (q (32 * p.tags + p.num).toNat)) ∧ Ext w w' := by
  obtain ⟨h1, h2, h3, h4⟩ := pointOk_iff.1 hp
  obtain ⟨t, ht⟩ := Int.eq_ofNat_of_zero_le h1
  obtain ⟨n, hn⟩ := Int.eq_ofNat_of_zero_le h3
  rw [ht] at h2
  rw [hn] at h4
  rw [ht, hn]
  clear ht hn h1 h3 hp
  obtain ⟨m, hm⟩ : ∃ m : Nat, m = 32 * t + n := ⟨_, rfl⟩
  have e1 : (32 * (t : Int) + (n : Int)) = (m : Int) := by omega
  have hlt : m < 512 := by omega
  have E := hid (show (32 * (t : Int) + (n : Int)).toNat = m by omega)
  have t0 : (0 : Int) ≤ t := by omega
  have n0 : (0 : Int) ≤ n := by omega
  clear hm
  go_enter Try.func104, Try.ntmps104
  go_upto_region 1 with ((with_reducible refine wpList_boxArr (o := ⟨some 2, _, _, _, _, _⟩) _ rfl rfl rfl ?_); intro w1 hx1 hb1 hs1)
  have hc := hb1.cell (rowB_get q hlt)
  go_wp2_with fail
  go_ret
  exact ⟨ret_bool (by rw [E.out]), hx1.alloc _⟩

set_option maxHeartbeats 4000000 in
theorem ref_Each (fn : FuncId) (d : Bool → Bool → Bool) (p q : Nat → Bool) (w : World)
    (hc : ∀ (args : Array Value) (wn : World), (callFunc fn args).run Try.prog wn = .ok (.enter fn args) wn)
    (hf : ∀ (a b : Bool) (wn : World), Calls Try.prog fn #[.bool a, .bool b] wn fun e w' => e = .returned (.bool (d a b)) ∧ wn = w') :
    Calls Try.prog 116 #[.agg (rowB 512 p), .agg (rowB 512 q), .func (.func fn) #[] #[]] w fun e w' => e = .returned (.agg (rowB 512 fun i => d (p i) (q i))) ∧ Ext w w' := by
  have HF := hid hf
  clear hf
  go_enter Try.func116, Try.ntmps116
  go_wp2_with (first
    | ((with_reducible refine wpList_boxArr (o := ⟨some 3, _, _, _, _, _⟩) _ rfl rfl rfl ?_); intro w1 hx1 hb1 hs1)
    | ((with_reducible refine wpList_boxArr (o := ⟨some 4, _, _, _, _, _⟩) _ rfl rfl rfl ?_); intro w2 hx2 hb2 hs2)
    | ((with_reducible refine wpList_allocArr (o := ⟨some 6, _, _, _, _, _⟩) zi_points rfl rfl ?_); intro w3 hx3 hb3 hs3))
  have hb1' := (hb1.ext hx2).ext hx3
  have hb2' : Blk w3 (w.heap.size + 1) 79 (rowB 512 q) := by rw [← hs1]; exact hb2.ext hx3
  have hb3' : Blk w3 (w.heap.size + 2) 79 (rowB 512 fun _ => false) := by rw [show w.heap.size + 2 = w2.heap.size by omega]; exact hb3
  have hx4 := (hx1.trans hx2).trans hx3
  clear hb1 hb2 hb3 hx1 hx2 hx3
  go_loopw [8] (fun i wr => ∃ k : Nat, k ≤ 512 ∧ i = .int .i64 k ∧ Blk wr w.heap.size 79 (rowB 512 fun i => if i < k then d (p i) (q i) else p i) ∧ Blk wr (w.heap.size + 1) 79 (rowB 512 q) ∧ Blk wr (w.heap.size + 2) 79 (rowB 512 fun _ => false) ∧ Ext w wr) (fun i _ => 512 - (intOf i).toNat)
  case atStart =>
    refine ⟨0, by omega, rfl, ?_, hb2', hb3', hx4⟩
    rwa [rowB_congr (q := fun i => if i < 0 then d (p i) (q i) else p i) (fun i _ => by simp)] at hb1'
  case round =>
    clear hb1' hb2' hb3' hx4 hs1 hs2 hs3
    obtain ⟨k, hk, rfl, hb1, hb2, hb3, hx⟩ := hrel
    by_cases hlt : k < 512
    · have k0 : (0 : Int) ≤ k := by omega
      have k4 : (k : Int) < 512 := by omega
      have c1 := hb1.cell (rowB_get _ hlt)
      have c2 := hb2.cell (rowB_get _ hlt)
      rw [if_neg (by omega)] at c1
      have z1 := hb1.frozen k
      go_upto_region 4 with fail
      go_region_with ((with_reducible refine (HF.out _ _ _).mono ?_); rintro e w7 ⟨rfl, rfl⟩)
      all_goals
        go_wp2_with fail
        have hs' := hb1.setB k (d (p k) (q k))
        have hd := (Ext.refl (wr.setCell ⟨w.heap.size, k, none⟩ (.bool (d (p k) (q k))))).drew
        go_roundw
        case rel =>
          refine ⟨k + 1, by omega, by go_num, ?_, (hb2.far (by simp) _).ext hd, (hb3.far (by simp) _).ext hd, (hx.setCell (by simp) _).trans hd⟩
          refine Blk.ext ?_ hd
          rwa [rowB_congr (q := fun i => if i < k + 1 then d (p i) (q i) else p i) (fun i _ => by
            by_cases hi : i = k
            · subst hi; simp
            · have e : (i < k) = (i < k + 1) := by rw [eq_iff_iff]; omega
              simp only [hi, if_false, e])] at hs'
        case measure => simp [intOf]; omega
    · obtain rfl : k = 512 := by omega
      rw [rowB_congr (q := fun i => d (p i) (q i)) (fun i hi => by rw [if_pos hi])] at hb1
      go_wp2_with (first
        | ((with_reducible refine wpList_loadArr (o := ⟨some 22, _, _, _, _, _⟩) ai_points _ rfl rfl rfl hb1 (rowB_size _ _) ?_))
        | ((with_reducible refine wpList_storeArr (o := ⟨none, _, _, _, _, _⟩) ai_points _ _ rfl rfl rfl rfl hb3 (rowB_size _ _) (rowB_size _ _) (rowB_all _ _) ?_); intro w3 hx3 hb3' hs3 ho3))
      exact ret_arr rfl ai_points rfl hb3' (rowB_size _ _) rfl ⟨rfl, hx.below hx3 (by omega)⟩

end Go.Proofs.Ytmedmfjhpabfdaa
