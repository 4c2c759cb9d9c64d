/- The walk of the law SpanSays. -/
import Derived.Test.YtgoogncloiicgaaSpanE
import Derived.Test.YtgoogncloiicgaaSpanP
namespace Go.Proofs.Ytgoogncloiicgaa
open Go Go.RowKit

theorem run_index_nums (p : Nat → Bool) (k : Nat) (hk : k < 32) (w : World) : (Instr.index 45 (.agg (rowB 32 p)) (.int .i64 k)).run Try.prog w = .ok (.bool (p k)) w :=
  run_index_row Try.underlying45 (fun w => by kernel_rfl) (fun w => by kernel_rfl) hk w

set_option maxRecDepth 100000 in
set_option maxHeartbeats 8000000 in
theorem law_SpanSays (B : Nat) (A A' : Option Addr) (c c' : Nat) (l : List Span) (nums : List Int) (n : Int) (w : World) (hB : B ≤ w.heap.size) (hla : l.length ≤ maxLen) (hlb : nums.length ≤ maxLen) (ha : SlSpans B w A l) (hb : Sl B 3 RInt 1 w A' nums)
    (E1 E2 : Int) (X : List Span) (hE1 : ofErr nums = E1) (hE2 : spanCheck l = E2) (hX : ofSpans nums = X) (I : Bool) (hI : (decide (E2 = 0) && spanIn l n) = I) (K : Int) (hK : spanCount l = K)
    (HX0 : Hid (E1 = 0 → X = told (hasIn nums))) (HX1 : Hid (E1 ≠ 0 → X = told fun _ => false)) (HS : Hid (E2 = 0 → countTo (fun i => spanIn l i) 32 = K ∧ hasTo (fun i => spanIn l i) n 32 = I)) (HN : Hid (E2 ≠ 0 → I = false ∧ K = 0)) :
    Calls Try.prog 5 #[.slice A l.length c, .slice A' nums.length c', .int .i64 n] w fun e w' => e = .returned (.bool true) ∧ Ext w w' := by
  have hc0 : spanCheck [⟨0, 0⟩] = 1 := by decide
  have hlb2 := hlb
  unfold maxLen at hlb2
  by_cases h4 : 400 < nums.length
  all_goals
    have HQ := hid (show ofOne nums 0 = if 400 < nums.length then 2 else 0 by simp [ofOne, ofGo])
    first
      | (rw [if_pos h4] at HQ)
      | (rw [if_neg h4] at HQ)
    first
      | (have hq : decide ((400 : Int) < (nums.length : Int)) = true := by simp; omega)
      | (have hq : decide ((400 : Int) < (nums.length : Int)) = false := by simp; omega)
    clear h4
    go_enter Try.func5, Try.ntmps5
    go_wp2_with fail
    refine (span_Of B A' c' nums _ hB hlb hb).mono ?_
    rintro e w1 ⟨v1, rfl, hv1, hx1⟩
    obtain ⟨A1, c1, rfl, k1, m1, hs1⟩ := hv1
    rw [hX] at k1 hs1
    go_wp2_with fail
    refine (span_Has B A c l n _ hla (ha.ext RPair.mono hx1)).mono ?_
    rintro e w2 ⟨rfl, hx⟩
    have hx2 := hx1.trans hx
    replace hs1 := hs1.ext RPair.mono hx
    clear hx
    rw [hE2, hI]
    go_wp2_with fail
    refine (span_Count B A c l _ hla (ha.ext RPair.mono hx2)).mono ?_
    rintro e w3 ⟨rfl, hx⟩
    have hx3 := hx2.trans hx
    replace hs1 := hs1.ext RPair.mono hx
    clear hx
    go_wp2_with fail
    refine (ref_Spans B A c l _ hla (ha.ext RPair.mono hx3)).mono ?_
    rintro e w4 ⟨rfl, hx⟩
    have hx4 := hx3.trans hx
    replace hs1 := hs1.ext RPair.mono hx
    clear hx
    go_wp2_with fail
    refine (span_Check B A c l _ hla (ha.ext RPair.mono hx4)).mono ?_
    rintro e w5 ⟨rfl, hx⟩
    have hx5 := hx4.trans hx
    replace hs1 := hs1.ext RPair.mono hx
    clear hx
    go_wp2_with fail
    have q1 := Sl.one (B := B) (R := RSpan) (e := 41) (w := w5) (cs := [.int .i64 0, .int .i64 0]) (y := (⟨0, 0⟩ : Span)) rfl rfl rfl
    refine (span_Check B _ 1 [⟨0, 0⟩] _ (by simp [maxLen]) q1).mono ?_
    clear q1
    rintro e w6 ⟨rfl, hx⟩
    have hx6 := hx5.trans (((Ext.refl w5).alloc _).trans hx)
    replace hs1 := hs1.ext RPair.mono (((Ext.refl w5).alloc _).trans hx)
    clear hx
    rw [hc0]
    go_wp2_with ((with_reducible refine at_op (some 14) (.alloc _) ?_); refine wpList_allocArr zi_nums rfl rfl ?_; intro w7 hx7 hb7 hz7; go_simp)
    go_loopw [15, 55] (fun s i wr => ∃ k : Nat, k ≤ nums.length ∧ i = .int .i64 k ∧ s = .int .i64 (ofOne nums k) ∧ (∃ p, Blk wr w6.heap.size 45 (rowB 32 p) ∧ (ofOne nums k = 0 → p = hasIn (nums.take k))) ∧ Below w6.heap.size w7 wr) (fun _ i _ => nums.length - (intOf i).toNat)
    case atStart =>
      refine ⟨0, Nat.zero_le _, rfl, ?_, ⟨_, hb7, fun _ => rfl⟩, Below.refl _ _⟩
      congr 1
      exact HQ.out.symm
    case round =>
      obtain ⟨k, hk, rfl, rfl, ⟨p, hbp, hp⟩, hbel⟩ := hrel
      by_cases hlt : k < nums.length
      · have hxr : Ext w wr := (hx6.trans hx7).below hbel hx6.size
        obtain ⟨b, off, rfl, hbl, h1⟩ := (hb.ext RInt.mono hxr).int hlt
        have HO := hid (ofOne_step nums k hlt)
        have HP := hid hp
        clear hp
        obtain ⟨o, ho⟩ : ∃ o, o = ofOne nums k := ⟨_, rfl⟩
        rw [← ho] at HO HP ⊢
        clear ho
        by_cases h0 : o = 0
        · subst h0
          by_cases hr : nums[k] < 0 ∨ 32 ≤ nums[k]
          · have H1 := hid (show ofOne nums (k + 1) = 1 by rw [HO.out, if_pos rfl, if_pos hr])
            rcases hr with hr | hr
            all_goals
              go_wp2_with fail
              go_roundw
              case rel => exact ⟨k + 1, by omega, by go_num, by rw [H1.out], ⟨p, hbp, fun h => by rw [H1.out] at h; exact absurd h (by decide)⟩, hbel⟩
              case measure => simp [intOf]; omega
          · have H1 := hid (show ofOne nums (k + 1) = 0 by rw [HO.out, if_pos rfl, if_neg hr])
            obtain ⟨m, hm⟩ := Int.eq_ofNat_of_zero_le (show 0 ≤ nums[k] by omega)
            have hm2 : m < 32 := by omega
            rw [hm] at h1
            have HM := hid hm
            clear hm hr
            have hc := hbp.cell (i := m) (rowB_get _ hm2)
            have hz := hbp.frozen m
            go_wp2_with fail
            have hs := hbp.setB m true
            go_roundw
            case rel =>
              refine ⟨k + 1, by omega, by go_num, by rw [H1.out], ⟨_, hs, fun _ => ?_⟩, hbel.setCell (p := ⟨w6.heap.size, m, none⟩) (Nat.le_refl _) _⟩
              funext i
              rw [hasIn_take nums k hlt, HM.out, ← HP.out rfl]
              by_cases hin : i = m
              · subst hin; simp
              · have : ((m : Int) == (i : Int)) = false := by simp; omega
                rw [if_neg hin, this, Bool.or_false]
            case measure => simp [intOf]; omega
        · have H1 := hid (show ofOne nums (k + 1) = o by rw [HO.out, if_neg h0])
          have hob : (o == 0) = false := by simpa using h0
          have H0 := hid h0
          clear h0
          go_wp2_with fail
          go_roundw
          case rel => exact ⟨k + 1, by omega, by go_num, by rw [H1.out], ⟨p, hbp, fun h => by rw [H1.out] at h; exact absurd h H0.out⟩, hbel⟩
          case measure => simp [intOf]; omega
      · obtain rfl : k = nums.length := by omega
        rw [ofOne_end, hE1] at hp ⊢
        have hyr : Ext w6 wr := hx7.below hbel (Nat.le_refl _)
        by_cases h0 : E1 = 0
        · have hpe := hp h0
          subst hpe h0
          rw [List.take_length] at hbp
          have HX := hid (HX0.out rfl)
          go_wp2_with ((with_reducible refine at_op (some 82) (.load _ _) ?_); refine wpList_loadArr (b := w6.heap.size) ai_nums _ rfl rfl rfl hbp (rowB_size _ _) ?_)
          refine (ref_Told B (hasIn nums) _ (Nat.le_trans hB (hx6.trans hyr).size)).mono ?_
          rintro e w8 ⟨v8, rfl, hv8, hx⟩
          obtain ⟨A8, c8, rfl, k8, m8, hs8⟩ := hv8
          have hy8 : Ext w6 w8 := hyr.trans hx
          clear hx
          go_wp2_with fail
          refine (eq_spans B B _ _ _ _ X _ _ (Nat.le_trans k1 m1) (Nat.le_trans k8 m8) (hs1.ext RPair.mono hy8) hs8).mono ?_
          rintro e w9 ⟨rfl, hx⟩
          have hy9 : Ext w6 w9 := hy8.trans hx
          clear hx hs8 k8 m8 hy8
          rw [decide_eq_true HX.out]
          by_cases h2 : E2 = 0
          · subst h2
            go_wp2_with fail
            refine (ref_Set B A c l _ hla (spanCheck_ok hE2).1 (ha.ext RPair.mono (hx6.trans hy9))).mono ?_
            rintro e w10 ⟨rfl, hx⟩
            have hy10 : Ext w6 w10 := hy9.trans hx
            clear hx
            go_wp2_with fail
            go_loopw [18, 19, 107] (fun a h i wr => ∃ k : Nat, k ≤ 32 ∧ i = .int .i64 k ∧ a = .int .i64 (countTo (fun i => spanIn l i) k) ∧ h = .bool (hasTo (fun i => spanIn l i) n k) ∧ Ext w6 wr) (fun _ _ i _ => 32 - (intOf i).toNat)
            case atStart => exact ⟨0, by omega, rfl, rfl, rfl, hy10⟩
            case round =>
              obtain ⟨k, hk, rfl, rfl, rfl, hyk⟩ := hrel
              by_cases hlt : k < 32
              · have hbd := countTo_bd (fun i => spanIn l i) k
                have hix := run_index_nums (fun i => spanIn l i) k hlt
                have HC := hid (show countTo (fun i => spanIn l i) (k + 1) = countTo (fun i => spanIn l i) k + if spanIn l k then 1 else 0 from rfl)
                have HH := hid (show hasTo (fun i => spanIn l i) n (k + 1) = (hasTo (fun i => spanIn l i) n k || (spanIn l k && decide ((k : Int) = n))) from rfl)
                generalize countTo (fun i => spanIn l i) k = cc at *
                generalize hasTo (fun i => spanIn l i) n k = hh at *
                obtain ⟨z, hz⟩ : ∃ z, z = spanIn l k := ⟨_, rfl⟩
                rw [← hz] at hix HC HH
                clear hz
                cases z
                · go_wp2_with fail
                  go_roundw
                  case rel => exact ⟨k + 1, by omega, by go_num, by rw [HC.out]; simp, by rw [HH.out]; simp, hyk⟩
                  case measure => simp [intOf]; omega
                · by_cases hkn : (k : Int) = n
                  · have hkb : ((k : Int) == n) = true := by simpa using hkn
                    have HK := hid hkn
                    clear hkn
                    cases hh
                    all_goals
                      go_wp2_with fail
                      go_roundw
                      case rel => exact ⟨k + 1, by omega, by go_num, by rw [HC.out]; simp, by rw [HH.out]; simp [HK.out], hyk⟩
                      case measure => simp [intOf]; omega
                  · have hkb : ((k : Int) == n) = false := by simpa using hkn
                    have HK := hid hkn
                    clear hkn
                    cases hh
                    all_goals
                      go_wp2_with fail
                      go_roundw
                      case rel => exact ⟨k + 1, by omega, by go_num, by rw [HC.out]; simp, by rw [HH.out]; simp [HK.out], hyk⟩
                      case measure => simp [intOf]; omega
              · obtain rfl : k = 32 := by omega
                rw [(HS.out (by first | rfl | trivial)).1, (HS.out (by first | rfl | trivial)).2]
                go_wp2_with fail
                go_ret
                exact ⟨ret_bool (by simp), hx6.trans hyk⟩
          · have h2b : (E2 != 0) = true := by simpa using h2
            obtain ⟨i0, k0⟩ := HN.out h2
            subst i0 k0
            go_wp2_with fail
            go_ret
            exact ⟨ret_bool (by simp), hx6.trans hy9⟩
        · have h0b : (E1 != 0) = true := by simpa using h0
          have HX := hid (HX1.out h0)
          clear hp
          go_wp2_with (first
            | ((with_reducible refine at_op none (.store _ (.tmp 14) _) ?_); refine wpList_storeArr (cs := rowB 32 fun _ => false) (b := w6.heap.size) (n := 32) ai_nums _ _ rfl rfl rfl rfl hbp (rowB_size _ _) (rowB_size _ _) (rowB_all _ _) ?_; intro w7' hx7' hb7' hz7' ho7'; go_simp)
            | ((with_reducible refine at_op (some 82) (.load _ _) ?_); refine wpList_loadArr (b := w6.heap.size) ai_nums _ rfl rfl rfl hb7' (rowB_size _ _) ?_))
          replace hyr : Ext w6 w7' := hyr.below hx7' (Nat.le_refl _)
          refine (ref_Told B (fun _ => false) _ (Nat.le_trans hB (hx6.trans hyr).size)).mono ?_
          rintro e w8 ⟨v8, rfl, hv8, hx⟩
          obtain ⟨A8, c8, rfl, k8, m8, hs8⟩ := hv8
          have hy8 : Ext w6 w8 := hyr.trans hx
          clear hx
          go_wp2_with fail
          refine (eq_spans B B _ _ _ _ X _ _ (Nat.le_trans k1 m1) (Nat.le_trans k8 m8) (hs1.ext RPair.mono hy8) hs8).mono ?_
          rintro e w9 ⟨rfl, hx⟩
          have hy9 : Ext w6 w9 := hy8.trans hx
          clear hx hs8 k8 m8 hy8
          rw [decide_eq_true HX.out]
          by_cases h2 : E2 = 0
          · subst h2
            go_wp2_with fail
            refine (ref_Set B A c l _ hla (spanCheck_ok hE2).1 (ha.ext RPair.mono (hx6.trans hy9))).mono ?_
            rintro e w10 ⟨rfl, hx⟩
            have hy10 : Ext w6 w10 := hy9.trans hx
            clear hx
            go_wp2_with fail
            go_loopw [18, 19, 107] (fun a h i wr => ∃ k : Nat, k ≤ 32 ∧ i = .int .i64 k ∧ a = .int .i64 (countTo (fun i => spanIn l i) k) ∧ h = .bool (hasTo (fun i => spanIn l i) n k) ∧ Ext w6 wr) (fun _ _ i _ => 32 - (intOf i).toNat)
            case atStart => exact ⟨0, by omega, rfl, rfl, rfl, hy10⟩
            case round =>
              obtain ⟨k, hk, rfl, rfl, rfl, hyk⟩ := hrel
              by_cases hlt : k < 32
              · have hbd := countTo_bd (fun i => spanIn l i) k
                have hix := run_index_nums (fun i => spanIn l i) k hlt
                have HC := hid (show countTo (fun i => spanIn l i) (k + 1) = countTo (fun i => spanIn l i) k + if spanIn l k then 1 else 0 from rfl)
                have HH := hid (show hasTo (fun i => spanIn l i) n (k + 1) = (hasTo (fun i => spanIn l i) n k || (spanIn l k && decide ((k : Int) = n))) from rfl)
                generalize countTo (fun i => spanIn l i) k = cc at *
                generalize hasTo (fun i => spanIn l i) n k = hh at *
                obtain ⟨z, hz⟩ : ∃ z, z = spanIn l k := ⟨_, rfl⟩
                rw [← hz] at hix HC HH
                clear hz
                cases z
                · go_wp2_with fail
                  go_roundw
                  case rel => exact ⟨k + 1, by omega, by go_num, by rw [HC.out]; simp, by rw [HH.out]; simp, hyk⟩
                  case measure => simp [intOf]; omega
                · by_cases hkn : (k : Int) = n
                  · have hkb : ((k : Int) == n) = true := by simpa using hkn
                    have HK := hid hkn
                    clear hkn
                    cases hh
                    all_goals
                      go_wp2_with fail
                      go_roundw
                      case rel => exact ⟨k + 1, by omega, by go_num, by rw [HC.out]; simp, by rw [HH.out]; simp [HK.out], hyk⟩
                      case measure => simp [intOf]; omega
                  · have hkb : ((k : Int) == n) = false := by simpa using hkn
                    have HK := hid hkn
                    clear hkn
                    cases hh
                    all_goals
                      go_wp2_with fail
                      go_roundw
                      case rel => exact ⟨k + 1, by omega, by go_num, by rw [HC.out]; simp, by rw [HH.out]; simp [HK.out], hyk⟩
                      case measure => simp [intOf]; omega
              · obtain rfl : k = 32 := by omega
                rw [(HS.out (by first | rfl | trivial)).1, (HS.out (by first | rfl | trivial)).2]
                go_wp2_with fail
                go_ret
                exact ⟨ret_bool (by simp), hx6.trans hyk⟩
          · have h2b : (E2 != 0) = true := by simpa using h2
            obtain ⟨i0, k0⟩ := HN.out h2
            subst i0 k0
            go_wp2_with fail
            go_ret
            exact ⟨ret_bool (by simp), hx6.trans hy9⟩

end Go.Proofs.Ytgoogncloiicgaa
