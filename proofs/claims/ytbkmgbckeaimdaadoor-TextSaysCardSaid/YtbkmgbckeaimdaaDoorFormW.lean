/- The walks of formula.Check and of the reference's Sentence. -/
import Derived.Test.YtbkmgbckeaimdaaDoorFormP
import Derived.Test.YtbkmgbckeaimdaaDoorWalks
import Derived.Test.YtbkmgbckeaimdaaDoorBase
namespace Go.Proofs.YtbkmgbckeaimdaaDoor
open Go Go.RowKit

theorem kind_cases (q : Int) : q = 1 ∨ q = 2 ∨ q = 3 ∨ q = 4 ∨ q = 5 ∨ q = 6 ∨ (q ≠ 1 ∧ q ≠ 2 ∧ q ≠ 3 ∧ q ≠ 4 ∧ q ≠ 5 ∧ q ≠ 6) := by omega
theorem betw_iff {x a b : Int} : betw x a b = true ↔ a ≤ x ∧ x ≤ b := by simp [betw]
theorem formCheck_go {l : List Node} (h : ¬ (l.length = 0 ∨ 30 < l.length)) : formCheck l = formGo 0 l := by rw [formCheck, if_neg h]
theorem formCheck_two {l : List Node} (h : l.length = 0 ∨ 30 < l.length) : formCheck l = 2 := by rw [formCheck, if_pos h]

set_option maxRecDepth 100000 in
set_option maxHeartbeats 4000000 in
theorem formula_Check (B : Nat) (A : Option Addr) (c : Nat) (l : List Node) (w : World) (hl : l.length ≤ maxLen) (h : Sl B 39 RNode 3 w A l) :
    Calls Tryd.prog 22 #[.slice A l.length c] w fun e w' => e = .returned (.int .i64 (formCheck l)) ∧ Ext w w' := by
  unfold maxLen at hl
  by_cases hlo : l.length = 0
  · have HE := hid (formCheck_two (.inl hlo))
    have L0 : ((l.length : Int) == 0) = true := by rw [beq_iff_eq]; omega
    clear hlo
    go_enter Tryd.func22, Tryd.ntmps22
    go_wp2_with fail
    go_ret
    exact ⟨ret_int HE.out.symm, Ext.refl _⟩
  by_cases hhi : 30 < l.length
  · have HE := hid (formCheck_two (.inr hhi))
    have L0 : ((l.length : Int) == 0) = false := beq_eq_false_iff_ne.2 (by omega)
    go_enter Tryd.func22, Tryd.ntmps22
    go_wp2_with fail
    go_ret
    exact ⟨ret_int HE.out.symm, Ext.refl _⟩
  have HE := hid (formCheck_go (l := l) (by omega))
  have L0 : ((l.length : Int) == 0) = false := beq_eq_false_iff_ne.2 (by omega)
  go_enter Tryd.func22, Tryd.ntmps22
  go_wp2_with fail
  go_loopw [15] (fun i wr => ∃ k : Nat, k ≤ l.length ∧ i = .int .i64 k ∧ formGo k (l.drop k) = formGo 0 l ∧ Ext w wr) (fun i _ => l.length - (intOf i).toNat)
  case atStart => exact ⟨0, Nat.zero_le _, rfl, rfl, Ext.refl _⟩
  case round =>
    obtain ⟨k, hk, rfl, hG, hx⟩ := hrel
    have HG := hid hG
    clear hG
    by_cases hlt : k < l.length
    · obtain ⟨b, off, rfl, hb, g0, g1, g2⟩ := (h.ext RTrip.mono hx).trip hlt
      have HS := hid (formGo_drop l k hlt)
      have k0 : (0 : Int) ≤ k := by omega
      rcases kind_cases l[k].kind with hq | hq | hq | hq | hq | hq | hq
      · rw [hq] at g0
        have HNE := hid (show nodeErr k l[k] = 0 by simp [nodeErr, hq]; try omega)
        clear hq
        go_wp2_with fail
        go_roundw
        case rel => exact ⟨k + 1, hlt, by go_num, by rw [← HG.out, HS.out, if_pos HNE.out], hx.alloc _⟩
        case measure => simp [intOf]; omega
      · rw [hq] at g0
        rcases Int.lt_or_le (l[k].a) (0) with h0 | h0
        · have HNE := hid (show nodeErr k l[k] = 1 by simp [nodeErr, hq]; try omega)
          clear hq
          go_wp2_with fail
          go_ret
          exact ⟨ret_int (by rw [HE.out, ← HG.out, HS.out, HNE.out]; rfl), hx.alloc _⟩
        · rcases Int.lt_or_le (3) (l[k].a) with h1 | h1
          · have HNE := hid (show nodeErr k l[k] = 1 by simp [nodeErr, hq]; try omega)
            clear hq
            go_wp2_with fail
            go_ret
            exact ⟨ret_int (by rw [HE.out, ← HG.out, HS.out, HNE.out]; rfl), hx.alloc _⟩
          · have HNE := hid (show nodeErr k l[k] = 0 by simp [nodeErr, hq]; try omega)
            clear hq
            go_wp2_with fail
            go_roundw
            case rel => exact ⟨k + 1, hlt, by go_num, by rw [← HG.out, HS.out, if_pos HNE.out], hx.alloc _⟩
            case measure => simp [intOf]; omega
      · rw [hq] at g0
        rcases Int.lt_or_le (l[k].a) (0) with h0 | h0
        · have HNE := hid (show nodeErr k l[k] = 1 by simp [nodeErr, hq]; try omega)
          clear hq
          go_wp2_with fail
          go_ret
          exact ⟨ret_int (by rw [HE.out, ← HG.out, HS.out, HNE.out]; rfl), hx.alloc _⟩
        · rcases Int.lt_or_le (32) (l[k].b) with h1 | h1
          · have HNE := hid (show nodeErr k l[k] = 1 by simp [nodeErr, hq]; try omega)
            clear hq
            go_wp2_with fail
            go_ret
            exact ⟨ret_int (by rw [HE.out, ← HG.out, HS.out, HNE.out]; rfl), hx.alloc _⟩
          · rcases Int.lt_or_le (l[k].a) (l[k].b) with h2 | h2
            · have HNE := hid (show nodeErr k l[k] = 0 by simp [nodeErr, hq]; try omega)
              clear hq
              go_wp2_with fail
              go_roundw
              case rel => exact ⟨k + 1, hlt, by go_num, by rw [← HG.out, HS.out, if_pos HNE.out], hx.alloc _⟩
              case measure => simp [intOf]; omega
            · have dd : decide (l[k].a < l[k].b) = false := by simp; omega
              have HNE := hid (show nodeErr k l[k] = 1 by simp [nodeErr, hq]; try omega)
              clear hq
              go_wp2_with fail
              go_ret
              exact ⟨ret_int (by rw [HE.out, ← HG.out, HS.out, HNE.out]; rfl), hx.alloc _⟩
      · rw [hq] at g0
        rcases Int.lt_or_le (l[k].a) (0) with h0 | h0
        · have HNE := hid (show nodeErr k l[k] = 1 by simp [nodeErr, hq]; try omega)
          clear hq
          go_wp2_with fail
          go_ret
          exact ⟨ret_int (by rw [HE.out, ← HG.out, HS.out, HNE.out]; rfl), hx.alloc _⟩
        · rcases Int.lt_or_le (l[k].a) ((k : Int)) with h1 | h1
          · have HNE := hid (show nodeErr k l[k] = 0 by simp [nodeErr, hq]; try omega)
            clear hq
            go_wp2_with fail
            go_roundw
            case rel => exact ⟨k + 1, hlt, by go_num, by rw [← HG.out, HS.out, if_pos HNE.out], hx.alloc _⟩
            case measure => simp [intOf]; omega
          · have HNE := hid (show nodeErr k l[k] = 1 by simp [nodeErr, hq]; try omega)
            clear hq
            go_wp2_with fail
            go_ret
            exact ⟨ret_int (by rw [HE.out, ← HG.out, HS.out, HNE.out]; rfl), hx.alloc _⟩
      · rw [hq] at g0
        rcases Int.lt_or_le (l[k].a) (0) with h0 | h0
        · have HNE := hid (show nodeErr k l[k] = 1 by simp [nodeErr, hq]; try omega)
          clear hq
          go_wp2_with fail
          go_ret
          exact ⟨ret_int (by rw [HE.out, ← HG.out, HS.out, HNE.out]; rfl), hx.alloc _⟩
        · rcases Int.lt_or_le (l[k].a) ((k : Int)) with h1 | h1
          · rcases Int.lt_or_le (l[k].b) (0) with h2 | h2
            · have HNE := hid (show nodeErr k l[k] = 1 by simp [nodeErr, hq]; try omega)
              clear hq
              go_wp2_with fail
              go_ret
              exact ⟨ret_int (by rw [HE.out, ← HG.out, HS.out, HNE.out]; rfl), hx.alloc _⟩
            · rcases Int.lt_or_le (l[k].b) ((k : Int)) with h3 | h3
              · have HNE := hid (show nodeErr k l[k] = 0 by simp [nodeErr, hq]; try omega)
                clear hq
                go_wp2_with fail
                go_roundw
                case rel => exact ⟨k + 1, hlt, by go_num, by rw [← HG.out, HS.out, if_pos HNE.out], hx.alloc _⟩
                case measure => simp [intOf]; omega
              · have HNE := hid (show nodeErr k l[k] = 1 by simp [nodeErr, hq]; try omega)
                clear hq
                go_wp2_with fail
                go_ret
                exact ⟨ret_int (by rw [HE.out, ← HG.out, HS.out, HNE.out]; rfl), hx.alloc _⟩
          · have HNE := hid (show nodeErr k l[k] = 1 by simp [nodeErr, hq]; try omega)
            clear hq
            go_wp2_with fail
            go_ret
            exact ⟨ret_int (by rw [HE.out, ← HG.out, HS.out, HNE.out]; rfl), hx.alloc _⟩
      · rw [hq] at g0
        rcases Int.lt_or_le (l[k].a) (0) with h0 | h0
        · have HNE := hid (show nodeErr k l[k] = 1 by simp [nodeErr, hq]; try omega)
          clear hq
          go_wp2_with fail
          go_ret
          exact ⟨ret_int (by rw [HE.out, ← HG.out, HS.out, HNE.out]; rfl), hx.alloc _⟩
        · rcases Int.lt_or_le (l[k].a) ((k : Int)) with h1 | h1
          · rcases Int.lt_or_le (l[k].b) (0) with h2 | h2
            · have HNE := hid (show nodeErr k l[k] = 1 by simp [nodeErr, hq]; try omega)
              clear hq
              go_wp2_with fail
              go_ret
              exact ⟨ret_int (by rw [HE.out, ← HG.out, HS.out, HNE.out]; rfl), hx.alloc _⟩
            · rcases Int.lt_or_le (l[k].b) ((k : Int)) with h3 | h3
              · have HNE := hid (show nodeErr k l[k] = 0 by simp [nodeErr, hq]; try omega)
                clear hq
                go_wp2_with fail
                go_roundw
                case rel => exact ⟨k + 1, hlt, by go_num, by rw [← HG.out, HS.out, if_pos HNE.out], hx.alloc _⟩
                case measure => simp [intOf]; omega
              · have HNE := hid (show nodeErr k l[k] = 1 by simp [nodeErr, hq]; try omega)
                clear hq
                go_wp2_with fail
                go_ret
                exact ⟨ret_int (by rw [HE.out, ← HG.out, HS.out, HNE.out]; rfl), hx.alloc _⟩
          · have HNE := hid (show nodeErr k l[k] = 1 by simp [nodeErr, hq]; try omega)
            clear hq
            go_wp2_with fail
            go_ret
            exact ⟨ret_int (by rw [HE.out, ← HG.out, HS.out, HNE.out]; rfl), hx.alloc _⟩
      · obtain ⟨q1, q2, q3, q4, q5, q6⟩ := hq
        have HNE := hid (show nodeErr k l[k] = 3 by simp [nodeErr, q1, q2, q3, q4, q5, q6])
        generalize l[k].kind = q at *
        have d1 : (q == 1) = false := by simpa using q1
        have d2 : (q == 2) = false := by simpa using q2
        have d3 : (q == 3) = false := by simpa using q3
        have d4 : (q == 4) = false := by simpa using q4
        have d5 : (q == 5) = false := by simpa using q5
        have d6 : (q == 6) = false := by simpa using q6
        clear q1 q2 q3 q4 q5 q6
        go_wp2_with fail
        go_ret
        exact ⟨ret_int (by rw [HE.out, ← HG.out, HS.out, HNE.out]; rfl), hx.alloc _⟩
    · obtain rfl : k = l.length := by omega
      go_wp2_with fail
      go_ret
      exact ⟨ret_int (by rw [HE.out, ← HG.out]; simp [formGo]), hx⟩

set_option maxRecDepth 100000 in
set_option maxHeartbeats 4000000 in
theorem ref_Sentence (B : Nat) (A : Option Addr) (c : Nat) (l : List Node) (w : World) (hl : l.length ≤ maxLen) (h : Sl B 39 RNode 3 w A l) :
    Calls Tryd.prog 14 #[.slice A l.length c] w fun e w' => e = .returned (.int .i64 (formCheck l)) ∧ Ext w w' := by
  unfold maxLen at hl
  by_cases hlo : l.length = 0
  · have HE := hid (formCheck_two (.inl hlo))
    have hb : betw l.length 1 30 = false := by
      rw [← Bool.not_eq_true, betw_iff]; omega
    clear hlo
    go_enter Tryd.func14, Tryd.ntmps14
    go_wp2_with fail
    refine (ref_within _ _ _ _).mono ?_
    rintro e w1 ⟨rfl, rfl⟩
    rw [hb]
    go_wp2_with fail
    go_ret
    exact ⟨ret_int HE.out.symm, Ext.refl _⟩
  by_cases hhi : 30 < l.length
  · have HE := hid (formCheck_two (.inr hhi))
    have hb : betw l.length 1 30 = false := by
      rw [← Bool.not_eq_true, betw_iff]; omega
    go_enter Tryd.func14, Tryd.ntmps14
    go_wp2_with fail
    refine (ref_within _ _ _ _).mono ?_
    rintro e w1 ⟨rfl, rfl⟩
    rw [hb]
    go_wp2_with fail
    go_ret
    exact ⟨ret_int HE.out.symm, Ext.refl _⟩
  have HE := hid (formCheck_go (l := l) (by omega))
  have hb : betw l.length 1 30 = true := by rw [betw_iff]; omega
  go_enter Tryd.func14, Tryd.ntmps14
  go_wp2_with fail
  refine (ref_within _ _ _ _).mono ?_
  rintro e w1 ⟨rfl, rfl⟩
  rw [hb]
  clear hb
  go_wp2_with fail
  go_loopw [12] (fun i wr => ∃ k : Nat, k ≤ l.length ∧ i = .int .i64 k ∧ formGo k (l.drop k) = formGo 0 l ∧ Ext w wr) (fun i _ => l.length - (intOf i).toNat)
  case atStart => exact ⟨0, Nat.zero_le _, rfl, rfl, Ext.refl _⟩
  case round =>
    obtain ⟨k, hk, rfl, hG, hx⟩ := hrel
    have HG := hid hG
    clear hG
    by_cases hlt : k < l.length
    · obtain ⟨b, off, rfl, hb, g0, g1, g2⟩ := (h.ext RTrip.mono hx).trip hlt
      have HS := hid (formGo_drop l k hlt)
      have k0 : (0 : Int) ≤ k := by omega
      rcases kind_cases l[k].kind with hq | hq | hq | hq | hq | hq | hq
      · rw [hq] at g0
        have HNE := hid (show nodeErr k l[k] = 0 by simp [nodeErr, hq]; try omega)
        clear hq
        go_wp2_with fail
        go_roundw
        case rel => exact ⟨k + 1, hlt, by go_num, by rw [← HG.out, HS.out, if_pos HNE.out], hx.alloc _⟩
        case measure => simp [intOf]; omega
      · rw [hq] at g0
        cases hw : betw l[k].a 0 3
        · have hn : ¬ (0 ≤ l[k].a ∧ l[k].a ≤ 3) := fun h => by rw [betw_iff.2 h] at hw; cases hw
          have HNE := hid (show nodeErr k l[k] = 1 by simp [nodeErr, hq]; try omega)
          clear hq
          go_wp2_with fail
          refine (ref_within _ _ _ _).mono ?_
          rintro e w1 ⟨rfl, rfl⟩
          rw [hw]
          clear hw
          go_wp2_with fail
          go_ret
          exact ⟨ret_int (by rw [HE.out, ← HG.out, HS.out, HNE.out]; rfl), hx.alloc _⟩
        · have hn := betw_iff.1 hw
          have HNE := hid (show nodeErr k l[k] = 0 by simp [nodeErr, hq]; try omega)
          clear hq
          go_wp2_with fail
          refine (ref_within _ _ _ _).mono ?_
          rintro e w1 ⟨rfl, rfl⟩
          rw [hw]
          clear hw
          go_wp2_with fail
          go_roundw
          case rel => exact ⟨k + 1, hlt, by go_num, by rw [← HG.out, HS.out, if_pos HNE.out], hx.alloc _⟩
          case measure => simp [intOf]; omega
      · rw [hq] at g0
        rcases Int.lt_or_le (l[k].a) (0) with h0 | h0
        · have HNE := hid (show nodeErr k l[k] = 1 by simp [nodeErr, hq]; try omega)
          clear hq
          go_wp2_with fail
          go_ret
          exact ⟨ret_int (by rw [HE.out, ← HG.out, HS.out, HNE.out]; rfl), hx.alloc _⟩
        · rcases Int.lt_or_le (32) (l[k].b) with h1 | h1
          · have HNE := hid (show nodeErr k l[k] = 1 by simp [nodeErr, hq]; try omega)
            clear hq
            go_wp2_with fail
            go_ret
            exact ⟨ret_int (by rw [HE.out, ← HG.out, HS.out, HNE.out]; rfl), hx.alloc _⟩
          · rcases Int.lt_or_le (l[k].a) (l[k].b) with h2 | h2
            · have HNE := hid (show nodeErr k l[k] = 0 by simp [nodeErr, hq]; try omega)
              clear hq
              go_wp2_with fail
              go_roundw
              case rel => exact ⟨k + 1, hlt, by go_num, by rw [← HG.out, HS.out, if_pos HNE.out], hx.alloc _⟩
              case measure => simp [intOf]; omega
            · have dd : decide (l[k].a < l[k].b) = false := by simp; omega
              have HNE := hid (show nodeErr k l[k] = 1 by simp [nodeErr, hq]; try omega)
              clear hq
              go_wp2_with fail
              go_ret
              exact ⟨ret_int (by rw [HE.out, ← HG.out, HS.out, HNE.out]; rfl), hx.alloc _⟩
      · rw [hq] at g0
        cases hw : betw l[k].a 0 ((k : Int) - 1)
        · have hn : ¬ (0 ≤ l[k].a ∧ l[k].a ≤ ((k : Int) - 1)) := fun h => by rw [betw_iff.2 h] at hw; cases hw
          have HNE := hid (show nodeErr k l[k] = 1 by simp [nodeErr, hq]; try omega)
          clear hq
          go_wp2_with fail
          refine (ref_within _ _ _ _).mono ?_
          rintro e w1 ⟨rfl, rfl⟩
          rw [hw]
          clear hw
          go_wp2_with fail
          go_ret
          exact ⟨ret_int (by rw [HE.out, ← HG.out, HS.out, HNE.out]; rfl), hx.alloc _⟩
        · have hn := betw_iff.1 hw
          have HNE := hid (show nodeErr k l[k] = 0 by simp [nodeErr, hq]; try omega)
          clear hq
          go_wp2_with fail
          refine (ref_within _ _ _ _).mono ?_
          rintro e w1 ⟨rfl, rfl⟩
          rw [hw]
          clear hw
          go_wp2_with fail
          go_roundw
          case rel => exact ⟨k + 1, hlt, by go_num, by rw [← HG.out, HS.out, if_pos HNE.out], hx.alloc _⟩
          case measure => simp [intOf]; omega
      · rw [hq] at g0
        cases hw : betw l[k].a 0 ((k : Int) - 1)
        · have hn : ¬ (0 ≤ l[k].a ∧ l[k].a ≤ (k : Int) - 1) := fun h => by rw [betw_iff.2 h] at hw; cases hw
          have HNE := hid (show nodeErr k l[k] = 1 by simp [nodeErr, hq]; try omega)
          clear hq
          go_wp2_with fail
          refine (ref_within _ _ _ _).mono ?_
          rintro e w1 ⟨rfl, rfl⟩
          rw [hw]
          clear hw
          go_wp2_with fail
          go_ret
          exact ⟨ret_int (by rw [HE.out, ← HG.out, HS.out, HNE.out]; rfl), hx.alloc _⟩
        · cases hv : betw l[k].b 0 ((k : Int) - 1)
          · have hn := betw_iff.1 hw
            have hm : ¬ (0 ≤ l[k].b ∧ l[k].b ≤ (k : Int) - 1) := fun h => by rw [betw_iff.2 h] at hv; cases hv
            have HNE := hid (show nodeErr k l[k] = 1 by simp [nodeErr, hq]; try omega)
            clear hq
            go_wp2_with fail
            refine (ref_within _ _ _ _).mono ?_
            rintro e w1 ⟨rfl, rfl⟩
            rw [hw]
            clear hw
            go_wp2_with fail
            refine (ref_within _ _ _ _).mono ?_
            rintro e w1 ⟨rfl, rfl⟩
            rw [hv]
            clear hv
            go_wp2_with fail
            go_ret
            exact ⟨ret_int (by rw [HE.out, ← HG.out, HS.out, HNE.out]; rfl), hx.alloc _⟩
          · have hn := betw_iff.1 hw
            have hm := betw_iff.1 hv
            have HNE := hid (show nodeErr k l[k] = 0 by simp [nodeErr, hq]; try omega)
            clear hq
            go_wp2_with fail
            refine (ref_within _ _ _ _).mono ?_
            rintro e w1 ⟨rfl, rfl⟩
            rw [hw]
            clear hw
            go_wp2_with fail
            refine (ref_within _ _ _ _).mono ?_
            rintro e w1 ⟨rfl, rfl⟩
            rw [hv]
            clear hv
            go_wp2_with fail
            go_roundw
            case rel => exact ⟨k + 1, hlt, by go_num, by rw [← HG.out, HS.out, if_pos HNE.out], hx.alloc _⟩
            case measure => simp [intOf]; omega
      · rw [hq] at g0
        cases hw : betw l[k].a 0 ((k : Int) - 1)
        · have hn : ¬ (0 ≤ l[k].a ∧ l[k].a ≤ (k : Int) - 1) := fun h => by rw [betw_iff.2 h] at hw; cases hw
          have HNE := hid (show nodeErr k l[k] = 1 by simp [nodeErr, hq]; try omega)
          clear hq
          go_wp2_with fail
          refine (ref_within _ _ _ _).mono ?_
          rintro e w1 ⟨rfl, rfl⟩
          rw [hw]
          clear hw
          go_wp2_with fail
          go_ret
          exact ⟨ret_int (by rw [HE.out, ← HG.out, HS.out, HNE.out]; rfl), hx.alloc _⟩
        · cases hv : betw l[k].b 0 ((k : Int) - 1)
          · have hn := betw_iff.1 hw
            have hm : ¬ (0 ≤ l[k].b ∧ l[k].b ≤ (k : Int) - 1) := fun h => by rw [betw_iff.2 h] at hv; cases hv
            have HNE := hid (show nodeErr k l[k] = 1 by simp [nodeErr, hq]; try omega)
            clear hq
            go_wp2_with fail
            refine (ref_within _ _ _ _).mono ?_
            rintro e w1 ⟨rfl, rfl⟩
            rw [hw]
            clear hw
            go_wp2_with fail
            refine (ref_within _ _ _ _).mono ?_
            rintro e w1 ⟨rfl, rfl⟩
            rw [hv]
            clear hv
            go_wp2_with fail
            go_ret
            exact ⟨ret_int (by rw [HE.out, ← HG.out, HS.out, HNE.out]; rfl), hx.alloc _⟩
          · have hn := betw_iff.1 hw
            have hm := betw_iff.1 hv
            have HNE := hid (show nodeErr k l[k] = 0 by simp [nodeErr, hq]; try omega)
            clear hq
            go_wp2_with fail
            refine (ref_within _ _ _ _).mono ?_
            rintro e w1 ⟨rfl, rfl⟩
            rw [hw]
            clear hw
            go_wp2_with fail
            refine (ref_within _ _ _ _).mono ?_
            rintro e w1 ⟨rfl, rfl⟩
            rw [hv]
            clear hv
            go_wp2_with fail
            go_roundw
            case rel => exact ⟨k + 1, hlt, by go_num, by rw [← HG.out, HS.out, if_pos HNE.out], hx.alloc _⟩
            case measure => simp [intOf]; omega
      · obtain ⟨q1, q2, q3, q4, q5, q6⟩ := hq
        have HNE := hid (show nodeErr k l[k] = 3 by simp [nodeErr, q1, q2, q3, q4, q5, q6])
        generalize l[k].kind = q at *
        have d1 : (q == 1) = false := by simpa using q1
        have d2 : (q == 2) = false := by simpa using q2
        have d3 : (q == 3) = false := by simpa using q3
        have d4 : (q == 4) = false := by simpa using q4
        have d5 : (q == 5) = false := by simpa using q5
        have d6 : (q == 6) = false := by simpa using q6
        clear q1 q2 q3 q4 q5 q6
        go_wp2_with fail
        go_ret
        exact ⟨ret_int (by rw [HE.out, ← HG.out, HS.out, HNE.out]; rfl), hx.alloc _⟩
    · obtain rfl : k = l.length := by omega
      go_wp2_with fail
      go_ret
      exact ⟨ret_int (by rw [HE.out, ← HG.out]; simp [formGo]), hx⟩

end Go.Proofs.YtbkmgbckeaimdaaDoor
