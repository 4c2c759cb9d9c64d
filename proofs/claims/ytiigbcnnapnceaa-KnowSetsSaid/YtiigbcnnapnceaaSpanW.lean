/- The walks of package span. -/
import Derived.Test.YtiigbcnnapnceaaProg
import Derived.Test.YtiigbcnnapnceaaData
import Derived.WalkKit
import Derived.Outline
import Derived.Deep.QuietTactic
import Derived.BigQuiet
namespace Go.Proofs.Ytiigbcnnapnceaa
open Go Go.RowKit

set_option maxHeartbeats 400000 in
theorem span_In (B : Nat) (A : Option Addr) (c : Nat) (l : List Span) (n : Int) (w : World) (hl : l.length ≤ maxLen) (h : SlSpans B w A l) :
    Calls Try.prog 101 #[.slice A l.length c, .int .i64 n] w fun e w' => e = .returned (.bool (spanIn l n)) ∧ Ext w w' := by
  unfold maxLen at hl
  go_enter Try.func101, Try.ntmps101
  go_wp2
  go_loopw [9] (fun i wr => ∃ k : Nat, k ≤ l.length ∧ i = .int .i64 k ∧ spanIn (l.drop k) n = spanIn l n ∧ Ext w wr) (fun i _ => l.length - (intOf i).toNat)
  case atStart => exact ⟨0, Nat.zero_le _, rfl, rfl, Ext.refl _⟩
  case round =>
    obtain ⟨k, hk, rfl, hG, hx⟩ := hrel
    have HG : Hid (spanIn (l.drop k) n = spanIn l n) := hG
    clear hG
    by_cases hlt : k < l.length
    · obtain ⟨b, off, rfl, hb, h1, h2⟩ := (h.ext RPair.mono hx).pair hlt
      have hs := spanIn_drop l n k hlt
      have HS := hid hs
      clear hs
      go_wp2
      · go_ret
        exact ⟨ret_bool (by rw [← HG.out, HS.out, if_pos (by omega)]), hx.alloc _⟩
      all_goals
        go_roundw
        case rel => exact ⟨k + 1, hlt, by go_num, by rw [← HG.out, HS.out, if_neg (by omega)], hx.alloc _⟩
        case measure => simp [intOf]; omega
    · go_wp2
      go_ret
      have : k = l.length := by omega
      exact ⟨ret_bool (by rw [← HG.out, this]; simp [spanIn]), hx⟩


set_option maxHeartbeats 1000000 in
theorem span_Check (B : Nat) (A : Option Addr) (c : Nat) (l : List Span) (w : World) (hl : l.length ≤ maxLen) (h : SlSpans B w A l) :
    Calls Try.prog 83 #[.slice A l.length c] w fun e w' => e = .returned (.int .i64 (spanCheck l)) ∧ Ext w w' := by
  unfold maxLen at hl
  by_cases h16 : 16 < l.length
  · go_enter Try.func83, Try.ntmps83
    go_wp2
    go_ret
    exact ⟨ret_int (by simp [spanCheck, h16]), Ext.refl _⟩
  go_enter Try.func83, Try.ntmps83
  go_wp2
  go_loopw [10] (fun i wr => ∃ k : Nat, k ≤ l.length ∧ i = .int .i64 k ∧ spanGo (lastTo l k) (l.drop k) = spanGo (-1) l ∧ Ext w wr) (fun i _ => l.length - (intOf i).toNat)
  case atStart => exact ⟨0, Nat.zero_le _, rfl, rfl, Ext.refl _⟩
  case round =>
    obtain ⟨k, hk, rfl, hG, hx⟩ := hrel
    have HG : Hid (spanGo (lastTo l k) (l.drop k) = spanGo (-1) l) := hG
    clear hG
    by_cases hlt : k < l.length
    · obtain ⟨b, off, rfl, hb, h1, h2⟩ := (h.ext RPair.mono hx).pair hlt
      have hs := spanGo_drop l k hlt
      have HS := hid hs
      clear hs
      by_cases hk0 : 0 < k
      · obtain ⟨b', off', e, _, _, h3⟩ := (h.ext RPair.mono hx).pair (show k - 1 < l.length by omega)
        obtain ⟨rfl, rfl⟩ : b = b' ∧ off = off' := by simpa using e
        have hw := IntWalk.i64_in ((k : Int) - 1) (by omega)
        have hw2 : ((k : Int) - 1).toNat = k - 1 := by omega
        have hw3 : 0 ≤ (k : Int) - 1 := by omega
        have hw4 : (0 : Int) < k := by omega
        have HL := hid (show lastTo l k = l[k - 1].to by simp [lastTo, show k ≠ 0 by omega, show k - 1 < l.length by omega])
        go_wp2
        all_goals first | (go_ret; exact ⟨ret_int (by rw [spanCheck, if_neg h16, ← HG.out, HS.out, if_pos (by omega)]), hx.alloc _⟩) | skip
        go_quiet (fail)
        go_wp2
        · go_ret
          exact ⟨ret_int (by rw [spanCheck, if_neg h16, ← HG.out, HS.out, if_neg (by omega), HL.out, if_pos (by omega)]), (hx.alloc _).drewN _⟩
        · go_roundw
          case rel => exact ⟨k + 1, hlt, by go_num, by rw [← HG.out, HS.out, if_neg (by omega), HL.out, if_neg (by omega)], (hx.alloc _).drewN _⟩
          case measure => simp [intOf]; omega
      · have hw4 : decide ((0 : Int) < (k : Int)) = false := by simp; omega
        have HL := hid (show lastTo l k = -1 by simp [lastTo, show k = 0 by omega])
        go_wp2
        all_goals first | (go_ret; exact ⟨ret_int (by rw [spanCheck, if_neg h16, ← HG.out, HS.out, if_pos (by omega)]), hx.alloc _⟩) | skip
        go_quiet (fail)
        go_wp2
        go_roundw
        case rel => exact ⟨k + 1, hlt, by go_num, by rw [← HG.out, HS.out, if_neg (by omega), HL.out, if_neg (by omega)], (hx.alloc _).drewN _⟩
        case measure => simp [intOf]; omega
    · go_wp2
      go_ret
      have : k = l.length := by omega
      exact ⟨ret_int (by rw [spanCheck, if_neg h16, ← HG.out, this]; simp [spanGo]), hx⟩
end Go.Proofs.Ytiigbcnnapnceaa
