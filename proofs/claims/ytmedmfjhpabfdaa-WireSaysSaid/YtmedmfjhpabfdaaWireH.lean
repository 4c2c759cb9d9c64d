/- The walks of the document's three and of both sums. -/
import Derived.Test.YtmedmfjhpabfdaaWireG
namespace Go.Proofs.Ytmedmfjhpabfdaa
open Go Go.RowKit

theorem byteV_ofNat (x : Nat) : byteV (UInt8.ofNat x) = .int .u8 ((x : Int) % 256) := by
  unfold byteV
  congr 1
/-- three bytes as a fresh row. -/
theorem own_three (w : World) (base : Nat) (hb : base ≤ w.heap.size) (l : List UInt8) (cs : Array Value) (h : cs.toList = l.map byteV) (n : Nat) (hn : n = l.length) (hm : l.length ≤ maxLen) : OwnB (w.alloc (.cells cs 5)) base (.slice (some ⟨w.heap.size, 0, none⟩) n n) l := by
  subst hn
  have hs : cs.size = l.length * 1 := by rw [Nat.mul_one, ← List.length_map (f := byteV), ← h, Array.length_toList]
  have := World.ownsRow_lit (base := base) (e := 5) (size := 1) w cs l.length hb hm hs
  rw [h] at this
  exact OwnB.of_row this
theorem sum_step (l : List UInt8) (k : Nat) (hk : k ≤ 140737488355328) (x : Nat) (hx : (l.getD k 0).toNat = x) : (wrap64 (((sumN l k % 65521 : Nat) : Int) + wrap64 (((k : Int) + 1) * wrap64 (x : Int)))).tmod 65521 = ((sumN l (k + 1) % 65521 : Nat) : Int) := by
  have h1 : x < 256 := by rw [← hx]; exact UInt8.toNat_lt _
  have h2 : wrap64 (x : Int) = x := by unfold wrap64; omega
  have h3 : ((k : Int) + 1) * (x : Int) = (((k + 1) * x : Nat) : Int) := by push_cast; rfl
  have h4 : (k + 1) * x ≤ 140737488355329 * 255 := Nat.mul_le_mul (by omega) (by omega)
  have h5 : wrap64 (((k + 1) * x : Nat) : Int) = (((k + 1) * x : Nat) : Int) := by unfold wrap64; omega
  have h6 : sumN l k % 65521 < 65521 := Nat.mod_lt _ (by omega)
  have e : sumN l (k + 1) = sumN l k + (k + 1) * x := by rw [sumN, hx]
  rw [h2, h3, h5, e]
  generalize (k + 1) * x = y at h4
  generalize sumN l k = a at h6
  have h7 : wrap64 (((a % 65521 : Nat) : Int) + (y : Int)) = ((a % 65521 + y : Nat) : Int) := by unfold wrap64; omega
  rw [h7, show (65521 : Int) = ((65521 : Nat) : Int) from rfl, ← Int.ofNat_tmod, Nat.mod_add_mod]

set_option maxRecDepth 100000 in
set_option maxHeartbeats 400000 in
theorem ref_three (n : Nat) (hn : n < 16777216) (w : World) :
    Calls Try.prog 63 #[.int .i64 (n : Int)] w fun e w' => e = .returned (.string (bstr (three n))) ∧ Ext w w' := by
  have HN := hid hn
  clear hn
  go_enter Try.func63, Try.ntmps63
  go_wp2_with fail
  have ho := own_three w 0 (Nat.zero_le _) (three n) #[.int .u8 (wrap64 ((n : Int) / 65536) % 256), .int .u8 ((wrap64 ((n : Int) / 256)).tmod 256 % 256), .int .u8 ((n : Int) % 256)] (by
    have := HN.out
    have e1 : wrap64 ((n : Int) / 65536) = ((n / 65536 : Nat) : Int) := by unfold wrap64; omega
    have e2 : (wrap64 ((n : Int) / 256)).tmod 256 % 256 = ((n / 256 : Nat) : Int) % 256 := by
      have : wrap64 ((n : Int) / 256) = ((n / 256 : Nat) : Int) := by unfold wrap64; omega
      rw [this, show (256 : Int) = ((256 : Nat) : Int) from rfl, ← Int.ofNat_tmod]
      omega
    rw [e1, e2]
    simp only [three, List.map_cons, List.map_nil, byteV_ofNat, Int.toNat_natCast]) 3 rfl (by show 3 ≤ maxLen; unfold maxLen; omega)
  rw [run_bytes_string ho]
  simp only [Result.andThen]
  rw [Oper.upon_value]
  go_wp2_with fail
  go_ret
  exact ⟨rfl, (Ext.refl w).alloc _⟩
set_option maxHeartbeats 400000 in
theorem wire_Sum (s : ByteArray) (hs : s.size ≤ 140737488355328) (w : World) :
    Calls Try.prog 13 #[.string s] w fun e w' => e = .returned (.int .i64 (sumB s.data.toList)) ∧ w' = w := by
  have hss : (s.size : Int) ≤ 140737488355328 := by omega
  have HS := hid (show s.data.toList.length = s.size from by rw [Array.length_toList]; rfl)
  go_enter Try.func13, Try.ntmps13
  go_wp2_with fail
  go_loopw [7, 3] (fun i n wr => ∃ (k : Nat) (m : Int), k ≤ s.size ∧ i = .int .i64 k ∧ n = .int .i64 m ∧ m = ((sumN s.data.toList k % 65521 : Nat) : Int) ∧ wr = w) (fun i _ _ => s.size - (intOf i).toNat)
  case atStart => exact ⟨0, 0, Nat.zero_le _, rfl, rfl, rfl, rfl⟩
  case round =>
    obtain ⟨k, m, hk, rfl, rfl, hm, rfl⟩ := hrel
    have HM := hid hm
    clear hm
    by_cases hlt : k < s.size
    · go_wp2_with fail
      go_roundw
      case rel => exact ⟨k + 1, _, hlt, by go_num, rfl, by rw [HM.out]; exact sum_step _ k (by omega) _ (by rw [List.getD, List.getElem?_eq_getElem (by rw [HS.out]; exact hlt)]; rfl), trivial⟩
      case measure => simp [intOf]; omega
    · obtain rfl : k = s.size := by omega
      go_wp2_with fail
      go_ret
      exact ⟨ret_int (by rw [HM.out, sumB, HS.out]), rfl⟩
theorem sumN_mono (l : List UInt8) (n : Nat) : ∀ k, k ≤ n → sumN l k ≤ sumN l n := by
  intro k hk
  induction n with
  | zero => obtain rfl : k = 0 := by omega
            exact Nat.le_refl _
  | succ n ih =>
    by_cases h : k = n + 1
    · subst h; exact Nat.le_refl _
    · have := ih (by omega)
      rw [sumN]
      omega
theorem sum_back (l : List UInt8) (n k : Nat) (hk : k + 1 ≤ n) (hn : n ≤ 140737488355328) (x : Nat) (hx : (l.getD k 0).toNat = x) : (wrap64 ((((sumN l n - sumN l (k + 1)) % 65521 : Nat) : Int) + wrap64 (((k : Int) + 1) * wrap64 (x : Int)))).tmod 65521 = (((sumN l n - sumN l k) % 65521 : Nat) : Int) := by
  have h1 : x < 256 := by rw [← hx]; exact UInt8.toNat_lt _
  have h2 : wrap64 (x : Int) = x := by unfold wrap64; omega
  have h3 : ((k : Int) + 1) * (x : Int) = (((k + 1) * x : Nat) : Int) := by push_cast; rfl
  have h4 : (k + 1) * x ≤ 140737488355329 * 255 := Nat.mul_le_mul (by omega) (by omega)
  have h5 : wrap64 (((k + 1) * x : Nat) : Int) = (((k + 1) * x : Nat) : Int) := by unfold wrap64; omega
  have h6 : (sumN l n - sumN l (k + 1)) % 65521 < 65521 := Nat.mod_lt _ (by omega)
  have h8 := sumN_mono l n (k + 1) hk
  have e : sumN l n - sumN l k = (sumN l n - sumN l (k + 1)) + (k + 1) * x := by
    rw [sumN, hx] at h8 ⊢
    omega
  rw [h2, h3, h5, e]
  generalize (k + 1) * x = y at h4
  generalize sumN l n - sumN l (k + 1) = a at h6
  have h7 : wrap64 (((a % 65521 : Nat) : Int) + (y : Int)) = ((a % 65521 + y : Nat) : Int) := by unfold wrap64; omega
  rw [h7, show (65521 : Int) = ((65521 : Nat) : Int) from rfl, ← Int.ofNat_tmod, Nat.mod_add_mod]
set_option maxHeartbeats 400000 in
theorem ref_Sum (s : ByteArray) (hs : s.size ≤ 140737488355328) (w : World) :
    Calls Try.prog 14 #[.string s] w fun e w' => e = .returned (.int .i64 (sumB s.data.toList)) ∧ w' = w := by
  have hss : (s.size : Int) ≤ 140737488355328 := by omega
  have HS := hid (show s.data.toList.length = s.size from by rw [Array.length_toList]; rfl)
  go_enter Try.func14, Try.ntmps14
  go_wp2_with fail
  go_loopw [4, 3] (fun i n wr => ∃ (k : Nat) (m : Int), k ≤ s.size ∧ i = .int .i64 k ∧ n = .int .i64 m ∧ m = (((sumN s.data.toList s.size - sumN s.data.toList k) % 65521 : Nat) : Int) ∧ wr = w) (fun i _ _ => (intOf i).toNat)
  case atStart => exact ⟨s.size, 0, Nat.le_refl _, rfl, rfl, by simp, rfl⟩
  case round =>
    obtain ⟨k, m, hk, rfl, rfl, hm, rfl⟩ := hrel
    have HM := hid hm
    clear hm
    by_cases hlt : k = 0
    · subst hlt
      go_wp2_with fail
      go_ret
      exact ⟨ret_int (by rw [HM.out, sumB, HS.out]; rfl), rfl⟩
    · obtain ⟨j, rfl⟩ : ∃ j, k = j + 1 := ⟨k - 1, by omega⟩
      have hj : j < s.size := hk
      have e1 : decide ((0 : Int) < ((j + 1 : Nat) : Int)) = true := decide_eq_true (by omega)
      clear hlt
      go_wp2_with fail
      go_roundw
      case rel => exact ⟨j, _, by omega, by first | rfl | go_num, rfl, by rw [HM.out]; exact sum_back _ _ j hk hs _ (by rw [List.getD, List.getElem?_eq_getElem (by rw [HS.out]; exact hj)]; rfl), trivial⟩
      case measure => simp [intOf]
end Go.Proofs.Ytmedmfjhpabfdaa
