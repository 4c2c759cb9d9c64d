/- The walks of shelf.Id, reedref.Id. -/
import Derived.Test.YtmedmfjhpabfdaaShelfD
import Derived.Test.YtmedmfjhpabfdaaWalks
import Derived.Lib.ConvBytes
namespace Go.Proofs.Ytmedmfjhpabfdaa
open Go Go.RowKit

theorem byte_take (s : ByteArray) (k : Nat) (hk : k < s.size) : (s.data.toList.take (k + 1)).all byteOk = ((s.data.toList.take k).all byteOk && byteOk s[k]) := by
  have hk' : k < s.data.toList.length := by simpa using hk
  rw [List.take_succ_eq_append_getElem hk', List.all_append]
  simp only [List.all_cons, List.all_nil, Bool.and_true]
  rfl
theorem idOk_long {s : ByteArray} (h : ¬ s.size ≤ 8) : idOk s = false := by
  unfold idOk
  rw [decide_eq_false h]; simp
theorem idOk_empty {s : ByteArray} (h : s.toList.isEmpty = true) : idOk s = false := by unfold idOk; rw [h]; rfl
theorem idOk_go {s : ByteArray} (h : s.toList.isEmpty = false) (h8 : s.size ≤ 8) : idOk s = s.data.toList.all byteOk := by
  unfold idOk
  rw [h, decide_eq_true h8]; rfl
theorem all_size (s : ByteArray) : (s.data.toList.take s.size).all byteOk = s.data.toList.all byteOk := by
  rw [show s.size = s.data.toList.length by simp, List.take_length]
theorem any_bad {s : ByteArray} {k : Nat} (hk : k < s.size) (h : byteOk s[k] = false) : s.data.toList.all byteOk = false := by
  rw [List.all_eq_false]
  refine ⟨s.data.toList[k]'(by simpa using hk), List.getElem_mem _, ?_⟩
  show ¬ byteOk s[k] = true
  rw [h]; simp

set_option maxHeartbeats 1000000 in
theorem shelf_Id (s : ByteArray) (w : World) :
    Calls Try.prog 25 #[.string s] w fun e w' => e = .returned (.bool (idOk s)) ∧ Ext w w' := by
  cases he : s.toList.isEmpty
  · by_cases h8 : s.size ≤ 8
    · have HI := hid (idOk_go he h8)
      have h8' : decide ((8 : Int) < s.size) = false := decide_eq_false (by omega)
      have hsz : (s.size : Int) ≤ 8 := by omega
      go_enter Try.func25, Try.ntmps25
      go_wp2_with fail
      go_loopw [13] (fun i wr => ∃ k : Nat, k ≤ s.size ∧ i = .int .i64 k ∧ (s.data.toList.take k).all byteOk = true ∧ Ext w wr) (fun i _ => s.size - (intOf i).toNat)
      case atStart => exact ⟨0, Nat.zero_le _, rfl, rfl, Ext.refl _⟩
      case round =>
        obtain ⟨k, hk, rfl, hG, hx⟩ := hrel
        have HG := hid hG
        clear hG
        by_cases hlt : k < s.size
        · have HB := hid (byte_take s k hlt)
          have HD := hid (show byteOk s[k] = !(decide (((s[k]).toNat : Int) < 97) || decide ((122 : Int) < ((s[k]).toNat : Int))) from rfl)
          cases h1 : decide (((s[k]).toNat : Int) < 97)
          · rw [h1] at HD
            cases h2 : decide ((122 : Int) < ((s[k]).toNat : Int))
            · rw [h2] at HD
              go_wp2_with fail
              go_roundw
              case rel => exact ⟨k + 1, hlt, by go_num, by rw [HB.out, HG.out, HD.out]; rfl, hx⟩
              case measure => simp [intOf]; omega
            · rw [h2] at HD
              have HF := hid (any_bad hlt (HD.out.trans rfl))
              go_wp2_with fail
              go_ret
              exact ⟨ret_bool (by rw [HI.out, HF.out]), hx⟩
          · rw [h1] at HD
            have HF := hid (any_bad hlt (HD.out.trans rfl))
            go_wp2_with fail
            go_ret
            exact ⟨ret_bool (by rw [HI.out, HF.out]), hx⟩
        · obtain rfl : k = s.size := by omega
          go_wp2_with fail
          go_ret
          exact ⟨ret_bool (by rw [HI.out, ← all_size, HG.out]), hx⟩
    · have HI := hid (idOk_long h8)
      have h8' : decide ((8 : Int) < s.size) = true := decide_eq_true (by omega)
      clear h8
      go_enter Try.func25, Try.ntmps25
      go_wp2_with fail
      go_ret
      exact ⟨ret_bool HI.out.symm, Ext.refl _⟩
  · have HI := hid (idOk_empty he)
    go_enter Try.func25, Try.ntmps25
    go_wp2_with fail
    go_ret
    exact ⟨ret_bool HI.out.symm, Ext.refl _⟩

theorem ext_bytes (w : World) (e : TypeId) (s : ByteArray) : Ext w (Lib.bytesWorld w e s) :=
  ⟨rfl, rfl, rfl, by rw [Lib.bytesWorld_size]; omega, fun k hk => Lib.bytesWorld_at_old w e s k hk⟩
theorem bytes_cell (w : World) (e : TypeId) (s : ByteArray) (k : Nat) (hk : k < s.size) : (Lib.bytesWorld w e s).cell? ⟨w.heap.size, k, none⟩ = some (.int .u8 (s[k]).toNat) := by
  rw [Lib.bytesWorld_cell w e s k hk]
  have : s.data.toList.getD k 0 = s[k] := by
    rw [List.getD_eq_getElem?_getD, List.getElem?_eq_getElem (by simpa using hk)]
    rfl
  rw [this]
theorem idOk_end {s : ByteArray} (h : s.data.toList.all byteOk = true) : idOk s = betw s.size 1 8 := by
  unfold idOk betw
  rw [h]
  have e : s.toList.isEmpty = decide (s.size = 0) := by
    rw [Bool.eq_iff_iff, List.isEmpty_iff, decide_eq_true_eq, Lib.toList_data, ← List.length_eq_zero_iff]
    simp
  rw [e, Bool.eq_iff_iff]
  simp only [Bool.and_eq_true, Bool.not_eq_true', decide_eq_true_eq, decide_eq_false_iff_not, and_true]
  omega
theorem idOk_bad {s : ByteArray} (h : s.data.toList.all byteOk = false) : idOk s = false := by
  unfold idOk
  rw [h, Bool.and_false]

set_option maxHeartbeats 1000000 in
theorem ref_Id (s : ByteArray) (hs : s.size ≤ maxLen) (w : World) :
    Calls Try.prog 26 #[.string s] w fun e w' => e = .returned (.bool (idOk s)) ∧ Ext w w' := by
  have hsz : s.size ≤ 9223372036854775807 := hs
  have hcv : ∀ w, (convert 9 98 (.string s)).run Try.prog w = .ok (.slice (some ⟨w.heap.size, 0, none⟩) s.size (grownCap w s.size 0 5)) (Lib.bytesWorld w 5 s) := fun w =>
    Lib.run_convert_string_bytes (P := Try.prog) w 9 98 5 s (u := .string) Try.underlying9 Try.underlying98 Try.underlying5
  have HX := hid (ext_bytes w 5 s)
  have HC := hid (fun k hk => bytes_cell w 5 s k hk)
  generalize hW : Lib.bytesWorld w 5 s = W1 at HX HC
  have hcv1 := hcv w
  rw [hW] at hcv1
  clear hcv hW
  generalize hcp : grownCap w s.size 0 5 = cp at hcv1
  clear hcp
  go_enter Try.func26, Try.ntmps26
  go_wp2_with fail
  go_loopw [8] (fun i wr => ∃ k : Nat, k ≤ s.size ∧ i = .int .i64 k ∧ (s.data.toList.take k).all byteOk = true ∧ Ext W1 wr) (fun i _ => s.size - (intOf i).toNat)
  case atStart => exact ⟨0, Nat.zero_le _, rfl, rfl, Ext.refl _⟩
  case round =>
    obtain ⟨k, hk, rfl, hG, hx⟩ := hrel
    have HG := hid hG
    clear hG
    by_cases hlt : k < s.size
    · have hc := hx.cell (HC.out k hlt)
      have HB := hid (byte_take s k hlt)
      have HD := hid (show byteOk s[k] = !(decide (((s[k]).toNat : Int) < 97) || decide ((122 : Int) < ((s[k]).toNat : Int))) from rfl)
      cases h1 : decide (((s[k]).toNat : Int) < 97)
      · rw [h1] at HD
        cases h2 : decide ((122 : Int) < ((s[k]).toNat : Int))
        · rw [h2] at HD
          go_wp2_with fail
          go_roundw
          case rel => exact ⟨k + 1, hlt, by go_num, by rw [HB.out, HG.out, HD.out]; rfl, hx⟩
          case measure => simp [intOf]; omega
        · rw [h2] at HD
          have HF := hid (any_bad hlt (HD.out.trans rfl))
          go_wp2_with fail
          go_ret
          exact ⟨ret_bool (idOk_bad HF.out).symm, HX.out.trans hx⟩
      · rw [h1] at HD
        have HF := hid (any_bad hlt (HD.out.trans rfl))
        go_wp2_with fail
        go_ret
        exact ⟨ret_bool (idOk_bad HF.out).symm, HX.out.trans hx⟩
    · obtain rfl : k = s.size := by omega
      have HA := hid ((all_size s).symm.trans HG.out)
      go_wp2_with fail
      refine (ref_within _ _ _ _).mono ?_
      rintro e w1 ⟨rfl, rfl⟩
      go_wp2_with fail
      go_ret
      exact ⟨ret_bool (idOk_end HA.out).symm, HX.out.trans hx⟩
end Go.Proofs.Ytmedmfjhpabfdaa
