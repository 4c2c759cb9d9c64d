/- The walk of the reference's number. -/
import Derived.Test.YtbkmgbckeaimdaaDoorTextD
import Derived.Deep.CutBlock
import Derived.Lib.Strings
namespace Go.Proofs.YtbkmgbckeaimdaaDoor
open Go Go.RowKit

theorem rtake_dig {s : ByteArray} {j : Nat} (hk : j < s.size) (h : (s.data.toList.take j).all dig = true) (hd : dig s[j] = true) : (s.data.toList.take (j + 1)).all dig = true := by
  rw [List.take_succ_eq_append_getElem (by simpa using hk), List.all_append, h, Bool.true_and, List.all_cons, List.all_nil, Bool.and_true]
  exact hd
theorem rdrop_cons {s : ByteArray} {k : Nat} (hk : k < s.size) : s.data.toList.drop k = s[k] :: s.data.toList.drop (k + 1) := by
  rw [List.drop_eq_getElem_cons (by simpa using hk)]; rfl
theorem rnodig_end (s : ByteArray) : NoDig (s.data.toList.drop s.size) := by
  rw [show s.data.toList.drop s.size = [] by rw [List.drop_eq_nil_iff]; simp]; intro c hc; cases hc
theorem rsplit {s : ByteArray} {j : Nat} (h : (s.data.toList.take j).all dig = true) (hn : NoDig (s.data.toList.drop j)) (hj : j ≤ s.size) :
    numP s.data.toList = if numOk (s.data.toList.take j) then some (numVal (s.data.toList.take j), s.data.toList.drop j) else none := by
  have h1 : digs s.data.toList = s.data.toList.take j := by
    have := digs_app h hn
    rwa [List.take_append_drop] at this
  have h2 : (s.data.toList.take j).length = j := by
    rw [List.length_take, Array.length_toList]
    have h5 : s.data.size = s.size := rfl
    omega
  unfold numP
  rw [h1, h2]
theorem rdig_lo {c : UInt8} (h : ¬ (48 : Int) ≤ c.toNat) : dig c = false := by
  simp only [dig, Bool.and_eq_false_iff, decide_eq_false_iff_not]; exact .inl (by omega)
theorem rdig_hi {c : UInt8} (h : ¬ (c.toNat : Int) ≤ 57) : dig c = false := by
  simp only [dig, Bool.and_eq_false_iff, decide_eq_false_iff_not]; exact .inr (by omega)
theorem rdig_in {c : UInt8} (h : (48 : Int) ≤ c.toNat) (h2 : (c.toNat : Int) ≤ 57) : dig c = true := by
  simp only [dig, Bool.and_eq_true, decide_eq_true_eq]; exact ⟨by omega, by omega⟩
theorem rtake1 {s : ByteArray} (h : 0 < s.size) : s.data.toList.take 1 = [s[0]] := by
  have := List.take_succ_eq_append_getElem (l := s.data.toList) (i := 0) (by simpa using h)
  rw [this]
  rfl
theorem rtake2 {s : ByteArray} (h : 1 < s.size) : s.data.toList.take 2 = [s[0], s[1]] := by
  have := List.take_succ_eq_append_getElem (l := s.data.toList) (i := 1) (by simpa using h)
  rw [this, rtake1 (by omega)]
  rfl
theorem extract_end (s : ByteArray) (j : Nat) : (s.extract j s.size).data.toList = s.data.toList.drop j := by
  rw [Lib.extract_data]
  have h : s.data.toList.length = s.size := by rw [Array.length_toList]; rfl
  rw [← h]
  exact List.take_of_length_le (by simp)
theorem drop_tstr (s : ByteArray) (j : Nat) : s.extract j s.size = tstr (s.data.toList.drop j) := by
  rw [← extract_end]
  apply ByteArray.ext
  simp only [tstr, Array.toArray_toList]

set_option maxRecDepth 100000 in
set_option maxHeartbeats 4000000 in
theorem ref_number (s : ByteArray) (w : World) (hs : s.size ≤ 400) :
    Calls Tryd.prog 50 #[.string s] w fun e w' => Ext w w' ∧
      ((∃ a t1, numP s.data.toList = some (a, t1) ∧ e = .returned (.tuple #[.int .i64 a, .string (tstr t1), .bool true])) ∨ (numP s.data.toList = none ∧ e = .returned (.tuple #[.int .i64 0, .string s, .bool false]))) := by
  have HS := hid hs
  clear hs
  go_enter Tryd.func50, Tryd.ntmps50
  go_upto_block 0 with fail
  go_cut [5] from 7 to 24 (fun s5 wx => ∃ j : Nat, s5 = .int .i64 j ∧ j ≤ s.size ∧ (s.data.toList.take j).all dig = true ∧ NoDig (s.data.toList.drop j) ∧ wx = w)
  case first =>
    go_wp2_with fail
    go_loopw [5] (fun i wr => ∃ j : Nat, i = .int .i64 j ∧ j ≤ s.size ∧ (s.data.toList.take j).all dig = true ∧ wr = w) (fun i _ => s.size - (intOf i).toNat)
    case atStart => exact ⟨0, rfl, Nat.zero_le _, rfl, rfl⟩
    case round =>
      obtain ⟨m, rfl, hm, hd, rfl⟩ := hrel
      have HD := hid hd
      have HM := hid hm
      have hm4 : (m : Int) ≤ 400 := by have := HS.out; omega
      clear hd
      by_cases hlt : m < s.size
      · have hlt' : (m : Int) < s.size := by omega
        by_cases hb : (48 : Int) ≤ (s[m]'hlt).toNat
        · by_cases hc : ((s[m]'hlt).toNat : Int) ≤ 57
          · have HB := hid (rdig_in hb hc)
            have HL := hid hlt
            go_wp2_with fail
            go_roundw
            case rel => exact ⟨m + 1, by go_num, HL.out, rtake_dig HL.out HD.out HB.out, trivial⟩
            case measure => have := HL.out; simp [intOf]; omega
          · have HB := hid (show NoDig (s.data.toList.drop m) by rw [rdrop_cons hlt]; exact NoDig.cons (rdig_hi hc))
            go_wp2_with fail
            go_meet
            exact ⟨m, rfl, HM.out, HD.out, HB.out, rfl⟩
        · have HB := hid (show NoDig (s.data.toList.drop m) by rw [rdrop_cons hlt]; exact NoDig.cons (rdig_lo hb))
          go_wp2_with fail
          go_meet
          exact ⟨m, rfl, HM.out, HD.out, HB.out, rfl⟩
      · have HB := hid (show NoDig (s.data.toList.drop m) by rw [show m = s.size by omega]; exact rnodig_end s)
        have hge : (s.size : Int) ≤ m := by omega
        clear hlt hm
        go_wp2_with fail
        go_meet
        exact ⟨m, rfl, HM.out, HD.out, HB.out, rfl⟩
  case rest =>
    obtain ⟨j, rfl, hj, hd, hn, rfl⟩ := hcut
    have hN := rsplit hd hn hj
    have HJ := hid hj
    by_cases j0 : j = 0
    · subst j0
      have HN := hid (show numP s.data.toList = none by rw [hN]; rfl)
      clear hN hd hn hj
      go_wp2_with fail
      go_ret3
      exact ⟨Ext.refl _, .inr ⟨HN.out, rfl⟩⟩
    by_cases j3 : 2 < j
    · have HN := hid (show numP s.data.toList = none by
        rw [hN, if_neg]
        have h2 : (s.data.toList.take j).length = j := by
          rw [List.length_take, Array.length_toList]
          have h5 : s.data.size = s.size := rfl
          omega
        simp only [numOk, h2]
        simp
        omega)
      clear hN hd hn hj
      have j1 : ¬ (j : Int) < 1 := by omega
      have j2 : (2 : Int) < j := by omega
      go_wp2_with fail
      go_ret3
      exact ⟨Ext.refl _, .inr ⟨HN.out, rfl⟩⟩
    by_cases j1 : j = 1
    · subst j1
      have h0 : 0 < s.size := by omega
      rw [rtake1 h0] at hN hd
      have hdg : dig s[0] = true := by simpa using hd
      obtain ⟨i, hi⟩ := dig_nat hdg
      have h48 : ((s[0]'h0).toNat : Int) = 48 + i.1 := by rw [hi]; have := i.2; simp only [UInt8.toNat_ofNat']; omega
      have h0' : (0 : Int) < s.size := by omega
      have HN := hid (show numP s.data.toList = some (((i.1 : Nat) : Int), s.data.toList.drop 1) by rw [hN, hi, (num_one i).2.2, if_pos rfl, (num_one i).2.1])
      have HI := hid i.2
      have i0 : (0 : Int) ≤ i.1 := by omega
      have i1 : (i.1 : Int) < 10 := by have := i.2; omega
      clear hN hd hn hj hdg hi j0 j3
      have hsz : (1 : Int) ≤ s.size := by omega
      go_wp2_with fail
      go_quiet (fail)
      go_wp2_with fail
      go_ret3
      refine ⟨(Ext.refl _).drewN _, .inl ⟨_, _, HN.out, ?_⟩⟩
      show Ending.returned (.tuple #[.int .i64 (48 + ((i.1 : Nat) : Int) - 48), .string (s.extract 1 s.size), .bool true]) = _
      rw [show (48 + ((i.1 : Nat) : Int) - 48) = ((i.1 : Nat) : Int) by omega, drop_tstr]
    · obtain rfl : j = 2 := by omega
      have h0 : 1 < s.size := by omega
      rw [rtake2 h0] at hN hd
      simp only [List.all_cons, List.all_nil, Bool.and_true, Bool.and_eq_true] at hd
      obtain ⟨i, hi⟩ := dig_nat hd.1
      obtain ⟨i2, hi2⟩ := dig_nat hd.2
      have h48 : ((s[0]'(by omega)).toNat : Int) = 48 + i.1 := by rw [hi]; have := i.2; simp only [UInt8.toNat_ofNat']; omega
      have h49 : ((s[1]'h0).toNat : Int) = 48 + i2.1 := by rw [hi2]; have := i2.2; simp only [UInt8.toNat_ofNat']; omega
      have h0' : (0 : Int) < s.size := by omega
      have h1' : (1 : Int) < s.size := by omega
      have hsz : (2 : Int) ≤ s.size := by omega
      have i0 : (0 : Int) ≤ i.1 := by omega
      have i1 : (i.1 : Int) < 10 := by have := i.2; omega
      have k0 : (0 : Int) ≤ i2.1 := by omega
      have k1 : (i2.1 : Int) < 10 := by have := i2.2; omega
      rw [hi, hi2, (num_two i i2).2.2] at hN
      by_cases hz : i.1 = 0
      · have HN := hid (show numP s.data.toList = none by rw [hN, if_neg (by simp [hz])])
        have hz' : (i.1 : Int) = 0 := by omega
        have h48' : ((s[0]'(by omega)).toNat : Int) = 48 := by omega
        clear hN hd hn hi hi2 j0 j3 j1 h48 hz
        go_wp2_with fail
        go_ret3
        exact ⟨Ext.refl _, .inr ⟨HN.out, rfl⟩⟩
      · have HN := hid (show numP s.data.toList = some (((10 * i.1 + i2.1 : Nat) : Int), s.data.toList.drop 2) by rw [hN, if_pos (by simpa using hz), (num_two i i2).2.1])
        have h48' : ((48 + (i.1 : Int)) == 48) = false := by rw [beq_eq_false_iff_ne]; omega
        have hz0 : (i.1 : Int) ≠ 0 := by omega
        clear hN hd hn hi hi2 j0 j3 j1 hz
        go_wp2_with fail
        go_quiet (fail)
        go_wp2_with fail
        go_ret3
        refine ⟨(Ext.refl _).drewN _, .inl ⟨_, _, HN.out, ?_⟩⟩
        show Ending.returned (.tuple #[.int .i64 (10 * (48 + ((i.1 : Nat) : Int) - 48) + (48 + ((i2.1 : Nat) : Int) - 48)), .string (s.extract 2 s.size), .bool true]) = _
        rw [show (10 * (48 + ((i.1 : Nat) : Int) - 48) + (48 + ((i2.1 : Nat) : Int) - 48)) = ((10 * i.1 + i2.1 : Nat) : Int) by omega, drop_tstr]

end Go.Proofs.YtbkmgbckeaimdaaDoor
