/- The walks of part.Check, In, Has, and of the reference's Parts. -/
import Derived.Test.YtmedmfjhpabfdaaPartD
import Derived.Test.YtmedmfjhpabfdaaFilE
import Derived.Test.YtmedmfjhpabfdaaKnR
namespace Go.Proofs.Ytmedmfjhpabfdaa
open Go Go.RowKit

set_option maxHeartbeats 1000000 in
theorem part_Check (B : Nat) (A : Option Addr) (c : Nat) (l : List Part) (w : World) (hl : l.length ≤ maxLen) (h : SlParts B w A l) :
    Calls Try.prog 36 #[.slice A l.length c] w fun e w' => e = .returned (.int .i64 (partsCheck l)) ∧ Ext w w' := by
  unfold maxLen at hl
  by_cases h30 : 30 < l.length
  · go_enter Try.func36, Try.ntmps36
    go_wp2_with fail
    go_ret
    exact ⟨ret_int (by simp [partsCheck, h30]), Ext.refl _⟩
  have HE := hid (show partsCheck l = partsGo l by simp [partsCheck, h30])
  go_enter Try.func36, Try.ntmps36
  go_wp2_with fail
  go_loopw [12] (fun i wr => ∃ k : Nat, k ≤ l.length ∧ i = .int .i64 k ∧ partsGo (l.drop k) = partsGo l ∧ Ext w wr) (fun i _ => l.length - (intOf i).toNat)
  case atStart => exact ⟨0, Nat.zero_le _, rfl, rfl, Ext.refl _⟩
  case round =>
    obtain ⟨k, hk, rfl, hG, hx⟩ := hrel
    have HG := hid hG
    clear hG
    by_cases hlt : k < l.length
    · obtain ⟨b, off, Af, cf, Av, cv, Am, cm, rfl, hb, g0, g1, g2, hp⟩ := (h.ext RPart.monoE hx).part hlt
      have HS := hid (partsGo_drop l k hlt)
      have HP := hid hp
      clear hp
      go_wp2_with fail
      refine (filter_Check B Af cf l[k].filter _ HP.out.lf (HP.out.sf.ext RBox.monoE ((Ext.refl wr).alloc _))).mono ?_
      rintro e w1 ⟨rfl, hx1⟩
      have q1 : w1.cell? ⟨wr.heap.size, 1, none⟩ = some (.slice Av l[k].know.vec.length cv) := hx1.cell (by go_simp)
      have q2 : w1.cell? ⟨wr.heap.size, 2, none⟩ = some (.slice Am l[k].know.more.length cm) := hx1.cell (by go_simp)
      have hxr : Ext wr w1 := ((Ext.refl wr).alloc _).trans hx1
      have HK := hid (HP.out.k.ext hxr)
      replace hx := hx.trans hxr
      clear hx1 hxr
      by_cases hc : filterCheck l[k].filter = 0
      · rw [hc]
        have HC := hid hc
        clear hc
        go_wp2_with fail
        refine (know_Check B l[k].know Av cv Am cm _ HK.out).mono ?_
        rintro e w2 ⟨rfl, hx2⟩
        replace hx := hx.trans hx2
        by_cases hd : knowCheck l[k].know = 0
        · rw [hd]
          have HD := hid hd
          clear hd
          go_wp2_with fail
          go_roundw
          case rel => exact ⟨k + 1, hlt, by go_num, by rw [← HG.out, HS.out, if_pos HC.out, if_pos HD.out], hx⟩
          case measure => simp [intOf]; omega
        · have hne : (knowCheck l[k].know != 0) = true := by simpa using hd
          have HD := hid hd
          clear hd
          go_wp2_with fail
          go_ret
          exact ⟨ret_int (by rw [HE.out, ← HG.out, HS.out, if_pos HC.out, if_neg HD.out]), hx⟩
      · have hne : (filterCheck l[k].filter != 0) = true := by simpa using hc
        have HC := hid hc
        clear hc
        go_wp2_with fail
        go_ret
        exact ⟨ret_int (by rw [HE.out, ← HG.out, HS.out, if_neg HC.out]), hx⟩
    · obtain rfl : k = l.length := by omega
      go_wp2_with fail
      go_ret
      exact ⟨ret_int (by rw [HE.out, ← HG.out]; simp [partsGo]), hx⟩

set_option maxHeartbeats 1000000 in
theorem ref_Parts (B : Nat) (A : Option Addr) (c : Nat) (l : List Part) (w : World) (hl : l.length ≤ maxLen) (h : SlParts B w A l) :
    Calls Try.prog 35 #[.slice A l.length c] w fun e w' => e = .returned (.int .i64 (partsCheck l)) ∧ Ext w w' := by
  unfold maxLen at hl
  by_cases h30 : 30 < l.length
  · go_enter Try.func35, Try.ntmps35
    go_wp2_with fail
    go_ret
    exact ⟨ret_int (by simp [partsCheck, h30]), Ext.refl _⟩
  have HE := hid (show partsCheck l = partsGo l by simp [partsCheck, h30])
  go_enter Try.func35, Try.ntmps35
  go_wp2_with fail
  go_loopw [12] (fun i wr => ∃ k : Nat, k ≤ l.length ∧ i = .int .i64 k ∧ partsGo (l.drop k) = partsGo l ∧ Ext w wr) (fun i _ => l.length - (intOf i).toNat)
  case atStart => exact ⟨0, Nat.zero_le _, rfl, rfl, Ext.refl _⟩
  case round =>
    obtain ⟨k, hk, rfl, hG, hx⟩ := hrel
    have HG := hid hG
    clear hG
    by_cases hlt : k < l.length
    · obtain ⟨b, off, Af, cf, Av, cv, Am, cm, rfl, hb, g0, g1, g2, hp⟩ := (h.ext RPart.monoE hx).part hlt
      have HS := hid (partsGo_drop l k hlt)
      have HP := hid hp
      clear hp
      go_wp2_with fail
      refine (ref_Filter B Af cf l[k].filter _ HP.out.lf (HP.out.sf.ext RBox.monoE ((Ext.refl wr).alloc _))).mono ?_
      rintro e w1 ⟨rfl, hx1⟩
      have q1 : w1.cell? ⟨wr.heap.size, 1, none⟩ = some (.slice Av l[k].know.vec.length cv) := hx1.cell (by go_simp)
      have q2 : w1.cell? ⟨wr.heap.size, 2, none⟩ = some (.slice Am l[k].know.more.length cm) := hx1.cell (by go_simp)
      have hxr : Ext wr w1 := ((Ext.refl wr).alloc _).trans hx1
      have HK := hid (HP.out.k.ext hxr)
      replace hx := hx.trans hxr
      clear hx1 hxr
      by_cases hc : filterCheck l[k].filter = 0
      · rw [hc]
        have HC := hid hc
        clear hc
        go_wp2_with fail
        refine (ref_Know B l[k].know Av cv Am cm _ HK.out).mono ?_
        rintro e w2 ⟨rfl, hx2⟩
        replace hx := hx.trans hx2
        by_cases hd : knowCheck l[k].know = 0
        · rw [hd]
          have HD := hid hd
          clear hd
          go_wp2_with fail
          go_roundw
          case rel => exact ⟨k + 1, hlt, by go_num, by rw [← HG.out, HS.out, if_pos HC.out, if_pos HD.out], hx⟩
          case measure => simp [intOf]; omega
        · have hne : (knowCheck l[k].know != 0) = true := by simpa using hd
          have HD := hid hd
          clear hd
          go_wp2_with fail
          go_ret
          exact ⟨ret_int (by rw [HE.out, ← HG.out, HS.out, if_pos HC.out, if_neg HD.out]), hx⟩
      · have hne : (filterCheck l[k].filter != 0) = true := by simpa using hc
        have HC := hid hc
        clear hc
        go_wp2_with fail
        go_ret
        exact ⟨ret_int (by rw [HE.out, ← HG.out, HS.out, if_neg HC.out]), hx⟩
    · obtain rfl : k = l.length := by omega
      go_wp2_with fail
      go_ret
      exact ⟨ret_int (by rw [HE.out, ← HG.out]; simp [partsGo]), hx⟩

end Go.Proofs.Ytmedmfjhpabfdaa
