/- The walk of the reference's Nodes. -/
import Derived.Test.YtiigbcnnapnceaaFormP
import Derived.Test.YtiigbcnnapnceaaFilW
import Derived.Test.YtiigbcnnapnceaaCubeL
import Derived.Deep.RegionWith
import Derived.Deep.DeepCutAuto
import Derived.Deep.QuietTactic
namespace Go.Proofs.Ytiigbcnnapnceaa
open Go Go.RowKit

theorem filterNodes_take (f : List Box) (k : Nat) (hk : k < f.length) : filterNodes (f.take (k + 1)) = filterNodes (f.take k) + boxNodes f[k] := by
  rw [List.take_succ_eq_append_getElem hk, filterNodes, List.foldl_append]
  rfl
theorem tagNodes_bd (y n : Nat) : ∀ k : Nat, 0 ≤ tagNodes y n k ∧ tagNodes y n k ≤ 5 * k
  | 0 => by simp [tagNodes]
  | k + 1 => by
    have := tagNodes_bd y n k
    rw [tagNodes]
    split <;> split <;> omega
theorem boxNodes_bd {b : Box} (hb : BoxOk b) : 0 ≤ boxNodes b ∧ boxNodes b ≤ 54 := by
  have h1 := tagNodes_bd b.cube.yes.toNat b.cube.no.toNat 4
  have h2 := (spanCheck_ok hb.2).2
  rw [boxNodes_eq]
  have h3 : b.spans.length ≤ 16 := by
    have h := hb.2
    unfold spanCheck at h
    by_cases hl : 16 < b.spans.length
    · rw [if_pos hl] at h; cases h
    · omega
  omega
theorem filterNodes_bd : ∀ (f : List Box) (a : Int), (∀ b ∈ f, BoxOk b) → a ≤ f.foldl (fun n b => n + boxNodes b) a ∧ f.foldl (fun n b => n + boxNodes b) a ≤ a + 54 * f.length
  | [], a, _ => by simp
  | b :: r, a, h => by
    have h1 := boxNodes_bd (h b (by simp))
    have h2 := filterNodes_bd r (a + boxNodes b) (fun x hx => h x (by simp [hx]))
    rw [List.foldl_cons]
    simp only [List.length_cons]
    omega

set_option maxHeartbeats 4000000 in
theorem ref_Nodes (B : Nat) (A : Option Addr) (c : Nat) (f : List Box) (w : World) (hl : f.length ≤ 40) (hok : ∀ b ∈ f, BoxOk b) (h : SlBoxes B w A f) :
    Calls Try.prog 13 #[.slice A f.length c] w fun e w' => e = .returned (.int .i64 (filterNodes f)) ∧ Ext w w' := by
  have HOK := hid hok
  clear hok
  go_enter Try.func13, Try.ntmps13
  go_wp2_with fail
  go_loopw [3, 9] (fun s i wr => ∃ k : Nat, k ≤ f.length ∧ i = .int .i64 k ∧ s = .int .i64 (filterNodes (f.take k)) ∧ Ext w wr) (fun _ i _ => f.length - (intOf i).toNat)
  case atStart => exact ⟨0, Nat.zero_le _, rfl, rfl, Ext.refl _⟩
  case round =>
    obtain ⟨k, hk, rfl, rfl, hx⟩ := hrel
    by_cases hlt : k < f.length
    · obtain ⟨b, off, A', c', rfl, hbl, g0, g1, g2, hsl, hs⟩ := (h.ext RBox.monoE hx).box hlt
      have hbok := HOK.out _ (List.getElem_mem hlt)
      have HBD := hid (filterNodes_bd (f.take k) 2 (fun b hb => HOK.out b (List.mem_of_mem_take hb)))
      have HT := hid (filterNodes_take f k hlt)
      have HBX := hid (boxNodes_eq f[k])
      have hl16 : f[k].spans.length ≤ 16 := by
        have h := hbok.2
        unfold spanCheck at h
        by_cases hl : 16 < f[k].spans.length
        · rw [if_pos hl] at h; cases h
        · omega
      obtain ⟨y, n, hc⟩ := cubeOk_of hbok.1
      have HY := hid (show f[k].cube.yes.toNat = y ∧ f[k].cube.no.toNat = n by rw [hc.yes, hc.no]; simp)
      rw [hc.yes] at g0
      rw [hc.no] at g1
      have hb1 : 0 ≤ filterNodes (f.take k) ∧ filterNodes (f.take k) ≤ 2 + 54 * 40 := by
        have := HBD.out
        have h2 : (f.take k).length ≤ 40 := by rw [List.length_take]; omega
        unfold filterNodes
        omega
      clear hbok hc
      obtain ⟨s0, hs0⟩ : ∃ s0, filterNodes (f.take k) = s0 := ⟨_, rfl⟩
      rw [hs0] at hb1 ⊢
      have HS0 := hid hs0
      clear hs0
      go_wp2_with fail
      obtain ⟨wo, rfl⟩ : ∃ wo, wo = wr := ⟨_, rfl⟩
      go_loopw [3, 20] (fun s i ws => ∃ t : Nat, t ≤ 4 ∧ i = .int .i64 t ∧ s = .int .i64 (s0 + (2 + 2 * (f[k].spans.length : Int)) + tagNodes y n t) ∧ Ext (wo.alloc (.cells #[.int .i64 y, .int .i64 n, .slice A' f[k].spans.length c'] 99)) ws) (fun _ i _ => 4 - (intOf i).toNat)
      case atStart => exact ⟨0, by omega, rfl, by simp [tagNodes], Ext.refl _⟩
      case round =>
        obtain ⟨t, ht, rfl, rfl, hx3⟩ := hrel
        have p0 : wr.cell? ⟨wo.heap.size, 0, none⟩ = some (.int .i64 y) := hx3.cell (by go_simp)
        have p1 : wr.cell? ⟨wo.heap.size, 1, none⟩ = some (.int .i64 n) := hx3.cell (by go_simp)
        by_cases hlt4 : t < 4
        · have t0 : (0 : Int) ≤ t := by omega
          have t4 : (t : Int) < 4 := by omega
          have hbd := tagNodes_bd y n t
          have e1 := bit_int y t
          have e2 := bit_int n t
          have HN := hid (show tagNodes y n (t + 1) = tagNodes y n t + (2 * (if bitb y t then 1 else 0) + 3 * (if bitb n t then 1 else 0)) from rfl)
          generalize bitb y t = b1 at *
          generalize bitb n t = b2 at *
          generalize tagNodes y n t = tn at *
          cases b1 <;> cases b2
          all_goals
            simp only [Bool.false_eq_true, if_true, if_false] at e1 e2 HN
            go_upto_region 9 with fail
            go_quiet (fail)
            go_wp2_with fail
            go_roundw
            case rel => exact ⟨t + 1, by omega, by go_num, by rw [HN.out]; congr 1; omega, hx3.trans ((Ext.refl _).drewN _)⟩
            case measure => simp [intOf]; omega
        · obtain rfl : t = 4 := by omega
          have hbd := tagNodes_bd y n 4
          have hxx := hx.trans (((Ext.refl wo).alloc _).trans hx3)
          go_wp2_with fail
          go_roundw
          case rel => exact ⟨k + 1, hlt, by go_num, by rw [HT.out, HBX.out, HS0.out, HY.out.1, HY.out.2]; congr 1; omega, hxx⟩
          case measure => simp [intOf]; omega
    · obtain rfl : k = f.length := by omega
      rw [List.take_length]
      go_wp2_with fail
      go_ret
      exact ⟨rfl, hx⟩

end Go.Proofs.Ytiigbcnnapnceaa
