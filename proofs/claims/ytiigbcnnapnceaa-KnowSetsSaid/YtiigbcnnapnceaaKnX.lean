/- The walk of the reference's Size. -/
import Derived.Test.YtiigbcnnapnceaaKnU
namespace Go.Proofs.Ytiigbcnnapnceaa
open Go Go.RowKit

def rowN (S : DSet) (i : Nat) : Nat → Int
  | 0 => 0
  | k + 1 => rowN S i k + ones 64 (wordOf S i k)
def sizeN (S : DSet) : Nat → Int
  | 0 => 0
  | i + 1 => sizeN S i + rowN S i 16
theorem ones_bd : ∀ (f v : Nat), 0 ≤ ones f v ∧ ones f v ≤ f
  | 0, _ => by simp [ones]
  | f + 1, v => by
    have := ones_bd f (v / 2)
    rw [ones]
    split
    · omega
    · omega
theorem rowN_bd (S : DSet) (i : Nat) : ∀ k, 0 ≤ rowN S i k ∧ rowN S i k ≤ 64 * k
  | 0 => by simp [rowN]
  | k + 1 => by
    have h1 := rowN_bd S i k
    have h2 := ones_bd 64 (wordOf S i k)
    rw [rowN]; omega
theorem sizeN_bd (S : DSet) : ∀ i, 0 ≤ sizeN S i ∧ sizeN S i ≤ 1024 * i
  | 0 => by simp [sizeN]
  | i + 1 => by
    have h1 := sizeN_bd S i
    have h2 := rowN_bd S i 16
    rw [sizeN]; omega
/-- a row of sixteen words. -/
def rowL (S : DSet) (i : Nat) : List Value := (rowF 16 fun k => .int .u64 ((wordOf S i k : Nat) : Int)).toList
theorem rowL_range {S : DSet} {i : Nat} {w : World} {b : Nat} {e : TypeId} (h : Blk w b e (rowD S)) (hi : i < 5) : w.rangeAt b (i * 16) (rowL S i) := by
  intro j v hv
  have hj : j < 16 := by
    have := (List.getElem?_eq_some_iff.1 hv).1
    simp only [rowL, Array.length_toList, rowF_size] at this
    exact this
  rw [h.cell (rowD_at S hi hj)]
  have : (rowF 16 fun k => Value.int .u64 ((wordOf S i k : Nat) : Int))[j]? = some v := by
    rw [← hv, rowL, Array.getElem?_toList]
  rw [rowF_get _ hj] at this
  exact this
theorem rowL_len (S : DSet) (i : Nat) : (rowL S i).length = 16 := by simp [rowL, rowF_size]
theorem rowL_arr (S : DSet) (i : Nat) : (rowL S i).toArray = rowF 16 fun k => .int .u64 ((wordOf S i k : Nat) : Int) := by simp [rowL]
theorem hu_row : Try.prog.underlying 83 = some (.array 16 82) := Try.underlying83
theorem hi_row : (Try.prog.info? 83).map (·.size) = some 16 := by kernel_rfl

set_option maxRecDepth 100000 in
set_option maxHeartbeats 4000000 in
theorem dots_Size (S : DSet) (w : World) :
    Calls Try.prog 55 #[.agg (rowD S)] w fun e w' => e = .returned (.int .i64 (sizeN S 5)) ∧ Ext w w' := by
  have hx := (Ext.refl w).alloc (.cells (rowD S) 85)
  have hb0 := Blk.new w 85 (rowD S)
  go_enter Try.func55, Try.ntmps55
  go_wp2_with fail
  go_loopw [7, 3] (fun i n wr => ∃ j : Nat, j ≤ 5 ∧ i = .int .i64 j ∧ n = .int .i64 (sizeN S j) ∧ Blk wr w.heap.size 85 (rowD S) ∧ Ext w wr) (fun i _ _ => 5 - (intOf i).toNat)
  case atStart => exact ⟨0, Nat.zero_le _, rfl, rfl, hb0, hx⟩
  case round =>
    clear hb0 hx
    obtain ⟨j, hj, rfl, rfl, hb0, hx⟩ := hrel
    by_cases hlt : j < 5
    · have j0 : (0 : Int) ≤ j := by omega
      have j5 : (j : Int) < 5 := by omega
      have HJ := hid hlt
      have hbd := sizeN_bd S j
      have HSN := hid (show sizeN S (j + 1) = sizeN S j + rowN S j 16 from rfl)
      have hra := rowL_range hb0 hlt
      have hla : (Try.prog.info? 83).map (·.size) = some (rowL S j).length := by rw [rowL_len]; exact hi_row
      clear hj
      go_wp2_with ((with_reducible refine wpList_load_mid (op := ⟨some 12, _, _, _, _, _⟩) rfl _ _ rfl w.heap.size (j * 16) rfl (rowL S j) _ hra hu_row rfl hla ?_); rw [rowL_arr])
      have hz : sizeN S j = sizeN S j + rowN S j 0 := by simp [rowN]
      have HZ := hid hz
      generalize hsz : sizeN S j = sz at *
      clear hz hra hla hsz
      obtain ⟨wo, rfl⟩ : ∃ wo, wo = wr := ⟨_, rfl⟩
      go_loopw [13, 3] (fun i n wr => ∃ k : Nat, k ≤ 16 ∧ i = .int .i64 k ∧ n = .int .i64 (sz + rowN S j k) ∧ Blk wr w.heap.size 85 (rowD S) ∧ Ext w wr) (fun i _ _ => 16 - (intOf i).toNat)
      case atStart => exact ⟨0, Nat.zero_le _, rfl, by rw [← HZ.out], hb0, hx⟩
      case round =>
        clear hb0 hx
        obtain ⟨k, hk, rfl, rfl, hb0, hx⟩ := hrel
        by_cases hkl : k < 16
        · have k0 : (0 : Int) ≤ k := by omega
          have k5 : (k : Int) < 16 := by omega
          have hix : ∀ w, (Instr.index 83 (.agg (rowF 16 fun k => .int .u64 ((wordOf S j k : Nat) : Int))) (.int .i64 k)).run Try.prog w = .ok (.int .u64 ((wordOf S j k : Nat) : Int)) w := run_index_row Try.underlying83 (fun _ => by kernel_rfl) (fun _ => by kernel_rfl) hkl
          have hrb := rowN_bd S j k
          have HRN := hid (show rowN S j (k + 1) = rowN S j k + ones 64 (wordOf S j k) from rfl)
          have hwl : wordOf S j k < 2 ^ 64 := wordOf_lt S j k
          have hob := ones_bd 64 (wordOf S j k)
          generalize wordOf S j k = x at *
          generalize rowN S j k = rn at *
          clear hk
          go_wp2_with fail
          obtain ⟨wo, rfl⟩ : ∃ wo, wo = wr := ⟨_, rfl⟩
          go_loopw [6, 3] (fun i n wr => ∃ (f v : Nat) (m : Int), i = .int .u64 v ∧ n = .int .i64 m ∧ v < 2 ^ f ∧ f ≤ 64 ∧ 0 ≤ m ∧ m + ones f v = sz + rn + ones 64 x ∧ Blk wr w.heap.size 85 (rowD S) ∧ Ext w wr) (fun i _ _ => (intOf i).toNat)
          case atStart => exact ⟨64, x, sz + rn, rfl, rfl, hwl, Nat.le_refl _, by omega, rfl, hb0, hx⟩
          case round =>
            clear hb0 hx hix
            clear hwl
            obtain ⟨f, v, m, rfl, rfl, hvf, hf, hm0, hmo, hb0, hx⟩ := hrel
            have hob2 := ones_bd f v
            have hm1 : m ≤ 6000 := by omega
            clear hob
            by_cases hv0 : v = 0
            · have HM := hid (show m = sz + rn + ones 64 x by rw [hv0, ones_zero] at hmo; omega)
              subst hv0
              clear hvf hmo hob2
              go_wp2_with fail
              go_roundw
              case rel => exact ⟨k + 1, hkl, by go_num, by rw [HM.out, HRN.out, Int.add_assoc], hb0, hx⟩
              case measure => simp [intOf]; omega
            · have hvp : decide ((0 : Int) < v) = true := decide_eq_true (by omega)
              have hvn : decide (0 < v) = true := decide_eq_true (by omega)
              have hvq : 0 < v := by omega
              obtain ⟨g, rfl⟩ : ∃ g, f = g + 1 := by
                rcases f with _ | g
                · simp at hvf; omega
                · exact ⟨g, rfl⟩
              have HON := hid (show ones (g + 1) v = ones g (v / 2) + ((v % 2 : Nat) : Int) by rw [ones, if_neg hv0])
              have HM := hid hmo
              have hv2 : v / 2 < 2 ^ g := by rw [Nat.pow_succ] at hvf; omega
              have HV2 := hid hv2
              obtain ⟨r, hr⟩ : ∃ r, r = v % 2 := ⟨_, rfl⟩
              obtain ⟨q, hq⟩ : ∃ q, q = v / 2 := ⟨_, rfl⟩
              have e1 : Int.tmod (v : Int) 2 = (r : Int) := by rw [hr]; exact tmod_nat v 2
              have e2 : Int.tdiv (v : Int) 2 = (q : Int) := by rw [hq]; exact tdiv_nat v 2
              have e3 : (v : Int) % 2 = (r : Int) := by omega
              have e4 : (v : Int) / 2 = (q : Int) := by omega
              have r2 : (r : Int) < 2 := by omega
              have ew : IntKind.u64.wrap (q : Int) = (q : Int) := by
                have : v < 2 ^ 64 := Nat.lt_of_lt_of_le hvf (Nat.pow_le_pow_right (by omega) hf)
                rw [IntKind.wrap_u64]; omega
              have hql : q < v := by omega
              have HQL := hid hql
              have HR := hid hr
              have HQ := hid hq
              clear hr hq hv2 hmo hob2 hvf hv0 hql
              go_wp2_with fail
              go_roundw
              case rel => exact ⟨g, q, m + r, rfl, rfl, by rw [HQ.out]; exact HV2.out, by omega, by omega, by have h1 := HM.out; have h2 := HON.out; rw [← HQ.out, ← HR.out] at h2; omega, hb0, hx⟩
              case measure => have := HQL.out; simp [intOf]; omega
        · obtain rfl : k = 16 := by omega
          clear hkl hk
          go_wp2_with fail
          go_roundw
          case rel => exact ⟨j + 1, HJ.out, by go_num, by rw [HSN.out], hb0, hx⟩
          case measure => have := HJ.out; simp [intOf]; omega
    · obtain rfl : j = 5 := by omega
      clear hlt hj
      go_wp2_with fail
      go_ret
      exact ⟨rfl, hx⟩

end Go.Proofs.Ytiigbcnnapnceaa
