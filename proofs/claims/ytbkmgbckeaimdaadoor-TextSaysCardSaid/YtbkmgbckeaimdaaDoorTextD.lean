/- The walks of the reference's Dec and of its number. -/
import Derived.Test.YtbkmgbckeaimdaaDoorTextS
import Derived.Deep.LoopGhost
namespace Go.Proofs.YtbkmgbckeaimdaaDoor
open Go Go.RowKit

theorem decDigits_len : ∀ n : Nat, (Lib.decDigits n).length ≤ n + 1 := by
  intro n
  induction n using Nat.strongRecOn with
  | ind n ih =>
    by_cases h : n < 10
    · rw [dd1 n h]; simp
    · rw [Lib.decDigits, dif_neg h]
      have := ih (n / 10) (by omega)
      simp only [List.length_append, List.length_cons, List.length_nil]
      omega
theorem dec_lit : ∀ n : Fin 10, ((⟨#[48, 49, 50, 51, 52, 53, 54, 55, 56, 57]⟩ : ByteArray).extract n.1 (n.1 + 1)) = tstr [UInt8.ofNat (48 + n.1)] := by decide +kernel

set_option maxRecDepth 100000 in
set_option maxHeartbeats 2000000 in
theorem ref_Dec : ∀ (n : Nat) (w : World), n ≤ 4611686018427387904 → Calls Tryd.prog 35 #[.int .i64 n] w fun e w' => e = .returned (.string (tstr (Lib.decDigits n))) ∧ w' = w := by
  intro n
  induction n using Nat.strongRecOn with
  | ind n ih =>
    intro w hn
    have n0 : (0 : Int) ≤ n := by omega
    have n1 : (n : Int) ≤ 4611686018427387904 := by omega
    by_cases h : n < 10
    · have HE := hid (show tstr (Lib.decDigits n) = (⟨#[48, 49, 50, 51, 52, 53, 54, 55, 56, 57]⟩ : ByteArray).extract n (n + 1) by rw [dd1 n h]; exact (dec_lit ⟨n, h⟩).symm)
      have h10 : (n : Int) < 10 := by omega
      have hsl : ∀ wx, (Instr.slice 9 (.string ⟨#[48, 49, 50, 51, 52, 53, 54, 55, 56, 57]⟩) (some (.int .i64 n)) (some (.int .i64 ((n : Int) + 1))) none).run Tryd.prog wx = .ok (.string ((⟨#[48, 49, 50, 51, 52, 53, 54, 55, 56, 57]⟩ : ByteArray).extract n (n + 1))) wx := fun wx => by
        rw [run_slice_string (P := Tryd.prog) wx 9 ⟨#[48, 49, 50, 51, 52, 53, 54, 55, 56, 57]⟩ .i64 .i64 n ((n : Int) + 1) Tryd.underlying9 n0 (by omega) (by show (n : Int) + 1 ≤ 10; omega), show ((n : Int) + 1).toNat = n + 1 by omega, Int.toNat_natCast]
      clear ih h hn
      go_enter Tryd.func35, Tryd.ntmps35
      go_wp2_with fail
      go_ret
      exact ⟨ret_val (by rw [HE.out]; rfl), rfl⟩
    · have h10 : (10 : Int) ≤ n := by omega
      have hd : (n : Int).tdiv 10 = ((n / 10 : Nat) : Int) := by rw [Int.tdiv_eq_ediv_of_nonneg n0]; rfl
      have hm : (n : Int).tmod 10 = ((n % 10 : Nat) : Int) := by rw [Int.tmod_eq_emod_of_nonneg n0]; rfl
      have hq : ((n / 10 : Nat) : Int) ≤ 4611686018427387904 := by omega
      have I1 := hid (ih (n / 10) (by omega) w (by omega))
      have I2 := hid (ih (n % 10) (by omega) w (by omega))
      have HE := hid (show tstr (Lib.decDigits n) = tstr (Lib.decDigits (n / 10)) ++ tstr (Lib.decDigits (n % 10)) by
        rw [tstr_append, dd1 (n % 10) (by omega)]
        rw [Lib.decDigits, dif_neg h])
      have s1 : (tstr (Lib.decDigits (n / 10))).size ≤ 4611686018427387904 := by rw [tstr_size]; have := decDigits_len (n / 10); omega
      have s2 : (tstr (Lib.decDigits (n % 10))).size ≤ 11 := by rw [tstr_size]; have := decDigits_len (n % 10); omega
      clear ih h hn
      generalize tstr (Lib.decDigits (n / 10)) = a at *
      generalize tstr (Lib.decDigits (n % 10)) = b at *
      go_enter Tryd.func35, Tryd.ntmps35
      go_wp2_with fail
      refine I1.out.mono ?_
      rintro e w1 ⟨rfl, rfl⟩
      go_wp2_with fail
      refine I2.out.mono ?_
      rintro e w2 ⟨rfl, rfl⟩
      go_wp2_with fail
      go_ret
      exact ⟨ret_val (by rw [HE.out]; rfl), rfl⟩

end Go.Proofs.YtbkmgbckeaimdaaDoor
