/- The walks of know.Dot, vec, cmp, Check. -/
import Derived.Test.YtiigbcnnapnceaaKnD
import Derived.Test.YtiigbcnnapnceaaQext
namespace Go.Proofs.Ytiigbcnnapnceaa
open Go Go.RowKit

set_option maxHeartbeats 2000000 in
theorem know_Dot (d : Dot) (w : World) : Calls Try.prog 50 #[.agg #[.int .i64 d.site, .int .i64 d.count]] w fun e w' => e = .returned (.bool (dotOk d)) ∧ Ext w w' := by
  have hx := (Ext.refl w).alloc (.cells #[.int .i64 d.site, .int .i64 d.count] 74)
  rcases Int.lt_or_le d.site 0 with h0 | h0
  · have HD := hid (show dotOk d = false by rw [← Bool.not_eq_true, dotOk_iff]; omega)
    go_enter Try.func50, Try.ntmps50
    go_wp2_with fail
    go_ret
    exact ⟨ret_bool HD.out.symm, hx⟩
  · rcases Int.lt_or_le d.site 5 with h1 | h1
    · rcases Int.lt_or_le d.count 1 with h2 | h2
      · have HD := hid (show dotOk d = false by rw [← Bool.not_eq_true, dotOk_iff]; omega)
        go_enter Try.func50, Try.ntmps50
        go_wp2_with fail
        go_ret
        exact ⟨ret_bool HD.out.symm, hx⟩
      · rcases Int.lt_or_le 1000 d.count with h3 | h3
        · have HD := hid (show dotOk d = false by rw [← Bool.not_eq_true, dotOk_iff]; omega)
          go_enter Try.func50, Try.ntmps50
          go_wp2_with fail
          go_ret
          exact ⟨ret_bool (by rw [HD.out]; simp; omega), hx⟩
        · have HD := hid (show dotOk d = true by rw [dotOk_iff]; omega)
          go_enter Try.func50, Try.ntmps50
          go_wp2_with fail
          go_ret
          exact ⟨ret_bool HD.out.symm, hx⟩
    · have HD := hid (show dotOk d = false by rw [← Bool.not_eq_true, dotOk_iff]; omega)
      go_enter Try.func50, Try.ntmps50
      go_wp2_with fail
      go_ret
      exact ⟨ret_bool HD.out.symm, hx⟩

theorem know_vec (B : Nat) (k : Know) (Av : Option Addr) (cv : Nat) (Am : Option Addr) (cm : Nat) (s : Nat) (w : World) (h : InK B w Av Am k) :
    Calls Try.prog 89 #[.agg #[.slice Av k.vec.length cv, .slice Am k.more.length cm], .int .i64 (s : Int)] w fun e w' => e = .returned (.int .i64 (vecAt k.vec s)) ∧ Ext w w' := by
  have hx := (Ext.refl w).alloc (.cells #[.slice Av k.vec.length cv, .slice Am k.more.length cm] 72)
  have s0 : (0 : Int) ≤ s := by omega
  by_cases hs : s < k.vec.length
  · have HV := hid (vecAt_in hs)
    have hs' : (s : Int) < k.vec.length := by omega
    obtain ⟨b, off, rfl, hb, g0⟩ := (h.sv.ext RInt.mono hx).int hs
    go_enter Try.func89, Try.ntmps89
    go_wp2_with fail
    go_ret
    exact ⟨ret_int HV.out.symm, hx⟩
  · have HV := hid (vecAt_out (v := k.vec) (s := s) (by omega))
    have hs' : decide ((s : Int) < k.vec.length) = false := by simp; omega
    go_enter Try.func89, Try.ntmps89
    go_wp2_with fail
    go_ret
    exact ⟨ret_int HV.out.symm, hx⟩

theorem know_cmp (a b : Dot) (w : World) (ha : dotOk a = true) (hb : dotOk b = true) :
    Calls Try.prog 90 #[.agg #[.int .i64 a.site, .int .i64 a.count], .agg #[.int .i64 b.site, .int .i64 b.count]] w fun e w' => e = .returned (.int .i64 (cmpD a b)) ∧ Ext w w' := by
  have ha' := dotOk_iff.1 ha
  have hb' := dotOk_iff.1 hb
  have hx := ((Ext.refl w).alloc (.cells #[.int .i64 a.site, .int .i64 a.count] 74)).alloc (.cells #[.int .i64 b.site, .int .i64 b.count] 74)
  by_cases hs : a.site = b.site
  · have HV := hid (show cmpD a b = a.count - b.count by rw [cmpD, if_pos hs])
    have e1 : wrap64 (a.count - b.count) = a.count - b.count := by unfold wrap64; omega
    have e2 : (a.site != b.site) = false := by simp [hs]
    clear hs ha hb ha' hb'
    go_enter Try.func90, Try.ntmps90
    go_wp2_with fail
    go_ret
    exact ⟨ret_int (e1.trans HV.out.symm), hx⟩
  · have HV := hid (show cmpD a b = a.site - b.site by rw [cmpD, if_neg hs])
    have e1 : wrap64 (a.site - b.site) = a.site - b.site := by unfold wrap64; omega
    have e2 : (a.site != b.site) = true := by simp [hs]
    clear hs ha hb ha' hb'
    go_enter Try.func90, Try.ntmps90
    go_wp2_with fail
    go_ret
    exact ⟨ret_int (e1.trans HV.out.symm), hx⟩

end Go.Proofs.Ytiigbcnnapnceaa
