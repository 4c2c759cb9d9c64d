/- Walks: KnA, KnO, CubeW, CubeW2, CubeR in one text: data, readings, plain laws, small walks. No condition. -/
import Derived.Test.YtmedmfjhpabfdaaBase
import Derived.BigQuiet
import Derived.Deep.QuietTactic
import Derived.Lib.SmallJoins
import Derived.Outline
import Derived.Test.YtmedmfjhpabfdaaProg
import Derived.WalkKit
namespace Go.Proofs.Ytmedmfjhpabfdaa
open Go Go.RowKit

set_option maxHeartbeats 2000000 in
theorem know_Dot (d : Dot) (w : World) : Calls Try.prog 92 #[.agg #[.int .i64 d.site, .int .i64 d.count]] w fun e w' => e = .returned (.bool (dotOk d)) ∧ Ext w w' := by
  have hx := (Ext.refl w).alloc (.cells #[.int .i64 d.site, .int .i64 d.count] 38)
  rcases Int.lt_or_le d.site 0 with h0 | h0
  · have HD := hid (show dotOk d = false by rw [← Bool.not_eq_true, dotOk_iff]; omega)
    go_enter Try.func92, Try.ntmps92
    go_wp2_with fail
    go_ret
    exact ⟨ret_bool HD.out.symm, hx⟩
  · rcases Int.lt_or_le d.site 5 with h1 | h1
    · rcases Int.lt_or_le d.count 1 with h2 | h2
      · have HD := hid (show dotOk d = false by rw [← Bool.not_eq_true, dotOk_iff]; omega)
        go_enter Try.func92, Try.ntmps92
        go_wp2_with fail
        go_ret
        exact ⟨ret_bool HD.out.symm, hx⟩
      · rcases Int.lt_or_le 1000 d.count with h3 | h3
        · have HD := hid (show dotOk d = false by rw [← Bool.not_eq_true, dotOk_iff]; omega)
          go_enter Try.func92, Try.ntmps92
          go_wp2_with fail
          go_ret
          exact ⟨ret_bool (by rw [HD.out]; simp; omega), hx⟩
        · have HD := hid (show dotOk d = true by rw [dotOk_iff]; omega)
          go_enter Try.func92, Try.ntmps92
          go_wp2_with fail
          go_ret
          exact ⟨ret_bool HD.out.symm, hx⟩
    · have HD := hid (show dotOk d = false by rw [← Bool.not_eq_true, dotOk_iff]; omega)
      go_enter Try.func92, Try.ntmps92
      go_wp2_with fail
      go_ret
      exact ⟨ret_bool HD.out.symm, hx⟩

theorem know_vec (B : Nat) (k : Know) (Av : Option Addr) (cv : Nat) (Am : Option Addr) (cm : Nat) (s : Nat) (w : World) (h : InK B w Av Am k) :
    Calls Try.prog 122 #[.agg #[.slice Av k.vec.length cv, .slice Am k.more.length cm], .int .i64 (s : Int)] w fun e w' => e = .returned (.int .i64 (vecAt k.vec s)) ∧ Ext w w' := by
  have hx := (Ext.refl w).alloc (.cells #[.slice Av k.vec.length cv, .slice Am k.more.length cm] 44)
  have s0 : (0 : Int) ≤ s := by omega
  by_cases hs : s < k.vec.length
  · have HV := hid (vecAt_in hs)
    have hs' : (s : Int) < k.vec.length := by omega
    obtain ⟨b, off, rfl, hb, g0⟩ := (h.sv.ext RInt.mono hx).int hs
    go_enter Try.func122, Try.ntmps122
    go_wp2_with fail
    go_ret
    exact ⟨ret_int HV.out.symm, hx⟩
  · have HV := hid (vecAt_out (v := k.vec) (s := s) (by omega))
    have hs' : decide ((s : Int) < k.vec.length) = false := by simp; omega
    go_enter Try.func122, Try.ntmps122
    go_wp2_with fail
    go_ret
    exact ⟨ret_int HV.out.symm, hx⟩

theorem know_cmp (a b : Dot) (w : World) (ha : dotOk a = true) (hb : dotOk b = true) :
    Calls Try.prog 123 #[.agg #[.int .i64 a.site, .int .i64 a.count], .agg #[.int .i64 b.site, .int .i64 b.count]] w fun e w' => e = .returned (.int .i64 (cmpD a b)) ∧ Ext w w' := by
  have ha' := dotOk_iff.1 ha
  have hb' := dotOk_iff.1 hb
  have hx := ((Ext.refl w).alloc (.cells #[.int .i64 a.site, .int .i64 a.count] 38)).alloc (.cells #[.int .i64 b.site, .int .i64 b.count] 38)
  by_cases hs : a.site = b.site
  · have HV := hid (show cmpD a b = a.count - b.count by rw [cmpD, if_pos hs])
    have e1 : wrap64 (a.count - b.count) = a.count - b.count := by unfold wrap64; omega
    have e2 : (a.site != b.site) = false := by simp [hs]
    clear hs ha hb ha' hb'
    go_enter Try.func123, Try.ntmps123
    go_wp2_with fail
    go_ret
    exact ⟨ret_int (e1.trans HV.out.symm), hx⟩
  · have HV := hid (show cmpD a b = a.site - b.site by rw [cmpD, if_neg hs])
    have e1 : wrap64 (a.site - b.site) = a.site - b.site := by unfold wrap64; omega
    have e2 : (a.site != b.site) = true := by simp [hs]
    clear hs ha hb ha' hb'
    go_enter Try.func123, Try.ntmps123
    go_wp2_with fail
    go_ret
    exact ⟨ret_int (e1.trans HV.out.symm), hx⟩

end Go.Proofs.Ytmedmfjhpabfdaa

namespace Go.Proofs.Ytmedmfjhpabfdaa
open Go Go.RowKit Go.ChangeShapes Go.WideShapes Go.Deep Go.Joins

section
variable {H : Type} {enc : TypeId × Value → H} {w : World} {spare : Nat → Bool} {held : Bool}
theorem cells_know : Try.prog.cellsOf 44 = 2 := by kernel_rfl
theorem dot_elem (n : Nat) (cs : List Value) (y : DataW H × List MemPlace) (hl : cs.length = 2) (h : DataW.trod enc Try.prog w 0 spare held n 38 cs = some y) : ∃ z : Dot, RDot w cs z ∧ True := by
  obtain ⟨a, b, h1, _, _⟩ := pair_elem (P := Try.prog) Try.underlying38 Try.underlying3 (And.intro rfl rfl) (And.intro rfl rfl) cells_int hl h
  exact ⟨⟨a, b⟩, h1, trivial⟩
end
end Go.Proofs.Ytmedmfjhpabfdaa

namespace Go.Proofs.Ytmedmfjhpabfdaa
open Go Go.RowKit

set_option maxHeartbeats 400000 in
theorem cube_Tags (n : Int) (w : World) : Calls Try.prog 140 #[.int .i64 n] w fun e w' => e = .returned (.bool (tagsOk n)) ∧ w = w' := by
  go_enter Try.func140, Try.ntmps140
  go_wp2_with fail
  all_goals
    go_ret
    refine ⟨ret_bool ?_, rfl⟩
    simp only [tagsOk]
    first
      | (rw [eq_comm, decide_eq_true_eq]; omega)
      | (rw [eq_comm, decide_eq_false_iff_not]; omega)
      | (by_cases h : 0 ≤ n ∧ n ≤ 15 <;> simp [h] <;> omega)

end Go.Proofs.Ytmedmfjhpabfdaa

namespace Go.Proofs.Ytmedmfjhpabfdaa
open Go Go.RowKit

theorem Blk2.first {w : World} {b : Nat} {x y u v : Value} (h0 : w.cell? ⟨b, 0, none⟩ = some x) (_h1 : w.cell? ⟨b, 1, none⟩ = some y) : ((w.setCell ⟨b, 0, none⟩ u).setCell ⟨b, 1, none⟩ v).cell? ⟨b, 0, none⟩ = some u :=
  (World.cell?_setCell_other _ _ _ _ (by intro e; injection e with _ e; cases e)).trans (World.cell?_setCell_same _ _ _ h0)
end Go.Proofs.Ytmedmfjhpabfdaa

namespace Go.Proofs.Ytmedmfjhpabfdaa
open Go Go.RowKit

/-- in between. -/
def betw (x a b : Int) : Bool := decide (a ≤ x ∧ x ≤ b)

set_option maxHeartbeats 400000 in
theorem ref_within (x a b : Int) (w : World) : Calls Try.prog 60 #[.int .i64 x, .int .i64 a, .int .i64 b] w fun e w' => e = .returned (.bool (betw x a b)) ∧ w = w' := by
  by_cases h1 : a ≤ x
  · have HB := hid (show betw x a b = decide (x ≤ b) by simp [betw, h1])
    go_enter Try.func60, Try.ntmps60
    go_wp2_with fail
    go_ret
    exact ⟨ret_bool HB.out.symm, rfl⟩
  · have HB := hid (show betw x a b = false by simp [betw, h1])
    have h1' : x < a := by omega
    go_enter Try.func60, Try.ntmps60
    go_wp2_with fail
    go_ret
    exact ⟨ret_bool HB.out.symm, rfl⟩

theorem betw_tags (n : Int) : betw n 0 15 = tagsOk n := rfl

end Go.Proofs.Ytmedmfjhpabfdaa
