/- Walks: KnA, KnO, SpanW, SpanM, SpanR, CubeW, CubeW2, CubeR, FilW in one text: data, readings, plain laws, small walks. No condition. -/
import Derived.Test.YtmedmfjhpabfdaaBase
import Derived.BigQuiet
import Derived.Deep.QuietTactic
import Derived.Lib.SmallJoins
import Derived.Outline
import Derived.Test.YtmedmfjhpabfdaaProg
import Derived.WalkKit
namespace Go.Proofs.Ytmedmfjhpabfdaa
open Go Go.RowKit

set_option maxHeartbeats 2000000 in
theorem know_Dot (d : Dot) (w : World) : Calls Try.prog 92 #[.agg #[.int .i64 d.site, .int .i64 d.count]] w fun e w' => e = .returned (.bool (dotOk d)) ∧ Ext w w' := by
  have hx := (Ext.refl w).alloc (.cells #[.int .i64 d.site, .int .i64 d.count] 38)
  rcases Int.lt_or_le d.site 0 with h0 | h0
  · have HD := hid (show dotOk d = false by rw [← Bool.not_eq_true, dotOk_iff]; omega)
    go_enter Try.func92, Try.ntmps92
    go_wp2_with fail
    go_ret
    exact ⟨ret_bool HD.out.symm, hx⟩
  · rcases Int.lt_or_le d.site 5 with h1 | h1
    · rcases Int.lt_or_le d.count 1 with h2 | h2
      · have HD := hid (show dotOk d = false by rw [← Bool.not_eq_true, dotOk_iff]; omega)
        go_enter Try.func92, Try.ntmps92
        go_wp2_with fail
        go_ret
        exact ⟨ret_bool HD.out.symm, hx⟩
      · rcases Int.lt_or_le 1000 d.count with h3 | h3
        · have HD := hid (show dotOk d = false by rw [← Bool.not_eq_true, dotOk_iff]; omega)
          go_enter Try.func92, Try.ntmps92
          go_wp2_with fail
          go_ret
          exact ⟨ret_bool (by rw [HD.out]; simp; omega), hx⟩
        · have HD := hid (show dotOk d = true by rw [dotOk_iff]; omega)
          go_enter Try.func92, Try.ntmps92
          go_wp2_with fail
          go_ret
          exact ⟨ret_bool HD.out.symm, hx⟩
    · have HD := hid (show dotOk d = false by rw [← Bool.not_eq_true, dotOk_iff]; omega)
      go_enter Try.func92, Try.ntmps92
      go_wp2_with fail
      go_ret
      exact ⟨ret_bool HD.out.symm, hx⟩

theorem know_vec (B : Nat) (k : Know) (Av : Option Addr) (cv : Nat) (Am : Option Addr) (cm : Nat) (s : Nat) (w : World) (h : InK B w Av Am k) :
    Calls Try.prog 122 #[.agg #[.slice Av k.vec.length cv, .slice Am k.more.length cm], .int .i64 (s : Int)] w fun e w' => e = .returned (.int .i64 (vecAt k.vec s)) ∧ Ext w w' := by
  have hx := (Ext.refl w).alloc (.cells #[.slice Av k.vec.length cv, .slice Am k.more.length cm] 44)
  have s0 : (0 : Int) ≤ s := by omega
  by_cases hs : s < k.vec.length
  · have HV := hid (vecAt_in hs)
    have hs' : (s : Int) < k.vec.length := by omega
    obtain ⟨b, off, rfl, hb, g0⟩ := (h.sv.ext RInt.mono hx).int hs
    go_enter Try.func122, Try.ntmps122
    go_wp2_with fail
    go_ret
    exact ⟨ret_int HV.out.symm, hx⟩
  · have HV := hid (vecAt_out (v := k.vec) (s := s) (by omega))
    have hs' : decide ((s : Int) < k.vec.length) = false := by simp; omega
    go_enter Try.func122, Try.ntmps122
    go_wp2_with fail
    go_ret
    exact ⟨ret_int HV.out.symm, hx⟩

theorem know_cmp (a b : Dot) (w : World) (ha : dotOk a = true) (hb : dotOk b = true) :
    Calls Try.prog 123 #[.agg #[.int .i64 a.site, .int .i64 a.count], .agg #[.int .i64 b.site, .int .i64 b.count]] w fun e w' => e = .returned (.int .i64 (cmpD a b)) ∧ Ext w w' := by
  have ha' := dotOk_iff.1 ha
  have hb' := dotOk_iff.1 hb
  have hx := ((Ext.refl w).alloc (.cells #[.int .i64 a.site, .int .i64 a.count] 38)).alloc (.cells #[.int .i64 b.site, .int .i64 b.count] 38)
  by_cases hs : a.site = b.site
  · have HV := hid (show cmpD a b = a.count - b.count by rw [cmpD, if_pos hs])
    have e1 : wrap64 (a.count - b.count) = a.count - b.count := by unfold wrap64; omega
    have e2 : (a.site != b.site) = false := by simp [hs]
    clear hs ha hb ha' hb'
    go_enter Try.func123, Try.ntmps123
    go_wp2_with fail
    go_ret
    exact ⟨ret_int (e1.trans HV.out.symm), hx⟩
  · have HV := hid (show cmpD a b = a.site - b.site by rw [cmpD, if_neg hs])
    have e1 : wrap64 (a.site - b.site) = a.site - b.site := by unfold wrap64; omega
    have e2 : (a.site != b.site) = true := by simp [hs]
    clear hs ha hb ha' hb'
    go_enter Try.func123, Try.ntmps123
    go_wp2_with fail
    go_ret
    exact ⟨ret_int (e1.trans HV.out.symm), hx⟩

end Go.Proofs.Ytmedmfjhpabfdaa

namespace Go.Proofs.Ytmedmfjhpabfdaa
open Go Go.RowKit Go.ChangeShapes Go.WideShapes Go.Deep Go.Joins

section
variable {H : Type} {enc : TypeId × Value → H} {w : World} {spare : Nat → Bool} {held : Bool}
theorem cells_know : Try.prog.cellsOf 44 = 2 := by kernel_rfl
theorem dot_elem (n : Nat) (cs : List Value) (y : DataW H × List MemPlace) (hl : cs.length = 2) (h : DataW.trod enc Try.prog w 0 spare held n 38 cs = some y) : ∃ z : Dot, RDot w cs z ∧ True := by
  obtain ⟨a, b, h1, _, _⟩ := pair_elem (P := Try.prog) Try.underlying38 Try.underlying3 (And.intro rfl rfl) (And.intro rfl rfl) cells_int hl h
  exact ⟨⟨a, b⟩, h1, trivial⟩
end
end Go.Proofs.Ytmedmfjhpabfdaa

namespace Go.Proofs.Ytmedmfjhpabfdaa
open Go Go.RowKit

set_option maxHeartbeats 1000000 in
theorem span_Check (B : Nat) (A : Option Addr) (c : Nat) (l : List Span) (w : World) (hl : l.length ≤ maxLen) (h : SlSpans B w A l) :
    Calls Try.prog 146 #[.slice A l.length c] w fun e w' => e = .returned (.int .i64 (spanCheck l)) ∧ Ext w w' := by
  unfold maxLen at hl
  by_cases h16 : 16 < l.length
  · go_enter Try.func146, Try.ntmps146
    go_wp2
    go_ret
    exact ⟨ret_int (by simp [spanCheck, h16]), Ext.refl _⟩
  go_enter Try.func146, Try.ntmps146
  go_wp2
  go_loopw [10] (fun i wr => ∃ k : Nat, k ≤ l.length ∧ i = .int .i64 k ∧ spanGo (lastTo l k) (l.drop k) = spanGo (-1) l ∧ Ext w wr) (fun i _ => l.length - (intOf i).toNat)
  case atStart => exact ⟨0, Nat.zero_le _, rfl, rfl, Ext.refl _⟩
  case round =>
    obtain ⟨k, hk, rfl, hG, hx⟩ := hrel
    have HG : Hid (spanGo (lastTo l k) (l.drop k) = spanGo (-1) l) := hG
    clear hG
    by_cases hlt : k < l.length
    · obtain ⟨b, off, rfl, hb, h1, h2⟩ := (h.ext RPair.mono hx).pair hlt
      have hs := spanGo_drop l k hlt
      have HS := hid hs
      clear hs
      by_cases hk0 : 0 < k
      · obtain ⟨b', off', e, _, _, h3⟩ := (h.ext RPair.mono hx).pair (show k - 1 < l.length by omega)
        obtain ⟨rfl, rfl⟩ : b = b' ∧ off = off' := by simpa using e
        have hw := IntWalk.i64_in ((k : Int) - 1) (by omega)
        have hw2 : ((k : Int) - 1).toNat = k - 1 := by omega
        have hw3 : 0 ≤ (k : Int) - 1 := by omega
        have hw4 : (0 : Int) < k := by omega
        have HL := hid (show lastTo l k = l[k - 1].to by simp [lastTo, show k ≠ 0 by omega, show k - 1 < l.length by omega])
        go_wp2
        all_goals first | (go_ret; exact ⟨ret_int (by rw [spanCheck, if_neg h16, ← HG.out, HS.out, if_pos (by omega)]), hx.alloc _⟩) | skip
        go_quiet (fail)
        go_wp2
        · go_ret
          exact ⟨ret_int (by rw [spanCheck, if_neg h16, ← HG.out, HS.out, if_neg (by omega), HL.out, if_pos (by omega)]), (hx.alloc _).drewN _⟩
        · go_roundw
          case rel => exact ⟨k + 1, hlt, by go_num, by rw [← HG.out, HS.out, if_neg (by omega), HL.out, if_neg (by omega)], (hx.alloc _).drewN _⟩
          case measure => simp [intOf]; omega
      · have hw4 : decide ((0 : Int) < (k : Int)) = false := by simp; omega
        have HL := hid (show lastTo l k = -1 by simp [lastTo, show k = 0 by omega])
        go_wp2
        all_goals first | (go_ret; exact ⟨ret_int (by rw [spanCheck, if_neg h16, ← HG.out, HS.out, if_pos (by omega)]), hx.alloc _⟩) | skip
        go_quiet (fail)
        go_wp2
        go_roundw
        case rel => exact ⟨k + 1, hlt, by go_num, by rw [← HG.out, HS.out, if_neg (by omega), HL.out, if_neg (by omega)], (hx.alloc _).drewN _⟩
        case measure => simp [intOf]; omega
    · go_wp2
      go_ret
      have : k = l.length := by omega
      exact ⟨ret_int (by rw [spanCheck, if_neg h16, ← HG.out, this]; simp [spanGo]), hx⟩
end Go.Proofs.Ytmedmfjhpabfdaa

namespace Go.Proofs.Ytmedmfjhpabfdaa
open Go Go.RowKit

theorem ei_span : ElemInfo Try.prog 106 110 2 16 := ElemInfo.mk_ (z := .agg #[.int .i64 0, .int .i64 0]) Try.underlying106 (by kernel_rfl) rfl (by decide)

end Go.Proofs.Ytmedmfjhpabfdaa

namespace Go.Proofs.Ytmedmfjhpabfdaa
open Go Go.RowKit

set_option maxHeartbeats 1000000 in
theorem ref_Spans (B : Nat) (A : Option Addr) (c : Nat) (l : List Span) (w : World) (hl : l.length ≤ maxLen) (h : SlSpans B w A l) :
    Calls Try.prog 113 #[.slice A l.length c] w fun e w' => e = .returned (.int .i64 (spanCheck l)) ∧ Ext w w' := by
  unfold maxLen at hl
  by_cases h16 : 16 < l.length
  · go_enter Try.func113, Try.ntmps113
    go_wp2
    go_ret
    exact ⟨ret_int (by simp [spanCheck, h16]), Ext.refl _⟩
  go_enter Try.func113, Try.ntmps113
  go_wp2
  go_loopw [3, 11] (fun u i wr => ∃ k : Nat, k ≤ l.length ∧ i = .int .i64 k ∧ u = .int .i64 (lastTo l k) ∧ spanGo (lastTo l k) (l.drop k) = spanGo (-1) l ∧ Ext w wr) (fun _ i _ => l.length - (intOf i).toNat)
  case atStart => exact ⟨0, Nat.zero_le _, rfl, rfl, rfl, Ext.refl _⟩
  case round =>
    obtain ⟨k, hk, rfl, rfl, hG, hx⟩ := hrel
    have HG := hid hG
    clear hG
    by_cases hlt : k < l.length
    · obtain ⟨b, off, rfl, hb, h1, h2⟩ := (h.ext RPair.mono hx).pair hlt
      have HS := hid (spanGo_drop l k hlt)
      have HL := hid (show lastTo l (k + 1) = l[k].to by simp [lastTo, hlt])
      go_wp2
      all_goals first
        | (go_ret; exact ⟨ret_int (by rw [spanCheck, if_neg h16, ← HG.out, HS.out, if_pos (by omega)]), hx.alloc _⟩)
        | (go_ret; exact ⟨ret_int (by rw [spanCheck, if_neg h16, ← HG.out, HS.out, if_neg (by omega), if_pos (by omega)]), hx.alloc _⟩)
        | skip
      go_roundw
      case rel => exact ⟨k + 1, hlt, by go_num, by rw [HL.out], by rw [← HG.out, HS.out, if_neg (by omega), if_neg (by omega)], hx.alloc _⟩
      case measure => simp [intOf]; omega
    · go_wp2
      go_ret
      have : k = l.length := by omega
      exact ⟨ret_int (by rw [spanCheck, if_neg h16, ← HG.out, this]; simp [spanGo]), hx⟩

end Go.Proofs.Ytmedmfjhpabfdaa

namespace Go.Proofs.Ytmedmfjhpabfdaa
open Go Go.RowKit

set_option maxHeartbeats 400000 in
theorem cube_Tags (n : Int) (w : World) : Calls Try.prog 140 #[.int .i64 n] w fun e w' => e = .returned (.bool (tagsOk n)) ∧ w = w' := by
  go_enter Try.func140, Try.ntmps140
  go_wp2_with fail
  all_goals
    go_ret
    refine ⟨ret_bool ?_, rfl⟩
    simp only [tagsOk]
    first
      | (rw [eq_comm, decide_eq_true_eq]; omega)
      | (rw [eq_comm, decide_eq_false_iff_not]; omega)
      | (by_cases h : 0 ≤ n ∧ n ≤ 15 <;> simp [h] <;> omega)

set_option maxHeartbeats 400000 in
theorem cube_Check (c : Cube) (w : World) : Calls Try.prog 145 #[.agg #[.int .i64 c.yes, .int .i64 c.no]] w fun e w' => e = .returned (.int .i64 (cubeCheck c)) ∧ Ext w w' := by
  by_cases h1 : tagsOk c.yes = true
  · by_cases h2 : tagsOk c.no = true
    · have a := tagsOk_iff.1 h1
      have b := tagsOk_iff.1 h2
      obtain ⟨y, hy⟩ := Int.eq_ofNat_of_zero_le a.1
      obtain ⟨m, hm⟩ := Int.eq_ofNat_of_zero_le b.1
      have hk := and16 y (by omega) m (by omega)
      have HC := hid (show cubeCheck c = if y &&& m = 0 then 0 else 3 by rw [cubeCheck, if_pos ⟨h1, h2⟩, hy, hm, Int.toNat_natCast, Int.toNat_natCast])
      rw [hy, hm]
      rw [hy] at h1
      rw [hm] at h2
      clear hy hm a b
      by_cases h0 : y &&& m = 0
      · rw [h0] at hk
        have H0 := hid h0
        clear h0
        go_enter Try.func145, Try.ntmps145
        go_wp2_with fail
        refine (cube_Tags _ _).mono ?_
        rintro e w1 ⟨rfl, rfl⟩
        rw [h1]
        go_wp2_with fail
        refine (cube_Tags _ _).mono ?_
        rintro e w1 ⟨rfl, rfl⟩
        rw [h2]
        go_wp2_with fail
        go_ret
        exact ⟨ret_int (by rw [HC.out, if_pos H0.out]), (Ext.refl w).alloc _⟩
      · have hb : (((y &&& m : Nat) : Int) != 0) = true := by simp; omega
        have H0 := hid h0
        clear h0
        go_enter Try.func145, Try.ntmps145
        go_wp2_with fail
        refine (cube_Tags _ _).mono ?_
        rintro e w1 ⟨rfl, rfl⟩
        rw [h1]
        go_wp2_with fail
        refine (cube_Tags _ _).mono ?_
        rintro e w1 ⟨rfl, rfl⟩
        rw [h2]
        go_wp2_with fail
        go_ret
        exact ⟨ret_int (by rw [HC.out, if_neg H0.out]), (Ext.refl w).alloc _⟩
    · have HC := hid (show cubeCheck c = 1 by rw [cubeCheck, if_neg (fun h => h2 h.2)])
      have h2' : tagsOk c.no = false := by simpa using h2
      clear h2
      go_enter Try.func145, Try.ntmps145
      go_wp2_with fail
      refine (cube_Tags _ _).mono ?_
      rintro e w1 ⟨rfl, rfl⟩
      rw [h1]
      go_wp2_with fail
      refine (cube_Tags _ _).mono ?_
      rintro e w1 ⟨rfl, rfl⟩
      rw [h2']
      go_wp2_with fail
      go_ret
      exact ⟨ret_int HC.out.symm, (Ext.refl w).alloc _⟩
  · have HC := hid (show cubeCheck c = 1 by rw [cubeCheck, if_neg (fun h => h1 h.1)])
    have h1' : tagsOk c.yes = false := by simpa using h1
    clear h1
    go_enter Try.func145, Try.ntmps145
    go_wp2_with fail
    refine (cube_Tags _ _).mono ?_
    rintro e w1 ⟨rfl, rfl⟩
    rw [h1']
    go_wp2_with fail
    go_ret
    exact ⟨ret_int HC.out.symm, (Ext.refl w).alloc _⟩

end Go.Proofs.Ytmedmfjhpabfdaa

namespace Go.Proofs.Ytmedmfjhpabfdaa
open Go Go.RowKit

theorem Blk2.first {w : World} {b : Nat} {x y u v : Value} (h0 : w.cell? ⟨b, 0, none⟩ = some x) (_h1 : w.cell? ⟨b, 1, none⟩ = some y) : ((w.setCell ⟨b, 0, none⟩ u).setCell ⟨b, 1, none⟩ v).cell? ⟨b, 0, none⟩ = some u :=
  (World.cell?_setCell_other _ _ _ _ (by intro e; injection e with _ e; cases e)).trans (World.cell?_setCell_same _ _ _ h0)
end Go.Proofs.Ytmedmfjhpabfdaa

namespace Go.Proofs.Ytmedmfjhpabfdaa
open Go Go.RowKit

/-- in between. -/
def betw (x a b : Int) : Bool := decide (a ≤ x ∧ x ≤ b)

set_option maxHeartbeats 400000 in
theorem ref_within (x a b : Int) (w : World) : Calls Try.prog 60 #[.int .i64 x, .int .i64 a, .int .i64 b] w fun e w' => e = .returned (.bool (betw x a b)) ∧ w = w' := by
  by_cases h1 : a ≤ x
  · have HB := hid (show betw x a b = decide (x ≤ b) by simp [betw, h1])
    go_enter Try.func60, Try.ntmps60
    go_wp2_with fail
    go_ret
    exact ⟨ret_bool HB.out.symm, rfl⟩
  · have HB := hid (show betw x a b = false by simp [betw, h1])
    have h1' : x < a := by omega
    go_enter Try.func60, Try.ntmps60
    go_wp2_with fail
    go_ret
    exact ⟨ret_bool HB.out.symm, rfl⟩

theorem betw_tags (n : Int) : betw n 0 15 = tagsOk n := rfl

set_option maxHeartbeats 400000 in
theorem ref_Cube (c : Cube) (w : World) : Calls Try.prog 112 #[.agg #[.int .i64 c.yes, .int .i64 c.no]] w fun e w' => e = .returned (.int .i64 (cubeCheck c)) ∧ Ext w w' := by
  by_cases h1 : tagsOk c.yes = true
  · by_cases h2 : tagsOk c.no = true
    · have a := tagsOk_iff.1 h1
      have b := tagsOk_iff.1 h2
      obtain ⟨y, hy⟩ := Int.eq_ofNat_of_zero_le a.1
      obtain ⟨m, hm⟩ := Int.eq_ofNat_of_zero_le b.1
      have hk := and16 y (by omega) m (by omega)
      have HC := hid (show cubeCheck c = if y &&& m = 0 then 0 else 3 by rw [cubeCheck, if_pos ⟨h1, h2⟩, hy, hm, Int.toNat_natCast, Int.toNat_natCast])
      rw [hy, hm]
      rw [hy] at h1
      rw [hm] at h2
      clear hy hm a b
      by_cases h0 : y &&& m = 0
      all_goals
        first
          | (rw [h0] at hk)
          | (have hb : (0 : Int) < ((y &&& m : Nat) : Int) := by omega)
        have H0 := hid h0
        clear h0
        go_enter Try.func112, Try.ntmps112
        go_wp2_with fail
        refine (ref_within _ _ _ _).mono ?_
        rintro e w1 ⟨rfl, rfl⟩
        rw [betw_tags, h1]
        go_wp2_with fail
        refine (ref_within _ _ _ _).mono ?_
        rintro e w1 ⟨rfl, rfl⟩
        rw [betw_tags, h2]
        go_wp2_with fail
        go_ret
        refine ⟨ret_int ?_, (Ext.refl w).alloc _⟩
        first
          | (rw [HC.out, if_pos H0.out])
          | (rw [HC.out, if_neg H0.out])
    · have HC := hid (show cubeCheck c = 1 by rw [cubeCheck, if_neg (fun h => h2 h.2)])
      have h2' : tagsOk c.no = false := by simpa using h2
      clear h2
      go_enter Try.func112, Try.ntmps112
      go_wp2_with fail
      refine (ref_within _ _ _ _).mono ?_
      rintro e w1 ⟨rfl, rfl⟩
      rw [betw_tags, h1]
      go_wp2_with fail
      refine (ref_within _ _ _ _).mono ?_
      rintro e w1 ⟨rfl, rfl⟩
      rw [betw_tags, h2']
      go_wp2_with fail
      go_ret
      exact ⟨ret_int HC.out.symm, (Ext.refl w).alloc _⟩
  · have HC := hid (show cubeCheck c = 1 by rw [cubeCheck, if_neg (fun h => h1 h.1)])
    have h1' : tagsOk c.yes = false := by simpa using h1
    clear h1
    go_enter Try.func112, Try.ntmps112
    go_wp2_with fail
    refine (ref_within _ _ _ _).mono ?_
    rintro e w1 ⟨rfl, rfl⟩
    rw [betw_tags, h1']
    go_wp2_with fail
    go_ret
    exact ⟨ret_int HC.out.symm, (Ext.refl w).alloc _⟩

end Go.Proofs.Ytmedmfjhpabfdaa

namespace Go.Proofs.Ytmedmfjhpabfdaa
open Go Go.RowKit

set_option maxHeartbeats 1000000 in
theorem filter_Check (B : Nat) (A : Option Addr) (c : Nat) (f : List Box) (w : World) (hl : f.length ≤ maxLen) (h : SlBoxes B w A f) :
    Calls Try.prog 103 #[.slice A f.length c] w fun e w' => e = .returned (.int .i64 (filterCheck f)) ∧ Ext w w' := by
  unfold maxLen at hl
  by_cases h40 : 40 < f.length
  · go_enter Try.func103, Try.ntmps103
    go_wp2_with fail
    go_ret
    exact ⟨ret_int (by simp [filterCheck, h40]), Ext.refl _⟩
  have HE := hid (show filterCheck f = filterGo f by simp [filterCheck, h40])
  go_enter Try.func103, Try.ntmps103
  go_wp2_with fail
  go_loopw [12] (fun i wr => ∃ k : Nat, k ≤ f.length ∧ i = .int .i64 k ∧ filterGo (f.drop k) = filterGo f ∧ Ext w wr) (fun i _ => f.length - (intOf i).toNat)
  case atStart => exact ⟨0, Nat.zero_le _, rfl, rfl, Ext.refl _⟩
  case round =>
    obtain ⟨k, hk, rfl, hG, hx⟩ := hrel
    have HG := hid hG
    clear hG
    by_cases hlt : k < f.length
    · obtain ⟨b, off, A', c', rfl, hb, g0, g1, g2, hsl, hs⟩ := (h.ext RBox.monoE hx).box hlt
      have HS := hid (filterGo_drop f k hlt)
      go_wp2_with fail
      refine (cube_Check f[k].cube _).mono ?_
      rintro e w1 ⟨rfl, hx1⟩
      have q2 : w1.cell? ⟨wr.heap.size, 2, none⟩ = some (.slice A' f[k].spans.length c') := hx1.cell (by go_simp)
      have hxr : Ext wr w1 := ((Ext.refl wr).alloc _).trans hx1
      have hs1 := hs.ext RPair.mono hxr
      replace hx := hx.trans hxr
      clear hx1 hxr hs
      by_cases hc : cubeCheck f[k].cube = 0
      · rw [hc]
        have HC := hid hc
        clear hc
        go_wp2_with fail
        refine (span_Check B A' c' f[k].spans _ hsl hs1).mono ?_
        rintro e w2 ⟨rfl, hx2⟩
        replace hx := hx.trans hx2
        by_cases hd : spanCheck f[k].spans = 0
        · rw [hd]
          have HD := hid hd
          clear hd
          go_wp2_with fail
          go_roundw
          case rel => exact ⟨k + 1, hlt, by go_num, by rw [← HG.out, HS.out, if_pos HC.out, if_pos HD.out], hx⟩
          case measure => simp [intOf]; omega
        · have hne : (spanCheck f[k].spans != 0) = true := by simpa using hd
          have HD := hid hd
          clear hd
          go_wp2_with fail
          go_ret
          exact ⟨ret_int (by rw [HE.out, ← HG.out, HS.out, if_pos HC.out, if_neg HD.out]), hx⟩
      · have hne : (cubeCheck f[k].cube != 0) = true := by simpa using hc
        have HC := hid hc
        clear hc
        go_wp2_with fail
        go_ret
        exact ⟨ret_int (by rw [HE.out, ← HG.out, HS.out, if_neg HC.out]), hx⟩
    · obtain rfl : k = f.length := by omega
      go_wp2_with fail
      go_ret
      exact ⟨ret_int (by rw [HE.out, ← HG.out]; simp [filterGo]), hx⟩

set_option maxHeartbeats 1000000 in
theorem ref_Filter (B : Nat) (A : Option Addr) (c : Nat) (f : List Box) (w : World) (hl : f.length ≤ maxLen) (h : SlBoxes B w A f) :
    Calls Try.prog 47 #[.slice A f.length c] w fun e w' => e = .returned (.int .i64 (filterCheck f)) ∧ Ext w w' := by
  unfold maxLen at hl
  by_cases h40 : 40 < f.length
  · go_enter Try.func47, Try.ntmps47
    go_wp2_with fail
    go_ret
    exact ⟨ret_int (by simp [filterCheck, h40]), Ext.refl _⟩
  have HE := hid (show filterCheck f = filterGo f by simp [filterCheck, h40])
  go_enter Try.func47, Try.ntmps47
  go_wp2_with fail
  go_loopw [12] (fun i wr => ∃ k : Nat, k ≤ f.length ∧ i = .int .i64 k ∧ filterGo (f.drop k) = filterGo f ∧ Ext w wr) (fun i _ => f.length - (intOf i).toNat)
  case atStart => exact ⟨0, Nat.zero_le _, rfl, rfl, Ext.refl _⟩
  case round =>
    obtain ⟨k, hk, rfl, hG, hx⟩ := hrel
    have HG := hid hG
    clear hG
    by_cases hlt : k < f.length
    · obtain ⟨b, off, A', c', rfl, hb, g0, g1, g2, hsl, hs⟩ := (h.ext RBox.monoE hx).box hlt
      have HS := hid (filterGo_drop f k hlt)
      go_wp2_with fail
      refine (ref_Cube f[k].cube _).mono ?_
      rintro e w1 ⟨rfl, hx1⟩
      have q2 : w1.cell? ⟨wr.heap.size, 2, none⟩ = some (.slice A' f[k].spans.length c') := hx1.cell (by go_simp)
      have hxr : Ext wr w1 := ((Ext.refl wr).alloc _).trans hx1
      have hs1 := hs.ext RPair.mono hxr
      replace hx := hx.trans hxr
      clear hx1 hxr hs
      by_cases hc : cubeCheck f[k].cube = 0
      · rw [hc]
        have HC := hid hc
        clear hc
        go_wp2_with fail
        refine (ref_Spans B A' c' f[k].spans _ hsl hs1).mono ?_
        rintro e w2 ⟨rfl, hx2⟩
        replace hx := hx.trans hx2
        by_cases hd : spanCheck f[k].spans = 0
        · rw [hd]
          have HD := hid hd
          clear hd
          go_wp2_with fail
          go_roundw
          case rel => exact ⟨k + 1, hlt, by go_num, by rw [← HG.out, HS.out, if_pos HC.out, if_pos HD.out], hx⟩
          case measure => simp [intOf]; omega
        · have hne : (spanCheck f[k].spans != 0) = true := by simpa using hd
          have HD := hid hd
          clear hd
          go_wp2_with fail
          go_ret
          exact ⟨ret_int (by rw [HE.out, ← HG.out, HS.out, if_pos HC.out, if_neg HD.out]), hx⟩
      · have hne : (cubeCheck f[k].cube != 0) = true := by simpa using hc
        have HC := hid hc
        clear hc
        go_wp2_with fail
        go_ret
        exact ⟨ret_int (by rw [HE.out, ← HG.out, HS.out, if_neg HC.out]), hx⟩
    · obtain rfl : k = f.length := by omega
      go_wp2_with fail
      go_ret
      exact ⟨ret_int (by rw [HE.out, ← HG.out]; simp [filterGo]), hx⟩

end Go.Proofs.Ytmedmfjhpabfdaa
