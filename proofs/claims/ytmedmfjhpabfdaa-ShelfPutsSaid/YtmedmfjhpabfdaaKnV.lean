/- The walks of slices.Equal at ints and at dots, of the reference's SameKnow. -/
import Derived.Test.YtmedmfjhpabfdaaKnI
import Derived.Test.YtmedmfjhpabfdaaFilR
namespace Go.Proofs.Ytmedmfjhpabfdaa
open Go Go.RowKit

set_option maxRecDepth 100000 in
theorem equal_ints (B1 B2 : Nat) (A1 : Option Addr) (c1 : Nat) (A2 : Option Addr) (c2 : Nat) (l m : List Int) (w : World) (h : SlInts B1 w A1 l) (g : SlInts B2 w A2 m) (hml : l.length ≤ maxLen) :
    Calls Try.prog 95 #[.slice A1 l.length c1, .slice A2 m.length c2] w fun e w' => e = .returned (.bool (decide (l = m))) ∧ Ext w w' := by
  have hmx : (l.length : Int) ≤ 9223372036854775807 := by unfold maxLen at hml; omega
  clear hml
  by_cases hlen : l.length = m.length
  · have hne : ((l.length : Int) != (m.length : Int)) = false := by simp [hlen]
    have HL := hid hlen
    clear hlen
    go_enter Try.func95, Try.ntmps95
    go_wp2_with fail
    go_loopw [13] (fun i wr => ∃ j : Nat, j ≤ l.length ∧ i = .int .i64 j ∧ l.take j = m.take j ∧ Ext w wr) (fun i _ => l.length - (intOf i).toNat)
    case atStart => exact ⟨0, Nat.zero_le _, rfl, rfl, Ext.refl w⟩
    case round =>
      obtain ⟨j, hj, rfl, ht, hx⟩ := hrel
      have HT := hid ht
      clear ht
      by_cases hlt : j < l.length
      · have hmt : j < m.length := by have := HL.out; omega
        have HX := hid hx
        have j0 : (0 : Int) ≤ j := by omega
        have j1 : (j : Int) < l.length := by omega
        have j2 : (j : Int) < m.length := by omega
        have HT1 := hid (List.take_append_getElem hlt)
        have HT2 := hid (List.take_append_getElem hmt)
        have HLT := hid hlt
        have HNE := hid (show l[j] ≠ m[j] → l ≠ m from fun hn he => hn (by subst he; rfl))
        obtain ⟨b1, o1, rfl, _, g0⟩ := (h.ext RInt.mono hx).int hlt
        obtain ⟨b2, o2, rfl, _, p0⟩ := (g.ext RInt.mono hx).int hmt
        generalize l[j] = x at *
        generalize m[j] = y at *
        clear hx hlt hmt
        by_cases he : x = y
        · subst he
          go_upto_region 6 with fail
          go_quiet (fail)
          go_wp2_with fail
          go_roundw
          case rel => exact ⟨j + 1, HLT.out, by go_num, by rw [← HT1.out, ← HT2.out, HT.out], HX.out.drewN _⟩
          case measure => have := HLT.out; simp [intOf]; omega
        · have hne' : (x != y) = true := by simpa using he
          have HD := hid he
          clear he
          go_upto_region 6 with fail
          go_quiet (fail)
          go_wp2_with fail
          go_ret
          exact ⟨ret_bool (decide_eq_false (HNE.out HD.out)).symm, HX.out.drewN _⟩
      · obtain rfl : j = l.length := by omega
        have HE := hid (show l = m by
          have h1 := HT.out
          rwa [List.take_length, HL.out, List.take_length] at h1)
        clear hlt hj
        go_wp2_with fail
        go_ret
        exact ⟨ret_bool (by rw [HE.out]; simp), hx⟩
  · have hne : ((l.length : Int) != (m.length : Int)) = true := by simp; omega
    have HE := hid (show l ≠ m from fun e => hlen (by rw [e]))
    clear hlen
    go_enter Try.func95, Try.ntmps95
    go_wp2_with fail
    go_ret
    exact ⟨ret_bool (decide_eq_false HE.out).symm, Ext.refl w⟩

set_option maxRecDepth 100000 in
theorem equal_dots (B1 B2 : Nat) (A1 : Option Addr) (c1 : Nat) (A2 : Option Addr) (c2 : Nat) (l m : List Dot) (w : World) (h : SlDots B1 w A1 l) (g : SlDots B2 w A2 m) (hml : l.length ≤ maxLen) :
    Calls Try.prog 96 #[.slice A1 l.length c1, .slice A2 m.length c2] w fun e w' => e = .returned (.bool (decide (l = m))) ∧ Ext w w' := by
  have hmx : (l.length : Int) ≤ 9223372036854775807 := by unfold maxLen at hml; omega
  clear hml
  by_cases hlen : l.length = m.length
  · have hne : ((l.length : Int) != (m.length : Int)) = false := by simp [hlen]
    have HL := hid hlen
    clear hlen
    go_enter Try.func96, Try.ntmps96
    go_wp2_with fail
    go_loopw [13] (fun i wr => ∃ j : Nat, j ≤ l.length ∧ i = .int .i64 j ∧ l.take j = m.take j ∧ Ext w wr) (fun i _ => l.length - (intOf i).toNat)
    case atStart => exact ⟨0, Nat.zero_le _, rfl, rfl, Ext.refl w⟩
    case round =>
      obtain ⟨j, hj, rfl, ht, hx⟩ := hrel
      have HT := hid ht
      clear ht
      by_cases hlt : j < l.length
      · have hmt : j < m.length := by have := HL.out; omega
        have HX := hid hx
        have j0 : (0 : Int) ≤ j := by omega
        have j1 : (j : Int) < l.length := by omega
        have j2 : (j : Int) < m.length := by omega
        have HT1 := hid (List.take_append_getElem hlt)
        have HT2 := hid (List.take_append_getElem hmt)
        have HLT := hid hlt
        have HNE := hid (show l[j] ≠ m[j] → l ≠ m from fun hn he => hn (by subst he; rfl))
        obtain ⟨b1, o1, rfl, _, g0, g1⟩ := (h.ext RPair.mono hx).pair hlt
        obtain ⟨b2, o2, rfl, _, p0, p1⟩ := (g.ext RPair.mono hx).pair hmt
        generalize l[j] = x at *
        generalize m[j] = y at *
        clear hx hlt hmt
        obtain ⟨x1, x2⟩ := x
        obtain ⟨y1, y2⟩ := y
        simp only at g0 g1 p0 p1
        by_cases he : x1 = y1
        · subst he
          by_cases hf : x2 = y2
          · subst hf
            go_upto_region 6 with fail
            go_quiet (fail)
            go_wp2_with fail
            go_roundw
            case rel => exact ⟨j + 1, HLT.out, by go_num, by rw [← HT1.out, ← HT2.out, HT.out], HX.out.drewN _⟩
            case measure => have := HLT.out; simp [intOf]; omega
          · have hne' : (x2 == y2) = false := by simpa using hf
            have HD := hid (show (⟨x1, x2⟩ : Dot) ≠ ⟨x1, y2⟩ from fun e => hf (by injection e))
            clear hf
            go_upto_region 6 with fail
            go_quiet (fail)
            go_wp2_with fail
            go_ret
            exact ⟨ret_bool (decide_eq_false (HNE.out HD.out)).symm, HX.out.drewN _⟩
        · have hne' : (x1 == y1) = false := by simpa using he
          have HD := hid (show (⟨x1, x2⟩ : Dot) ≠ ⟨y1, y2⟩ from fun e => he (by injection e))
          clear he
          go_upto_region 6 with fail
          go_quiet (fail)
          go_wp2_with fail
          go_ret
          exact ⟨ret_bool (decide_eq_false (HNE.out HD.out)).symm, HX.out.drewN _⟩
      · obtain rfl : j = l.length := by omega
        have HE := hid (show l = m by
          have h1 := HT.out
          rwa [List.take_length, HL.out, List.take_length] at h1)
        clear hlt hj
        go_wp2_with fail
        go_ret
        exact ⟨ret_bool (by rw [HE.out]; simp), hx⟩
  · have hne : ((l.length : Int) != (m.length : Int)) = true := by simp; omega
    have HE := hid (show l ≠ m from fun e => hlen (by rw [e]))
    clear hlen
    go_enter Try.func96, Try.ntmps96
    go_wp2_with fail
    go_ret
    exact ⟨ret_bool (decide_eq_false HE.out).symm, Ext.refl w⟩


theorem ref_SameKnow (B1 B2 : Nat) (k l : Know) (Av : Option Addr) (cv : Nat) (Am : Option Addr) (cm : Nat) (Bv : Option Addr) (dv : Nat) (Bm : Option Addr) (dm : Nat) (w : World) (h : InK B1 w Av Am k) (g : InK B2 w Bv Bm l) :
    Calls Try.prog 30 #[.agg #[.slice Av k.vec.length cv, .slice Am k.more.length cm], .agg #[.slice Bv l.vec.length dv, .slice Bm l.more.length dm]] w fun e w' => e = .returned (.bool (decide (k = l))) ∧ Ext w w' := by
  have hx := ((Ext.refl w).alloc (.cells #[.slice Av k.vec.length cv, .slice Am k.more.length cm] 44)).alloc (.cells #[.slice Bv l.vec.length dv, .slice Bm l.more.length dm] 44)
  have HF := hid (show decide (k = l) = (decide (k.vec = l.vec) && decide (k.more = l.more)) by
    rw [← Bool.decide_and]
    congr 1
    obtain ⟨a, b⟩ := k
    obtain ⟨c, d⟩ := l
    simp)
  have HC := hid (fun w' (a : SlInts B1 w' Av k.vec) (b : SlInts B2 w' Bv l.vec) => equal_ints B1 B2 Av cv Bv dv k.vec l.vec w' a b h.lv)
  generalize hb : decide (k.vec = l.vec) = b at *
  clear hb
  cases b
  · go_enter Try.func30, Try.ntmps30
    go_wp2_with fail
    refine (HC.out _ (h.ext hx).sv (g.ext hx).sv).mono ?_
    rintro e w1 ⟨rfl, hx1⟩
    go_wp2_with fail
    go_ret
    exact ⟨ret_bool HF.out.symm, hx.trans hx1⟩
  · go_enter Try.func30, Try.ntmps30
    go_wp2_with fail
    refine (HC.out _ (h.ext hx).sv (g.ext hx).sv).mono ?_
    rintro e w1 ⟨rfl, hx1⟩
    have q0 : w1.cell? ⟨w.heap.size, 1, none⟩ = some (.slice Am k.more.length cm) := hx1.cell (by go_simp)
    have q1 : w1.cell? ⟨w.heap.size + 1, 1, none⟩ = some (.slice Bm l.more.length dm) := hx1.cell (by go_simp)
    go_wp2_with fail
    refine (equal_dots B1 B2 Am cm Bm dm k.more l.more w1 (h.ext (hx.trans hx1)).sm (g.ext (hx.trans hx1)).sm h.lm).mono ?_
    rintro e w2 ⟨rfl, hx2⟩
    generalize decide (k.more = l.more) = bb at *
    go_wp2_with fail
    go_ret
    exact ⟨ret_bool HF.out.symm, (hx.trans hx1).trans hx2⟩

theorem ref_Dot (d : Dot) (w : World) : Calls Try.prog 38 #[.agg #[.int .i64 d.site, .int .i64 d.count]] w fun e w' => e = .returned (.bool (dotOk d)) ∧ Ext w w' := by
  have hx := (Ext.refl w).alloc (.cells #[.int .i64 d.site, .int .i64 d.count] 38)
  have HF := hid (show dotOk d = (betw d.site 0 4 && betw d.count 1 1000) by
    rw [Bool.eq_iff_iff, dotOk_iff, Bool.and_eq_true]
    simp only [betw, decide_eq_true_eq]
    omega)
  have HC := hid (fun w' => ref_within d.site 0 4 w')
  generalize betw d.site 0 4 = b at *
  cases b
  · go_enter Try.func38, Try.ntmps38
    go_wp2_with fail
    refine (HC.out _).mono ?_
    rintro e w1 ⟨rfl, rfl⟩
    go_wp2_with fail
    go_ret
    exact ⟨ret_bool HF.out.symm, hx⟩
  · go_enter Try.func38, Try.ntmps38
    go_wp2_with fail
    refine (HC.out _).mono ?_
    rintro e w1 ⟨rfl, rfl⟩
    go_wp2_with fail
    refine (ref_within d.count 1 1000 _).mono ?_
    rintro e w2 ⟨rfl, rfl⟩
    generalize betw d.count 1 1000 = bb at *
    go_wp2_with fail
    go_ret
    exact ⟨ret_bool HF.out.symm, hx⟩

end Go.Proofs.Ytmedmfjhpabfdaa
