/- The walks of strings.Compare, shelf.cmp, shelf.over, reedref.ahead. -/
import Derived.Test.YtmedmfjhpabfdaaShelfB
import Derived.Lib.Strings
import Derived.Lib.Bytealg
import Derived.Lib.Walk
namespace Go.Proofs.Ytmedmfjhpabfdaa
open Go Go.RowKit

theorem bytealg_Compare (a b : ByteArray) (w : World) :
    Calls Try.prog 160 #[.string a, .string b] w fun e w' => e = .returned (.int .i64 (cmpS a b)) ∧ w' = w := by
  have hcf : ∀ w : World, (callFunc 189 #[.string a, .string b]).run Try.prog w = .ok (.value (.int .i64 (cmpS a b))) w := fun w => by
    rw [run_callFunc_extern Try.func189 (by kernel_rfl) (by kernel_rfl) (by kernel_rfl) (e := Extern.BytealgCompare.compare) (by kernel_rfl), Lib.run_compareString]
    rfl
  go_enter Try.func160, Try.ntmps160
  go_wp2_with fail
  go_ret
  exact ⟨rfl, rfl⟩
theorem strings_Compare (a b : ByteArray) (w : World) :
    Calls Try.prog 127 #[.string a, .string b] w fun e w' => e = .returned (.int .i64 (cmpS a b)) ∧ w' = w := by
  go_enter Try.func127, Try.ntmps127
  go_wp2_with fail
  refine (bytealg_Compare a b _).mono ?_
  rintro e w1 ⟨rfl, rfl⟩
  go_wp2_with fail
  go_ret
  exact ⟨rfl, rfl⟩
theorem cmp_id {a b : Version} (h : cmpS a.id b.id ≠ 0) : verCmp a b = cmpS a.id b.id := by unfold verCmp; rw [if_pos h]
theorem cmp_site {a b : Version} (h : cmpS a.id b.id = 0) (h2 : a.dot.site ≠ b.dot.site) : verCmp a b = a.dot.site - b.dot.site := by unfold verCmp; rw [if_neg (by simp [h]), if_pos h2]
theorem cmp_count {a b : Version} (h : cmpS a.id b.id = 0) (h2 : a.dot.site = b.dot.site) : verCmp a b = a.dot.count - b.dot.count := by unfold verCmp; rw [if_neg (by simp [h]), if_neg (by simp [h2])]
theorem lt_id {a b : Version} (h : sEq a.id b.id = false) : verLt a b = Op.bytesLess a.id.toList b.id.toList := by unfold verLt; rw [h]; rfl
theorem lt_site {a b : Version} (h : sEq a.id b.id = true) (h2 : a.dot.site ≠ b.dot.site) : verLt a b = decide (a.dot.site < b.dot.site) := by unfold verLt; rw [if_pos h, if_neg h2]
theorem lt_count {a b : Version} (h : sEq a.id b.id = true) (h2 : a.dot.site = b.dot.site) : verLt a b = decide (a.dot.count < b.dot.count) := by unfold verLt; rw [if_pos h, if_pos h2]

set_option maxHeartbeats 1000000 in
theorem shelf_cmp (a b : Version) (Aa : Option Addr) (ca : Nat) (Ma : Option Addr) (da : Nat) (Ab : Option Addr) (cb : Nat) (Mb : Option Addr) (db : Nat) (w : World) (ha : dotOk a.dot = true) (hb : dotOk b.dot = true) :
    Calls Try.prog 71 #[.agg #[.string a.id, .int .i64 a.dot.site, .int .i64 a.dot.count, .int .i64 a.pt.tags, .int .i64 a.pt.num, .int .i64 a.body, .slice Aa a.past.vec.length ca, .slice Ma a.past.more.length da], .agg #[.string b.id, .int .i64 b.dot.site, .int .i64 b.dot.count, .int .i64 b.pt.tags, .int .i64 b.pt.num, .int .i64 b.body, .slice Ab b.past.vec.length cb, .slice Mb b.past.more.length db]] w fun e w' => e = .returned (.int .i64 (verCmp a b)) ∧ Ext w w' := by
  obtain ⟨a1, a2, a3, a4⟩ := dotOk_iff.1 ha
  obtain ⟨b1, b2, b3, b4⟩ := dotOk_iff.1 hb
  clear ha hb
  have hx0 := ((Ext.refl w).alloc (.cells #[.string a.id, .int .i64 a.dot.site, .int .i64 a.dot.count, .int .i64 a.pt.tags, .int .i64 a.pt.num, .int .i64 a.body, .slice Aa a.past.vec.length ca, .slice Ma a.past.more.length da] 46)).alloc (.cells #[.string b.id, .int .i64 b.dot.site, .int .i64 b.dot.count, .int .i64 b.pt.tags, .int .i64 b.pt.num, .int .i64 b.body, .slice Ab b.past.vec.length cb, .slice Mb b.past.more.length db] 46)
  have H1 := hid (cmp_id (a := a) (b := b))
  have H2 := hid (cmp_site (a := a) (b := b))
  have H3 := hid (cmp_count (a := a) (b := b))
  go_enter Try.func71, Try.ntmps71
  go_wp2_with fail
  refine (strings_Compare a.id b.id _).mono ?_
  rintro e w1 ⟨rfl, rfl⟩
  by_cases h1 : cmpS a.id b.id = 0
  · rw [h1]
    have E1 := hid h1
    clear h1
    by_cases h2 : a.dot.site = b.dot.site
    · have hne : (a.dot.site != b.dot.site) = false := by simpa using h2
      have HE := hid (H3.out E1.out h2)
      clear h2
      go_wp2_with fail
      go_ret
      exact ⟨ret_int (by rw [HE.out]), hx0⟩
    · have hne : (a.dot.site != b.dot.site) = true := by simpa using h2
      have HE := hid (H2.out E1.out h2)
      clear h2
      go_wp2_with fail
      go_ret
      exact ⟨ret_int (by rw [HE.out]), hx0⟩
  · have hne : (cmpS a.id b.id != 0) = true := by simpa using h1
    have HE := hid (H1.out h1)
    clear h1
    go_wp2_with fail
    go_ret
    exact ⟨ret_int HE.out.symm, hx0⟩

set_option maxHeartbeats 1000000 in
theorem ref_ahead (a b : Version) (Aa : Option Addr) (ca : Nat) (Ma : Option Addr) (da : Nat) (Ab : Option Addr) (cb : Nat) (Mb : Option Addr) (db : Nat) (w : World) :
    Calls Try.prog 82 #[.agg #[.string a.id, .int .i64 a.dot.site, .int .i64 a.dot.count, .int .i64 a.pt.tags, .int .i64 a.pt.num, .int .i64 a.body, .slice Aa a.past.vec.length ca, .slice Ma a.past.more.length da], .agg #[.string b.id, .int .i64 b.dot.site, .int .i64 b.dot.count, .int .i64 b.pt.tags, .int .i64 b.pt.num, .int .i64 b.body, .slice Ab b.past.vec.length cb, .slice Mb b.past.more.length db]] w fun e w' => e = .returned (.bool (verLt a b)) ∧ Ext w w' := by
  have hx0 := ((Ext.refl w).alloc (.cells #[.string a.id, .int .i64 a.dot.site, .int .i64 a.dot.count, .int .i64 a.pt.tags, .int .i64 a.pt.num, .int .i64 a.body, .slice Aa a.past.vec.length ca, .slice Ma a.past.more.length da] 46)).alloc (.cells #[.string b.id, .int .i64 b.dot.site, .int .i64 b.dot.count, .int .i64 b.pt.tags, .int .i64 b.pt.num, .int .i64 b.body, .slice Ab b.past.vec.length cb, .slice Mb b.past.more.length db] 46)
  have H1 := hid (lt_id (a := a) (b := b))
  have H2 := hid (lt_site (a := a) (b := b))
  have H3 := hid (lt_count (a := a) (b := b))
  cases h1 : sEq a.id b.id
  · have h1' : (a.id.toList == b.id.toList) = false := h1
    have HE := hid (H1.out h1)
    clear h1
    go_enter Try.func82, Try.ntmps82
    go_wp2_with fail
    go_ret
    exact ⟨ret_bool HE.out.symm, hx0⟩
  · have h1' : (a.id.toList == b.id.toList) = true := h1
    have E1 := hid h1
    clear h1
    by_cases h2 : a.dot.site = b.dot.site
    · have hne : (a.dot.site != b.dot.site) = false := by simpa using h2
      have HE := hid (H3.out E1.out h2)
      clear h2
      go_enter Try.func82, Try.ntmps82
      go_wp2_with fail
      go_ret
      exact ⟨ret_bool HE.out.symm, hx0⟩
    · have hne : (a.dot.site != b.dot.site) = true := by simpa using h2
      have HE := hid (H2.out E1.out h2)
      clear h2
      go_enter Try.func82, Try.ntmps82
      go_wp2_with fail
      go_ret
      exact ⟨ret_bool HE.out.symm, hx0⟩

set_option maxHeartbeats 1000000 in
theorem shelf_over (B : Nat) (a b : Version) (Aa : Option Addr) (ca : Nat) (Ma : Option Addr) (da : Nat) (Ab : Option Addr) (cb : Nat) (Mb : Option Addr) (db : Nat) (w : World) (hi : InV B w Aa ca Ma da a) (hk : KnowOk a.past) (hb : dotOk b.dot = true) :
    Calls Try.prog 74 #[.agg #[.string a.id, .int .i64 a.dot.site, .int .i64 a.dot.count, .int .i64 a.pt.tags, .int .i64 a.pt.num, .int .i64 a.body, .slice Aa a.past.vec.length ca, .slice Ma a.past.more.length da], .agg #[.string b.id, .int .i64 b.dot.site, .int .i64 b.dot.count, .int .i64 b.pt.tags, .int .i64 b.pt.num, .int .i64 b.body, .slice Ab b.past.vec.length cb, .slice Mb b.past.more.length db]] w fun e w' => e = .returned (.bool (over a b)) ∧ Ext w w' := by
  have hx0 := ((Ext.refl w).alloc (.cells #[.string a.id, .int .i64 a.dot.site, .int .i64 a.dot.count, .int .i64 a.pt.tags, .int .i64 a.pt.num, .int .i64 a.body, .slice Aa a.past.vec.length ca, .slice Ma a.past.more.length da] 46)).alloc (.cells #[.string b.id, .int .i64 b.dot.site, .int .i64 b.dot.count, .int .i64 b.pt.tags, .int .i64 b.pt.num, .int .i64 b.body, .slice Ab b.past.vec.length cb, .slice Mb b.past.more.length db] 46)
  have HI := hid hi
  have HK := hid hk
  have HB := hid hb
  have HO := hid (show over a b = (sEq a.id b.id && inK a.past b.dot) from rfl)
  clear hi hk hb
  cases h1 : sEq a.id b.id
  · have h1' : (a.id.toList == b.id.toList) = false := h1
    rw [h1] at HO
    clear h1
    go_enter Try.func74, Try.ntmps74
    go_wp2_with fail
    go_ret
    exact ⟨ret_bool HO.out.symm, hx0⟩
  · have h1' : (a.id.toList == b.id.toList) = true := h1
    rw [h1] at HO
    clear h1
    go_enter Try.func74, Try.ntmps74
    go_wp2_with fail
    refine (know_In B a.past Aa ca Ma da b.dot _ (HI.out.k.ext hx0) HK.out HB.out).mono ?_
    rintro e w1 ⟨rfl, hx1⟩
    go_wp2_with fail
    go_ret
    exact ⟨ret_bool HO.out.symm, hx0.trans hx1⟩
end Go.Proofs.Ytmedmfjhpabfdaa
