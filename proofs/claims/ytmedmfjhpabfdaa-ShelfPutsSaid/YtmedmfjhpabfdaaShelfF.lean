/- The walks of reedref.SameVersion, SameShelf, Get, and of shelf.Get's closure. -/
import Derived.Test.YtmedmfjhpabfdaaShelfE
namespace Go.Proofs.Ytmedmfjhpabfdaa
open Go Go.RowKit

set_option maxHeartbeats 1000000 in
theorem ref_SameVersion (B1 B2 : Nat) (v : Version) (Aa : Option Addr) (ca : Nat) (Ma : Option Addr) (da : Nat) (Ab : Option Addr) (cb : Nat) (Mb : Option Addr) (db : Nat) (w : World) (ha : InV B1 w Aa ca Ma da v) (hb : InV B2 w Ab cb Mb db v) :
    Calls Try.prog 89 #[.agg #[.string v.id, .int .i64 v.dot.site, .int .i64 v.dot.count, .int .i64 v.pt.tags, .int .i64 v.pt.num, .int .i64 v.body, .slice Aa v.past.vec.length ca, .slice Ma v.past.more.length da], .agg #[.string v.id, .int .i64 v.dot.site, .int .i64 v.dot.count, .int .i64 v.pt.tags, .int .i64 v.pt.num, .int .i64 v.body, .slice Ab v.past.vec.length cb, .slice Mb v.past.more.length db]] w fun e w' => e = .returned (.bool true) ∧ Ext w w' := by
  have hx0 := ((Ext.refl w).alloc (.cells #[.string v.id, .int .i64 v.dot.site, .int .i64 v.dot.count, .int .i64 v.pt.tags, .int .i64 v.pt.num, .int .i64 v.body, .slice Aa v.past.vec.length ca, .slice Ma v.past.more.length da] 46)).alloc (.cells #[.string v.id, .int .i64 v.dot.site, .int .i64 v.dot.count, .int .i64 v.pt.tags, .int .i64 v.pt.num, .int .i64 v.body, .slice Ab v.past.vec.length cb, .slice Mb v.past.more.length db] 46)
  have HA := hid ha
  have HB := hid hb
  clear ha hb
  have h1 : (v.id.toList == v.id.toList) = true := by simp
  go_enter Try.func89, Try.ntmps89
  go_wp2_with fail
  refine (ref_SameKnow B1 B2 v.past v.past Aa ca Ma da Ab cb Mb db _ (HA.out.k.ext hx0) (HB.out.k.ext hx0)).mono ?_
  rintro e w1 ⟨rfl, hx1⟩
  have hd : decide (v.past = v.past) = true := decide_eq_true rfl
  go_wp2_with fail
  go_ret
  exact ⟨rfl, hx0.trans hx1⟩

set_option maxRecDepth 100000 in
set_option maxHeartbeats 1000000 in
theorem equal_vers (B1 B2 : Nat) (A1 : Option Addr) (c1 : Nat) (A2 : Option Addr) (c2 : Nat) (l : List Version) (w : World) (hl : l.length ≤ maxLen) (h : SlVers B1 w A1 l) (g : SlVers B2 w A2 l) :
    Calls Try.prog 88 #[.slice A1 l.length c1, .slice A2 l.length c2, .func (.func 89) #[] #[]] w fun e w' => e = .returned (.bool true) ∧ Ext w w' := by
  unfold maxLen at hl
  have hll : (l.length : Int) ≤ 9223372036854775807 := by omega
  go_enter Try.func88, Try.ntmps88
  go_wp2_with fail
  go_loopw [17] (fun i wr => ∃ k : Nat, k ≤ l.length ∧ i = .int .i64 k ∧ Ext w wr) (fun i _ => l.length - (intOf i).toNat)
  case atStart => exact ⟨0, Nat.zero_le _, rfl, Ext.refl _⟩
  case round =>
    obtain ⟨k, hk, rfl, hx⟩ := hrel
    by_cases hlt : k < l.length
    · obtain ⟨b, off, Av, cv, Am, cm, rfl, hb, hr, hI⟩ := (h.ext RVer.monoE hx).ver hlt
      obtain ⟨b', off', Bv, dv, Bm, dm, rfl, hb', hr', hJ⟩ := (g.ext RVer.monoE hx).ver hlt
      have HI := hid hI
      have HJ := hid hJ
      have hxl := (Ext.refl wr).alloc (.cells #[.string l[k].id, .int .i64 l[k].dot.site, .int .i64 l[k].dot.count, .int .i64 l[k].pt.tags, .int .i64 l[k].pt.num, .int .i64 l[k].body, .slice Av l[k].past.vec.length cv, .slice Am l[k].past.more.length cm] 46)
      have hr2 := rangeAt_ext hxl hr'
      have hxm := hxl.alloc (.cells #[.string l[k].id, .int .i64 l[k].dot.site, .int .i64 l[k].dot.count, .int .i64 l[k].pt.tags, .int .i64 l[k].pt.num, .int .i64 l[k].body, .slice Bv l[k].past.vec.length dv, .slice Bm l[k].past.more.length dm] 46)
      have hsz : ([.string l[k].id, .int .i64 l[k].dot.site, .int .i64 l[k].dot.count, .int .i64 l[k].pt.tags, .int .i64 l[k].pt.num, .int .i64 l[k].body, .slice Av l[k].past.vec.length cv, .slice Am l[k].past.more.length cm] : List Value).length = 8 := rfl
      have hsz2 : ([.string l[k].id, .int .i64 l[k].dot.site, .int .i64 l[k].dot.count, .int .i64 l[k].pt.tags, .int .i64 l[k].pt.num, .int .i64 l[k].body, .slice Bv l[k].past.vec.length dv, .slice Bm l[k].past.more.length dm] : List Value).length = 8 := rfl
      clear hI hJ hr'
      go_wp2_with (first | (with_reducible refine wpList_loadL (o := ⟨some 21, _, _, _, _, _⟩) ri_ver _ rfl rfl rfl hr hsz ?_) | (with_reducible refine wpList_loadL (o := ⟨some 25, _, _, _, _, _⟩) ri_ver _ rfl rfl rfl hr2 hsz2 ?_))
      clear hr hr2 hsz hsz2
      refine (ref_SameVersion B1 B2 l[k] Av cv Am cm Bv dv Bm dm _ (HI.out.ext hxm) (HJ.out.ext hxm)).mono ?_
      rintro e w1 ⟨rfl, hx1⟩
      have hxx := hx.trans (hxm.trans hx1)
      clear hx hxm hxl hx1
      go_wp2_with fail
      go_roundw
      case rel => exact ⟨k + 1, hlt, by go_num, hxx⟩
      case measure => simp [intOf]; omega
    · obtain rfl : k = l.length := by omega
      go_wp2_with fail
      go_ret
      exact ⟨rfl, hx⟩

theorem ref_SameShelf (B1 B2 : Nat) (A1 : Option Addr) (c1 : Nat) (A2 : Option Addr) (c2 : Nat) (l : List Version) (w : World) (hl : l.length ≤ maxLen) (h : SlVers B1 w A1 l) (g : SlVers B2 w A2 l) :
    Calls Try.prog 22 #[.slice A1 l.length c1, .slice A2 l.length c2] w fun e w' => e = .returned (.bool true) ∧ Ext w w' := by
  go_enter Try.func22, Try.ntmps22
  go_wp2_with fail
  refine (equal_vers B1 B2 A1 c1 A2 c2 l _ hl h g).mono ?_
  rintro e w1 ⟨rfl, hx⟩
  go_wp2_with fail
  go_ret
  exact ⟨rfl, hx⟩

end Go.Proofs.Ytmedmfjhpabfdaa
