/- The walks of reedref.SameVersion, SameShelf, Get, and of shelf.Get's closure. -/
import Derived.Test.YtmedmfjhpabfdaaShelfE
namespace Go.Proofs.Ytmedmfjhpabfdaa
open Go Go.RowKit

set_option maxHeartbeats 1000000 in
theorem ref_SameVersion (B1 B2 : Nat) (v : Version) (Aa : Option Addr) (ca : Nat) (Ma : Option Addr) (da : Nat) (Ab : Option Addr) (cb : Nat) (Mb : Option Addr) (db : Nat) (w : World) (ha : InV B1 w Aa ca Ma da v) (hb : InV B2 w Ab cb Mb db v) :
    Calls Try.prog 89 #[.agg #[.string v.id, .int .i64 v.dot.site, .int .i64 v.dot.count, .int .i64 v.pt.tags, .int .i64 v.pt.num, .int .i64 v.body, .slice Aa v.past.vec.length ca, .slice Ma v.past.more.length da], .agg #[.string v.id, .int .i64 v.dot.site, .int .i64 v.dot.count, .int .i64 v.pt.tags, .int .i64 v.pt.num, .int .i64 v.body, .slice Ab v.past.vec.length cb, .slice Mb v.past.more.length db]] w fun e w' => e = .returned (.bool true) ∧ Ext w w' := by
  have hx0 := ((Ext.refl w).alloc (.cells #[.string v.id, .int .i64 v.dot.site, .int .i64 v.dot.count, .int .i64 v.pt.tags, .int .i64 v.pt.num, .int .i64 v.body, .slice Aa v.past.vec.length ca, .slice Ma v.past.more.length da] 46)).alloc (.cells #[.string v.id, .int .i64 v.dot.site, .int .i64 v.dot.count, .int .i64 v.pt.tags, .int .i64 v.pt.num, .int .i64 v.body, .slice Ab v.past.vec.length cb, .slice Mb v.past.more.length db] 46)
  have HA := hid ha
  have HB := hid hb
  clear ha hb
  have h1 : (v.id.toList == v.id.toList) = true := by simp
  go_enter Try.func89, Try.ntmps89
  go_wp2_with fail
  refine (ref_SameKnow B1 B2 v.past v.past Aa ca Ma da Ab cb Mb db _ (HA.out.k.ext hx0) (HB.out.k.ext hx0)).mono ?_
  rintro e w1 ⟨rfl, hx1⟩
  have hd : decide (v.past = v.past) = true := decide_eq_true rfl
  go_wp2_with fail
  go_ret
  exact ⟨rfl, hx0.trans hx1⟩

set_option maxRecDepth 100000 in
set_option maxHeartbeats 1000000 in
theorem equal_vers (B1 B2 : Nat) (A1 : Option Addr) (c1 : Nat) (A2 : Option Addr) (c2 : Nat) (l : List Version) (w : World) (hl : l.length ≤ maxLen) (h : SlVers B1 w A1 l) (g : SlVers B2 w A2 l) :
    Calls Try.prog 88 #[.slice A1 l.length c1, .slice A2 l.length c2, .func (.func 89) #[] #[]] w fun e w' => e = .returned (.bool true) ∧ Ext w w' := by
  unfold maxLen at hl
  have hll : (l.length : Int) ≤ 9223372036854775807 := by omega
  go_enter Try.func88, Try.ntmps88
  go_wp2_with fail
  go_loopw [17] (fun i wr => ∃ k : Nat, k ≤ l.length ∧ i = .int .i64 k ∧ Ext w wr) (fun i _ => l.length - (intOf i).toNat)
  case atStart => exact ⟨0, Nat.zero_le _, rfl, Ext.refl _⟩
  case round =>
    obtain ⟨k, hk, rfl, hx⟩ := hrel
    by_cases hlt : k < l.length
    · obtain ⟨b, off, Av, cv, Am, cm, rfl, hb, hr, hI⟩ := (h.ext RVer.monoE hx).ver hlt
      obtain ⟨b', off', Bv, dv, Bm, dm, rfl, hb', hr', hJ⟩ := (g.ext RVer.monoE hx).ver hlt
      have HI := hid hI
      have HJ := hid hJ
      have hxl := (Ext.refl wr).alloc (.cells #[.string l[k].id, .int .i64 l[k].dot.site, .int .i64 l[k].dot.count, .int .i64 l[k].pt.tags, .int .i64 l[k].pt.num, .int .i64 l[k].body, .slice Av l[k].past.vec.length cv, .slice Am l[k].past.more.length cm] 46)
      have hr2 := rangeAt_ext hxl hr'
      have hxm := hxl.alloc (.cells #[.string l[k].id, .int .i64 l[k].dot.site, .int .i64 l[k].dot.count, .int .i64 l[k].pt.tags, .int .i64 l[k].pt.num, .int .i64 l[k].body, .slice Bv l[k].past.vec.length dv, .slice Bm l[k].past.more.length dm] 46)
      have hsz : ([.string l[k].id, .int .i64 l[k].dot.site, .int .i64 l[k].dot.count, .int .i64 l[k].pt.tags, .int .i64 l[k].pt.num, .int .i64 l[k].body, .slice Av l[k].past.vec.length cv, .slice Am l[k].past.more.length cm] : List Value).length = 8 := rfl
      have hsz2 : ([.string l[k].id, .int .i64 l[k].dot.site, .int .i64 l[k].dot.count, .int .i64 l[k].pt.tags, .int .i64 l[k].pt.num, .int .i64 l[k].body, .slice Bv l[k].past.vec.length dv, .slice Bm l[k].past.more.length dm] : List Value).length = 8 := rfl
      clear hI hJ hr'
      go_wp2_with (first | (with_reducible refine wpList_loadL (o := ⟨some 21, _, _, _, _, _⟩) ri_ver _ rfl rfl rfl hr hsz ?_) | (with_reducible refine wpList_loadL (o := ⟨some 25, _, _, _, _, _⟩) ri_ver _ rfl rfl rfl hr2 hsz2 ?_))
      clear hr hr2 hsz hsz2
      refine (ref_SameVersion B1 B2 l[k] Av cv Am cm Bv dv Bm dm _ (HI.out.ext hxm) (HJ.out.ext hxm)).mono ?_
      rintro e w1 ⟨rfl, hx1⟩
      have hxx := hx.trans (hxm.trans hx1)
      clear hx hxm hxl hx1
      go_wp2_with fail
      go_roundw
      case rel => exact ⟨k + 1, hlt, by go_num, hxx⟩
      case measure => simp [intOf]; omega
    · obtain rfl : k = l.length := by omega
      go_wp2_with fail
      go_ret
      exact ⟨rfl, hx⟩

theorem ref_SameShelf (B1 B2 : Nat) (A1 : Option Addr) (c1 : Nat) (A2 : Option Addr) (c2 : Nat) (l : List Version) (w : World) (hl : l.length ≤ maxLen) (h : SlVers B1 w A1 l) (g : SlVers B2 w A2 l) :
    Calls Try.prog 22 #[.slice A1 l.length c1, .slice A2 l.length c2] w fun e w' => e = .returned (.bool true) ∧ Ext w w' := by
  go_enter Try.func22, Try.ntmps22
  go_wp2_with fail
  refine (equal_vers B1 B2 A1 c1 A2 c2 l _ hl h g).mono ?_
  rintro e w1 ⟨rfl, hx⟩
  go_wp2_with fail
  go_ret
  exact ⟨rfl, hx⟩

set_option maxHeartbeats 1000000 in
theorem get_1 (v : Version) (Av : Option Addr) (cv : Nat) (Am : Option Addr) (cm : Nat) (s : ByteArray) (r : Nat) (w : World) (hc : w.cell? ⟨r, 0, none⟩ = some (.string s)) :
    Calls Try.prog 90 #[.agg #[.string v.id, .int .i64 v.dot.site, .int .i64 v.dot.count, .int .i64 v.pt.tags, .int .i64 v.pt.num, .int .i64 v.body, .slice Av v.past.vec.length cv, .slice Am v.past.more.length cm], .pointer (some ⟨r, 0, none⟩)] w fun e w' => e = .returned (.bool (!sEq v.id s)) ∧ Ext w w' := by
  have hx0 := (Ext.refl w).alloc (.cells #[.string v.id, .int .i64 v.dot.site, .int .i64 v.dot.count, .int .i64 v.pt.tags, .int .i64 v.pt.num, .int .i64 v.body, .slice Av v.past.vec.length cv, .slice Am v.past.more.length cm] 46)
  have hb : r < w.heap.size := World.block_lt_of_cell? _ _ hc
  cases h1 : sEq v.id s
  · have h1' : (v.id.toList == s.toList) = false := h1
    clear h1
    go_enter Try.func90, Try.ntmps90
    go_wp2_with fail
    go_ret
    exact ⟨rfl, hx0⟩
  · have h1' : (v.id.toList == s.toList) = true := h1
    clear h1
    go_enter Try.func90, Try.ntmps90
    go_wp2_with fail
    go_ret
    exact ⟨rfl, hx0⟩

set_option maxRecDepth 100000 in
set_option maxHeartbeats 2000000 in
theorem ref_Get (B : Nat) (A : Option Addr) (c : Nat) (l : List Version) (s : ByteArray) (w : World) (hB : B ≤ w.heap.size) (hl : l.length ≤ 10000) (h : SlVers B w A l) :
    Calls Try.prog 32 #[.slice A l.length c, .string s] w fun e w' => ∃ v, e = .returned v ∧ Own (RVer B) 8 46 w' w.heap.size v (getL l s) ∧ Ext w w' := by
  have hll : (l.length : Int) ≤ 10000 := by omega
  go_enter Try.func32, Try.ntmps32
  go_wp2_with fail
  go_loopw [5, 10] (fun o i wr => ∃ k : Nat, k ≤ l.length ∧ i = .int .i64 k ∧ Own (RVer B) 8 46 wr w.heap.size o (getL (l.take k) s) ∧ Ext w wr) (fun _ i _ => l.length - (intOf i).toNat)
  case atStart => exact ⟨0, Nat.zero_le _, rfl, Own.nil, Ext.refl _⟩
  case round =>
    obtain ⟨k, hk, rfl, ho, hx⟩ := hrel
    by_cases hlt : k < l.length
    · obtain ⟨b, off, Av, cv, Am, cm, rfl, hb, hr, hI⟩ := (h.ext RVer.monoE hx).ver hlt
      have HI := hid hI
      clear hI
      have hsz : ([.string l[k].id, .int .i64 l[k].dot.site, .int .i64 l[k].dot.count, .int .i64 l[k].pt.tags, .int .i64 l[k].pt.num, .int .i64 l[k].body, .slice Av l[k].past.vec.length cv, .slice Am l[k].past.more.length cm] : List Value).length = 8 := rfl
      have hxl := (Ext.refl wr).alloc (.cells #[.string l[k].id, .int .i64 l[k].dot.site, .int .i64 l[k].dot.count, .int .i64 l[k].pt.tags, .int .i64 l[k].pt.num, .int .i64 l[k].body, .slice Av l[k].past.vec.length cv, .slice Am l[k].past.more.length cm] 46)
      have HLen := hid (show (getL (l.take k) s).length ≤ 10000 by have := List.length_filter_le (fun v => sEq v.id s) (l.take k); have h2 := List.length_take_le k l; unfold getL; omega)
      cases h1 : sEq l[k].id s
      · have h1' : (l[k].id.toList == s.toList) = false := h1
        have HG := hid (getL_no l s k hlt h1)
        clear h1
        go_wp2_with (with_reducible refine wpList_loadL (o := ⟨some 13, _, _, _, _, _⟩) ri_ver _ rfl rfl rfl hr hsz ?_)
        go_roundw
        case rel => exact ⟨k + 1, hlt, by go_num, by rw [HG.out]; exact ho.ext RVer.monoE hxl, hx.trans hxl⟩
        case measure => simp [intOf]; omega
      · have h1' : (l[k].id.toList == s.toList) = true := h1
        have HG := hid (getL_yes l s k hlt h1)
        clear h1
        have hone : SlVers B ((wr.alloc (.cells #[.string l[k].id, .int .i64 l[k].dot.site, .int .i64 l[k].dot.count, .int .i64 l[k].pt.tags, .int .i64 l[k].pt.num, .int .i64 l[k].body, .slice Av l[k].past.vec.length cv, .slice Am l[k].past.more.length cm] 46)).alloc (.cells #[.string l[k].id, .int .i64 l[k].dot.site, .int .i64 l[k].dot.count, .int .i64 l[k].pt.tags, .int .i64 l[k].pt.num, .int .i64 l[k].body, .slice Av l[k].past.vec.length cv, .slice Am l[k].past.more.length cm] 46)) (some ⟨wr.heap.size + 1, 0, none⟩) [l[k]] := by
          have := Sl.one (R := RVer B) (B := B) (e := 46) (sz := 8) (w := wr.alloc (.cells #[.string l[k].id, .int .i64 l[k].dot.site, .int .i64 l[k].dot.count, .int .i64 l[k].pt.tags, .int .i64 l[k].pt.num, .int .i64 l[k].body, .slice Av l[k].past.vec.length cv, .slice Am l[k].past.more.length cm] 46)) (cs := [.string l[k].id, .int .i64 l[k].dot.site, .int .i64 l[k].dot.count, .int .i64 l[k].pt.tags, .int .i64 l[k].pt.num, .int .i64 l[k].body, .slice Av l[k].past.vec.length cv, .slice Am l[k].past.more.length cm]) (y := l[k]) rfl rfl (HI.out.ext (hxl.alloc _)).rver
          simpa using this
        have hxm := hxl.alloc (.cells #[.string l[k].id, .int .i64 l[k].dot.site, .int .i64 l[k].dot.count, .int .i64 l[k].pt.tags, .int .i64 l[k].pt.num, .int .i64 l[k].body, .slice Av l[k].past.vec.length cv, .slice Am l[k].past.more.length cm] 46)
        have ho2 := ho.ext RVer.monoE hxm
        have hxw := hx.trans hxm
        clear ho hx hxl hxm
        go_wp2_with (first | (with_reducible refine wpList_loadL (o := ⟨some 13, _, _, _, _, _⟩) ri_ver _ rfl rfl rfl hr hsz ?_) | (at_builtin; refine wpList_app (ys := [l[k]]) (c := 1) (B := B) rfl _ _ rfl ei_ver rfl ho2 hB hxw.size rfl hone RVer.oneC (RVer.mono (by decide) (by decide)) (by have := HLen.out; simp [maxLen]; omega) (by have := HLen.out; simp; omega) ?_; intro v5 w5 ho5 hc5 hb5 hg5))
        have hxw5 := hxw.below hb5 (Nat.le_refl _)
        clear hc5 hb5 hg5 ho2 hone hxw
        go_roundw
        case rel => exact ⟨k + 1, hlt, by go_num, by rw [HG.out]; exact ho5, hxw5⟩
        case measure => simp [intOf]; omega
    · obtain rfl : k = l.length := by omega
      rw [List.take_length] at ho
      go_wp2_with fail
      go_ret
      exact ⟨_, rfl, ho, hx⟩
end Go.Proofs.Ytmedmfjhpabfdaa
