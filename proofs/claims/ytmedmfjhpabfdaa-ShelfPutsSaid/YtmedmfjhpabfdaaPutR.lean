/- The walks of reedref.Drop and reedref.Put. -/
import Derived.Test.YtmedmfjhpabfdaaPutS
import Derived.Test.YtmedmfjhpabfdaaShelfO
import Derived.Test.YtmedmfjhpabfdaaShelfG
import Derived.Test.YtmedmfjhpabfdaaWireD
import Derived.Test.YtmedmfjhpabfdaaKnW
import Derived.Test.YtmedmfjhpabfdaaKnU
namespace Go.Proofs.Ytmedmfjhpabfdaa
open Go Go.RowKit

theorem dropL_yes (l : List Version) (g : Gone) (k : Nat) (hk : k < l.length) (h : dropP g l[k] = false) : dropL (l.take (k + 1)) g = dropL (l.take k) g ++ [l[k]] := by
  unfold dropL
  rw [List.take_succ_eq_append_getElem hk, List.filter_append]
  simp [h]
theorem dropL_no (l : List Version) (g : Gone) (k : Nat) (hk : k < l.length) (h : dropP g l[k] = true) : dropL (l.take (k + 1)) g = dropL (l.take k) g := by
  unfold dropL
  rw [List.take_succ_eq_append_getElem hk, List.filter_append]
  simp [h]

set_option maxRecDepth 100000 in
set_option maxHeartbeats 4000000 in
theorem ref_Drop (B : Nat) (A : Option Addr) (c : Nat) (l : List Version) (g : Gone) (Av0 : Option Addr) (cv0 : Nat) (Am0 : Option Addr) (cm0 : Nat) (w : World) (hB : B ≤ w.heap.size) (hc : shelfCheck l = 0) (h : SlVers B w A l) (hi : InG B w Av0 cv0 Am0 cm0 g) :
    Calls Try.prog 21 #[.slice A l.length c, .agg #[.string g.id, .slice Av0 g.past.vec.length cv0, .slice Am0 g.past.more.length cm0]] w fun e w' => ∃ v, e = .returned (.tuple #[v, .int .i64 (dropErr l g)]) ∧ IsVers B w' v (dropOut l g) ∧ Ext w w' := by
  have hx := (Ext.refl w).alloc (.cells #[.string g.id, .slice Av0 g.past.vec.length cv0, .slice Am0 g.past.more.length cm0] 48)
  have hbg := Blk.new w 48 #[.string g.id, .slice Av0 g.past.vec.length cv0, .slice Am0 g.past.more.length cm0]
  have HOK := hid (shelfCheck_ok hc)
  have HG := hid hi
  have hl60 := HOK.out.len
  have hll : (l.length : Int) ≤ 60 := by omega
  have HE := hid (show dropErr l g = goneErr g by unfold dropErr; rw [if_pos hc])
  have HT := hid (show dropOut l g = if goneErr g = 0 then dropL l g else [] by unfold dropOut; rw [if_pos hc])
  have HGE := hid (show goneErr g = if idOk g.id = true then knowCheck g.past else 3 from rfl)
  clear hi hc
  go_enter Try.func21, Try.ntmps21
  have q0 := hbg.cell (i := 0) (u := .string g.id) rfl
  go_wp2_with fail
  refine (ref_Id g.id HG.out.lid _).mono ?_
  rintro e w2 ⟨rfl, hx2⟩
  replace hbg := hbg.ext hx2
  replace hx := hx.trans hx2
  have hzb := hbg.lt
  clear hx2 q0
  cases hid1 : idOk g.id
  · have HE2 := hid (show dropErr l g = 3 ∧ dropOut l g = [] by rw [HE.out, HT.out, HGE.out, hid1]; exact ⟨rfl, rfl⟩)
    clear hid1
    go_wp2_with fail
    go_ret2
    exact ⟨.slice none 0 0, by rw [HE2.out.1]; rfl, by rw [HE2.out.2]; exact Own.nil.isSl (base := 0) B, hx⟩
  · have HG2 := hid (show goneErr g = knowCheck g.past by rw [HGE.out, hid1]; rfl)
    clear hid1
    have q1 := hbg.cell (i := 1) (u := .slice Av0 g.past.vec.length cv0) rfl
    have q2 := hbg.cell (i := 2) (u := .slice Am0 g.past.more.length cm0) rfl
    go_wp2_with fail
    refine (ref_Know B g.past Av0 cv0 Am0 cm0 _ (HG.out.ext hx).k).mono ?_
    rintro e w3 ⟨rfl, hx3⟩
    replace hbg := hbg.ext hx3
    replace hx := hx.trans hx3
    replace hzb := hbg.lt
    clear hx3 q1 q2
    by_cases hk : knowCheck g.past = 0
    · rw [hk]
      have HK := hid (knowCheck_iff.1 hk)
      have HE2 := hid (show dropErr l g = 0 ∧ dropOut l g = dropL l g by rw [HE.out, HT.out, HG2.out, hk]; exact ⟨rfl, rfl⟩)
      clear hk hzb
      go_wp2_with fail
      go_loopw [7, 22] (fun o i wr => ∃ k : Nat, k ≤ l.length ∧ i = .int .i64 k ∧ Own (RVer B) 8 46 wr w.heap.size o (dropL (l.take k) g) ∧ Ext w wr ∧ Blk wr w.heap.size 48 #[.string g.id, .slice Av0 g.past.vec.length cv0, .slice Am0 g.past.more.length cm0]) (fun _ i _ => l.length - (intOf i).toNat)
      case atStart => exact ⟨0, Nat.zero_le _, rfl, Own.nil, hx, hbg⟩
      case round =>
        clear hx hbg
        obtain ⟨k, hk, rfl, ho, hx, hbg⟩ := hrel
        by_cases hlt : k < l.length
        · obtain ⟨b, off, Av, cv, Am, cm, rfl, hb, hr, hI⟩ := (h.ext RVer.monoE hx).ver hlt
          have HV := hid (HOK.out.all _ (List.getElem_mem hlt))
          have HLen := hid (show (dropL (l.take k) g).length ≤ 10000 by have := List.length_filter_le (fun v => !dropP g v) (l.take k); have h2 := List.length_take_le k l; unfold dropL; omega)
          have hsz : ([.string l[k].id, .int .i64 l[k].dot.site, .int .i64 l[k].dot.count, .int .i64 l[k].pt.tags, .int .i64 l[k].pt.num, .int .i64 l[k].body, .slice Av l[k].past.vec.length cv, .slice Am l[k].past.more.length cm] : List Value).length = 8 := rfl
          go_wp2_with (with_reducible refine wpList_loadL (o := ⟨some 25, _, _, _, _, _⟩) ri_ver _ rfl rfl rfl hr hsz ?_)
          clear hr hsz
          have hxl := (Ext.refl wr).alloc (.cells #[.string l[k].id, .int .i64 l[k].dot.site, .int .i64 l[k].dot.count, .int .i64 l[k].pt.tags, .int .i64 l[k].pt.num, .int .i64 l[k].body, .slice Av l[k].past.vec.length cv, .slice Am l[k].past.more.length cm] 46)
          have hbw := Blk.new wr 46 #[.string l[k].id, .int .i64 l[k].dot.site, .int .i64 l[k].dot.count, .int .i64 l[k].pt.tags, .int .i64 l[k].pt.num, .int .i64 l[k].body, .slice Av l[k].past.vec.length cv, .slice Am l[k].past.more.length cm]
          obtain ⟨wa, hwa⟩ : ∃ wa, wa = wr.alloc (.cells #[.string l[k].id, .int .i64 l[k].dot.site, .int .i64 l[k].dot.count, .int .i64 l[k].pt.tags, .int .i64 l[k].pt.num, .int .i64 l[k].body, .slice Av l[k].past.vec.length cv, .slice Am l[k].past.more.length cm] 46) := ⟨_, rfl⟩
          obtain ⟨r, hr⟩ : ∃ r, r = wr.heap.size := ⟨_, rfl⟩
          rw [← hwa] at hxl hbw ⊢
          rw [← hr] at hbw ⊢
          clear hwa hr
          have HI := hid (hI.ext hxl)
          obtain ⟨s1, c1, hsd, hsc, hds, hdc, hin⟩ := dot_nat HV.out.dot g.past
          have HIN := hid hin
          replace hbg := hbg.ext hxl
          replace hx := hx.trans hxl
          replace ho := ho.ext RVer.monoE hxl
          have HAll := hid (fun w' (x : Ext wa w') => show w'.cell? ⟨r, 0, none⟩ = some (.string l[k].id) ∧ w'.cell? ⟨r, 1, none⟩ = some (.int .i64 (s1 : Int)) ∧ w'.cell? ⟨r, 2, none⟩ = some (.int .i64 (c1 : Int)) ∧ w'.cell? ⟨w.heap.size, 0, none⟩ = some (.string g.id) ∧ w'.cell? ⟨w.heap.size, 1, none⟩ = some (.slice Av0 g.past.vec.length cv0) ∧ w'.cell? ⟨w.heap.size, 2, none⟩ = some (.slice Am0 g.past.more.length cm0) from by
            have b1 := hbw.ext x
            have b2 := hbg.ext x
            exact ⟨b1.cell rfl, by rw [← hsd]; exact b1.cell rfl, by rw [← hsc]; exact b1.cell rfl, b2.cell rfl, b2.cell rfl, b2.cell rfl⟩)
          have HCA := hid (fun w' (x : Ext wa w') => ref_All B g.past Av0 cv0 Am0 cm0 w' (HG.out.ext (hx.trans x)).k HK.out)
          have HCH := hid (fun w' (_ : Ext wa w') => dots_Has (hasK g.past) s1 c1 w' hds hdc)
          have hO : dropP g l[k] = (sEq l[k].id g.id && hasK g.past s1 c1) := by rw [HIN.out]; rfl
          have HO := hid hO
          clear hsd hsc hds hdc hxl hI hin hO
          cases h1 : sEq l[k].id g.id
          · have hne1 : (l[k].id.toList == g.id.toList) = false := h1
            have HS := hid (dropL_yes l g k hlt (by rw [HO.out, h1]; rfl))
            clear h1
            refine wq_region (fun w' => Ext wa w') (by kernel_rfl) (by kernel_rfl) (Ext.refl _).drew ?_
            refine wq_get (v := ?_) (fun w' hw' => ?_) ?_
            rotate_left
            · have hA := HAll.out w' hw'
              go_split_ands
              first
                | (go_simp; done)
                | (go_simp; with_reducible rfl)
            try simp only [Act.put, List.setIfInBounds_toArray, List.set_cons_zero, List.set_cons_succ]
            refine wq_get (v := ?_) (fun w' hw' => ?_) ?_
            rotate_left
            · have hA := HAll.out w' hw'
              go_split_ands
              first
                | (go_simp; done)
                | (go_simp; with_reducible rfl)
            try simp only [Act.put, List.setIfInBounds_toArray, List.set_cons_zero, List.set_cons_succ]
            refine wq_get (v := ?_) (fun w' hw' => ?_) ?_
            rotate_left
            · have hA := HAll.out w' hw'
              go_split_ands
              first
                | (go_simp; done)
                | (go_simp; with_reducible rfl)
            try simp only [Act.put, List.setIfInBounds_toArray, List.set_cons_zero, List.set_cons_succ]
            refine wq_get (v := ?_) (fun w' hw' => ?_) ?_
            rotate_left
            · have hA := HAll.out w' hw'
              go_split_ands
              first
                | (go_simp; done)
                | (go_simp; with_reducible rfl)
            try simp only [Act.put, List.setIfInBounds_toArray, List.set_cons_zero, List.set_cons_succ]
            refine wq_get (v := ?_) (fun w' hw' => ?_) ?_
            rotate_left
            · have hA := HAll.out w' hw'
              go_split_ands
              first
                | (go_simp; done)
                | (go_simp; with_reducible rfl)
            try simp only [Act.put, List.setIfInBounds_toArray, List.set_cons_zero, List.set_cons_succ]
            try simp only [hne1, Bool.not_false]
            refine wq_get (v := ?_) (fun w' hw' => ?_) ?_
            rotate_left
            · have hA := HAll.out w' hw'
              go_split_ands
              first
                | (go_simp; done)
                | (go_simp; with_reducible rfl)
            try simp only [Act.put, List.setIfInBounds_toArray, List.set_cons_zero, List.set_cons_succ]
            refine wq_skip (yields_at rfl rfl rfl) ?_
            try simp only [Act.put, List.setIfInBounds_toArray, List.set_cons_zero, List.set_cons_succ]
            refine wq_skip (yields_at rfl rfl rfl) ?_
            try simp only [Act.put, List.setIfInBounds_toArray, List.set_cons_zero, List.set_cons_succ]
            refine wq_skip (yields_at rfl rfl rfl) ?_
            try simp only [Act.put, List.setIfInBounds_toArray, List.set_cons_zero, List.set_cons_succ]
            refine wq_skip (yields_at rfl rfl rfl) ?_
            try simp only [Act.put, List.setIfInBounds_toArray, List.set_cons_zero, List.set_cons_succ]
            refine wq_skip (yields_at rfl rfl rfl) ?_
            try simp only [Act.put, List.setIfInBounds_toArray, List.set_cons_zero, List.set_cons_succ]
            refine wq_skip (yields_at rfl rfl rfl) ?_
            try simp only [Act.put, List.setIfInBounds_toArray, List.set_cons_zero, List.set_cons_succ]
            refine wq_skip (yields_at rfl rfl rfl) ?_
            try simp only [Act.put, List.setIfInBounds_toArray, List.set_cons_zero, List.set_cons_succ]
            refine wq_get (v := ?_) (fun w' hw' => ?_) ?_
            rotate_left
            · have hA := HAll.out w' hw'
              go_split_ands
              first
                | (go_simp; done)
                | (go_simp; with_reducible rfl)
            try simp only [Act.put, List.setIfInBounds_toArray, List.set_cons_zero, List.set_cons_succ]
            refine wq_nil ?_
            intro w25 hyn
            clear HAll HCA HCH
            replace hbg := hbg.ext hyn
            replace hbw := hbw.ext hyn
            replace ho := ho.ext RVer.monoE hyn
            replace hx := hx.trans hyn
            have hxb := (Ext.refl w25).alloc (.cells #[.string l[k].id, .int .i64 l[k].dot.site, .int .i64 l[k].dot.count, .int .i64 l[k].pt.tags, .int .i64 l[k].pt.num, .int .i64 l[k].body, .slice Av l[k].past.vec.length cv, .slice Am l[k].past.more.length cm] 46)
            have hone : SlVers B (w25.alloc (.cells #[.string l[k].id, .int .i64 l[k].dot.site, .int .i64 l[k].dot.count, .int .i64 l[k].pt.tags, .int .i64 l[k].pt.num, .int .i64 l[k].body, .slice Av l[k].past.vec.length cv, .slice Am l[k].past.more.length cm] 46)) (some ⟨w25.heap.size, 0, none⟩) [l[k]] := by
              have := Sl.one (R := RVer B) (B := B) (e := 46) (sz := 8) (w := w25) (cs := [.string l[k].id, .int .i64 l[k].dot.site, .int .i64 l[k].dot.count, .int .i64 l[k].pt.tags, .int .i64 l[k].pt.num, .int .i64 l[k].body, .slice Av l[k].past.vec.length cv, .slice Am l[k].past.more.length cm]) (y := l[k]) rfl rfl (HI.out.ext (hyn.trans hxb)).rver
              simpa using this
            have hyw := hbw.whole
            have ho2 := ho.ext RVer.monoE hxb
            have hxw := hx.trans hxb
            clear hyn ho hx hne1
            go_wp2_with (first | (with_reducible refine wpList_loadMid (o := ⟨some 41, _, _, _, _, _⟩) ri_ver _ rfl rfl rfl hyw rfl ?_) | (at_builtin; refine wpList_app (ys := [l[k]]) (c := 1) (B := B) rfl _ _ rfl ei_ver rfl ho2 hB hxw.size rfl hone RVer.oneC (RVer.mono (by decide) (by decide)) (by have := HLen.out; simp [maxLen]; omega) (by have := HLen.out; simp; omega) ?_; intro v5 w5 ho5 hc5 hb5 hg5))
            have hxw5 := hxw.below hb5 (Nat.le_refl _)
            replace hbg := (hbg.ext hxb).chg hc5 (by decide)
            clear hc5 hb5 hg5 ho2 hone hxw hyw
            go_roundw
            case rel => exact ⟨k + 1, hlt, by go_num, by rw [HS.out]; exact ho5, hxw5, hbg⟩
            case measure => simp [intOf]; omega
          · have heq1 : (l[k].id.toList == g.id.toList) = true := h1
            have HS1 := hid (fun (e : hasK g.past s1 c1 = false) => dropL_yes l g k hlt (by rw [HO.out, e, Bool.and_false]))
            have HS2 := hid (fun (e : hasK g.past s1 c1 = true) => dropL_no l g k hlt (by rw [HO.out, e, h1]; rfl))
            clear h1
            generalize hasK g.past s1 c1 = T at HCH HS1 HS2
            refine wq_region (fun w' => Ext wa w') (by kernel_rfl) (by kernel_rfl) (Ext.refl _).drew ?_
            refine wq_get (v := ?_) (fun w' hw' => ?_) ?_
            rotate_left
            · have hA := HAll.out w' hw'
              go_split_ands
              first
                | (go_simp; done)
                | (go_simp; with_reducible rfl)
            try simp only [Act.put, List.setIfInBounds_toArray, List.set_cons_zero, List.set_cons_succ]
            refine wq_get (v := ?_) (fun w' hw' => ?_) ?_
            rotate_left
            · have hA := HAll.out w' hw'
              go_split_ands
              first
                | (go_simp; done)
                | (go_simp; with_reducible rfl)
            try simp only [Act.put, List.setIfInBounds_toArray, List.set_cons_zero, List.set_cons_succ]
            refine wq_get (v := ?_) (fun w' hw' => ?_) ?_
            rotate_left
            · have hA := HAll.out w' hw'
              go_split_ands
              first
                | (go_simp; done)
                | (go_simp; with_reducible rfl)
            try simp only [Act.put, List.setIfInBounds_toArray, List.set_cons_zero, List.set_cons_succ]
            refine wq_get (v := ?_) (fun w' hw' => ?_) ?_
            rotate_left
            · have hA := HAll.out w' hw'
              go_split_ands
              first
                | (go_simp; done)
                | (go_simp; with_reducible rfl)
            try simp only [Act.put, List.setIfInBounds_toArray, List.set_cons_zero, List.set_cons_succ]
            refine wq_get (v := ?_) (fun w' hw' => ?_) ?_
            rotate_left
            · have hA := HAll.out w' hw'
              go_split_ands
              first
                | (go_simp; done)
                | (go_simp; with_reducible rfl)
            try simp only [Act.put, List.setIfInBounds_toArray, List.set_cons_zero, List.set_cons_succ]
            try simp only [heq1, Bool.not_true]
            refine wq_get (v := ?_) (fun w' hw' => ?_) ?_
            rotate_left
            · have hA := HAll.out w' hw'
              go_split_ands
              first
                | (go_simp; done)
                | (go_simp; with_reducible rfl)
            try simp only [Act.put, List.setIfInBounds_toArray, List.set_cons_zero, List.set_cons_succ]
            refine wq_getOn (v := ?_) (yields_at rfl rfl rfl) (fun w' hw' => ?_) ?_
            rotate_left
            · have hA := HAll.out w' hw'
              go_split_ands
              first
                | (go_simp; done)
                | (go_simp; with_reducible rfl)
            try simp only [Act.put, List.setIfInBounds_toArray, List.set_cons_zero, List.set_cons_succ]
            refine wq_getOn (v := ?_) (yields_at rfl rfl rfl) (fun w' hw' => ?_) ?_
            rotate_left
            · have hA := HAll.out w' hw'
              go_split_ands
              first
                | (go_simp; done)
                | (go_simp; with_reducible rfl)
            try simp only [Act.put, List.setIfInBounds_toArray, List.set_cons_zero, List.set_cons_succ]
            refine wq_callOn Try.call86 (yields_at rfl rfl rfl) (by rfl) (fun w' x => (HCA.out w' x).mono fun _ _ h => ⟨h.1, x.trans h.2⟩) ?_
            try simp only [Act.put, List.setIfInBounds_toArray, List.set_cons_zero, List.set_cons_succ]
            refine wq_getOn (v := ?_) (yields_at rfl rfl rfl) (fun w' hw' => ?_) ?_
            rotate_left
            · have hA := HAll.out w' hw'
              go_split_ands
              first
                | (go_simp; done)
                | (go_simp; with_reducible rfl)
            try simp only [Act.put, List.setIfInBounds_toArray, List.set_cons_zero, List.set_cons_succ]
            refine wq_getOn (v := ?_) (yields_at rfl rfl rfl) (fun w' hw' => ?_) ?_
            rotate_left
            · have hA := HAll.out w' hw'
              go_split_ands
              first
                | (go_simp; done)
                | (go_simp; with_reducible rfl)
            try simp only [Act.put, List.setIfInBounds_toArray, List.set_cons_zero, List.set_cons_succ]
            refine wq_callOn Try.call87 (yields_at rfl rfl rfl) (by rfl) (fun w' x => (HCH.out w' x).mono fun _ _ h => ⟨h.1, x.trans h.2⟩) ?_
            try simp only [Act.put, List.setIfInBounds_toArray, List.set_cons_zero, List.set_cons_succ]
            refine wq_getOn (v := ?_) (yields_at rfl rfl rfl) (fun w' hw' => ?_) ?_
            rotate_left
            · have hA := HAll.out w' hw'
              go_split_ands
              first
                | (go_simp; done)
                | (go_simp; with_reducible rfl)
            try simp only [Act.put, List.setIfInBounds_toArray, List.set_cons_zero, List.set_cons_succ]
            refine wq_get (v := ?_) (fun w' hw' => ?_) ?_
            rotate_left
            · have hA := HAll.out w' hw'
              go_split_ands
              first
                | (go_simp; done)
                | (go_simp; with_reducible rfl)
            try simp only [Act.put, List.setIfInBounds_toArray, List.set_cons_zero, List.set_cons_succ]
            refine wq_nil ?_
            intro w25 hyn
            clear HAll HCA HCH
            replace hbg := hbg.ext hyn
            replace hbw := hbw.ext hyn
            replace ho := ho.ext RVer.monoE hyn
            replace hx := hx.trans hyn
            cases T
            · have HS := hid (HS1.out rfl)
              clear HS1 HS2
              have hxb := (Ext.refl w25).alloc (.cells #[.string l[k].id, .int .i64 l[k].dot.site, .int .i64 l[k].dot.count, .int .i64 l[k].pt.tags, .int .i64 l[k].pt.num, .int .i64 l[k].body, .slice Av l[k].past.vec.length cv, .slice Am l[k].past.more.length cm] 46)
              have hone : SlVers B (w25.alloc (.cells #[.string l[k].id, .int .i64 l[k].dot.site, .int .i64 l[k].dot.count, .int .i64 l[k].pt.tags, .int .i64 l[k].pt.num, .int .i64 l[k].body, .slice Av l[k].past.vec.length cv, .slice Am l[k].past.more.length cm] 46)) (some ⟨w25.heap.size, 0, none⟩) [l[k]] := by
                have := Sl.one (R := RVer B) (B := B) (e := 46) (sz := 8) (w := w25) (cs := [.string l[k].id, .int .i64 l[k].dot.site, .int .i64 l[k].dot.count, .int .i64 l[k].pt.tags, .int .i64 l[k].pt.num, .int .i64 l[k].body, .slice Av l[k].past.vec.length cv, .slice Am l[k].past.more.length cm]) (y := l[k]) rfl rfl (HI.out.ext (hyn.trans hxb)).rver
                simpa using this
              have hyw := hbw.whole
              have ho2 := ho.ext RVer.monoE hxb
              have hxw := hx.trans hxb
              clear hyn ho hx heq1
              go_wp2_with (first | (with_reducible refine wpList_loadMid (o := ⟨some 41, _, _, _, _, _⟩) ri_ver _ rfl rfl rfl hyw rfl ?_) | (at_builtin; refine wpList_app (ys := [l[k]]) (c := 1) (B := B) rfl _ _ rfl ei_ver rfl ho2 hB hxw.size rfl hone RVer.oneC (RVer.mono (by decide) (by decide)) (by have := HLen.out; simp [maxLen]; omega) (by have := HLen.out; simp; omega) ?_; intro v5 w5 ho5 hc5 hb5 hg5))
              have hxw5 := hxw.below hb5 (Nat.le_refl _)
              replace hbg := (hbg.ext hxb).chg hc5 (by decide)
              clear hc5 hb5 hg5 ho2 hone hxw hyw
              go_roundw
              case rel => exact ⟨k + 1, hlt, by go_num, by rw [HS.out]; exact ho5, hxw5, hbg⟩
              case measure => simp [intOf]; omega
            · have HS := hid (HS2.out rfl)
              clear HS1 HS2
              go_wp2_with fail
              go_roundw
              case rel => exact ⟨k + 1, hlt, by go_num, by rw [HS.out]; exact ho, hx, hbg⟩
              case measure => simp [intOf]; omega
        · obtain rfl : k = l.length := by omega
          rw [List.take_length] at ho
          go_wp2_with fail
          go_ret2
          exact ⟨_, by rw [HE2.out.1]; rfl, by rw [HE2.out.2]; exact ho.isSl B, hx⟩
    · have hne : (knowCheck g.past != 0) = true := by simpa using hk
      have HE2 := hid (show dropErr l g = knowCheck g.past ∧ dropOut l g = [] by rw [HE.out, HT.out, HG2.out, if_neg hk]; exact ⟨rfl, rfl⟩)
      clear hk
      go_wp2_with fail
      go_ret2
      exact ⟨.slice none 0 0, by rw [HE2.out.1]; rfl, by rw [HE2.out.2]; exact Own.nil.isSl (base := 0) B, hx⟩
end Go.Proofs.Ytmedmfjhpabfdaa
