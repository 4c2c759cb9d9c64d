/- The walk of the document's Pack. -/
import Derived.Test.YtmedmfjhpabfdaaWireN
import Derived.Test.YtmedmfjhpabfdaaFewB
namespace Go.Proofs.Ytmedmfjhpabfdaa
open Go Go.RowKit

theorem bstr_raw (a : List UInt8) (s : ByteArray) : bstr a ++ s = bstr (a ++ s.data.toList) := by rw [← bstr_append, bstr_list]
theorem cat_raw (a : List UInt8) (s : ByteArray) (h : a.length = 3) (hs : s.size ≤ 8) : (9223372036854775807 < (bstr a).size + s.size) = False := by
  rw [bstr_size]
  exact eq_false (by omega)
theorem id_len (s : ByteArray) : s.data.toList.length = s.size := by rw [Array.length_toList]; rfl
theorem pt_bounds' {p : Point} (h : pointOk p = true) : (0 ≤ p.tags ∧ p.tags ≤ 15) ∧ (0 ≤ p.num ∧ p.num ≤ 31) := by
  simp only [pointOk, tagsOk, Bool.and_eq_true, decide_eq_true_eq] at h
  omega
theorem body_bounds' {n : Int} (h : bodyOk n = true) : 0 ≤ n ∧ n ≤ 1000000 := by
  simpa [bodyOk] using h
theorem sumB_range' (l : List UInt8) : 0 ≤ sumB l ∧ sumB l < 65521 := by
  unfold sumB
  have : sumN l l.length % 65521 < 65521 := Nat.mod_lt _ (by omega)
  omega

set_option maxRecDepth 100000 in
set_option maxHeartbeats 4000000 in
theorem ref_Pack (B : Nat) (b : Batch) (Ax : Option Addr) (cx : Nat) (Ag : Option Addr) (cg : Nat) (Ap : Option Addr) (cp : Nat) (w : World) (hi : InB B w Ax cx Ag cg Ap cp b) (hok : WireOk b) :
    Calls Try.prog 15 #[.agg #[.int .i64 b.site, .int .i64 b.stamp, .slice Ax b.vers.length cx, .slice Ag b.gone.length cg, .slice Ap b.parts.length cp]] w fun e w' => e = .returned (.string (bstr (packB b))) ∧ Ext w w' := by
  have HI := hid hi
  have HOK := hid hok
  clear hi hok
  have HLVf := hid (fun v hv => verB_len (HOK.out.vers v hv))
  have HLGf := hid (fun v hv => goneB_len (HOK.out.gone v hv))
  have HLPf := hid (fun v hv => partB_len (HOK.out.parts v hv))
  have hn1 : b.vers.length ≤ 60 := HOK.out.lv
  have hn2 : b.gone.length ≤ 60 := HOK.out.lg
  have hn3 : b.parts.length ≤ 30 := HOK.out.lp
  have hx := (Ext.refl w).alloc (.cells #[.int .i64 b.site, .int .i64 b.stamp, .slice Ax b.vers.length cx, .slice Ag b.gone.length cg, .slice Ap b.parts.length cp] 26)
  have hbb := Blk.new w 26 #[.int .i64 b.site, .int .i64 b.stamp, .slice Ax b.vers.length cx, .slice Ag b.gone.length cg, .slice Ap b.parts.length cp]
  go_enter Try.func15, Try.ntmps15
  go_wp2_with fail
  obtain ⟨w1, hw1⟩ : ∃ x, x = w.alloc (.cells #[.int .i64 b.site, .int .i64 b.stamp, .slice Ax b.vers.length cx, .slice Ag b.gone.length cg, .slice Ap b.parts.length cp] 26) := ⟨_, rfl⟩
  obtain ⟨rb, hrb⟩ : ∃ x, x = w.heap.size := ⟨_, rfl⟩
  rw [← hw1] at hx
  rw [← hw1, ← hrb] at hbb
  rw [← hw1, ← hrb]
  clear hw1 hrb
  have HAll := hid (fun w' (xq : Ext w1 w') => show w'.cell? ⟨rb, 0, none⟩ = some (.int .i64 b.site) ∧ w'.cell? ⟨rb, 1, none⟩ = some (.int .i64 b.stamp) ∧ w'.cell? ⟨rb, 2, none⟩ = some (.slice Ax b.vers.length cx) from ⟨(hbb.ext xq).cell rfl, (hbb.ext xq).cell rfl, (hbb.ext xq).cell rfl⟩)
  have HCl := hid (show ∀ w' w'', (fun w' => Ext w1 w' ∧ w'.cell? ⟨rb, 0, none⟩ = some (.int .i64 b.site) ∧ w'.cell? ⟨rb, 1, none⟩ = some (.int .i64 b.stamp) ∧ w'.cell? ⟨rb, 2, none⟩ = some (.slice Ax b.vers.length cx)) w' → Ext w' w'' → (fun w' => Ext w1 w' ∧ w'.cell? ⟨rb, 0, none⟩ = some (.int .i64 b.site) ∧ w'.cell? ⟨rb, 1, none⟩ = some (.int .i64 b.stamp) ∧ w'.cell? ⟨rb, 2, none⟩ = some (.slice Ax b.vers.length cx)) w'' from fun w' w'' h x => ⟨h.1.trans x, HAll.out _ (h.1.trans x)⟩)
  have HT := hid (three_class (fun w' => Ext w1 w' ∧ w'.cell? ⟨rb, 0, none⟩ = some (.int .i64 b.site) ∧ w'.cell? ⟨rb, 1, none⟩ = some (.int .i64 b.stamp) ∧ w'.cell? ⟨rb, 2, none⟩ = some (.slice Ax b.vers.length cx)) HCl.out)
  refine wp_region_class (fun w' => Ext w1 w' ∧ w'.cell? ⟨rb, 0, none⟩ = some (.int .i64 b.site) ∧ w'.cell? ⟨rb, 1, none⟩ = some (.int .i64 b.stamp) ∧ w'.cell? ⟨rb, 2, none⟩ = some (.slice Ax b.vers.length cx)) (by kernel_rfl) (by kernel_rfl) ⟨(Ext.refl _).drew, HAll.out _ (Ext.refl _).drew⟩ ?_
  refine wpQuiet_read (v := ?_) (by rfl) (fun w' hSw => ?_) ?_
  rotate_left
  · try dsimp only at hSw
    first
      | (go_simp; done)
      | (go_simp; with_reducible rfl)
  try simp only [Act.put, List.setIfInBounds_toArray, List.set_cons_zero, List.set_cons_succ]
  refine wpQuiet_read (v := ?_) (by rfl) (fun w' hSw => ?_) ?_
  rotate_left
  · try dsimp only at hSw
    first
      | (go_simp; done)
      | (go_simp; with_reducible rfl)
  try simp only [Act.put, List.setIfInBounds_toArray, List.set_cons_zero, List.set_cons_succ]
  refine wpQuiet_call (args := #[.int .i64 (b.site)]) Try.call63 (by rfl) (by rfl) (HT.out (b.site) (by have := HOK.out.s0; have := HOK.out.s4; omega)) ?_
  try simp only [Act.put, List.setIfInBounds_toArray, List.set_cons_zero, List.set_cons_succ]
  refine wpQuiet_read (v := ?_) (by rfl) (fun w' hSw => ?_) ?_
  rotate_left
  · try dsimp only at hSw
    first
      | (go_simp; done)
      | (go_simp; with_reducible rfl)
  try simp only [Act.put, List.setIfInBounds_toArray, List.set_cons_zero, List.set_cons_succ]
  refine wpQuiet_read (v := ?_) (by rfl) (fun w' hSw => ?_) ?_
  rotate_left
  · try dsimp only at hSw
    first
      | (go_simp; done)
      | (go_simp; with_reducible rfl)
  try simp only [Act.put, List.setIfInBounds_toArray, List.set_cons_zero, List.set_cons_succ]
  refine wpQuiet_call (args := #[.int .i64 (b.stamp)]) Try.call63 (by rfl) (by rfl) (HT.out (b.stamp) (by have := HOK.out.t0; have := HOK.out.t1; omega)) ?_
  try simp only [Act.put, List.setIfInBounds_toArray, List.set_cons_zero, List.set_cons_succ]
  refine wpQuiet_read (v := .string (bstr (three b.site ++ three b.stamp))) (by rfl) (fun w' hSw => ?_) ?_
  · have hcat := cat_ok (three b.site) (three b.stamp) (by simp only [three_len]; omega)
    go_simp
    rw [bstr_append]
    try simp only [List.append_assoc]
  try simp only [Act.put, List.setIfInBounds_toArray, List.set_cons_zero, List.set_cons_succ]
  refine wpQuiet_read (v := ?_) (by rfl) (fun w' hSw => ?_) ?_
  rotate_left
  · try dsimp only at hSw
    first
      | (go_simp; done)
      | (go_simp; with_reducible rfl)
  try simp only [Act.put, List.setIfInBounds_toArray, List.set_cons_zero, List.set_cons_succ]
  refine wpQuiet_read (v := ?_) (by rfl) (fun w' hSw => ?_) ?_
  rotate_left
  · try dsimp only at hSw
    first
      | (go_simp; done)
      | (go_simp; with_reducible rfl)
  try simp only [Act.put, List.setIfInBounds_toArray, List.set_cons_zero, List.set_cons_succ]
  refine wpQuiet_read (v := ?_) (by rfl) (fun w' hSw => ?_) ?_
  rotate_left
  · try dsimp only at hSw
    first
      | (go_simp; done)
      | (go_simp; with_reducible rfl)
  try simp only [Act.put, List.setIfInBounds_toArray, List.set_cons_zero, List.set_cons_succ]
  refine wpQuiet_call (args := #[.int .i64 ((b.vers.length : Int))]) Try.call63 (by rfl) (by rfl) (HT.out ((b.vers.length : Int)) (by omega)) ?_
  try simp only [Act.put, List.setIfInBounds_toArray, List.set_cons_zero, List.set_cons_succ]
  refine wpQuiet_read (v := .string (bstr (three b.site ++ (three b.stamp ++ three b.vers.length)))) (by rfl) (fun w' hSw => ?_) ?_
  · have hcat := cat_ok (three b.site ++ three b.stamp) (three b.vers.length) (by simp only [List.length_append, three_len]; omega)
    go_simp
    rw [bstr_append]
    try simp only [List.append_assoc]
  try simp only [Act.put, List.setIfInBounds_toArray, List.set_cons_zero, List.set_cons_succ]
  refine wpQuiet_read (v := .string (bstr (three b.site ++ (three b.stamp ++ three b.vers.length)))) (by rfl) (fun w' hSw => ?_) ?_
  · go_simp
  try simp only [Act.put, List.setIfInBounds_toArray, List.set_cons_zero, List.set_cons_succ]
  refine wpQuiet_nil ?_
  clear HCl HT
  intro w2 hw2
  replace hbb := hbb.ext hw2.1
  replace hx := hx.trans hw2.1
  clear hw2 HAll
  obtain ⟨O1, hO1⟩ : ∃ O, O = three b.site ++ (three b.stamp ++ three b.vers.length) := ⟨_, rfl⟩
  rw [← hO1]
  have HO1 := hid hO1
  have HL1 := hid (show O1.length ≤ 9 by rw [hO1]; simp only [List.length_append, three_len]; omega)
  clear hO1
  have y2 := hbb.cell (i := 2) (u := .slice Ax b.vers.length cx) rfl
  go_wp2_with fail
  clear y2
  go_loopw [29, 3] (fun i s wr => ∃ kV : Nat, kV ≤ b.vers.length ∧ i = .int .i64 kV ∧ s = .string (bstr (O1 ++ (b.vers.take kV).flatMap verB)) ∧ Ext w wr ∧ Blk wr rb 26 #[.int .i64 b.site, .int .i64 b.stamp, .slice Ax b.vers.length cx, .slice Ag b.gone.length cg, .slice Ap b.parts.length cp]) (fun i _ _ => b.vers.length - (intOf i).toNat)
  case atStart => exact ⟨0, Nat.zero_le _, rfl, by simp, hx, hbb⟩
  case round =>
    clear hx hbb
    obtain ⟨kV, hk, rfl, rfl, hx, hbb⟩ := hrel
    obtain ⟨wrV, hwq⟩ : ∃ x, x = wr := ⟨_, rfl⟩
    subst hwq
    have hTake := take_len verB 430 b.vers HLVf.out kV
    by_cases hltV : kV < b.vers.length
    · have HSV := hid (show O1 ++ (b.vers.take (kV + 1)).flatMap verB = (O1 ++ (b.vers.take kV).flatMap verB) ++ verB b.vers[kV] by rw [flat_take _ _ _ hltV, List.append_assoc])
      obtain ⟨OV, hO⟩ : ∃ O, O = O1 ++ (b.vers.take kV).flatMap verB := ⟨_, rfl⟩
      rw [← hO] at HSV ⊢
      have HLV := hid (show OV.length ≤ 25809 by
        rw [hO, List.length_append]
        have := HL1.out
        omega)
      clear hO hTake
      obtain ⟨eb, eo, Av, cv, Am, cm, hA, heb, hrow, hV⟩ := (HI.out.sx.ext RVer.monoE hx).ver hltV
      subst hA
      obtain ⟨v, hv⟩ : ∃ v, v = b.vers[kV] := ⟨_, rfl⟩
      rw [← hv] at hrow hV HSV
      have HVO := hid (show VerOk v by rw [hv]; exact HOK.out.vers _ (List.getElem_mem hltV))
      have hsz : ([.string v.id, .int .i64 v.dot.site, .int .i64 v.dot.count, .int .i64 v.pt.tags, .int .i64 v.pt.num, .int .i64 v.body, .slice Av v.past.vec.length cv, .slice Am v.past.more.length cm] : List Value).length = 8 := rfl
      have hbv := Blk.new wrV 46 #[.string v.id, .int .i64 v.dot.site, .int .i64 v.dot.count, .int .i64 v.pt.tags, .int .i64 v.pt.num, .int .i64 v.body, .slice Av v.past.vec.length cv, .slice Am v.past.more.length cm]
      have hxv := (Ext.refl wrV).alloc (.cells #[.string v.id, .int .i64 v.dot.site, .int .i64 v.dot.count, .int .i64 v.pt.tags, .int .i64 v.pt.num, .int .i64 v.body, .slice Av v.past.vec.length cv, .slice Am v.past.more.length cm] 46)
      clear hv heb
      go_wp2_with ((with_reducible refine wpList_loadL (o := ⟨some 32, _, _, _, _, _⟩) ri_ver _ rfl rfl rfl hrow hsz ?_))
      clear hrow hsz
      replace hV := hV.ext hxv
      obtain ⟨ev, hev⟩ : ∃ x, x = wrV.heap.size := ⟨_, rfl⟩
      obtain ⟨wv, hwv⟩ : ∃ x, x = wrV.alloc (.cells #[.string v.id, .int .i64 v.dot.site, .int .i64 v.dot.count, .int .i64 v.pt.tags, .int .i64 v.pt.num, .int .i64 v.body, .slice Av v.past.vec.length cv, .slice Am v.past.more.length cm] 46) := ⟨_, rfl⟩
      rw [← hwv] at hV hxv
      rw [← hwv, ← hev] at hbv
      rw [← hwv, ← hev]
      clear hwv hev
      have HID := hid (textB_len HVO.out.id).2
      have HAll := hid (fun w' (xq : Ext wv w') => show w'.cell? ⟨ev, 0, none⟩ = some (.string v.id) ∧ w'.cell? ⟨ev, 1, none⟩ = some (.int .i64 v.dot.site) ∧ w'.cell? ⟨ev, 2, none⟩ = some (.int .i64 v.dot.count) ∧ w'.cell? ⟨ev, 3, none⟩ = some (.int .i64 v.pt.tags) ∧ w'.cell? ⟨ev, 4, none⟩ = some (.int .i64 v.pt.num) ∧ w'.cell? ⟨ev, 5, none⟩ = some (.int .i64 v.body) ∧ w'.cell? ⟨ev, 6, none⟩ = some (.slice Av v.past.vec.length cv) ∧ w'.cell? ⟨ev, 7, none⟩ = some (.slice Am v.past.more.length cm) from ⟨(hbv.ext xq).cell rfl, (hbv.ext xq).cell rfl, (hbv.ext xq).cell rfl, (hbv.ext xq).cell rfl, (hbv.ext xq).cell rfl, (hbv.ext xq).cell rfl, (hbv.ext xq).cell rfl, (hbv.ext xq).cell rfl⟩)
      have HCl := hid (show ∀ w' w'', (fun w' => Ext wv w' ∧ w'.cell? ⟨ev, 0, none⟩ = some (.string v.id) ∧ w'.cell? ⟨ev, 1, none⟩ = some (.int .i64 v.dot.site) ∧ w'.cell? ⟨ev, 2, none⟩ = some (.int .i64 v.dot.count) ∧ w'.cell? ⟨ev, 3, none⟩ = some (.int .i64 v.pt.tags) ∧ w'.cell? ⟨ev, 4, none⟩ = some (.int .i64 v.pt.num) ∧ w'.cell? ⟨ev, 5, none⟩ = some (.int .i64 v.body) ∧ w'.cell? ⟨ev, 6, none⟩ = some (.slice Av v.past.vec.length cv) ∧ w'.cell? ⟨ev, 7, none⟩ = some (.slice Am v.past.more.length cm)) w' → Ext w' w'' → (fun w' => Ext wv w' ∧ w'.cell? ⟨ev, 0, none⟩ = some (.string v.id) ∧ w'.cell? ⟨ev, 1, none⟩ = some (.int .i64 v.dot.site) ∧ w'.cell? ⟨ev, 2, none⟩ = some (.int .i64 v.dot.count) ∧ w'.cell? ⟨ev, 3, none⟩ = some (.int .i64 v.pt.tags) ∧ w'.cell? ⟨ev, 4, none⟩ = some (.int .i64 v.pt.num) ∧ w'.cell? ⟨ev, 5, none⟩ = some (.int .i64 v.body) ∧ w'.cell? ⟨ev, 6, none⟩ = some (.slice Av v.past.vec.length cv) ∧ w'.cell? ⟨ev, 7, none⟩ = some (.slice Am v.past.more.length cm)) w'' from fun w' w'' h x => ⟨h.1.trans x, HAll.out _ (h.1.trans x)⟩)
      have HT := hid (three_class (fun w' => Ext wv w' ∧ w'.cell? ⟨ev, 0, none⟩ = some (.string v.id) ∧ w'.cell? ⟨ev, 1, none⟩ = some (.int .i64 v.dot.site) ∧ w'.cell? ⟨ev, 2, none⟩ = some (.int .i64 v.dot.count) ∧ w'.cell? ⟨ev, 3, none⟩ = some (.int .i64 v.pt.tags) ∧ w'.cell? ⟨ev, 4, none⟩ = some (.int .i64 v.pt.num) ∧ w'.cell? ⟨ev, 5, none⟩ = some (.int .i64 v.body) ∧ w'.cell? ⟨ev, 6, none⟩ = some (.slice Av v.past.vec.length cv) ∧ w'.cell? ⟨ev, 7, none⟩ = some (.slice Am v.past.more.length cm)) HCl.out)
      have HKn := hid (fun w' (h : (fun w' => Ext wv w' ∧ w'.cell? ⟨ev, 0, none⟩ = some (.string v.id) ∧ w'.cell? ⟨ev, 1, none⟩ = some (.int .i64 v.dot.site) ∧ w'.cell? ⟨ev, 2, none⟩ = some (.int .i64 v.dot.count) ∧ w'.cell? ⟨ev, 3, none⟩ = some (.int .i64 v.pt.tags) ∧ w'.cell? ⟨ev, 4, none⟩ = some (.int .i64 v.pt.num) ∧ w'.cell? ⟨ev, 5, none⟩ = some (.int .i64 v.body) ∧ w'.cell? ⟨ev, 6, none⟩ = some (.slice Av v.past.vec.length cv) ∧ w'.cell? ⟨ev, 7, none⟩ = some (.slice Am v.past.more.length cm)) w') => (ref_knows B v.past Av cv Am cm w' (hV.k.ext h.1) HVO.out.k).mono fun e w'' q => (show e = .returned (.string (bstr (knowB v.past))) ∧ (fun w' => Ext wv w' ∧ w'.cell? ⟨ev, 0, none⟩ = some (.string v.id) ∧ w'.cell? ⟨ev, 1, none⟩ = some (.int .i64 v.dot.site) ∧ w'.cell? ⟨ev, 2, none⟩ = some (.int .i64 v.dot.count) ∧ w'.cell? ⟨ev, 3, none⟩ = some (.int .i64 v.pt.tags) ∧ w'.cell? ⟨ev, 4, none⟩ = some (.int .i64 v.pt.num) ∧ w'.cell? ⟨ev, 5, none⟩ = some (.int .i64 v.body) ∧ w'.cell? ⟨ev, 6, none⟩ = some (.slice Av v.past.vec.length cv) ∧ w'.cell? ⟨ev, 7, none⟩ = some (.slice Am v.past.more.length cm)) w'' from ⟨q.1, HCl.out _ _ h q.2⟩))
      refine wp_region_class (fun w' => Ext wv w' ∧ w'.cell? ⟨ev, 0, none⟩ = some (.string v.id) ∧ w'.cell? ⟨ev, 1, none⟩ = some (.int .i64 v.dot.site) ∧ w'.cell? ⟨ev, 2, none⟩ = some (.int .i64 v.dot.count) ∧ w'.cell? ⟨ev, 3, none⟩ = some (.int .i64 v.pt.tags) ∧ w'.cell? ⟨ev, 4, none⟩ = some (.int .i64 v.pt.num) ∧ w'.cell? ⟨ev, 5, none⟩ = some (.int .i64 v.body) ∧ w'.cell? ⟨ev, 6, none⟩ = some (.slice Av v.past.vec.length cv) ∧ w'.cell? ⟨ev, 7, none⟩ = some (.slice Am v.past.more.length cm)) (by kernel_rfl) (by kernel_rfl) ⟨(Ext.refl _).drew, HAll.out _ (Ext.refl _).drew⟩ ?_
      refine wpQuiet_read (v := ?_) (by rfl) (fun w' hSw => ?_) ?_
      rotate_left
      · try dsimp only at hSw
        first
          | (go_simp; done)
          | (go_simp; with_reducible rfl)
      try simp only [Act.put, List.setIfInBounds_toArray, List.set_cons_zero, List.set_cons_succ]
      refine wpQuiet_read (v := ?_) (by rfl) (fun w' hSw => ?_) ?_
      rotate_left
      · try dsimp only at hSw
        first
          | (go_simp; done)
          | (go_simp; with_reducible rfl)
      try simp only [Act.put, List.setIfInBounds_toArray, List.set_cons_zero, List.set_cons_succ]
      refine wpQuiet_read (v := ?_) (by rfl) (fun w' hSw => ?_) ?_
      rotate_left
      · try dsimp only at hSw
        first
          | (go_simp; done)
          | (go_simp; with_reducible rfl)
      try simp only [Act.put, List.setIfInBounds_toArray, List.set_cons_zero, List.set_cons_succ]
      refine wpQuiet_read (v := ?_) (by rfl) (fun w' hSw => ?_) ?_
      rotate_left
      · try dsimp only at hSw
        first
          | (go_simp; done)
          | (go_simp; with_reducible rfl)
      try simp only [Act.put, List.setIfInBounds_toArray, List.set_cons_zero, List.set_cons_succ]
      refine wpQuiet_call (args := #[.int .i64 ((v.id.size : Int))]) Try.call63 (by rfl) (by rfl) (HT.out ((v.id.size : Int)) (by have := HID.out; omega)) ?_
      try simp only [Act.put, List.setIfInBounds_toArray, List.set_cons_zero, List.set_cons_succ]
      refine wpQuiet_read (v := ?_) (by rfl) (fun w' hSw => ?_) ?_
      rotate_left
      · try dsimp only at hSw
        first
          | (go_simp; done)
          | (go_simp; with_reducible rfl)
      try simp only [Act.put, List.setIfInBounds_toArray, List.set_cons_zero, List.set_cons_succ]
      refine wpQuiet_read (v := ?_) (by rfl) (fun w' hSw => ?_) ?_
      rotate_left
      · try dsimp only at hSw
        first
          | (go_simp; done)
          | (go_simp; with_reducible rfl)
      try simp only [Act.put, List.setIfInBounds_toArray, List.set_cons_zero, List.set_cons_succ]
      refine wpQuiet_read (v := .string (bstr (three v.id.size ++ v.id.data.toList))) (by rfl) (fun w' hSw => ?_) ?_
      · have hcat := cat_raw (three v.id.size) v.id (by simp only [three_len]) HID.out
        go_simp
        rw [bstr_raw]
      try simp only [Act.put, List.setIfInBounds_toArray, List.set_cons_zero, List.set_cons_succ]
      refine wpQuiet_read (v := ?_) (by rfl) (fun w' hSw => ?_) ?_
      rotate_left
      · try dsimp only at hSw
        first
          | (go_simp; done)
          | (go_simp; with_reducible rfl)
      try simp only [Act.put, List.setIfInBounds_toArray, List.set_cons_zero, List.set_cons_succ]
      refine wpQuiet_read (v := ?_) (by rfl) (fun w' hSw => ?_) ?_
      rotate_left
      · try dsimp only at hSw
        first
          | (go_simp; done)
          | (go_simp; with_reducible rfl)
      try simp only [Act.put, List.setIfInBounds_toArray, List.set_cons_zero, List.set_cons_succ]
      refine wpQuiet_read (v := ?_) (by rfl) (fun w' hSw => ?_) ?_
      rotate_left
      · try dsimp only at hSw
        first
          | (go_simp; done)
          | (go_simp; with_reducible rfl)
      try simp only [Act.put, List.setIfInBounds_toArray, List.set_cons_zero, List.set_cons_succ]
      refine wpQuiet_call (args := #[.int .i64 (v.dot.site)]) Try.call63 (by rfl) (by rfl) (HT.out (v.dot.site) (by have h1 := dotOk_iff.1 HVO.out.dot; omega)) ?_
      try simp only [Act.put, List.setIfInBounds_toArray, List.set_cons_zero, List.set_cons_succ]
      refine wpQuiet_read (v := .string (bstr (three v.id.size ++ (v.id.data.toList ++ three v.dot.site)))) (by rfl) (fun w' hSw => ?_) ?_
      · have hcat := cat_ok (three v.id.size ++ v.id.data.toList) (three v.dot.site) (by simp only [List.length_append, three_len]; have := HID.out; rw [← id_len] at this; omega)
        go_simp
        rw [bstr_append]
        try simp only [List.append_assoc]
      try simp only [Act.put, List.setIfInBounds_toArray, List.set_cons_zero, List.set_cons_succ]
      refine wpQuiet_read (v := ?_) (by rfl) (fun w' hSw => ?_) ?_
      rotate_left
      · try dsimp only at hSw
        first
          | (go_simp; done)
          | (go_simp; with_reducible rfl)
      try simp only [Act.put, List.setIfInBounds_toArray, List.set_cons_zero, List.set_cons_succ]
      refine wpQuiet_read (v := ?_) (by rfl) (fun w' hSw => ?_) ?_
      rotate_left
      · try dsimp only at hSw
        first
          | (go_simp; done)
          | (go_simp; with_reducible rfl)
      try simp only [Act.put, List.setIfInBounds_toArray, List.set_cons_zero, List.set_cons_succ]
      refine wpQuiet_read (v := ?_) (by rfl) (fun w' hSw => ?_) ?_
      rotate_left
      · try dsimp only at hSw
        first
          | (go_simp; done)
          | (go_simp; with_reducible rfl)
      try simp only [Act.put, List.setIfInBounds_toArray, List.set_cons_zero, List.set_cons_succ]
      refine wpQuiet_call (args := #[.int .i64 (v.dot.count)]) Try.call63 (by rfl) (by rfl) (HT.out (v.dot.count) (by have h1 := dotOk_iff.1 HVO.out.dot; omega)) ?_
      try simp only [Act.put, List.setIfInBounds_toArray, List.set_cons_zero, List.set_cons_succ]
      refine wpQuiet_read (v := .string (bstr (three v.id.size ++ (v.id.data.toList ++ (three v.dot.site ++ three v.dot.count))))) (by rfl) (fun w' hSw => ?_) ?_
      · have hcat := cat_ok (three v.id.size ++ (v.id.data.toList ++ three v.dot.site)) (three v.dot.count) (by simp only [List.length_append, three_len]; have := HID.out; rw [← id_len] at this; omega)
        go_simp
        rw [bstr_append]
        try simp only [List.append_assoc]
      try simp only [Act.put, List.setIfInBounds_toArray, List.set_cons_zero, List.set_cons_succ]
      refine wpQuiet_read (v := ?_) (by rfl) (fun w' hSw => ?_) ?_
      rotate_left
      · try dsimp only at hSw
        first
          | (go_simp; done)
          | (go_simp; with_reducible rfl)
      try simp only [Act.put, List.setIfInBounds_toArray, List.set_cons_zero, List.set_cons_succ]
      refine wpQuiet_read (v := ?_) (by rfl) (fun w' hSw => ?_) ?_
      rotate_left
      · try dsimp only at hSw
        first
          | (go_simp; done)
          | (go_simp; with_reducible rfl)
      try simp only [Act.put, List.setIfInBounds_toArray, List.set_cons_zero, List.set_cons_succ]
      refine wpQuiet_read (v := ?_) (by rfl) (fun w' hSw => ?_) ?_
      rotate_left
      · try dsimp only at hSw
        first
          | (go_simp; done)
          | (go_simp; with_reducible rfl)
      try simp only [Act.put, List.setIfInBounds_toArray, List.set_cons_zero, List.set_cons_succ]
      refine wpQuiet_call (args := #[.int .i64 (v.pt.tags)]) Try.call63 (by rfl) (by rfl) (HT.out (v.pt.tags) (by have h2 := pt_bounds' HVO.out.pt; omega)) ?_
      try simp only [Act.put, List.setIfInBounds_toArray, List.set_cons_zero, List.set_cons_succ]
      refine wpQuiet_read (v := .string (bstr (three v.id.size ++ (v.id.data.toList ++ (three v.dot.site ++ (three v.dot.count ++ three v.pt.tags)))))) (by rfl) (fun w' hSw => ?_) ?_
      · have hcat := cat_ok (three v.id.size ++ (v.id.data.toList ++ (three v.dot.site ++ three v.dot.count))) (three v.pt.tags) (by simp only [List.length_append, three_len]; have := HID.out; rw [← id_len] at this; omega)
        go_simp
        rw [bstr_append]
        try simp only [List.append_assoc]
      try simp only [Act.put, List.setIfInBounds_toArray, List.set_cons_zero, List.set_cons_succ]
      refine wpQuiet_read (v := ?_) (by rfl) (fun w' hSw => ?_) ?_
      rotate_left
      · try dsimp only at hSw
        first
          | (go_simp; done)
          | (go_simp; with_reducible rfl)
      try simp only [Act.put, List.setIfInBounds_toArray, List.set_cons_zero, List.set_cons_succ]
      refine wpQuiet_read (v := ?_) (by rfl) (fun w' hSw => ?_) ?_
      rotate_left
      · try dsimp only at hSw
        first
          | (go_simp; done)
          | (go_simp; with_reducible rfl)
      try simp only [Act.put, List.setIfInBounds_toArray, List.set_cons_zero, List.set_cons_succ]
      refine wpQuiet_read (v := ?_) (by rfl) (fun w' hSw => ?_) ?_
      rotate_left
      · try dsimp only at hSw
        first
          | (go_simp; done)
          | (go_simp; with_reducible rfl)
      try simp only [Act.put, List.setIfInBounds_toArray, List.set_cons_zero, List.set_cons_succ]
      refine wpQuiet_call (args := #[.int .i64 (v.pt.num)]) Try.call63 (by rfl) (by rfl) (HT.out (v.pt.num) (by have h2 := pt_bounds' HVO.out.pt; omega)) ?_
      try simp only [Act.put, List.setIfInBounds_toArray, List.set_cons_zero, List.set_cons_succ]
      refine wpQuiet_read (v := .string (bstr (three v.id.size ++ (v.id.data.toList ++ (three v.dot.site ++ (three v.dot.count ++ (three v.pt.tags ++ three v.pt.num))))))) (by rfl) (fun w' hSw => ?_) ?_
      · have hcat := cat_ok (three v.id.size ++ (v.id.data.toList ++ (three v.dot.site ++ (three v.dot.count ++ three v.pt.tags)))) (three v.pt.num) (by simp only [List.length_append, three_len]; have := HID.out; rw [← id_len] at this; omega)
        go_simp
        rw [bstr_append]
        try simp only [List.append_assoc]
      try simp only [Act.put, List.setIfInBounds_toArray, List.set_cons_zero, List.set_cons_succ]
      refine wpQuiet_read (v := ?_) (by rfl) (fun w' hSw => ?_) ?_
      rotate_left
      · try dsimp only at hSw
        first
          | (go_simp; done)
          | (go_simp; with_reducible rfl)
      try simp only [Act.put, List.setIfInBounds_toArray, List.set_cons_zero, List.set_cons_succ]
      refine wpQuiet_read (v := ?_) (by rfl) (fun w' hSw => ?_) ?_
      rotate_left
      · try dsimp only at hSw
        first
          | (go_simp; done)
          | (go_simp; with_reducible rfl)
      try simp only [Act.put, List.setIfInBounds_toArray, List.set_cons_zero, List.set_cons_succ]
      refine wpQuiet_call (args := #[.int .i64 (v.body)]) Try.call63 (by rfl) (by rfl) (HT.out (v.body) (by have h3 := body_bounds' HVO.out.body; omega)) ?_
      try simp only [Act.put, List.setIfInBounds_toArray, List.set_cons_zero, List.set_cons_succ]
      refine wpQuiet_read (v := .string (bstr (three v.id.size ++ (v.id.data.toList ++ (three v.dot.site ++ (three v.dot.count ++ (three v.pt.tags ++ (three v.pt.num ++ three v.body)))))))) (by rfl) (fun w' hSw => ?_) ?_
      · have hcat := cat_ok (three v.id.size ++ (v.id.data.toList ++ (three v.dot.site ++ (three v.dot.count ++ (three v.pt.tags ++ three v.pt.num))))) (three v.body) (by simp only [List.length_append, three_len]; have := HID.out; rw [← id_len] at this; omega)
        go_simp
        rw [bstr_append]
        try simp only [List.append_assoc]
      try simp only [Act.put, List.setIfInBounds_toArray, List.set_cons_zero, List.set_cons_succ]
      refine wpQuiet_read (v := ?_) (by rfl) (fun w' hSw => ?_) ?_
      rotate_left
      · try dsimp only at hSw
        first
          | (go_simp; done)
          | (go_simp; with_reducible rfl)
      try simp only [Act.put, List.setIfInBounds_toArray, List.set_cons_zero, List.set_cons_succ]
      refine wpQuiet_read (v := ?_) (by rfl) (fun w' hSw => ?_) ?_
      rotate_left
      · try dsimp only at hSw
        first
          | (go_simp; done)
          | (go_simp; with_reducible rfl)
      try simp only [Act.put, List.setIfInBounds_toArray, List.set_cons_zero, List.set_cons_succ]
      refine wpQuiet_call Try.call64 (by rfl) (by rfl) HKn.out ?_
      try simp only [Act.put, List.setIfInBounds_toArray, List.set_cons_zero, List.set_cons_succ]
      refine wpQuiet_read (v := .string (bstr (three v.id.size ++ (v.id.data.toList ++ (three v.dot.site ++ (three v.dot.count ++ (three v.pt.tags ++ (three v.pt.num ++ (three v.body ++ knowB v.past))))))))) (by rfl) (fun w' hSw => ?_) ?_
      · have hcat := cat_ok (three v.id.size ++ (v.id.data.toList ++ (three v.dot.site ++ (three v.dot.count ++ (three v.pt.tags ++ (three v.pt.num ++ three v.body)))))) (knowB v.past) (by simp only [List.length_append, three_len]; have := HID.out; rw [← id_len] at this; have := knowB_len HVO.out.k; omega)
        go_simp
        rw [bstr_append]
        try simp only [List.append_assoc]
      try simp only [Act.put, List.setIfInBounds_toArray, List.set_cons_zero, List.set_cons_succ]
      refine wpQuiet_read (v := .string (bstr (OV ++ (three v.id.size ++ (v.id.data.toList ++ (three v.dot.site ++ (three v.dot.count ++ (three v.pt.tags ++ (three v.pt.num ++ (three v.body ++ knowB v.past)))))))))) (by rfl) (fun w' hSw => ?_) ?_
      · have hcat := cat_ok (OV) (three v.id.size ++ (v.id.data.toList ++ (three v.dot.site ++ (three v.dot.count ++ (three v.pt.tags ++ (three v.pt.num ++ (three v.body ++ knowB v.past))))))) (by simp only [List.length_append, three_len]; have := HID.out; rw [← id_len] at this; have := knowB_len HVO.out.k; have := HLV.out; omega)
        go_simp
        rw [bstr_append]
        try simp only [List.append_assoc]
      try simp only [Act.put, List.setIfInBounds_toArray, List.set_cons_zero, List.set_cons_succ]
      refine wpQuiet_read (v := .string (bstr (OV ++ (three v.id.size ++ (v.id.data.toList ++ (three v.dot.site ++ (three v.dot.count ++ (three v.pt.tags ++ (three v.pt.num ++ (three v.body ++ knowB v.past)))))))))) (by rfl) (fun w' hSw => ?_) ?_
      · go_simp
      try simp only [Act.put, List.setIfInBounds_toArray, List.set_cons_zero, List.set_cons_succ]
      refine wpQuiet_nil ?_
      clear HCl HT HKn
      intro w4 hw4
      have hxn := hxv.trans hw4.1
      clear hw4
      replace hbb := hbb.ext hxn
      replace hx := hx.trans hxn
      go_wp2_with fail
      go_roundw
      case rel => exact ⟨kV + 1, hltV, by go_num, by rw [HSV.out]; simp [verB, textB, nums, List.append_assoc], hx, hbb⟩
      case measure => simp [intOf]; omega
    · obtain rfl : kV = b.vers.length := by omega
      rw [List.take_length] at hTake ⊢
      obtain ⟨OVe, hOVe⟩ : ∃ O, O = O1 ++ b.vers.flatMap verB := ⟨_, rfl⟩
      rw [← hOVe]
      have HEV := hid hOVe
      have HLVe := hid (show OVe.length ≤ 25809 by
        rw [hOVe, List.length_append]
        have := HL1.out
        omega)
      clear hOVe hTake hk hltV
      have y0 := hbb.cell (i := 3) (u := .slice Ag b.gone.length cg) rfl
      have hcat := cat_ok OVe (three b.gone.length) (by rw [three_len]; have := HLVe.out; omega)
      go_wp2_with fail
      refine (ref_threeI (b.gone.length : Int) (by omega) _).mono ?_
      rintro e w4 ⟨rfl, hx4⟩
      clear y0
      replace hbb := hbb.ext hx4
      replace hx := hx.trans hx4
      clear hx4
      obtain ⟨O2, hO2⟩ : ∃ O, O = OVe ++ three b.gone.length := ⟨_, rfl⟩
      have HO2 := hid hO2
      have HL2 := hid (show O2.length ≤ 25812 by rw [hO2]; simp only [List.length_append, three_len]; have := HLVe.out; omega)
      have HOC := hid (show bstr OVe ++ bstr (three b.gone.length) = bstr O2 by rw [hO2, bstr_append])
      clear hO2
      have y0 := hbb.cell (i := 3) (u := .slice Ag b.gone.length cg) rfl
      go_wp2_with fail
      rw [HOC.out]
      clear HOC hcat y0
      go_loopw [80, 3] (fun i s wr => ∃ kG : Nat, kG ≤ b.gone.length ∧ i = .int .i64 kG ∧ s = .string (bstr (O2 ++ (b.gone.take kG).flatMap goneB)) ∧ Ext w wr ∧ Blk wr rb 26 #[.int .i64 b.site, .int .i64 b.stamp, .slice Ax b.vers.length cx, .slice Ag b.gone.length cg, .slice Ap b.parts.length cp]) (fun i _ _ => b.gone.length - (intOf i).toNat)
      case atStart => exact ⟨0, Nat.zero_le _, rfl, by simp, hx, hbb⟩
      case round =>
        clear hx hbb
        obtain ⟨kG, hk, rfl, rfl, hx, hbb⟩ := hrel
        obtain ⟨wrG, hwq⟩ : ∃ x, x = wr := ⟨_, rfl⟩
        subst hwq
        have hTake := take_len goneB 430 b.gone HLGf.out kG
        by_cases hltG : kG < b.gone.length
        · have HSG := hid (show O2 ++ (b.gone.take (kG + 1)).flatMap goneB = (O2 ++ (b.gone.take kG).flatMap goneB) ++ goneB b.gone[kG] by rw [flat_take _ _ _ hltG, List.append_assoc])
          obtain ⟨OG, hO⟩ : ∃ O, O = O2 ++ (b.gone.take kG).flatMap goneB := ⟨_, rfl⟩
          rw [← hO] at HSG ⊢
          have HLG := hid (show OG.length ≤ 51612 by
            rw [hO, List.length_append]
            have := HL2.out
            omega)
          clear hO hTake
          obtain ⟨eb, eo, Av, cv, Am, cm, hA, heb, hrow, hV⟩ := (HI.out.sg.ext RGone.monoE hx).gone hltG
          subst hA
          obtain ⟨v, hv⟩ : ∃ v, v = b.gone[kG] := ⟨_, rfl⟩
          rw [← hv] at hrow hV HSG
          have HVO := hid (show GoneOk v by rw [hv]; exact HOK.out.gone _ (List.getElem_mem hltG))
          have hsz : ([.string v.id, .slice Av v.past.vec.length cv, .slice Am v.past.more.length cm] : List Value).length = 3 := rfl
          have hbv := Blk.new wrG 48 #[.string v.id, .slice Av v.past.vec.length cv, .slice Am v.past.more.length cm]
          have hxv := (Ext.refl wrG).alloc (.cells #[.string v.id, .slice Av v.past.vec.length cv, .slice Am v.past.more.length cm] 48)
          clear hv heb
          go_wp2_with ((with_reducible refine wpList_loadL (o := ⟨some 83, _, _, _, _, _⟩) ri_gone _ rfl rfl rfl hrow hsz ?_))
          clear hrow hsz
          replace hV := hV.ext hxv
          obtain ⟨ev, hev⟩ : ∃ x, x = wrG.heap.size := ⟨_, rfl⟩
          obtain ⟨wv, hwv⟩ : ∃ x, x = wrG.alloc (.cells #[.string v.id, .slice Av v.past.vec.length cv, .slice Am v.past.more.length cm] 48) := ⟨_, rfl⟩
          rw [← hwv] at hV hxv
          rw [← hwv, ← hev] at hbv
          rw [← hwv, ← hev]
          clear hwv hev
          have HID := hid (textB_len HVO.out.id).2
          have HAll := hid (fun w' (xq : Ext wv w') => show w'.cell? ⟨ev, 0, none⟩ = some (.string v.id) ∧ w'.cell? ⟨ev, 1, none⟩ = some (.slice Av v.past.vec.length cv) ∧ w'.cell? ⟨ev, 2, none⟩ = some (.slice Am v.past.more.length cm) from ⟨(hbv.ext xq).cell rfl, (hbv.ext xq).cell rfl, (hbv.ext xq).cell rfl⟩)
          have HCl := hid (show ∀ w' w'', (fun w' => Ext wv w' ∧ w'.cell? ⟨ev, 0, none⟩ = some (.string v.id) ∧ w'.cell? ⟨ev, 1, none⟩ = some (.slice Av v.past.vec.length cv) ∧ w'.cell? ⟨ev, 2, none⟩ = some (.slice Am v.past.more.length cm)) w' → Ext w' w'' → (fun w' => Ext wv w' ∧ w'.cell? ⟨ev, 0, none⟩ = some (.string v.id) ∧ w'.cell? ⟨ev, 1, none⟩ = some (.slice Av v.past.vec.length cv) ∧ w'.cell? ⟨ev, 2, none⟩ = some (.slice Am v.past.more.length cm)) w'' from fun w' w'' h x => ⟨h.1.trans x, HAll.out _ (h.1.trans x)⟩)
          have HT := hid (three_class (fun w' => Ext wv w' ∧ w'.cell? ⟨ev, 0, none⟩ = some (.string v.id) ∧ w'.cell? ⟨ev, 1, none⟩ = some (.slice Av v.past.vec.length cv) ∧ w'.cell? ⟨ev, 2, none⟩ = some (.slice Am v.past.more.length cm)) HCl.out)
          have HKn := hid (fun w' (h : (fun w' => Ext wv w' ∧ w'.cell? ⟨ev, 0, none⟩ = some (.string v.id) ∧ w'.cell? ⟨ev, 1, none⟩ = some (.slice Av v.past.vec.length cv) ∧ w'.cell? ⟨ev, 2, none⟩ = some (.slice Am v.past.more.length cm)) w') => (ref_knows B v.past Av cv Am cm w' (hV.k.ext h.1) HVO.out.k).mono fun e w'' q => (show e = .returned (.string (bstr (knowB v.past))) ∧ (fun w' => Ext wv w' ∧ w'.cell? ⟨ev, 0, none⟩ = some (.string v.id) ∧ w'.cell? ⟨ev, 1, none⟩ = some (.slice Av v.past.vec.length cv) ∧ w'.cell? ⟨ev, 2, none⟩ = some (.slice Am v.past.more.length cm)) w'' from ⟨q.1, HCl.out _ _ h q.2⟩))
          refine wp_region_class (fun w' => Ext wv w' ∧ w'.cell? ⟨ev, 0, none⟩ = some (.string v.id) ∧ w'.cell? ⟨ev, 1, none⟩ = some (.slice Av v.past.vec.length cv) ∧ w'.cell? ⟨ev, 2, none⟩ = some (.slice Am v.past.more.length cm)) (by kernel_rfl) (by kernel_rfl) ⟨(Ext.refl _).drew, HAll.out _ (Ext.refl _).drew⟩ ?_
          refine wpQuiet_read (v := ?_) (by rfl) (fun w' hSw => ?_) ?_
          rotate_left
          · try dsimp only at hSw
            first
              | (go_simp; done)
              | (go_simp; with_reducible rfl)
          try simp only [Act.put, List.setIfInBounds_toArray, List.set_cons_zero, List.set_cons_succ]
          refine wpQuiet_read (v := ?_) (by rfl) (fun w' hSw => ?_) ?_
          rotate_left
          · try dsimp only at hSw
            first
              | (go_simp; done)
              | (go_simp; with_reducible rfl)
          try simp only [Act.put, List.setIfInBounds_toArray, List.set_cons_zero, List.set_cons_succ]
          refine wpQuiet_read (v := ?_) (by rfl) (fun w' hSw => ?_) ?_
          rotate_left
          · try dsimp only at hSw
            first
              | (go_simp; done)
              | (go_simp; with_reducible rfl)
          try simp only [Act.put, List.setIfInBounds_toArray, List.set_cons_zero, List.set_cons_succ]
          refine wpQuiet_read (v := ?_) (by rfl) (fun w' hSw => ?_) ?_
          rotate_left
          · try dsimp only at hSw
            first
              | (go_simp; done)
              | (go_simp; with_reducible rfl)
          try simp only [Act.put, List.setIfInBounds_toArray, List.set_cons_zero, List.set_cons_succ]
          refine wpQuiet_call (args := #[.int .i64 ((v.id.size : Int))]) Try.call63 (by rfl) (by rfl) (HT.out ((v.id.size : Int)) (by have := HID.out; omega)) ?_
          try simp only [Act.put, List.setIfInBounds_toArray, List.set_cons_zero, List.set_cons_succ]
          refine wpQuiet_read (v := ?_) (by rfl) (fun w' hSw => ?_) ?_
          rotate_left
          · try dsimp only at hSw
            first
              | (go_simp; done)
              | (go_simp; with_reducible rfl)
          try simp only [Act.put, List.setIfInBounds_toArray, List.set_cons_zero, List.set_cons_succ]
          refine wpQuiet_read (v := ?_) (by rfl) (fun w' hSw => ?_) ?_
          rotate_left
          · try dsimp only at hSw
            first
              | (go_simp; done)
              | (go_simp; with_reducible rfl)
          try simp only [Act.put, List.setIfInBounds_toArray, List.set_cons_zero, List.set_cons_succ]
          refine wpQuiet_read (v := .string (bstr (three v.id.size ++ v.id.data.toList))) (by rfl) (fun w' hSw => ?_) ?_
          · have hcat := cat_raw (three v.id.size) v.id (by simp only [three_len]) HID.out
            go_simp
            rw [bstr_raw]
          try simp only [Act.put, List.setIfInBounds_toArray, List.set_cons_zero, List.set_cons_succ]
          refine wpQuiet_read (v := ?_) (by rfl) (fun w' hSw => ?_) ?_
          rotate_left
          · try dsimp only at hSw
            first
              | (go_simp; done)
              | (go_simp; with_reducible rfl)
          try simp only [Act.put, List.setIfInBounds_toArray, List.set_cons_zero, List.set_cons_succ]
          refine wpQuiet_read (v := ?_) (by rfl) (fun w' hSw => ?_) ?_
          rotate_left
          · try dsimp only at hSw
            first
              | (go_simp; done)
              | (go_simp; with_reducible rfl)
          try simp only [Act.put, List.setIfInBounds_toArray, List.set_cons_zero, List.set_cons_succ]
          refine wpQuiet_call Try.call64 (by rfl) (by rfl) HKn.out ?_
          try simp only [Act.put, List.setIfInBounds_toArray, List.set_cons_zero, List.set_cons_succ]
          refine wpQuiet_read (v := .string (bstr (three v.id.size ++ (v.id.data.toList ++ knowB v.past)))) (by rfl) (fun w' hSw => ?_) ?_
          · have hcat := cat_ok (three v.id.size ++ v.id.data.toList) (knowB v.past) (by simp only [List.length_append, three_len]; have := HID.out; rw [← id_len] at this; have := knowB_len HVO.out.k; omega)
            go_simp
            rw [bstr_append]
            try simp only [List.append_assoc]
          try simp only [Act.put, List.setIfInBounds_toArray, List.set_cons_zero, List.set_cons_succ]
          refine wpQuiet_read (v := .string (bstr (OG ++ (three v.id.size ++ (v.id.data.toList ++ knowB v.past))))) (by rfl) (fun w' hSw => ?_) ?_
          · have hcat := cat_ok (OG) (three v.id.size ++ (v.id.data.toList ++ knowB v.past)) (by simp only [List.length_append, three_len]; have := HID.out; rw [← id_len] at this; have := knowB_len HVO.out.k; have := HLG.out; omega)
            go_simp
            rw [bstr_append]
            try simp only [List.append_assoc]
          try simp only [Act.put, List.setIfInBounds_toArray, List.set_cons_zero, List.set_cons_succ]
          refine wpQuiet_read (v := .string (bstr (OG ++ (three v.id.size ++ (v.id.data.toList ++ knowB v.past))))) (by rfl) (fun w' hSw => ?_) ?_
          · go_simp
          try simp only [Act.put, List.setIfInBounds_toArray, List.set_cons_zero, List.set_cons_succ]
          refine wpQuiet_nil ?_
          clear HCl HT HKn
          intro w4 hw4
          have hxn := hxv.trans hw4.1
          clear hw4
          replace hbb := hbb.ext hxn
          replace hx := hx.trans hxn
          go_wp2_with fail
          go_roundw
          case rel => exact ⟨kG + 1, hltG, by go_num, by rw [HSG.out]; simp [goneB, textB, List.append_assoc], hx, hbb⟩
          case measure => simp [intOf]; omega
        · obtain rfl : kG = b.gone.length := by omega
          rw [List.take_length] at hTake ⊢
          obtain ⟨OGe, hOGe⟩ : ∃ O, O = O2 ++ b.gone.flatMap goneB := ⟨_, rfl⟩
          rw [← hOGe]
          have HEG := hid hOGe
          have HLGe := hid (show OGe.length ≤ 51612 by
            rw [hOGe, List.length_append]
            have := HL2.out
            omega)
          clear hOGe hTake hk hltG
          have y0 := hbb.cell (i := 4) (u := .slice Ap b.parts.length cp) rfl
          have hcat := cat_ok OGe (three b.parts.length) (by rw [three_len]; have := HLGe.out; omega)
          go_wp2_with fail
          refine (ref_threeI (b.parts.length : Int) (by omega) _).mono ?_
          rintro e w4 ⟨rfl, hx4⟩
          clear y0
          replace hbb := hbb.ext hx4
          replace hx := hx.trans hx4
          clear hx4
          obtain ⟨O3, hO3⟩ : ∃ O, O = OGe ++ three b.parts.length := ⟨_, rfl⟩
          have HO3 := hid hO3
          have HL3 := hid (show O3.length ≤ 51615 by rw [hO3]; simp only [List.length_append, three_len]; have := HLGe.out; omega)
          have HOC := hid (show bstr OGe ++ bstr (three b.parts.length) = bstr O3 by rw [hO3, bstr_append])
          clear hO3
          have y0 := hbb.cell (i := 4) (u := .slice Ap b.parts.length cp) rfl
          go_wp2_with fail
          rw [HOC.out]
          clear HOC hcat y0
          go_loopw [107, 3] (fun i s wr => ∃ kP : Nat, kP ≤ b.parts.length ∧ i = .int .i64 kP ∧ s = .string (bstr (O3 ++ (b.parts.take kP).flatMap partB)) ∧ Ext w wr ∧ Blk wr rb 26 #[.int .i64 b.site, .int .i64 b.stamp, .slice Ax b.vers.length cx, .slice Ag b.gone.length cg, .slice Ap b.parts.length cp]) (fun i _ _ => b.parts.length - (intOf i).toNat)
          case atStart => exact ⟨0, Nat.zero_le _, rfl, by simp, hx, hbb⟩
          case round =>
            clear hx hbb
            obtain ⟨kP, hk, rfl, rfl, hx, hbb⟩ := hrel
            obtain ⟨wrP, hwq⟩ : ∃ x, x = wr := ⟨_, rfl⟩
            subst hwq
            have hTake := take_len partB 4603 b.parts HLPf.out kP
            by_cases hltP : kP < b.parts.length
            · have HSP := hid (show O3 ++ (b.parts.take (kP + 1)).flatMap partB = (O3 ++ (b.parts.take kP).flatMap partB) ++ partB b.parts[kP] by rw [flat_take _ _ _ hltP, List.append_assoc])
              obtain ⟨OP, hO⟩ : ∃ O, O = O3 ++ (b.parts.take kP).flatMap partB := ⟨_, rfl⟩
              rw [← hO] at HSP ⊢
              have HLP := hid (show OP.length ≤ 189705 by
                rw [hO, List.length_append]
                have := HL3.out
                omega)
              clear hO hTake
              obtain ⟨eb, eo, Af, cf, Av, cv, Am, cm, hA, heb, g0, g1, g2, hV⟩ := (HI.out.sp.ext RPart.monoE hx).part hltP
              subst hA
              obtain ⟨v, hv⟩ : ∃ v, v = b.parts[kP] := ⟨_, rfl⟩
              rw [← hv] at g0 g1 g2 hV HSP
              have HVO := hid (show PartOk v by rw [hv]; exact HOK.out.parts _ (List.getElem_mem hltP))
              have HFO := hid (filterCheck_ok HVO.out.f)
              have hf40 : v.filter.length ≤ 40 := HFO.out.1
              have HLBX := hid (fun x hx => boxB_len (HFO.out.2 x hx))
              have hbv := Blk.new wrP 69 #[.slice Af v.filter.length cf, .slice Av v.know.vec.length cv, .slice Am v.know.more.length cm]
              have hxv := (Ext.refl wrP).alloc (.cells #[.slice Af v.filter.length cf, .slice Av v.know.vec.length cv, .slice Am v.know.more.length cm] 69)
              have hcat := cat_ok OP (three v.filter.length) (by rw [three_len]; have := HLP.out; omega)
              clear hv heb
              go_wp2_with fail
              clear g0 g1 g2
              refine (ref_threeI (v.filter.length : Int) (by omega) _).mono ?_
              rintro e w4 ⟨rfl, hx4⟩
              have hev0 := hxv.trans hx4
              replace hbv := hbv.ext hx4
              replace hV := hV.ext hev0
              have HXX := hid (hx.trans hev0)
              have HBB := hid (hbb.ext hev0)
              clear hxv hx4 hev0 hx hbb
              obtain ⟨ev, hev⟩ : ∃ x, x = wrP.heap.size := ⟨_, rfl⟩
              rw [← hev] at hbv
              rw [← hev]
              clear hev
              obtain ⟨OQ, hOQ⟩ : ∃ O, O = OP ++ three v.filter.length := ⟨_, rfl⟩
              have HOQ := hid hOQ
              have HLQ := hid (show OQ.length ≤ 300003 by rw [hOQ]; simp only [List.length_append, three_len]; have := HLP.out; omega)
              have HOC := hid (show bstr OP ++ bstr (three v.filter.length) = bstr OQ by rw [hOQ, bstr_append])
              clear hOQ
              have y0 := hbv.cell (i := 0) (u := .slice Af v.filter.length cf) rfl
              go_wp2_with fail
              rw [HOC.out]
              clear HOC hcat y0
              have hx := Ext.refl w4
              go_loopw [120, 3] (fun i s wr => ∃ kX : Nat, kX ≤ v.filter.length ∧ i = .int .i64 kX ∧ s = .string (bstr (OQ ++ (v.filter.take kX).flatMap boxB)) ∧ Ext w4 wr) (fun i _ _ => v.filter.length - (intOf i).toNat)
              case atStart => exact ⟨0, Nat.zero_le _, rfl, by simp, hx⟩
              case round =>
                clear hx
                obtain ⟨kX, hk, rfl, rfl, hx⟩ := hrel
                obtain ⟨wrX, hwq⟩ : ∃ x, x = wr := ⟨_, rfl⟩
                subst hwq
                have hTake := take_len boxB 105 v.filter HLBX.out kX
                by_cases hltX : kX < v.filter.length
                · have HSX := hid (show OQ ++ (v.filter.take (kX + 1)).flatMap boxB = (OQ ++ (v.filter.take kX).flatMap boxB) ++ boxB v.filter[kX] by rw [flat_take _ _ _ hltX, List.append_assoc])
                  obtain ⟨OX, hO⟩ : ∃ O, O = OQ ++ (v.filter.take kX).flatMap boxB := ⟨_, rfl⟩
                  rw [← hO] at HSX ⊢
                  have HLX := hid (show OX.length ≤ 304203 by
                    rw [hO, List.length_append]
                    have := HLQ.out
                    omega)
                  clear hO hTake
                  obtain ⟨fb, fo, As, cs, hAf, hfb, f0, f1, f2, hsl, hS⟩ := (hV.ext hx).sf.box hltX
                  subst hAf
                  obtain ⟨x, hxx⟩ : ∃ x, x = v.filter[kX] := ⟨_, rfl⟩
                  rw [← hxx] at f0 f1 f2 hsl hS HSX
                  have HXO := hid (box_nums (show BoxOk x by rw [hxx]; exact HFO.out.2 _ (List.getElem_mem hltX)))
                  have hs16 : x.spans.length ≤ 16 := HXO.out.2.2.1
                  have hbx := Blk.new wrX 108 #[.int .i64 x.cube.yes, .int .i64 x.cube.no, .slice As x.spans.length cs]
                  have hxv := (Ext.refl wrX).alloc (.cells #[.int .i64 x.cube.yes, .int .i64 x.cube.no, .slice As x.spans.length cs] 108)
                  clear hxx hfb
                  go_wp2_with fail
                  clear f0 f1 f2
                  obtain ⟨ex, hev⟩ : ∃ x, x = wrX.heap.size := ⟨_, rfl⟩
                  obtain ⟨wv, hwv⟩ : ∃ y, y = wrX.alloc (.cells #[.int .i64 x.cube.yes, .int .i64 x.cube.no, .slice As x.spans.length cs] 108) := ⟨_, rfl⟩
                  rw [← hwv] at hxv
                  rw [← hwv, ← hev] at hbx
                  rw [← hwv, ← hev]
                  clear hwv hev
                  replace hS := hS.ext RPair.mono hxv
                  have HAll := hid (fun w' (xq : Ext wv w') => show w'.cell? ⟨ex, 0, none⟩ = some (.int .i64 x.cube.yes) ∧ w'.cell? ⟨ex, 1, none⟩ = some (.int .i64 x.cube.no) ∧ w'.cell? ⟨ex, 2, none⟩ = some (.slice As x.spans.length cs) from ⟨(hbx.ext xq).cell rfl, (hbx.ext xq).cell rfl, (hbx.ext xq).cell rfl⟩)
                  have HCl := hid (show ∀ w' w'', (fun w' => Ext wv w' ∧ w'.cell? ⟨ex, 0, none⟩ = some (.int .i64 x.cube.yes) ∧ w'.cell? ⟨ex, 1, none⟩ = some (.int .i64 x.cube.no) ∧ w'.cell? ⟨ex, 2, none⟩ = some (.slice As x.spans.length cs)) w' → Ext w' w'' → (fun w' => Ext wv w' ∧ w'.cell? ⟨ex, 0, none⟩ = some (.int .i64 x.cube.yes) ∧ w'.cell? ⟨ex, 1, none⟩ = some (.int .i64 x.cube.no) ∧ w'.cell? ⟨ex, 2, none⟩ = some (.slice As x.spans.length cs)) w'' from fun w' w'' h x => ⟨h.1.trans x, HAll.out _ (h.1.trans x)⟩)
                  have HT := hid (three_class (fun w' => Ext wv w' ∧ w'.cell? ⟨ex, 0, none⟩ = some (.int .i64 x.cube.yes) ∧ w'.cell? ⟨ex, 1, none⟩ = some (.int .i64 x.cube.no) ∧ w'.cell? ⟨ex, 2, none⟩ = some (.slice As x.spans.length cs)) HCl.out)
                  refine wp_region_class (fun w' => Ext wv w' ∧ w'.cell? ⟨ex, 0, none⟩ = some (.int .i64 x.cube.yes) ∧ w'.cell? ⟨ex, 1, none⟩ = some (.int .i64 x.cube.no) ∧ w'.cell? ⟨ex, 2, none⟩ = some (.slice As x.spans.length cs)) (by kernel_rfl) (by kernel_rfl) ⟨(Ext.refl _).drew, HAll.out _ (Ext.refl _).drew⟩ ?_
                  refine wpQuiet_read (v := ?_) (by rfl) (fun w' hSw => ?_) ?_
                  rotate_left
                  · try dsimp only at hSw
                    first
                      | (go_simp; done)
                      | (go_simp; with_reducible rfl)
                  try simp only [Act.put, List.setIfInBounds_toArray, List.set_cons_zero, List.set_cons_succ]
                  refine wpQuiet_read (v := ?_) (by rfl) (fun w' hSw => ?_) ?_
                  rotate_left
                  · try dsimp only at hSw
                    first
                      | (go_simp; done)
                      | (go_simp; with_reducible rfl)
                  try simp only [Act.put, List.setIfInBounds_toArray, List.set_cons_zero, List.set_cons_succ]
                  refine wpQuiet_read (v := ?_) (by rfl) (fun w' hSw => ?_) ?_
                  rotate_left
                  · try dsimp only at hSw
                    first
                      | (go_simp; done)
                      | (go_simp; with_reducible rfl)
                  try simp only [Act.put, List.setIfInBounds_toArray, List.set_cons_zero, List.set_cons_succ]
                  refine wpQuiet_read (v := ?_) (by rfl) (fun w' hSw => ?_) ?_
                  rotate_left
                  · try dsimp only at hSw
                    first
                      | (go_simp; done)
                      | (go_simp; with_reducible rfl)
                  try simp only [Act.put, List.setIfInBounds_toArray, List.set_cons_zero, List.set_cons_succ]
                  refine wpQuiet_call (args := #[.int .i64 (x.cube.yes)]) Try.call63 (by rfl) (by rfl) (HT.out (x.cube.yes) (by have := HXO.out; omega)) ?_
                  try simp only [Act.put, List.setIfInBounds_toArray, List.set_cons_zero, List.set_cons_succ]
                  refine wpQuiet_read (v := ?_) (by rfl) (fun w' hSw => ?_) ?_
                  rotate_left
                  · try dsimp only at hSw
                    first
                      | (go_simp; done)
                      | (go_simp; with_reducible rfl)
                  try simp only [Act.put, List.setIfInBounds_toArray, List.set_cons_zero, List.set_cons_succ]
                  refine wpQuiet_read (v := ?_) (by rfl) (fun w' hSw => ?_) ?_
                  rotate_left
                  · try dsimp only at hSw
                    first
                      | (go_simp; done)
                      | (go_simp; with_reducible rfl)
                  try simp only [Act.put, List.setIfInBounds_toArray, List.set_cons_zero, List.set_cons_succ]
                  refine wpQuiet_read (v := ?_) (by rfl) (fun w' hSw => ?_) ?_
                  rotate_left
                  · try dsimp only at hSw
                    first
                      | (go_simp; done)
                      | (go_simp; with_reducible rfl)
                  try simp only [Act.put, List.setIfInBounds_toArray, List.set_cons_zero, List.set_cons_succ]
                  refine wpQuiet_call (args := #[.int .i64 (x.cube.no)]) Try.call63 (by rfl) (by rfl) (HT.out (x.cube.no) (by have := HXO.out; omega)) ?_
                  try simp only [Act.put, List.setIfInBounds_toArray, List.set_cons_zero, List.set_cons_succ]
                  refine wpQuiet_read (v := .string (bstr (three x.cube.yes ++ three x.cube.no))) (by rfl) (fun w' hSw => ?_) ?_
                  · have hcat := cat_ok (three x.cube.yes) (three x.cube.no) (by simp only [three_len]; omega)
                    go_simp
                    rw [bstr_append]
                    try simp only [List.append_assoc]
                  try simp only [Act.put, List.setIfInBounds_toArray, List.set_cons_zero, List.set_cons_succ]
                  refine wpQuiet_read (v := ?_) (by rfl) (fun w' hSw => ?_) ?_
                  rotate_left
                  · try dsimp only at hSw
                    first
                      | (go_simp; done)
                      | (go_simp; with_reducible rfl)
                  try simp only [Act.put, List.setIfInBounds_toArray, List.set_cons_zero, List.set_cons_succ]
                  refine wpQuiet_read (v := ?_) (by rfl) (fun w' hSw => ?_) ?_
                  rotate_left
                  · try dsimp only at hSw
                    first
                      | (go_simp; done)
                      | (go_simp; with_reducible rfl)
                  try simp only [Act.put, List.setIfInBounds_toArray, List.set_cons_zero, List.set_cons_succ]
                  refine wpQuiet_read (v := ?_) (by rfl) (fun w' hSw => ?_) ?_
                  rotate_left
                  · try dsimp only at hSw
                    first
                      | (go_simp; done)
                      | (go_simp; with_reducible rfl)
                  try simp only [Act.put, List.setIfInBounds_toArray, List.set_cons_zero, List.set_cons_succ]
                  refine wpQuiet_call (args := #[.int .i64 ((x.spans.length : Int))]) Try.call63 (by rfl) (by rfl) (HT.out ((x.spans.length : Int)) (by omega)) ?_
                  try simp only [Act.put, List.setIfInBounds_toArray, List.set_cons_zero, List.set_cons_succ]
                  refine wpQuiet_read (v := .string (bstr (three x.cube.yes ++ (three x.cube.no ++ three x.spans.length)))) (by rfl) (fun w' hSw => ?_) ?_
                  · have hcat := cat_ok (three x.cube.yes ++ three x.cube.no) (three x.spans.length) (by simp only [List.length_append, three_len]; omega)
                    go_simp
                    rw [bstr_append]
                    try simp only [List.append_assoc]
                  try simp only [Act.put, List.setIfInBounds_toArray, List.set_cons_zero, List.set_cons_succ]
                  refine wpQuiet_read (v := .string (bstr (OX ++ (three x.cube.yes ++ (three x.cube.no ++ three x.spans.length))))) (by rfl) (fun w' hSw => ?_) ?_
                  · have hcat := cat_ok (OX) (three x.cube.yes ++ (three x.cube.no ++ three x.spans.length)) (by simp only [List.length_append, three_len]; have := HLX.out; omega)
                    go_simp
                    rw [bstr_append]
                    try simp only [List.append_assoc]
                  try simp only [Act.put, List.setIfInBounds_toArray, List.set_cons_zero, List.set_cons_succ]
                  refine wpQuiet_read (v := .string (bstr (OX ++ (three x.cube.yes ++ (three x.cube.no ++ three x.spans.length))))) (by rfl) (fun w' hSw => ?_) ?_
                  · go_simp
                  try simp only [Act.put, List.setIfInBounds_toArray, List.set_cons_zero, List.set_cons_succ]
                  refine wpQuiet_nil ?_
                  clear HCl HT
                  intro w4 hw4
                  have hxn := hxv.trans hw4.1
                  replace hbx := hbx.ext hw4.1
                  replace hS := hS.ext RPair.mono hw4.1
                  clear hw4 hxv
                  have HXX := hid (hx.trans hxn)
                  clear hx hxn
                  obtain ⟨OB, hOB⟩ : ∃ O, O = OX ++ (three x.cube.yes ++ (three x.cube.no ++ three x.spans.length)) := ⟨_, rfl⟩
                  have HOB := hid hOB
                  have HLB := hid (show OB.length ≤ 304212 by rw [hOB]; simp only [List.length_append, three_len]; have := HLX.out; omega)
                  rw [← hOB]
                  clear hOB
                  have y2 := hbx.cell (i := 2) (u := .slice As x.spans.length cs) rfl
                  go_wp2_with fail
                  clear y2 hbx
                  have hx := Ext.refl w4
                  go_loopw [143, 3] (fun i s wr => ∃ kS : Nat, kS ≤ x.spans.length ∧ i = .int .i64 kS ∧ s = .string (bstr (OB ++ (x.spans.take kS).flatMap (fun s => nums [s.fr, s.to]))) ∧ Ext w4 wr) (fun i _ _ => x.spans.length - (intOf i).toNat)
                  case atStart => exact ⟨0, Nat.zero_le _, rfl, by simp, hx⟩
                  case round =>
                    clear hx
                    obtain ⟨kS, hk, rfl, rfl, hx⟩ := hrel
                    obtain ⟨wrS, hwq⟩ : ∃ x, x = wr := ⟨_, rfl⟩
                    subst hwq
                    have hTake := take_len (fun s => nums [s.fr, s.to]) 6 x.spans (fun s _ => Nat.le_of_eq (nums_len [s.fr, s.to])) kS
                    by_cases hltS : kS < x.spans.length
                    · have HSS := hid (show OB ++ (x.spans.take (kS + 1)).flatMap (fun s => nums [s.fr, s.to]) = (OB ++ (x.spans.take kS).flatMap (fun s => nums [s.fr, s.to])) ++ (fun s => nums [s.fr, s.to]) x.spans[kS] by rw [flat_take _ _ _ hltS, List.append_assoc])
                      obtain ⟨OS, hO⟩ : ∃ O, O = OB ++ (x.spans.take kS).flatMap (fun s => nums [s.fr, s.to]) := ⟨_, rfl⟩
                      rw [← hO] at HSS ⊢
                      have HLS := hid (show OS.length ≤ 304308 by
                        rw [hO, List.length_append]
                        have := HLB.out
                        omega)
                      clear hO hTake
                      obtain ⟨sb, so, hAs, hsb, e0, e1⟩ := (hS.ext RPair.mono hx).pair hltS
                      subst hAs
                      obtain ⟨u, hu⟩ : ∃ u, u = x.spans[kS] := ⟨_, rfl⟩
                      rw [← hu] at e0 e1 HSS
                      have HUO := hid (HXO.out.2.2.2 u (by rw [hu]; exact List.getElem_mem hltS))
                      have hbv := Blk.new wrS 110 #[.int .i64 u.fr, .int .i64 u.to]
                      have hxv := (Ext.refl wrS).alloc (.cells #[.int .i64 u.fr, .int .i64 u.to] 110)
                      clear hu hsb
                      go_wp2_with fail
                      clear e0 e1
                      obtain ⟨ev, hev⟩ : ∃ x, x = wrS.heap.size := ⟨_, rfl⟩
                      obtain ⟨wv, hwv⟩ : ∃ x, x = wrS.alloc (.cells #[.int .i64 u.fr, .int .i64 u.to] 110) := ⟨_, rfl⟩
                      rw [← hwv] at hxv
                      rw [← hwv, ← hev] at hbv
                      rw [← hwv, ← hev]
                      clear hwv hev
                      have HAll := hid (fun w' (xq : Ext wv w') => show w'.cell? ⟨ev, 0, none⟩ = some (.int .i64 u.fr) ∧ w'.cell? ⟨ev, 1, none⟩ = some (.int .i64 u.to) from ⟨(hbv.ext xq).cell rfl, (hbv.ext xq).cell rfl⟩)
                      have HCl := hid (show ∀ w' w'', (fun w' => Ext wv w' ∧ w'.cell? ⟨ev, 0, none⟩ = some (.int .i64 u.fr) ∧ w'.cell? ⟨ev, 1, none⟩ = some (.int .i64 u.to)) w' → Ext w' w'' → (fun w' => Ext wv w' ∧ w'.cell? ⟨ev, 0, none⟩ = some (.int .i64 u.fr) ∧ w'.cell? ⟨ev, 1, none⟩ = some (.int .i64 u.to)) w'' from fun w' w'' h x => ⟨h.1.trans x, HAll.out _ (h.1.trans x)⟩)
                      have HT := hid (three_class (fun w' => Ext wv w' ∧ w'.cell? ⟨ev, 0, none⟩ = some (.int .i64 u.fr) ∧ w'.cell? ⟨ev, 1, none⟩ = some (.int .i64 u.to)) HCl.out)
                      refine wp_region_class (fun w' => Ext wv w' ∧ w'.cell? ⟨ev, 0, none⟩ = some (.int .i64 u.fr) ∧ w'.cell? ⟨ev, 1, none⟩ = some (.int .i64 u.to)) (by kernel_rfl) (by kernel_rfl) ⟨(Ext.refl _).drew, HAll.out _ (Ext.refl _).drew⟩ ?_
                      refine wpQuiet_read (v := ?_) (by rfl) (fun w' hSw => ?_) ?_
                      rotate_left
                      · try dsimp only at hSw
                        first
                          | (go_simp; done)
                          | (go_simp; with_reducible rfl)
                      try simp only [Act.put, List.setIfInBounds_toArray, List.set_cons_zero, List.set_cons_succ]
                      refine wpQuiet_read (v := ?_) (by rfl) (fun w' hSw => ?_) ?_
                      rotate_left
                      · try dsimp only at hSw
                        first
                          | (go_simp; done)
                          | (go_simp; with_reducible rfl)
                      try simp only [Act.put, List.setIfInBounds_toArray, List.set_cons_zero, List.set_cons_succ]
                      refine wpQuiet_read (v := ?_) (by rfl) (fun w' hSw => ?_) ?_
                      rotate_left
                      · try dsimp only at hSw
                        first
                          | (go_simp; done)
                          | (go_simp; with_reducible rfl)
                      try simp only [Act.put, List.setIfInBounds_toArray, List.set_cons_zero, List.set_cons_succ]
                      refine wpQuiet_call (args := #[.int .i64 (u.fr)]) Try.call63 (by rfl) (by rfl) (HT.out (u.fr) (by have := HUO.out; omega)) ?_
                      try simp only [Act.put, List.setIfInBounds_toArray, List.set_cons_zero, List.set_cons_succ]
                      refine wpQuiet_read (v := ?_) (by rfl) (fun w' hSw => ?_) ?_
                      rotate_left
                      · try dsimp only at hSw
                        first
                          | (go_simp; done)
                          | (go_simp; with_reducible rfl)
                      try simp only [Act.put, List.setIfInBounds_toArray, List.set_cons_zero, List.set_cons_succ]
                      refine wpQuiet_read (v := ?_) (by rfl) (fun w' hSw => ?_) ?_
                      rotate_left
                      · try dsimp only at hSw
                        first
                          | (go_simp; done)
                          | (go_simp; with_reducible rfl)
                      try simp only [Act.put, List.setIfInBounds_toArray, List.set_cons_zero, List.set_cons_succ]
                      refine wpQuiet_call (args := #[.int .i64 (u.to)]) Try.call63 (by rfl) (by rfl) (HT.out (u.to) (by have := HUO.out; omega)) ?_
                      try simp only [Act.put, List.setIfInBounds_toArray, List.set_cons_zero, List.set_cons_succ]
                      refine wpQuiet_read (v := .string (bstr (three u.fr ++ three u.to))) (by rfl) (fun w' hSw => ?_) ?_
                      · have hcat := cat_ok (three u.fr) (three u.to) (by simp only [three_len]; omega)
                        go_simp
                        rw [bstr_append]
                        try simp only [List.append_assoc]
                      try simp only [Act.put, List.setIfInBounds_toArray, List.set_cons_zero, List.set_cons_succ]
                      refine wpQuiet_read (v := .string (bstr (OS ++ (three u.fr ++ three u.to)))) (by rfl) (fun w' hSw => ?_) ?_
                      · have hcat := cat_ok (OS) (three u.fr ++ three u.to) (by simp only [List.length_append, three_len]; have := HLS.out; omega)
                        go_simp
                        rw [bstr_append]
                        try simp only [List.append_assoc]
                      try simp only [Act.put, List.setIfInBounds_toArray, List.set_cons_zero, List.set_cons_succ]
                      refine wpQuiet_read (v := .string (bstr (OS ++ (three u.fr ++ three u.to)))) (by rfl) (fun w' hSw => ?_) ?_
                      · go_simp
                      try simp only [Act.put, List.setIfInBounds_toArray, List.set_cons_zero, List.set_cons_succ]
                      refine wpQuiet_nil ?_
                      clear HCl HT
                      intro w4 hw4
                      have hxn := hxv.trans hw4.1
                      clear hw4
                      replace hx := hx.trans hxn
                      go_wp2_with fail
                      go_roundw
                      case rel => exact ⟨kS + 1, hltS, by go_num, by rw [HSS.out]; simp [nums], hx⟩
                      case measure => simp [intOf]; omega
                    · obtain rfl : kS = x.spans.length := by omega
                      rw [List.take_length] at hTake ⊢
                      obtain ⟨OSe, hOSe⟩ : ∃ O, O = OB ++ x.spans.flatMap (fun s => nums [s.fr, s.to]) := ⟨_, rfl⟩
                      rw [← hOSe]
                      have HES := hid hOSe
                      have HLSe := hid (show OSe.length ≤ 304308 by
                        rw [hOSe, List.length_append]
                        have := HLB.out
                        omega)
                      clear hOSe hTake hk hltS
                      go_wp2_with fail
                      go_roundw
                      case rel => exact ⟨kX + 1, hltX, by go_num, by rw [HSX.out, HES.out, HOB.out, boxB, spansB]; simp [nums, List.append_assoc], HXX.out.trans hx⟩
                      case measure => simp [intOf]; omega
                · obtain rfl : kX = v.filter.length := by omega
                  rw [List.take_length] at hTake ⊢
                  obtain ⟨OXe, hOXe⟩ : ∃ O, O = OQ ++ v.filter.flatMap boxB := ⟨_, rfl⟩
                  rw [← hOXe]
                  have HEX := hid hOXe
                  have HLXe := hid (show OXe.length ≤ 304203 by
                    rw [hOXe, List.length_append]
                    have := HLQ.out
                    omega)
                  clear hOXe hTake hk hltX
                  have hb1 := hbv.ext hx
                  have y1 := hb1.cell (i := 1) (u := .slice Av v.know.vec.length cv) rfl
                  have y2 := hb1.cell (i := 2) (u := .slice Am v.know.more.length cm) rfl
                  have hcat := cat_ok OXe (knowB v.know) (by have := HLXe.out; have := knowB_len HVO.out.k; omega)
                  go_wp2_with fail
                  clear y1 y2 hb1
                  refine (ref_knows B v.know Av cv Am cm _ (hV.k.ext hx) HVO.out.k).mono ?_
                  rintro e w6 ⟨rfl, hx6⟩
                  have hxz := hx.trans hx6
                  go_wp2_with fail
                  go_roundw
                  case rel => exact ⟨kP + 1, hltP, by go_num, by rw [HSP.out, bstr_append, HEX.out, HOQ.out, partB, boxesB]; simp only [List.append_assoc], HXX.out.trans hxz, HBB.out.ext hxz⟩
                  case measure => simp [intOf]; omega
            · obtain rfl : kP = b.parts.length := by omega
              rw [List.take_length] at hTake ⊢
              obtain ⟨OPe, hOPe⟩ : ∃ O, O = O3 ++ b.parts.flatMap partB := ⟨_, rfl⟩
              rw [← hOPe]
              have HEP := hid hOPe
              have HLPe := hid (show OPe.length ≤ 189705 by
                rw [hOPe, List.length_append]
                have := HL3.out
                omega)
              clear hOPe hTake hk hltP
              go_wp2_with fail
              refine (ref_Sum (bstr OPe) (by rw [bstr_size]; have := HLPe.out; omega) _).mono ?_
              rintro e wq ⟨rfl, rfl⟩
              rw [bstr_data]
              go_wp2_with fail
              refine (ref_threeI (sumB OPe) (by have := sumB_range' OPe; omega) _).mono ?_
              rintro e w6 ⟨rfl, hx6⟩
              have hcat := cat_ok OPe (three (sumB OPe)) (by rw [three_len]; have := HLPe.out; omega)
              go_wp2_with fail
              go_ret
              refine ⟨?_, hx.trans hx6⟩
              have e1 : OPe = bodyB b := by
                rw [HEP.out, HO3.out, HEG.out, HO2.out, HEV.out, HO1.out, bodyB]
                simp [nums, List.append_assoc]
              rw [bstr_append, e1]
              rfl
end Go.Proofs.Ytmedmfjhpabfdaa
