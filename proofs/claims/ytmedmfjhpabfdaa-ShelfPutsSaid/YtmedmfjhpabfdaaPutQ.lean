/- The walk of reedref.Put. -/
import Derived.Test.YtmedmfjhpabfdaaPutR
namespace Go.Proofs.Ytmedmfjhpabfdaa
open Go Go.RowKit

theorem put_any {l : List Version} {v u : Version} (h0 : shelfCheck l = 0) (hv : verErr v = 0) (hu : u ∈ l) (h : (verCmp u v == 0) = true ∨ over u v = true) : putErr l v = 0 ∧ putOut l v = l := by
  have ha : putAny l v = true := by
    unfold putAny sameKey
    rw [Bool.or_eq_true, List.any_eq_true, List.any_eq_true]
    rcases h with h | h
    · exact .inl ⟨u, hu, h⟩
    · exact .inr ⟨u, hu, h⟩
  unfold putErr putOut
  rw [if_pos h0, if_pos hv, if_pos h0, if_pos hv, ha]
  exact ⟨rfl, rfl⟩
theorem put_none {l : List Version} {v : Version} (h : ∀ u ∈ l, (verCmp u v == 0) = false ∧ over u v = false) : sameKey l v = false ∧ putAny l v = false := by
  have a : sameKey l v = false := by
    unfold sameKey
    rw [List.any_eq_false]
    intro u hu
    rw [(h u hu).1]; simp
  refine ⟨a, ?_⟩
  unfold putAny
  rw [a, Bool.false_or, List.any_eq_false]
  intro u hu
  rw [(h u hu).2]; simp
theorem key_ne {u v : Version} (h : sEq u.id v.id = false ∨ u.dot ≠ v.dot) : (verCmp u v == 0) = false := by
  rw [beq_eq_false_iff_ne]
  intro e
  obtain ⟨a, b⟩ := verCmp_zero.1 e
  rcases h with h | h
  · rw [sEq_iff.2 a] at h; cases h
  · exact h b
theorem own_some {B base r : Nat} {w : World} {v : Value} {L : List Version} {cs : Array Value} (hr : Blk w r 22 cs) (ho : Own (RVer B) 8 46 w base v L) (h : L ≠ []) : ∃ g c, v = .slice (some ⟨g, 0, none⟩) L.length c ∧ r ≠ g := by
  rcases ho.at_ with ⟨_, e⟩ | ⟨g', c', e, _, _, ht, _⟩
  · exact absurd e h
  · refine ⟨g', c', e, ?_⟩
    rintro rfl
    rw [hr.ty] at ht
    exact absurd ht (by decide)
/-- the variable that holds the row is stored into. -/
theorem put_slot {B : Nat} {w w0 : World} {base r rb : Nat} {vo : Value} {v5 : Value} {L : List Version} {cs : Array Value} {tb : TypeId} (hr : Blk w r 22 #[vo]) (ho : Own (RVer B) 8 46 w base v5 L) (hx : Ext w0 w) (hB : B ≤ base) (hx0 : base ≤ w0.heap.size) (hr0 : w0.heap.size ≤ r) (hb : Blk w rb tb cs) (hne : rb ≠ r) (u : Value) :
    Blk (w.setCell ⟨r, 0, none⟩ u) r 22 #[u] ∧ Own (RVer B) 8 46 (w.setCell ⟨r, 0, none⟩ u) base v5 L ∧ Ext w0 (w.setCell ⟨r, 0, none⟩ u) ∧ Blk (w.setCell ⟨r, 0, none⟩ u) rb tb cs := by
  have hty := hr.ty
  refine ⟨by simpa using hr.set 0 u, ?_, hx.setCell hr0 u, hb.far hne u⟩
  refine ho.chg (B := B) (ts := [22]) (RVer.mono (by decide) (by decide)) ?_ ?_
  · exact (Chg.refl w).setCell (p := ⟨r, 0, none⟩) hty (by simp) u (Nat.le_trans hB (Nat.le_trans hx0 hr0))
  · intro g hg
    refine Below.heap_setCell w ⟨r, 0, none⟩ u g ?_
    rintro rfl
    rcases ho.at_ with ⟨e, _⟩ | ⟨g', c', e, _, _, ht, _⟩
    · rw [e] at hg; simp [Value.ownBlock] at hg
    · rw [e] at hg
      simp [Value.ownBlock] at hg
      subst hg
      rw [hty] at ht
      exact absurd ht (by decide)

set_option maxRecDepth 100000 in
set_option maxHeartbeats 4000000 in
theorem ref_Put (B : Nat) (A : Option Addr) (c : Nat) (l : List Version) (v : Version) (Av0 : Option Addr) (cv0 : Nat) (Am0 : Option Addr) (cm0 : Nat) (w : World) (hB : B ≤ w.heap.size) (hc : shelfCheck l = 0) (h : SlVers B w A l) (hi : InV B w Av0 cv0 Am0 cm0 v) :
    Calls Try.prog 20 #[.slice A l.length c, .agg #[.string v.id, .int .i64 v.dot.site, .int .i64 v.dot.count, .int .i64 v.pt.tags, .int .i64 v.pt.num, .int .i64 v.body, .slice Av0 v.past.vec.length cv0, .slice Am0 v.past.more.length cm0]] w fun e w' => ∃ A' c', e = .returned (.tuple #[.slice A' (putOut l v).length c', .int .i64 (putErr l v)]) ∧ SlVers B w' A' (putOut l v) ∧ Ext w w' := by
  have hx := (Ext.refl w).alloc (.cells #[.string v.id, .int .i64 v.dot.site, .int .i64 v.dot.count, .int .i64 v.pt.tags, .int .i64 v.pt.num, .int .i64 v.body, .slice Av0 v.past.vec.length cv0, .slice Am0 v.past.more.length cm0] 46)
  have hbv := Blk.new w 46 #[.string v.id, .int .i64 v.dot.site, .int .i64 v.dot.count, .int .i64 v.pt.tags, .int .i64 v.pt.num, .int .i64 v.body, .slice Av0 v.past.vec.length cv0, .slice Am0 v.past.more.length cm0]
  have HC0 := hid hc
  have HOK := hid (shelfCheck_ok hc)
  have HI0 := hid hi
  have hl60 := HOK.out.len
  have hll : (l.length : Int) ≤ 60 := by omega
  clear hi hc
  have hv8 : (#[.string v.id, .int .i64 v.dot.site, .int .i64 v.dot.count, .int .i64 v.pt.tags, .int .i64 v.pt.num, .int .i64 v.body, .slice Av0 v.past.vec.length cv0, .slice Am0 v.past.more.length cm0] : Array Value).size = 8 := rfl
  go_enter Try.func20, Try.ntmps20
  go_wp2_with (with_reducible refine wpList_loadMid (o := ⟨some 10, _, _, _, _, _⟩) ri_ver _ rfl rfl rfl (hbv.whole) hv8 ?_)
  refine (ref_One B v Av0 cv0 Am0 cm0 _ (HI0.out.ext hx)).mono ?_
  rintro e w2 ⟨rfl, hx2⟩
  replace hbv := hbv.ext hx2
  replace hx := hx.trans hx2
  clear hx2
  by_cases hv0 : verErr v = 0
  · rw [hv0]
    have HV0 := hid hv0
    have HV := hid (verErr_iff.1 hv0)
    clear hv0
    go_wp2_with fail
    have hxa := (Ext.refl w2).alloc (.cells #[.slice none 0 0] 22)
    have hbr := Blk.new w2 22 #[.slice none 0 0]
    have HX0 := hid hx
    have HI2 := hid (HI0.out.ext hx)
    replace h := h.ext RVer.monoE hx
    have hBr : B ≤ w2.heap.size := Nat.le_trans hB hx.size
    have HWB := hid hbv.lt
    clear hB hx HI0
    have HI0 := HI2
    clear HI2
    have hx := Ext.refl w2
    obtain ⟨w3, hw3⟩ : ∃ w3, w3 = w2.alloc (.cells #[.slice none 0 0] 22) := ⟨_, rfl⟩
    obtain ⟨r, hr⟩ : ∃ r, r = w2.heap.size := ⟨_, rfl⟩
    rw [← hw3] at hxa hbr ⊢
    rw [← hr] at hbr hBr HWB ⊢
    have HR := hid hr
    replace hbv := hbv.ext hxa
    replace hx := hx.trans hxa
    clear hw3 hr hxa
    go_loopw [17] (fun i wr => ∃ (k : Nat) (vo : Value), k ≤ l.length ∧ i = .int .i64 k ∧ Blk wr r 22 #[vo] ∧ Own (RVer B) 8 46 wr r vo ((l.take k).filter fun u => !over v u) ∧ Ext w2 wr ∧ Blk wr w.heap.size 46 #[.string v.id, .int .i64 v.dot.site, .int .i64 v.dot.count, .int .i64 v.pt.tags, .int .i64 v.pt.num, .int .i64 v.body, .slice Av0 v.past.vec.length cv0, .slice Am0 v.past.more.length cm0] ∧ ∀ u ∈ l.take k, (verCmp u v == 0) = false ∧ over u v = false) (fun i _ => l.length - (intOf i).toNat)
    case atStart => exact ⟨0, .slice none 0 0, Nat.zero_le _, rfl, hbr, Own.nil, hx, hbv, by simp⟩
    case round =>
      clear hbr hx hbv
      obtain ⟨k, vo, hk, rfl, hbr, ho, hx, hbv, hno⟩ := hrel
      have HNo := hid hno
      clear hno
      by_cases hlt : k < l.length
      · obtain ⟨b, off, Av, cv, Am, cm, rfl, hb, hr, hI⟩ := (h.ext RVer.monoE hx).ver hlt
        have HVk := hid (HOK.out.all _ (List.getElem_mem hlt))
        have HLen := hid (show ((l.take k).filter fun u => !over v u).length ≤ 10000 by have := List.length_filter_le (fun u => !over v u) (l.take k); have h2 := List.length_take_le k l; omega)
        have hsz : ([.string l[k].id, .int .i64 l[k].dot.site, .int .i64 l[k].dot.count, .int .i64 l[k].pt.tags, .int .i64 l[k].pt.num, .int .i64 l[k].body, .slice Av l[k].past.vec.length cv, .slice Am l[k].past.more.length cm] : List Value).length = 8 := rfl
        have hxl := (Ext.refl wr).alloc (.cells #[.string l[k].id, .int .i64 l[k].dot.site, .int .i64 l[k].dot.count, .int .i64 l[k].pt.tags, .int .i64 l[k].pt.num, .int .i64 l[k].body, .slice Av l[k].past.vec.length cv, .slice Am l[k].past.more.length cm] 46)
        have hbw := Blk.new wr 46 #[.string l[k].id, .int .i64 l[k].dot.site, .int .i64 l[k].dot.count, .int .i64 l[k].pt.tags, .int .i64 l[k].pt.num, .int .i64 l[k].body, .slice Av l[k].past.vec.length cv, .slice Am l[k].past.more.length cm]
        have HI := hid hI
        have hrw := hx.size
        clear hI
        have p0 := hbv.cell (i := 0) (u := .string v.id) rfl
        have p1 := hbv.cell (i := 1) (u := .int .i64 v.dot.site) rfl
        have p2 := hbv.cell (i := 2) (u := .int .i64 v.dot.count) rfl
        have p3 := hbv.cell (i := 3) (u := .int .i64 v.pt.tags) rfl
        have p4 := hbv.cell (i := 4) (u := .int .i64 v.pt.num) rfl
        have p5 := hbv.cell (i := 5) (u := .int .i64 v.body) rfl
        have p6 := hbv.cell (i := 6) (u := .slice Av0 v.past.vec.length cv0) rfl
        have p7 := hbv.cell (i := 7) (u := .slice Am0 v.past.more.length cm0) rfl
        have hzv := hbv.lt
        cases h1 : sEq l[k].id v.id
        · have h1' : (l[k].id.toList == v.id.toList) = false := h1
          have HCm := hid (show (verCmp l[k] v == 0) = false from key_ne (.inl h1))
          clear h1
          go_wp2_with (with_reducible refine wpList_loadL (o := ⟨some 20, _, _, _, _, _⟩) ri_ver _ rfl rfl rfl hr hsz ?_)
          have hxl := (Ext.refl wr).alloc (.cells #[.string l[k].id, .int .i64 l[k].dot.site, .int .i64 l[k].dot.count, .int .i64 l[k].pt.tags, .int .i64 l[k].pt.num, .int .i64 l[k].body, .slice Av l[k].past.vec.length cv, .slice Am l[k].past.more.length cm] 46)
          have hbw := Blk.new wr 46 #[.string l[k].id, .int .i64 l[k].dot.site, .int .i64 l[k].dot.count, .int .i64 l[k].pt.tags, .int .i64 l[k].pt.num, .int .i64 l[k].body, .slice Av l[k].past.vec.length cv, .slice Am l[k].past.more.length cm]
          clear p0 p1 p2 p3 p4 p5 p6 p7
          refine (ref_Over B l[k] v Av cv Am cm Av0 cv0 Am0 cm0 _ (HI.out.ext hxl) HVk.out.k HV.out.dot).mono ?_
          rintro e w7 ⟨rfl, hx7⟩
          have hxk := hxl.trans hx7
          replace hbw := hbw.ext hx7
          replace hbr := hbr.ext hxk
          replace hbv := hbv.ext hxk
          replace ho := ho.ext RVer.monoE hxk
          replace hx := hx.trans hxk
          clear hx7 hxl
          cases h8 : over l[k] v
          · have HN := hid (show ∀ u ∈ l.take (k + 1), (verCmp u v == 0) = false ∧ over u v = false from by
              intro u hu
              rw [List.take_succ_eq_append_getElem hlt] at hu
              rcases List.mem_append.1 hu with hu | hu
              · exact HNo.out u hu
              · rw [List.mem_singleton.1 hu]; exact ⟨HCm.out, h8⟩)
            clear h8
            have hbv2 := hbv
            have hbw2 := hbw
            go_wp2_with (first | (with_reducible refine wpList_loadMid (o := ⟨some 39, _, _, _, _, _⟩) ri_ver _ rfl rfl rfl hbv2.whole rfl ?_) | (with_reducible refine wpList_loadMid (o := ⟨some 40, _, _, _, _, _⟩) ri_ver _ rfl rfl rfl hbw2.whole rfl ?_))
            refine (ref_Over B v l[k] Av0 cv0 Am0 cm0 Av cv Am cm _ (HI0.out.ext hx) HV.out.k HVk.out.dot).mono ?_
            rintro e w8 ⟨rfl, hx8⟩
            clear hbv2 hbw2
            replace hbr := hbr.ext hx8
            replace hbv := hbv.ext hx8
            replace hbw := hbw.ext hx8
            replace ho := ho.ext RVer.monoE hx8
            replace hx := hx.trans hx8
            replace hxk := hxk.trans hx8
            clear hx8
            cases h9 : over v l[k]
            · have HF := hid (show (l.take (k + 1)).filter (fun u => !over v u) = (l.take k).filter (fun u => !over v u) ++ [l[k]] by rw [List.take_succ_eq_append_getElem hlt, List.filter_append]; simp [h9])
              clear h9
              have q0 := hbr.cell (i := 0) (u := vo) rfl
              have hrlt := hbr.lt
              have hyw := hbw.whole
              have hxb := (Ext.refl w8).alloc (.cells #[.string l[k].id, .int .i64 l[k].dot.site, .int .i64 l[k].dot.count, .int .i64 l[k].pt.tags, .int .i64 l[k].pt.num, .int .i64 l[k].body, .slice Av l[k].past.vec.length cv, .slice Am l[k].past.more.length cm] 46)
              have hone : SlVers B (w8.alloc (.cells #[.string l[k].id, .int .i64 l[k].dot.site, .int .i64 l[k].dot.count, .int .i64 l[k].pt.tags, .int .i64 l[k].pt.num, .int .i64 l[k].body, .slice Av l[k].past.vec.length cv, .slice Am l[k].past.more.length cm] 46)) (some ⟨w8.heap.size, 0, none⟩) [l[k]] := by
                have := Sl.one (R := RVer B) (B := B) (e := 46) (sz := 8) (w := w8) (cs := [.string l[k].id, .int .i64 l[k].dot.site, .int .i64 l[k].dot.count, .int .i64 l[k].pt.tags, .int .i64 l[k].pt.num, .int .i64 l[k].body, .slice Av l[k].past.vec.length cv, .slice Am l[k].past.more.length cm]) (y := l[k]) rfl rfl (HI.out.ext (hxk.trans hxb)).rver
                simpa using this
              have ho2 := ho.ext RVer.monoE hxb
              have hxw := hx.trans hxb
              go_wp2_with (first | (with_reducible refine wpList_loadMid (o := ⟨some 44, _, _, _, _, _⟩) ri_ver _ rfl rfl rfl hyw rfl ?_) | (at_builtin; refine wpList_app (ys := [l[k]]) (c := 1) (B := B) rfl _ _ rfl ei_ver rfl ho2 hBr (by rw [HR.out]; exact hxw.size) rfl hone RVer.oneC (RVer.mono (by decide) (by decide)) (by have := HLen.out; simp [maxLen]; omega) (by have := HLen.out; simp; omega) ?_; intro v5 w5 ho5 hc5 hb5 hg5; have hbr5 := (hbr.ext hxb).chg hc5 (by decide); have q5 := hbr5.cell (i := 0) (u := vo) rfl; have z5 := hbr5.frozen 0; obtain ⟨M, hM⟩ : ∃ M, M = ((l.take k).filter fun u => !over v u) ++ [l[k]] := ⟨_, rfl⟩; rw [← hM] at ho5; have HM := hid hM; obtain ⟨g5, c5, rfl, hrg⟩ := own_some hbr5 ho5 (by rw [hM]; simp); clear hM))
              have hxw5 := hxw.below hb5 (by rw [HR.out]; exact Nat.le_refl _)
              have hbv5 := (hbv.ext hxb).below hb5 HWB.out
              obtain ⟨d1, d2, d3, d4⟩ := put_slot hbr5 ho5 hxw5 hBr (by rw [HR.out]; exact Nat.le_refl _) (by rw [HR.out]; exact Nat.le_refl _) hbv5 (Nat.ne_of_lt HWB.out) (.slice (some ⟨g5, 0, none⟩) M.length c5)
              clear hc5 hb5 hg5 ho2 hone hxw hyw hbr hbv hbw ho hx hxk hxw5 hbv5 ho5 hbr5 q5 z5 q0
              go_roundw
              case rel => exact ⟨k + 1, .slice (some ⟨g5, 0, none⟩) M.length c5, hlt, by go_num, d1, by rw [HF.out, ← HM.out]; exact d2, d3, d4, HN.out⟩
              case measure => simp [intOf]; omega
            · have HF := hid (show (l.take (k + 1)).filter (fun u => !over v u) = (l.take k).filter (fun u => !over v u) by rw [List.take_succ_eq_append_getElem hlt, List.filter_append]; simp [h9])
              clear h9
              go_wp2_with fail
              go_roundw
              case rel => exact ⟨k + 1, vo, hlt, by go_num, hbr, by rw [HF.out]; exact ho, hx, hbv, HN.out⟩
              case measure => simp [intOf]; omega
          · have HO := hid h8
            clear h8
            have HE := hid (show putErr l v = 0 ∧ putOut l v = l from put_any HC0.out HV0.out (List.getElem_mem hlt) (.inr HO.out))
            clear hbr hbv hbw ho
            go_wp2_with fail
            go_ret2
            exact ⟨some ⟨b, off, none⟩, c, by rw [HE.out.1, HE.out.2]; rfl, by rw [HE.out.2]; exact h.ext RVer.monoE hx, HX0.out.trans hx⟩
        · have h1' : (l[k].id.toList == v.id.toList) = true := h1
          have H1 := hid (sEq_iff.1 h1)
          clear h1
          by_cases e1 : l[k].dot.site = v.dot.site
          · have hs1 : (l[k].dot.site == v.dot.site) = true := by rw [e1]; simp
            have E1 := hid e1
            clear e1
            by_cases e2 : l[k].dot.count = v.dot.count
            · have hs2 : (l[k].dot.count == v.dot.count) = true := by rw [e2]; simp
              have HK := hid (show (verCmp l[k] v == 0) = true from by rw [beq_iff_eq]; exact verCmp_zero.2 ⟨H1.out, Dot.ext' E1.out e2⟩)
              clear e2
              go_wp2_with (with_reducible refine wpList_loadL (o := ⟨some 20, _, _, _, _, _⟩) ri_ver _ rfl rfl rfl hr hsz ?_)
              have HE := hid (show putErr l v = 0 ∧ putOut l v = l from put_any HC0.out HV0.out (List.getElem_mem hlt) (.inl HK.out))
              clear hbr hbv hbw ho
              go_wp2_with fail
              go_ret2
              exact ⟨some ⟨b, off, none⟩, c, by rw [HE.out.1, HE.out.2]; rfl, by rw [HE.out.2]; exact h.ext RVer.monoE (hx.trans ((Ext.refl wr).alloc _)), HX0.out.trans (hx.trans ((Ext.refl wr).alloc _))⟩
            · have hs2 : (l[k].dot.count == v.dot.count) = false := by rw [beq_eq_false_iff_ne]; exact e2
              have HCm := hid (show (verCmp l[k] v == 0) = false from key_ne (.inr (fun e => e2 (by rw [e]))))
              clear e2
              go_wp2_with (with_reducible refine wpList_loadL (o := ⟨some 20, _, _, _, _, _⟩) ri_ver _ rfl rfl rfl hr hsz ?_)
              have hxl := (Ext.refl wr).alloc (.cells #[.string l[k].id, .int .i64 l[k].dot.site, .int .i64 l[k].dot.count, .int .i64 l[k].pt.tags, .int .i64 l[k].pt.num, .int .i64 l[k].body, .slice Av l[k].past.vec.length cv, .slice Am l[k].past.more.length cm] 46)
              have hbw := Blk.new wr 46 #[.string l[k].id, .int .i64 l[k].dot.site, .int .i64 l[k].dot.count, .int .i64 l[k].pt.tags, .int .i64 l[k].pt.num, .int .i64 l[k].body, .slice Av l[k].past.vec.length cv, .slice Am l[k].past.more.length cm]
              clear p0 p1 p2 p3 p4 p5 p6 p7
              refine (ref_Over B l[k] v Av cv Am cm Av0 cv0 Am0 cm0 _ (HI.out.ext hxl) HVk.out.k HV.out.dot).mono ?_
              rintro e w7 ⟨rfl, hx7⟩
              have hxk := hxl.trans hx7
              replace hbw := hbw.ext hx7
              replace hbr := hbr.ext hxk
              replace hbv := hbv.ext hxk
              replace ho := ho.ext RVer.monoE hxk
              replace hx := hx.trans hxk
              clear hx7 hxl
              cases h8 : over l[k] v
              · have HN := hid (show ∀ u ∈ l.take (k + 1), (verCmp u v == 0) = false ∧ over u v = false from by
                  intro u hu
                  rw [List.take_succ_eq_append_getElem hlt] at hu
                  rcases List.mem_append.1 hu with hu | hu
                  · exact HNo.out u hu
                  · rw [List.mem_singleton.1 hu]; exact ⟨HCm.out, h8⟩)
                clear h8
                have hbv2 := hbv
                have hbw2 := hbw
                go_wp2_with (first | (with_reducible refine wpList_loadMid (o := ⟨some 39, _, _, _, _, _⟩) ri_ver _ rfl rfl rfl hbv2.whole rfl ?_) | (with_reducible refine wpList_loadMid (o := ⟨some 40, _, _, _, _, _⟩) ri_ver _ rfl rfl rfl hbw2.whole rfl ?_))
                refine (ref_Over B v l[k] Av0 cv0 Am0 cm0 Av cv Am cm _ (HI0.out.ext hx) HV.out.k HVk.out.dot).mono ?_
                rintro e w8 ⟨rfl, hx8⟩
                clear hbv2 hbw2
                replace hbr := hbr.ext hx8
                replace hbv := hbv.ext hx8
                replace hbw := hbw.ext hx8
                replace ho := ho.ext RVer.monoE hx8
                replace hx := hx.trans hx8
                replace hxk := hxk.trans hx8
                clear hx8
                cases h9 : over v l[k]
                · have HF := hid (show (l.take (k + 1)).filter (fun u => !over v u) = (l.take k).filter (fun u => !over v u) ++ [l[k]] by rw [List.take_succ_eq_append_getElem hlt, List.filter_append]; simp [h9])
                  clear h9
                  have q0 := hbr.cell (i := 0) (u := vo) rfl
                  have hrlt := hbr.lt
                  have hyw := hbw.whole
                  have hxb := (Ext.refl w8).alloc (.cells #[.string l[k].id, .int .i64 l[k].dot.site, .int .i64 l[k].dot.count, .int .i64 l[k].pt.tags, .int .i64 l[k].pt.num, .int .i64 l[k].body, .slice Av l[k].past.vec.length cv, .slice Am l[k].past.more.length cm] 46)
                  have hone : SlVers B (w8.alloc (.cells #[.string l[k].id, .int .i64 l[k].dot.site, .int .i64 l[k].dot.count, .int .i64 l[k].pt.tags, .int .i64 l[k].pt.num, .int .i64 l[k].body, .slice Av l[k].past.vec.length cv, .slice Am l[k].past.more.length cm] 46)) (some ⟨w8.heap.size, 0, none⟩) [l[k]] := by
                    have := Sl.one (R := RVer B) (B := B) (e := 46) (sz := 8) (w := w8) (cs := [.string l[k].id, .int .i64 l[k].dot.site, .int .i64 l[k].dot.count, .int .i64 l[k].pt.tags, .int .i64 l[k].pt.num, .int .i64 l[k].body, .slice Av l[k].past.vec.length cv, .slice Am l[k].past.more.length cm]) (y := l[k]) rfl rfl (HI.out.ext (hxk.trans hxb)).rver
                    simpa using this
                  have ho2 := ho.ext RVer.monoE hxb
                  have hxw := hx.trans hxb
                  go_wp2_with (first | (with_reducible refine wpList_loadMid (o := ⟨some 44, _, _, _, _, _⟩) ri_ver _ rfl rfl rfl hyw rfl ?_) | (at_builtin; refine wpList_app (ys := [l[k]]) (c := 1) (B := B) rfl _ _ rfl ei_ver rfl ho2 hBr (by rw [HR.out]; exact hxw.size) rfl hone RVer.oneC (RVer.mono (by decide) (by decide)) (by have := HLen.out; simp [maxLen]; omega) (by have := HLen.out; simp; omega) ?_; intro v5 w5 ho5 hc5 hb5 hg5; have hbr5 := (hbr.ext hxb).chg hc5 (by decide); have q5 := hbr5.cell (i := 0) (u := vo) rfl; have z5 := hbr5.frozen 0; obtain ⟨M, hM⟩ : ∃ M, M = ((l.take k).filter fun u => !over v u) ++ [l[k]] := ⟨_, rfl⟩; rw [← hM] at ho5; have HM := hid hM; obtain ⟨g5, c5, rfl, hrg⟩ := own_some hbr5 ho5 (by rw [hM]; simp); clear hM))
                  have hxw5 := hxw.below hb5 (by rw [HR.out]; exact Nat.le_refl _)
                  have hbv5 := (hbv.ext hxb).below hb5 HWB.out
                  obtain ⟨d1, d2, d3, d4⟩ := put_slot hbr5 ho5 hxw5 hBr (by rw [HR.out]; exact Nat.le_refl _) (by rw [HR.out]; exact Nat.le_refl _) hbv5 (Nat.ne_of_lt HWB.out) (.slice (some ⟨g5, 0, none⟩) M.length c5)
                  clear hc5 hb5 hg5 ho2 hone hxw hyw hbr hbv hbw ho hx hxk hxw5 hbv5 ho5 hbr5 q5 z5 q0
                  go_roundw
                  case rel => exact ⟨k + 1, .slice (some ⟨g5, 0, none⟩) M.length c5, hlt, by go_num, d1, by rw [HF.out, ← HM.out]; exact d2, d3, d4, HN.out⟩
                  case measure => simp [intOf]; omega
                · have HF := hid (show (l.take (k + 1)).filter (fun u => !over v u) = (l.take k).filter (fun u => !over v u) by rw [List.take_succ_eq_append_getElem hlt, List.filter_append]; simp [h9])
                  clear h9
                  go_wp2_with fail
                  go_roundw
                  case rel => exact ⟨k + 1, vo, hlt, by go_num, hbr, by rw [HF.out]; exact ho, hx, hbv, HN.out⟩
                  case measure => simp [intOf]; omega
              · have HO := hid h8
                clear h8
                have HE := hid (show putErr l v = 0 ∧ putOut l v = l from put_any HC0.out HV0.out (List.getElem_mem hlt) (.inr HO.out))
                clear hbr hbv hbw ho
                go_wp2_with fail
                go_ret2
                exact ⟨some ⟨b, off, none⟩, c, by rw [HE.out.1, HE.out.2]; rfl, by rw [HE.out.2]; exact h.ext RVer.monoE hx, HX0.out.trans hx⟩
          · have hs1 : (l[k].dot.site == v.dot.site) = false := by rw [beq_eq_false_iff_ne]; exact e1
            have HCm := hid (show (verCmp l[k] v == 0) = false from key_ne (.inr (fun e => e1 (by rw [e]))))
            clear e1
            go_wp2_with (with_reducible refine wpList_loadL (o := ⟨some 20, _, _, _, _, _⟩) ri_ver _ rfl rfl rfl hr hsz ?_)
            have hxl := (Ext.refl wr).alloc (.cells #[.string l[k].id, .int .i64 l[k].dot.site, .int .i64 l[k].dot.count, .int .i64 l[k].pt.tags, .int .i64 l[k].pt.num, .int .i64 l[k].body, .slice Av l[k].past.vec.length cv, .slice Am l[k].past.more.length cm] 46)
            have hbw := Blk.new wr 46 #[.string l[k].id, .int .i64 l[k].dot.site, .int .i64 l[k].dot.count, .int .i64 l[k].pt.tags, .int .i64 l[k].pt.num, .int .i64 l[k].body, .slice Av l[k].past.vec.length cv, .slice Am l[k].past.more.length cm]
            clear p0 p1 p2 p3 p4 p5 p6 p7
            refine (ref_Over B l[k] v Av cv Am cm Av0 cv0 Am0 cm0 _ (HI.out.ext hxl) HVk.out.k HV.out.dot).mono ?_
            rintro e w7 ⟨rfl, hx7⟩
            have hxk := hxl.trans hx7
            replace hbw := hbw.ext hx7
            replace hbr := hbr.ext hxk
            replace hbv := hbv.ext hxk
            replace ho := ho.ext RVer.monoE hxk
            replace hx := hx.trans hxk
            clear hx7 hxl
            cases h8 : over l[k] v
            · have HN := hid (show ∀ u ∈ l.take (k + 1), (verCmp u v == 0) = false ∧ over u v = false from by
                intro u hu
                rw [List.take_succ_eq_append_getElem hlt] at hu
                rcases List.mem_append.1 hu with hu | hu
                · exact HNo.out u hu
                · rw [List.mem_singleton.1 hu]; exact ⟨HCm.out, h8⟩)
              clear h8
              have hbv2 := hbv
              have hbw2 := hbw
              go_wp2_with (first | (with_reducible refine wpList_loadMid (o := ⟨some 39, _, _, _, _, _⟩) ri_ver _ rfl rfl rfl hbv2.whole rfl ?_) | (with_reducible refine wpList_loadMid (o := ⟨some 40, _, _, _, _, _⟩) ri_ver _ rfl rfl rfl hbw2.whole rfl ?_))
              refine (ref_Over B v l[k] Av0 cv0 Am0 cm0 Av cv Am cm _ (HI0.out.ext hx) HV.out.k HVk.out.dot).mono ?_
              rintro e w8 ⟨rfl, hx8⟩
              clear hbv2 hbw2
              replace hbr := hbr.ext hx8
              replace hbv := hbv.ext hx8
              replace hbw := hbw.ext hx8
              replace ho := ho.ext RVer.monoE hx8
              replace hx := hx.trans hx8
              replace hxk := hxk.trans hx8
              clear hx8
              cases h9 : over v l[k]
              · have HF := hid (show (l.take (k + 1)).filter (fun u => !over v u) = (l.take k).filter (fun u => !over v u) ++ [l[k]] by rw [List.take_succ_eq_append_getElem hlt, List.filter_append]; simp [h9])
                clear h9
                have q0 := hbr.cell (i := 0) (u := vo) rfl
                have hrlt := hbr.lt
                have hyw := hbw.whole
                have hxb := (Ext.refl w8).alloc (.cells #[.string l[k].id, .int .i64 l[k].dot.site, .int .i64 l[k].dot.count, .int .i64 l[k].pt.tags, .int .i64 l[k].pt.num, .int .i64 l[k].body, .slice Av l[k].past.vec.length cv, .slice Am l[k].past.more.length cm] 46)
                have hone : SlVers B (w8.alloc (.cells #[.string l[k].id, .int .i64 l[k].dot.site, .int .i64 l[k].dot.count, .int .i64 l[k].pt.tags, .int .i64 l[k].pt.num, .int .i64 l[k].body, .slice Av l[k].past.vec.length cv, .slice Am l[k].past.more.length cm] 46)) (some ⟨w8.heap.size, 0, none⟩) [l[k]] := by
                  have := Sl.one (R := RVer B) (B := B) (e := 46) (sz := 8) (w := w8) (cs := [.string l[k].id, .int .i64 l[k].dot.site, .int .i64 l[k].dot.count, .int .i64 l[k].pt.tags, .int .i64 l[k].pt.num, .int .i64 l[k].body, .slice Av l[k].past.vec.length cv, .slice Am l[k].past.more.length cm]) (y := l[k]) rfl rfl (HI.out.ext (hxk.trans hxb)).rver
                  simpa using this
                have ho2 := ho.ext RVer.monoE hxb
                have hxw := hx.trans hxb
                go_wp2_with (first | (with_reducible refine wpList_loadMid (o := ⟨some 44, _, _, _, _, _⟩) ri_ver _ rfl rfl rfl hyw rfl ?_) | (at_builtin; refine wpList_app (ys := [l[k]]) (c := 1) (B := B) rfl _ _ rfl ei_ver rfl ho2 hBr (by rw [HR.out]; exact hxw.size) rfl hone RVer.oneC (RVer.mono (by decide) (by decide)) (by have := HLen.out; simp [maxLen]; omega) (by have := HLen.out; simp; omega) ?_; intro v5 w5 ho5 hc5 hb5 hg5; have hbr5 := (hbr.ext hxb).chg hc5 (by decide); have q5 := hbr5.cell (i := 0) (u := vo) rfl; have z5 := hbr5.frozen 0; obtain ⟨M, hM⟩ : ∃ M, M = ((l.take k).filter fun u => !over v u) ++ [l[k]] := ⟨_, rfl⟩; rw [← hM] at ho5; have HM := hid hM; obtain ⟨g5, c5, rfl, hrg⟩ := own_some hbr5 ho5 (by rw [hM]; simp); clear hM))
                have hxw5 := hxw.below hb5 (by rw [HR.out]; exact Nat.le_refl _)
                have hbv5 := (hbv.ext hxb).below hb5 HWB.out
                obtain ⟨d1, d2, d3, d4⟩ := put_slot hbr5 ho5 hxw5 hBr (by rw [HR.out]; exact Nat.le_refl _) (by rw [HR.out]; exact Nat.le_refl _) hbv5 (Nat.ne_of_lt HWB.out) (.slice (some ⟨g5, 0, none⟩) M.length c5)
                clear hc5 hb5 hg5 ho2 hone hxw hyw hbr hbv hbw ho hx hxk hxw5 hbv5 ho5 hbr5 q5 z5 q0
                go_roundw
                case rel => exact ⟨k + 1, .slice (some ⟨g5, 0, none⟩) M.length c5, hlt, by go_num, d1, by rw [HF.out, ← HM.out]; exact d2, d3, d4, HN.out⟩
                case measure => simp [intOf]; omega
              · have HF := hid (show (l.take (k + 1)).filter (fun u => !over v u) = (l.take k).filter (fun u => !over v u) by rw [List.take_succ_eq_append_getElem hlt, List.filter_append]; simp [h9])
                clear h9
                go_wp2_with fail
                go_roundw
                case rel => exact ⟨k + 1, vo, hlt, by go_num, hbr, by rw [HF.out]; exact ho, hx, hbv, HN.out⟩
                case measure => simp [intOf]; omega
            · have HO := hid h8
              clear h8
              have HE := hid (show putErr l v = 0 ∧ putOut l v = l from put_any HC0.out HV0.out (List.getElem_mem hlt) (.inr HO.out))
              clear hbr hbv hbw ho
              go_wp2_with fail
              go_ret2
              exact ⟨some ⟨b, off, none⟩, c, by rw [HE.out.1, HE.out.2]; rfl, by rw [HE.out.2]; exact h.ext RVer.monoE hx, HX0.out.trans hx⟩
      · obtain rfl : k = l.length := by omega
        have HN := hid (put_none (l := l) (v := v) (by have := HNo.out; rwa [List.take_length] at this))
        rw [List.take_length] at ho
        obtain ⟨L, hL⟩ : ∃ L, L = l.filter (fun u => !over v u) := ⟨_, rfl⟩
        have HLL := hid (show L.length ≤ 60 by have := List.length_filter_le (fun u => !over v u) l; rw [hL]; omega)
        rw [← hL] at ho
        have HL := hid hL
        clear hL
        have q0 := hbr.cell (i := 0) (u := vo) rfl
        have hrlt := hbr.lt
        have hyw := hbv.whole
        have hxb := (Ext.refl wr).alloc (.cells #[.string v.id, .int .i64 v.dot.site, .int .i64 v.dot.count, .int .i64 v.pt.tags, .int .i64 v.pt.num, .int .i64 v.body, .slice Av0 v.past.vec.length cv0, .slice Am0 v.past.more.length cm0] 46)
        have hone : SlVers B (wr.alloc (.cells #[.string v.id, .int .i64 v.dot.site, .int .i64 v.dot.count, .int .i64 v.pt.tags, .int .i64 v.pt.num, .int .i64 v.body, .slice Av0 v.past.vec.length cv0, .slice Am0 v.past.more.length cm0] 46)) (some ⟨wr.heap.size, 0, none⟩) [v] := by
          have := Sl.one (R := RVer B) (B := B) (e := 46) (sz := 8) (w := wr) (cs := [.string v.id, .int .i64 v.dot.site, .int .i64 v.dot.count, .int .i64 v.pt.tags, .int .i64 v.pt.num, .int .i64 v.body, .slice Av0 v.past.vec.length cv0, .slice Am0 v.past.more.length cm0]) (y := v) rfl rfl (HI0.out.ext (hx.trans hxb)).rver
          simpa using this
        have ho2 := ho.ext RVer.monoE hxb
        have hxw := hx.trans hxb
        go_wp2_with (first | (with_reducible refine wpList_loadMid (o := ⟨some 49, _, _, _, _, _⟩) ri_ver _ rfl rfl rfl hyw rfl ?_) | (at_builtin; refine wpList_app (ys := [v]) (c := 1) (B := B) rfl _ _ rfl ei_ver rfl ho2 hBr (by rw [HR.out]; exact hxw.size) rfl hone RVer.oneC (RVer.mono (by decide) (by decide)) (by have := HLL.out; simp [maxLen]; omega) (by have := HLL.out; simp; omega) ?_; intro v5 w5 ho5 hc5 hb5 hg5; have hbr5 := (hbr.ext hxb).chg hc5 (by decide); have q5 := hbr5.cell (i := 0) (u := vo) rfl; have z5 := hbr5.frozen 0; obtain ⟨M, hM⟩ : ∃ M, M = L ++ [v] := ⟨_, rfl⟩; rw [← hM] at ho5; have HM := hid hM; obtain ⟨g5, c5, rfl, hrg⟩ := own_some hbr5 ho5 (by rw [hM]; simp); clear hM))
        have hxw5 := hxw.below hb5 (by rw [HR.out]; exact Nat.le_refl _)
        have hbv5 := (hbv.ext hxb).below hb5 HWB.out
        obtain ⟨d1, d2, d3, _⟩ := put_slot hbr5 ho5 hxw5 hBr (by rw [HR.out]; exact Nat.le_refl _) (by rw [HR.out]; exact Nat.le_refl _) hbv5 (Nat.ne_of_lt HWB.out) (.slice (some ⟨g5, 0, none⟩) M.length c5)
        clear hc5 hb5 hg5 ho2 hone hxw hyw hbr hbv ho hx hxw5 hbv5 ho5 hbr5 q5 z5 q0 hxb
        refine (sort_ver B w2 g5 M.length c5 r M _ (by rw [← HR.out]; exact hBr) hrg (by have := HLL.out; rw [HM.out]; simp; omega) (by rw [HM.out]; simp) ⟨rfl, d3, by rw [← HR.out]; exact d2, d1⟩).mono ?_
        rintro e w9 ⟨rfl, m, hm1, hm2, hst⟩
        have hmE : m = putL l v := put_sorted HOK.out.inc HV.out HN.out.1 (by rw [HM.out, HL.out] at hm1; exact hm1) hm2
        have q9 := hst.var.cell (i := 0) (u := .slice (some ⟨g5, 0, none⟩) M.length c5) rfl
        have hlm := hst.len
        have HEnd := hid hst
        have HME := hid hmE
        have HLM := hid hlm
        have hM0 : (M.length : Int) ≤ 61 := by have := HLL.out; rw [HM.out]; simp; omega
        clear hst hmE hlm hm1 hm2 d1 d2 d3
        by_cases h60 : 60 < M.length
        · have h60' : decide ((60 : Int) < (M.length : Int)) = true := decide_eq_true (by omega)
          have HE := hid (put_large HC0.out HV0.out HN.out.2 (by rw [← HME.out, HLM.out]; exact h60))
          clear h60
          go_wp2_with fail
          go_ret2
          exact ⟨none, 0, by rw [HE.out.1, HE.out.2]; rfl, by rw [HE.out.2]; exact Sl.nil, HX0.out.trans HEnd.out.ext⟩
        · have h60' : decide ((60 : Int) < (M.length : Int)) = false := decide_eq_false (by omega)
          have HE := hid (put_fits HC0.out HV0.out HN.out.2 (by rw [← HME.out, HLM.out]; exact h60))
          clear h60
          go_wp2_with fail
          go_ret2
          exact ⟨some ⟨g5, 0, none⟩, c5, by rw [HE.out.1, HE.out.2, ← HME.out, HLM.out]; rfl, by rw [HE.out.2, ← HME.out]; exact HEnd.out.own.sl B, HX0.out.trans HEnd.out.ext⟩
  · have hne : (verErr v != 0) = true := by simpa using hv0
    have HE := hid (show putErr l v = verErr v ∧ putOut l v = [] by unfold putErr putOut; rw [if_pos HC0.out, if_neg hv0, if_pos HC0.out, if_neg hv0]; exact ⟨rfl, rfl⟩)
    clear hv0
    go_wp2_with fail
    go_ret2
    exact ⟨none, 0, by rw [HE.out.1, HE.out.2]; rfl, by rw [HE.out.2]; exact Sl.nil, hx⟩
end Go.Proofs.Ytmedmfjhpabfdaa
