/- The walk of shelf.Past. -/
import Derived.Test.YtngbfdogiciahaaGreatShort
import Derived.Test.YtngbfdogiciahaaGreatJoinShelfF
import Derived.Test.YtngbfdogiciahaaGreatKnM
import Derived.Test.YtngbfdogiciahaaGreatJoinKnW
namespace Go.Proofs.YtngbfdogiciahaaGreat
open Go Go.RowKit
theorem ei_vec : ElemInfo Tryz.prog 23 32 1 24 := ElemInfo.mk_ (z := .slice none 0 0) Tryz.underlying23 (by kernel_rfl) rfl (by decide)
theorem RVec.mono {B : Nat} {ts : List TypeId} (h : 3 ∉ ts) : Mono B ts (RVec B) := by
 rintro w w' cs l x ⟨v, rfl, hv⟩
 exact ⟨v, rfl, hv.chg RInt.mono h x⟩
theorem RVec.oneC {B : Nat} : OneC (RVec B) := by
 rintro w cs l ⟨v, rfl, A, c, rfl, _⟩ u hu
 simp at hu
 subst hu; rfl
theorem Sl.ofBlkV {α : Type} {R : World → List Value → α → Prop} {B sz : Nat} {e : TypeId} {w : World} {b : Nat} {cs : Array Value} {x : α} (h : Blk w b e cs) (hl : cs.size = sz) (hR : R w cs.toList x) : Sl B e R sz w (some ⟨b, 0, none⟩) [x] := by
 intro i y hi
 match i, hi with
 | 0, hi =>
  simp at hi; subst hi
  exact ⟨b, 0, cs.toList, rfl, h.lt, .inr h.ty, by simp [hl], fun j u hj => by rw [Nat.zero_mul, Nat.zero_add]; exact h.cell (by rwa [Array.getElem?_toList] at hj), hR⟩
theorem sub_vd : ∀ t ∈ [32], t ∈ [32, 35] := by simp
theorem sub_d : ∀ t ∈ [35], t ∈ [32, 35] := by simp
def pastErr (l : List Version) (s : ByteArray) : Int := if shelfCheck l = 0 then toldErr (pastS (getL l s)) else shelfCheck l
def pastKn (l : List Version) (s : ByteArray) : Know := if shelfCheck l = 0 then toldKn (pastS (getL l s)) else ⟨[], []⟩
theorem pastDots_len : ∀ {l : List Version}, (∀ v ∈ l, VerOk v) → (pastDots l).length ≤ 61 * l.length
 | [], _ => by simp [pastDots]
 | v :: r, h => by
  have h1 := (h v (by simp)).k.mlen
  have h2 := pastDots_len (l := r) (fun x hx => h x (by simp [hx]))
  simp only [pastDots, List.flatMap_cons, List.length_append, List.length_cons, List.length_nil] at h2 ⊢
  omega
theorem getL_len (l : List Version) (s : ByteArray) (k : Nat) : (getL (l.take k) s).length ≤ l.length := by
 have h1 := List.length_filter_le (fun v : Version => sEq v.id s) (l.take k)
 have h2 := List.length_take_le k l
 have h3 : (l.take k).length ≤ l.length := by rw [List.length_take]; omega
 unfold getL; omega
theorem getL_ok {l : List Version} (h : ∀ v ∈ l, VerOk v) (s : ByteArray) (k : Nat) : ∀ v ∈ getL (l.take k) s, VerOk v := fun v hv => h v (List.mem_of_mem_take (List.mem_filter.1 hv).1)
theorem res_spast {w : World} {v : Value} {b : Nat} {x y : Value} {tmps : Array Value} (h4 : tmps.getD 4 undef = .pointer (some ⟨b, 0, none⟩)) (h5 : tmps.getD 5 undef = v) (c1 : w.cell? ⟨b, 0, none⟩ = some x) (c2 : w.cell? ⟨b, 1, none⟩ = some y) :
  (results Tryz.f94 tmps).run Tryz.prog w = .ok (.tuple #[.agg #[x, y], v]) w := by
 have h4' : tmps[4]?.getD undef = .pointer (some ⟨b, 0, none⟩) := by simpa using h4
 have h5' : tmps[5]?.getD undef = v := by simpa using h5
 simp [results, Tryz.results94, go_sem, h4', h5', c1, c2]
set_option maxRecDepth 100000 in
set_option maxHeartbeats 800000 in
theorem shelf_Past (B : Nat) (A : Option Addr) (c : Nat) (l : List Version) (s : ByteArray) (w : World) (hB : B ≤ w.heap.size) (hl : l.length ≤ maxLen) (h : SlVers B w A l) :
  Calls Tryz.prog 94 #[.slice A l.length c, .string s] w fun e w' => ∃ x, e = .returned (.tuple #[x, .int .i64 (pastErr l s)]) ∧ IsK 0 w' x (pastKn l s) ∧ Ext w w' := by
 have hx := (Ext.refl w).alloc (.cells #[.slice none 0 0, .slice none 0 0] 101)
 have hbk := Blk.new w 101 #[.slice none 0 0, .slice none 0 0]
 have HCO := hid (shelfCheck_ok (l := l))
 go_enter Tryz.func94, Tryz.ntmps94
 go_wp2_with fail
 refine (shelf_Check B A c l _ hl (h.ext RVer.monoE hx)).mono ?_
 rintro e w1 ⟨rfl, hx1⟩
 replace hbk := hbk.ext hx1
 replace hx := hx.trans hx1
 clear hx1
 by_cases hc : shelfCheck l = 0
 ·rw [hc]
  have HCK := hid (HCO.out hc)
  have HOK := hid HCK.out.all
  have HL60 := hid HCK.out.len
  have hl60 : (l.length : Int) ≤ 60 := by have := HL60.out; omega
  have HEr := hid (show pastErr l s = toldErr (pastS (getL l s)) by unfold pastErr; rw [if_pos hc])
  have HKn := hid (show pastKn l s = toldKn (pastS (getL l s)) by unfold pastKn; rw [if_pos hc])
  clear hc
  go_wp2_with fail
  go_loopw [20, 7, 8] (fun i v u wr => ∃ k : Nat, k ≤ l.length ∧ i = .int .i64 k ∧ Ext w wr ∧ Blk wr w.heap.size 101 #[.slice none 0 0, .slice none 0 0] ∧ Own (RVec B) 1 32 wr w.heap.size v (pastVecs (getL (l.take k) s)) ∧ Own RDot 2 35 wr w.heap.size u (pastDots (getL (l.take k) s))) (fun i _ _ _ => l.length - (intOf i).toNat)
  case atStart => exact ⟨0, Nat.zero_le _, rfl, hx, hbk, Own.nil, Own.nil⟩
  case round =>
   clear hx hbk
   obtain ⟨k, hk, rfl, hx, hbk, hov, hod⟩ := hrel
   by_cases hlt : k < l.length
   ·obtain ⟨b, off, Av, cv, Am, cm, rfl, hb, hr, hI⟩ := (h.ext RVer.monoE hx).ver hlt
    have HI := hid hI
    clear hI
    have hsz : ([.string l[k].id, .int .i64 l[k].dot.site, .int .i64 l[k].dot.count, .int .i64 l[k].pt.tags, .int .i64 l[k].pt.num, .int .i64 l[k].body, .slice Av l[k].past.vec.length cv, .slice Am l[k].past.more.length cm] : List Value).length = 8 := rfl
    have hxl := (Ext.refl wr).alloc (.cells #[.string l[k].id, .int .i64 l[k].dot.site, .int .i64 l[k].dot.count, .int .i64 l[k].pt.tags, .int .i64 l[k].pt.num, .int .i64 l[k].body, .slice Av l[k].past.vec.length cv, .slice Am l[k].past.more.length cm] 151)
    have hbr := Blk.new wr 151 #[.string l[k].id, .int .i64 l[k].dot.site, .int .i64 l[k].dot.count, .int .i64 l[k].pt.tags, .int .i64 l[k].pt.num, .int .i64 l[k].body, .slice Av l[k].past.vec.length cv, .slice Am l[k].past.more.length cm]
    cases hI : sEq l[k].id s
    ·have h1' : (l[k].id.toList == s.toList) = false := hI
     have HG := hid (getL_no l s k hlt hI)
     clear hI
     go_wp2_with (with_reducible refine wpList_loadL (o := ⟨some 23, _, _, _, _, _⟩) ri_ver _ rfl rfl rfl hr hsz ?_)
     go_roundw
     case rel => exact ⟨k + 1, hlt, by go_num, hx.trans hxl, hbk.ext hxl, by rw [HG.out]; exact hov.ext RVec.monoE hxl, by rw [HG.out]; exact hod.ext (RPair.mono (B := 0)) hxl⟩
     case measure => simp [intOf]; omega
    ·have h1' : (l[k].id.toList == s.toList) = true := hI
     have HSv := hid (show pastVecs (getL (l.take (k + 1)) s) = pastVecs (getL (l.take k) s) ++ [l[k].past.vec] by unfold pastVecs; rw [getL_yes l s k hlt hI, List.map_append]; rfl)
     have HSd := hid (show pastDots (getL (l.take (k + 1)) s) = (pastDots (getL (l.take k) s) ++ l[k].past.more) ++ [l[k].dot] by unfold pastDots; rw [getL_yes l s k hlt hI, List.flatMap_append]; simp [List.append_assoc])
     have HLv := hid (show (pastVecs (getL (l.take k) s)).length + 1 ≤ 100 by have := getL_len l s k; have := HL60.out; unfold pastVecs; rw [List.length_map]; omega)
     have HLd := hid (show (pastDots (getL (l.take k) s)).length + l[k].past.more.length + 1 ≤ 5000 by have := pastDots_len (getL_ok HOK.out s k); have := getL_len l s k; have := HL60.out; have := (HOK.out _ (List.getElem_mem hlt)).k.mlen; omega)
     clear hI
     go_wp2_with (with_reducible refine wpList_loadL (o := ⟨some 23, _, _, _, _, _⟩) ri_ver _ rfl rfl rfl hr hsz ?_)
     clear hr hsz h1'
     obtain ⟨w1, hw1⟩ : ∃ w1, w1 = wr.alloc (.cells #[.string l[k].id, .int .i64 l[k].dot.site, .int .i64 l[k].dot.count, .int .i64 l[k].pt.tags, .int .i64 l[k].pt.num, .int .i64 l[k].body, .slice Av l[k].past.vec.length cv, .slice Am l[k].past.more.length cm] 151) := ⟨_, rfl⟩
     obtain ⟨r, hr⟩ : ∃ r, r = wr.heap.size := ⟨_, rfl⟩
     rw [← hw1] at hxl hbr ⊢
     rw [← hr] at hbr ⊢
     clear hw1 hr
     have HAll := hid (fun w' (x : Chg B [32, 35] w1 w') => show w'.cell? ⟨r, 1, none⟩ = some (.int .i64 l[k].dot.site) ∧ w'.cell? ⟨r, 2, none⟩ = some (.int .i64 l[k].dot.count) ∧ w'.cell? ⟨r, 6, none⟩ = some (.slice Av l[k].past.vec.length cv) ∧ w'.cell? ⟨r, 7, none⟩ = some (.slice Am l[k].past.more.length cm) from by
      have hb' := hbr.chg x (by decide)
      exact ⟨hb'.cell rfl, hb'.cell rfl, hb'.cell rfl, hb'.cell rfl⟩)
     have HPv := hid (fun w' (x : Chg B [32] w1 w') => show SlInts B w' Av l[k].past.vec from (HI.out.k.sv.ext RInt.mono hxl).chg RInt.mono (by decide) x)
     have HPm := hid (fun w' (x : Chg B [32] w1 w') => show SlDots B w' Am l[k].past.more from (HI.out.k.sm.ext RPair.mono hxl).chg RPair.mono (by decide) x)
     have hxd := (Ext.refl w1).drew
     have hxe := hxl.trans hxd
     replace hov := hov.ext RVec.monoE hxe
     replace hod := hod.ext (RPair.mono (B := 0)) hxe
     replace hx := hx.trans hxe
     replace hbk := hbk.ext hxe
     have hcy := Chg.of_ext (B := B) (ts := [32]) hxd
     refine wp_region_held_drew (S := fun w' => w'.cell? ⟨r, 1, none⟩ = some (.int .i64 l[k].dot.site) ∧ w'.cell? ⟨r, 2, none⟩ = some (.int .i64 l[k].dot.count) ∧ w'.cell? ⟨r, 6, none⟩ = some (.slice Av l[k].past.vec.length cv) ∧ w'.cell? ⟨r, 7, none⟩ = some (.slice Am l[k].past.more.length cm)) (by kernel_rfl) (HAll.out _ (hcy.more sub_vd)) (fun hHeld => ?_)
     obtain ⟨wc, hwc⟩ : ∃ wc, wc = w1.drew := ⟨_, rfl⟩
     rw [← hwc] at hHeld hcy hov hod hx hbk ⊢
     clear hwc hxd hxe hxl hbr hb
     refine tk 0 ?_ rfl (by kernel_rfl) (fun _ _ _ h => h) (by rfl) ?_ (by assumption) ?_
     rotate_left
     ·intro w' hSw; (try dsimp only at hSw); go_simp <;> with_reducible rfl
     simp only [gq]; try simp only [pq]
     refine tk 1 ?_ rfl (by kernel_rfl) (fun _ _ _ h => h) (by rfl) ?_ (by assumption) ?_
     rotate_left
     ·intro w' hSw; (try dsimp only at hSw); go_simp <;> with_reducible rfl
     simp only [gq]; try simp only [pq]
     refine tk 2 ?_ rfl (by kernel_rfl) (fun _ _ _ h => h) (by rfl) ?_ (by assumption) ?_
     rotate_left
     ·intro w' hSw; (try dsimp only at hSw); go_simp <;> with_reducible rfl
     simp only [gq]; try simp only [pq]
     refine tk 3 ?_ rfl (by kernel_rfl) (fun _ _ _ h => h) (by rfl) ?_ (by assumption) ?_
     rotate_left
     ·intro w' hSw; (try dsimp only at hSw); go_simp <;> with_reducible rfl
     simp only [gq]; try simp only [pq]
     refine tk 6 ?_ rfl (by kernel_rfl) (fun _ _ _ h => h) (by rfl) ?_ (by assumption) ?_
     rotate_left
     ·intro w' hSw; (try dsimp only at hSw); go_simp <;> with_reducible rfl
     simp only [gq]; try simp only [pq]
     refine tk 7 ?_ rfl (by kernel_rfl) (fun _ _ _ h => h) (by rfl) ?_ (by assumption) ?_
     rotate_left
     ·intro w' hSw; (try dsimp only at hSw); go_simp <;> with_reducible rfl
     simp only [gq]; try simp only [pq]
     refine tk 8 ?_ rfl (by kernel_rfl) (fun _ _ _ h => h) (by rfl) ?_ (by assumption) ?_
     rotate_left
     ·intro w' hSw; (try dsimp only at hSw); go_simp <;> with_reducible rfl
     simp only [gq]; try simp only [pq]
     refine tk 9 ?_ rfl (by kernel_rfl) (fun _ _ _ h => h) (by rfl) ?_ (by assumption) ?_
     rotate_left
     ·intro w' hSw; (try dsimp only at hSw); go_simp <;> with_reducible rfl
     simp only [gq]; try simp only [pq]
     refine tk 11 ?_ rfl (by kernel_rfl) (fun _ _ _ h => h) (by rfl) ?_ (by assumption) ?_
     rotate_left
     ·intro w' hSw; (try dsimp only at hSw); go_simp <;> with_reducible rfl
     simp only [gq]; try simp only [pq]
     refine tk 12 ?_ rfl (by kernel_rfl) (fun _ _ _ h => h) (by rfl) ?_ (by assumption) ?_
     rotate_left
     ·intro w' hSw; (try dsimp only at hSw); go_simp <;> with_reducible rfl
     simp only [gq]; try simp only [pq]
     refine wpAnyH_ready (rs := [4, 13]) (by kernel_rfl) (by simp) ?_
     refine AllReadyH.cons rfl (fun K hK => ?_) ?_
     ·simp only [gq]
      go_simp
      have hxa := (Ext.refl wc).alloc (.cells #[.slice Av l[k].past.vec.length cv] 32)
      obtain ⟨wn, hwn⟩ : ∃ wn, wn = wc.alloc (.cells #[.slice Av l[k].past.vec.length cv] 32) := ⟨_, rfl⟩
      rw [← hwn] at hxa
      replace hbk := hbk.ext hxa
      replace hx := hx.trans hxa
      replace hov := hov.ext RVec.monoE hxa
      replace hod := hod.ext (RPair.mono (B := 0)) hxa
      replace hcy := hcy.trans (Chg.of_ext (B := B) (ts := [32]) hxa)
      have hL4 : SlVecs B wn (some ⟨wc.heap.size, 0, none⟩) [l[k].past.vec] := Sl.one (cs := [.slice Av l[k].past.vec.length cv]) hwn rfl ⟨_, rfl, Av, cv, rfl, HI.out.lcv.1, HI.out.lcv.2, HPv.out _ hcy⟩
      obtain ⟨a4, ha4⟩ : ∃ a, a = some (⟨wc.heap.size, 0, none⟩ : Addr) := ⟨_, rfl⟩
      rw [← hwn, ← ha4]
      rw [← ha4] at hL4
      clear hxa hwn ha4
      obtain ⟨wc, rfl⟩ : ∃ wc', wc' = wn := ⟨_, rfl⟩
      refine hK.out _ _ (HAll.out _ (hcy.more sub_vd)) (fun hHeld => ?_)
      clear hK K
      try simp only [pq]
      refine wpAnyH_ready (rs := [5, 13]) (by kernel_rfl) (by simp) ?_
      refine AllReadyH.cons rfl (fun K hK => ?_) ?_
      ·simp only [gq]
       simp only [Region.wanted, if_true]
       refine wp_app (.tmp 28) (.tmp 32) rfl ei_vec rfl hov (B := B) hB hx.size (ys := [l[k].past.vec]) (c := 1) rfl hL4 RVec.oneC (RVec.mono (by decide)) (by have := HLv.out; simp [maxLen]; omega) (by have := HLv.out; simp; omega) ?_
       intro v5 wn hov5 hch hbl _
       replace hod := hod.chgT (B := B) RPair.mono (by decide) hch
       replace hbk := hbk.chg hch (by decide)
       replace hx := hx.below hbl (Nat.le_refl _)
       replace hcy := hcy.trans hch
       clear hch hbl hov hL4
       obtain ⟨wc, rfl⟩ : ∃ wc', wc' = wn := ⟨_, rfl⟩
       refine hK.out _ _ (HAll.out _ (hcy.more sub_vd)) (fun hHeld => ?_)
       clear hK K
       try simp only [pq]
       refine wpAnyH_ready (rs := [10, 13]) (by kernel_rfl) (by simp) ?_
       refine AllReadyH.cons rfl (fun K hK => ?_) ?_
       ·simp only [gq]
        simp only [Region.wanted, if_true]
        refine wp_app (.tmp 34) (.tmp 37) rfl ei_dot rfl hod (B := B) hB hx.size (ys := l[k].past.more) (c := cm) rfl (HPm.out _ hcy) RPair.oneC RPair.mono (by have := HLd.out; unfold maxLen; omega) (by have := HLd.out; omega) ?_
        intro v10 wn hod10 hch hbl hgr
        replace hov5 := hov5.chgT (B := B) (RVec.mono (by decide)) (by decide) hch
        replace hbk := hbk.chg hch (by decide)
        replace hx := hx.below hbl (Nat.le_refl _)
        have hcz := (hcy.more sub_vd).trans (hch.more sub_d)
        clear hch hbl hgr hod hcy
        obtain ⟨wc, rfl⟩ : ∃ wc', wc' = wn := ⟨_, rfl⟩
        refine hK.out _ _ (HAll.out _ hcz) (fun hHeld => ?_)
        clear hK K
        try simp only [pq]
        refine wpAnyH_ready (rs := [13]) (by kernel_rfl) (by simp) ?_
        refine AllReadyH.cons rfl (fun K hK => ?_) AllReadyH.nil
        simp only [gq]
        go_simp
        have hxa := (Ext.refl wc).alloc (.cells #[.int .i64 l[k].dot.site, .int .i64 l[k].dot.count] 35)
        have hb13 := Blk.new wc 35 #[.int .i64 l[k].dot.site, .int .i64 l[k].dot.count]
        obtain ⟨wn, hwn⟩ : ∃ wn, wn = wc.alloc (.cells #[.int .i64 l[k].dot.site, .int .i64 l[k].dot.count] 35) := ⟨_, rfl⟩
        obtain ⟨a13, ha13⟩ : ∃ a, a = wc.heap.size := ⟨_, rfl⟩
        rw [← hwn] at hxa hb13
        rw [← hwn, ← ha13]
        rw [← ha13] at hb13
        replace hbk := hbk.ext hxa
        replace hx := hx.trans hxa
        replace hov5 := hov5.ext RVec.monoE hxa
        replace hod10 := hod10.ext (RPair.mono (B := 0)) hxa
        replace hcz := hcz.trans (Chg.of_ext (B := B) (ts := [32, 35]) hxa)
        clear hxa hwn ha13
        obtain ⟨wc, rfl⟩ : ∃ wc', wc' = wn := ⟨_, rfl⟩
        refine hK.out _ _ (HAll.out _ hcz) (fun hHeld => ?_)
        clear hK K
        try simp only [pq]
        refine wpAnyH_ready (rs := [14]) (by kernel_rfl) (by simp) ?_
        refine AllReadyH.cons rfl (fun K hK => ?_) AllReadyH.nil
        simp only [gq]
        simp only [Region.wanted, if_true]
        refine wp_app (.tmp 38) (.tmp 41) rfl ei_dot rfl hod10 (B := B) hB hx.size (ys := [l[k].dot]) (c := 1) rfl (Sl.ofBlkV (B := B) hb13 rfl rfl) RPair.oneC RPair.mono (by have := HLd.out; simp [maxLen]; omega) (by have := HLd.out; simp; omega) ?_
        intro v14 wn hod14 hch hbl _
        replace hov5 := hov5.chgT (B := B) (RVec.mono (by decide)) (by decide) hch
        replace hbk := hbk.chg hch (by decide)
        replace hx := hx.below hbl (Nat.le_refl _)
        replace hcz := hcz.trans (hch.more sub_d)
        clear hch hbl hod10 hb13
        obtain ⟨wc, rfl⟩ : ∃ wc', wc' = wn := ⟨_, rfl⟩
        refine hK.out _ _ (HAll.out _ hcz) (fun hHeld => ?_)
        clear hK K
        try simp only [pq]
        refine tk 15 ?_ rfl (by kernel_rfl) (fun _ _ _ h => h) (by rfl) ?_ (by assumption) ?_
        rotate_left
        ·intro w' hSw; (try dsimp only at hSw); go_simp <;> with_reducible rfl
        simp only [gq]; try simp only [pq]
        refine tk 16 ?_ rfl (by kernel_rfl) (fun _ _ _ h => h) (by rfl) ?_ (by assumption) ?_
        rotate_left
        ·intro w' hSw; (try dsimp only at hSw); go_simp <;> with_reducible rfl
        simp only [gq]; try simp only [pq]
        refine wpAnyH_done (by kernel_rfl) ?_ _
        go_wp2_with fail
        go_roundw
        case rel =>
         refine ⟨k + 1, hlt, by go_num, hx, hbk, ?_, ?_⟩
         ·rw [HSv.out]; exact hov5
         ·rw [HSd.out]; exact hod14
        case measure => simp [intOf]; omega
       refine AllReadyH.cons rfl (fun K hK => ?_) AllReadyH.nil
       simp only [gq]
       go_simp
       have hxa := (Ext.refl wc).alloc (.cells #[.int .i64 l[k].dot.site, .int .i64 l[k].dot.count] 35)
       have hb13 := Blk.new wc 35 #[.int .i64 l[k].dot.site, .int .i64 l[k].dot.count]
       have hne13 : ∀ g, u8.ownBlock = some g → g ≠ wc.heap.size := fun g hg => by have := (hod.lt hg).2; omega
       obtain ⟨wn, hwn⟩ : ∃ wn, wn = wc.alloc (.cells #[.int .i64 l[k].dot.site, .int .i64 l[k].dot.count] 35) := ⟨_, rfl⟩
       obtain ⟨a13, ha13⟩ : ∃ a, a = wc.heap.size := ⟨_, rfl⟩
       rw [← hwn] at hxa hb13
       rw [← hwn, ← ha13]
       rw [← ha13] at hb13 hne13
       replace hbk := hbk.ext hxa
       replace hx := hx.trans hxa
       replace hov5 := hov5.ext RVec.monoE hxa
       replace hod := hod.ext (RPair.mono (B := 0)) hxa
       replace hcy := hcy.trans (Chg.of_ext (B := B) (ts := [32]) hxa)
       clear hxa hwn ha13
       obtain ⟨wc, rfl⟩ : ∃ wc', wc' = wn := ⟨_, rfl⟩
       refine hK.out _ _ (HAll.out _ (hcy.more sub_vd)) (fun hHeld => ?_)
       clear hK K
       try simp only [pq]
       refine wpAnyH_ready (rs := [10]) (by kernel_rfl) (by simp) ?_
       refine AllReadyH.cons rfl (fun K hK => ?_) AllReadyH.nil
       simp only [gq]
       simp only [Region.wanted, if_true]
       refine wp_app (.tmp 34) (.tmp 37) rfl ei_dot rfl hod (B := B) hB hx.size (ys := l[k].past.more) (c := cm) rfl (HPm.out _ hcy) RPair.oneC RPair.mono (by have := HLd.out; unfold maxLen; omega) (by have := HLd.out; omega) ?_
       intro v10 wn hod10 hch hbl hgr
       replace hov5 := hov5.chgT (B := B) (RVec.mono (by decide)) (by decide) hch
       replace hbk := hbk.chg hch (by decide)
       replace hx := hx.below hbl (Nat.le_refl _)
       have hcz := (hcy.more sub_vd).trans (hch.more sub_d)
       replace hb13 := (hgr.block _ hb13.lt (fun e => hne13 _ e.symm rfl)).trans hb13
       clear hne13
       clear hch hbl hgr hod hcy
       obtain ⟨wc, rfl⟩ : ∃ wc', wc' = wn := ⟨_, rfl⟩
       refine hK.out _ _ (HAll.out _ hcz) (fun hHeld => ?_)
       clear hK K
       try simp only [pq]
       refine wpAnyH_ready (rs := [14]) (by kernel_rfl) (by simp) ?_
       refine AllReadyH.cons rfl (fun K hK => ?_) AllReadyH.nil
       simp only [gq]
       simp only [Region.wanted, if_true]
       refine wp_app (.tmp 38) (.tmp 41) rfl ei_dot rfl hod10 (B := B) hB hx.size (ys := [l[k].dot]) (c := 1) rfl (Sl.ofBlkV (B := B) hb13 rfl rfl) RPair.oneC RPair.mono (by have := HLd.out; simp [maxLen]; omega) (by have := HLd.out; simp; omega) ?_
       intro v14 wn hod14 hch hbl _
       replace hov5 := hov5.chgT (B := B) (RVec.mono (by decide)) (by decide) hch
       replace hbk := hbk.chg hch (by decide)
       replace hx := hx.below hbl (Nat.le_refl _)
       replace hcz := hcz.trans (hch.more sub_d)
       clear hch hbl hod10 hb13
       obtain ⟨wc, rfl⟩ : ∃ wc', wc' = wn := ⟨_, rfl⟩
       refine hK.out _ _ (HAll.out _ hcz) (fun hHeld => ?_)
       clear hK K
       try simp only [pq]
       refine tk 15 ?_ rfl (by kernel_rfl) (fun _ _ _ h => h) (by rfl) ?_ (by assumption) ?_
       rotate_left
       ·intro w' hSw; (try dsimp only at hSw); go_simp <;> with_reducible rfl
       simp only [gq]; try simp only [pq]
       refine tk 16 ?_ rfl (by kernel_rfl) (fun _ _ _ h => h) (by rfl) ?_ (by assumption) ?_
       rotate_left
       ·intro w' hSw; (try dsimp only at hSw); go_simp <;> with_reducible rfl
       simp only [gq]; try simp only [pq]
       refine wpAnyH_done (by kernel_rfl) ?_ _
       go_wp2_with fail
       go_roundw
       case rel =>
        refine ⟨k + 1, hlt, by go_num, hx, hbk, ?_, ?_⟩
        ·rw [HSv.out]; exact hov5
        ·rw [HSd.out]; exact hod14
       case measure => simp [intOf]; omega
      refine AllReadyH.cons rfl (fun K hK => ?_) AllReadyH.nil
      simp only [gq]
      go_simp
      have hxa := (Ext.refl wc).alloc (.cells #[.int .i64 l[k].dot.site, .int .i64 l[k].dot.count] 35)
      have hb13 := Blk.new wc 35 #[.int .i64 l[k].dot.site, .int .i64 l[k].dot.count]
      have hne13 : ∀ g, u8.ownBlock = some g → g ≠ wc.heap.size := fun g hg => by have := (hod.lt hg).2; omega
      obtain ⟨wn, hwn⟩ : ∃ wn, wn = wc.alloc (.cells #[.int .i64 l[k].dot.site, .int .i64 l[k].dot.count] 35) := ⟨_, rfl⟩
      obtain ⟨a13, ha13⟩ : ∃ a, a = wc.heap.size := ⟨_, rfl⟩
      rw [← hwn] at hxa hb13
      rw [← hwn, ← ha13]
      rw [← ha13] at hb13 hne13
      replace hbk := hbk.ext hxa
      replace hx := hx.trans hxa
      replace hov := hov.ext RVec.monoE hxa
      replace hL4 := hL4.ext RVec.monoE hxa
      replace hod := hod.ext (RPair.mono (B := 0)) hxa
      replace hcy := hcy.trans (Chg.of_ext (B := B) (ts := [32]) hxa)
      clear hxa hwn ha13
      obtain ⟨wc, rfl⟩ : ∃ wc', wc' = wn := ⟨_, rfl⟩
      refine hK.out _ _ (HAll.out _ (hcy.more sub_vd)) (fun hHeld => ?_)
      clear hK K
      try simp only [pq]
      refine wpAnyH_ready (rs := [5]) (by kernel_rfl) (by simp) ?_
      refine AllReadyH.cons rfl (fun K hK => ?_) AllReadyH.nil
      simp only [gq]
      simp only [Region.wanted, if_true]
      refine wp_app (.tmp 28) (.tmp 32) rfl ei_vec rfl hov (B := B) hB hx.size (ys := [l[k].past.vec]) (c := 1) rfl hL4 RVec.oneC (RVec.mono (by decide)) (by have := HLv.out; simp [maxLen]; omega) (by have := HLv.out; simp; omega) ?_
      intro v5 wn hov5 hch hbl _
      replace hod := hod.chgT (B := B) RPair.mono (by decide) hch
      replace hbk := hbk.chg hch (by decide)
      replace hx := hx.below hbl (Nat.le_refl _)
      replace hcy := hcy.trans hch
      replace hb13 := hb13.chg hch (by decide)
      clear hch hbl hov hL4
      obtain ⟨wc, rfl⟩ : ∃ wc', wc' = wn := ⟨_, rfl⟩
      refine hK.out _ _ (HAll.out _ (hcy.more sub_vd)) (fun hHeld => ?_)
      clear hK K
      try simp only [pq]
      refine wpAnyH_ready (rs := [10]) (by kernel_rfl) (by simp) ?_
      refine AllReadyH.cons rfl (fun K hK => ?_) AllReadyH.nil
      simp only [gq]
      simp only [Region.wanted, if_true]
      refine wp_app (.tmp 34) (.tmp 37) rfl ei_dot rfl hod (B := B) hB hx.size (ys := l[k].past.more) (c := cm) rfl (HPm.out _ hcy) RPair.oneC RPair.mono (by have := HLd.out; unfold maxLen; omega) (by have := HLd.out; omega) ?_
      intro v10 wn hod10 hch hbl hgr
      replace hov5 := hov5.chgT (B := B) (RVec.mono (by decide)) (by decide) hch
      replace hbk := hbk.chg hch (by decide)
      replace hx := hx.below hbl (Nat.le_refl _)
      have hcz := (hcy.more sub_vd).trans (hch.more sub_d)
      replace hb13 := (hgr.block _ hb13.lt (fun e => hne13 _ e.symm rfl)).trans hb13
      clear hne13
      clear hch hbl hgr hod hcy
      obtain ⟨wc, rfl⟩ : ∃ wc', wc' = wn := ⟨_, rfl⟩
      refine hK.out _ _ (HAll.out _ hcz) (fun hHeld => ?_)
      clear hK K
      try simp only [pq]
      refine wpAnyH_ready (rs := [14]) (by kernel_rfl) (by simp) ?_
      refine AllReadyH.cons rfl (fun K hK => ?_) AllReadyH.nil
      simp only [gq]
      simp only [Region.wanted, if_true]
      refine wp_app (.tmp 38) (.tmp 41) rfl ei_dot rfl hod10 (B := B) hB hx.size (ys := [l[k].dot]) (c := 1) rfl (Sl.ofBlkV (B := B) hb13 rfl rfl) RPair.oneC RPair.mono (by have := HLd.out; simp [maxLen]; omega) (by have := HLd.out; simp; omega) ?_
      intro v14 wn hod14 hch hbl _
      replace hov5 := hov5.chgT (B := B) (RVec.mono (by decide)) (by decide) hch
      replace hbk := hbk.chg hch (by decide)
      replace hx := hx.below hbl (Nat.le_refl _)
      replace hcz := hcz.trans (hch.more sub_d)
      clear hch hbl hod10 hb13
      obtain ⟨wc, rfl⟩ : ∃ wc', wc' = wn := ⟨_, rfl⟩
      refine hK.out _ _ (HAll.out _ hcz) (fun hHeld => ?_)
      clear hK K
      try simp only [pq]
      refine tk 15 ?_ rfl (by kernel_rfl) (fun _ _ _ h => h) (by rfl) ?_ (by assumption) ?_
      rotate_left
      ·intro w' hSw; (try dsimp only at hSw); go_simp <;> with_reducible rfl
      simp only [gq]; try simp only [pq]
      refine tk 16 ?_ rfl (by kernel_rfl) (fun _ _ _ h => h) (by rfl) ?_ (by assumption) ?_
      rotate_left
      ·intro w' hSw; (try dsimp only at hSw); go_simp <;> with_reducible rfl
      simp only [gq]; try simp only [pq]
      refine wpAnyH_done (by kernel_rfl) ?_ _
      go_wp2_with fail
      go_roundw
      case rel =>
       refine ⟨k + 1, hlt, by go_num, hx, hbk, ?_, ?_⟩
       ·rw [HSv.out]; exact hov5
       ·rw [HSd.out]; exact hod14
      case measure => simp [intOf]; omega
     refine AllReadyH.cons rfl (fun K hK => ?_) AllReadyH.nil
     simp only [gq]
     go_simp
     have hxa := (Ext.refl wc).alloc (.cells #[.int .i64 l[k].dot.site, .int .i64 l[k].dot.count] 35)
     have hb13 := Blk.new wc 35 #[.int .i64 l[k].dot.site, .int .i64 l[k].dot.count]
     have hne13 : ∀ g, u8.ownBlock = some g → g ≠ wc.heap.size := fun g hg => by have := (hod.lt hg).2; omega
     obtain ⟨wn, hwn⟩ : ∃ wn, wn = wc.alloc (.cells #[.int .i64 l[k].dot.site, .int .i64 l[k].dot.count] 35) := ⟨_, rfl⟩
     obtain ⟨a13, ha13⟩ : ∃ a, a = wc.heap.size := ⟨_, rfl⟩
     rw [← hwn] at hxa hb13
     rw [← hwn, ← ha13]
     rw [← ha13] at hb13 hne13
     replace hbk := hbk.ext hxa
     replace hx := hx.trans hxa
     replace hov := hov.ext RVec.monoE hxa
     replace hod := hod.ext (RPair.mono (B := 0)) hxa
     replace hcy := hcy.trans (Chg.of_ext (B := B) (ts := [32]) hxa)
     clear hxa hwn ha13
     obtain ⟨wc, rfl⟩ : ∃ wc', wc' = wn := ⟨_, rfl⟩
     refine hK.out _ _ (HAll.out _ (hcy.more sub_vd)) (fun hHeld => ?_)
     clear hK K
     try simp only [pq]
     refine wpAnyH_ready (rs := [4]) (by kernel_rfl) (by simp) ?_
     refine AllReadyH.cons rfl (fun K hK => ?_) AllReadyH.nil
     simp only [gq]
     go_simp
     have hxa := (Ext.refl wc).alloc (.cells #[.slice Av l[k].past.vec.length cv] 32)
     obtain ⟨wn, hwn⟩ : ∃ wn, wn = wc.alloc (.cells #[.slice Av l[k].past.vec.length cv] 32) := ⟨_, rfl⟩
     rw [← hwn] at hxa
     replace hbk := hbk.ext hxa
     replace hx := hx.trans hxa
     replace hov := hov.ext RVec.monoE hxa
     replace hod := hod.ext (RPair.mono (B := 0)) hxa
     replace hb13 := hb13.ext hxa
     replace hcy := hcy.trans (Chg.of_ext (B := B) (ts := [32]) hxa)
     have hL4 : SlVecs B wn (some ⟨wc.heap.size, 0, none⟩) [l[k].past.vec] := Sl.one (cs := [.slice Av l[k].past.vec.length cv]) hwn rfl ⟨_, rfl, Av, cv, rfl, HI.out.lcv.1, HI.out.lcv.2, HPv.out _ hcy⟩
     obtain ⟨a4, ha4⟩ : ∃ a, a = some (⟨wc.heap.size, 0, none⟩ : Addr) := ⟨_, rfl⟩
     rw [← hwn, ← ha4]
     rw [← ha4] at hL4
     clear hxa hwn ha4
     obtain ⟨wc, rfl⟩ : ∃ wc', wc' = wn := ⟨_, rfl⟩
     refine hK.out _ _ (HAll.out _ (hcy.more sub_vd)) (fun hHeld => ?_)
     clear hK K
     try simp only [pq]
     refine wpAnyH_ready (rs := [5]) (by kernel_rfl) (by simp) ?_
     refine AllReadyH.cons rfl (fun K hK => ?_) AllReadyH.nil
     simp only [gq]
     simp only [Region.wanted, if_true]
     refine wp_app (.tmp 28) (.tmp 32) rfl ei_vec rfl hov (B := B) hB hx.size (ys := [l[k].past.vec]) (c := 1) rfl hL4 RVec.oneC (RVec.mono (by decide)) (by have := HLv.out; simp [maxLen]; omega) (by have := HLv.out; simp; omega) ?_
     intro v5 wn hov5 hch hbl _
     replace hod := hod.chgT (B := B) RPair.mono (by decide) hch
     replace hbk := hbk.chg hch (by decide)
     replace hx := hx.below hbl (Nat.le_refl _)
     replace hcy := hcy.trans hch
     replace hb13 := hb13.chg hch (by decide)
     clear hch hbl hov hL4
     obtain ⟨wc, rfl⟩ : ∃ wc', wc' = wn := ⟨_, rfl⟩
     refine hK.out _ _ (HAll.out _ (hcy.more sub_vd)) (fun hHeld => ?_)
     clear hK K
     try simp only [pq]
     refine wpAnyH_ready (rs := [10]) (by kernel_rfl) (by simp) ?_
     refine AllReadyH.cons rfl (fun K hK => ?_) AllReadyH.nil
     simp only [gq]
     simp only [Region.wanted, if_true]
     refine wp_app (.tmp 34) (.tmp 37) rfl ei_dot rfl hod (B := B) hB hx.size (ys := l[k].past.more) (c := cm) rfl (HPm.out _ hcy) RPair.oneC RPair.mono (by have := HLd.out; unfold maxLen; omega) (by have := HLd.out; omega) ?_
     intro v10 wn hod10 hch hbl hgr
     replace hov5 := hov5.chgT (B := B) (RVec.mono (by decide)) (by decide) hch
     replace hbk := hbk.chg hch (by decide)
     replace hx := hx.below hbl (Nat.le_refl _)
     have hcz := (hcy.more sub_vd).trans (hch.more sub_d)
     replace hb13 := (hgr.block _ hb13.lt (fun e => hne13 _ e.symm rfl)).trans hb13
     clear hne13
     clear hch hbl hgr hod hcy
     obtain ⟨wc, rfl⟩ : ∃ wc', wc' = wn := ⟨_, rfl⟩
     refine hK.out _ _ (HAll.out _ hcz) (fun hHeld => ?_)
     clear hK K
     try simp only [pq]
     refine wpAnyH_ready (rs := [14]) (by kernel_rfl) (by simp) ?_
     refine AllReadyH.cons rfl (fun K hK => ?_) AllReadyH.nil
     simp only [gq]
     simp only [Region.wanted, if_true]
     refine wp_app (.tmp 38) (.tmp 41) rfl ei_dot rfl hod10 (B := B) hB hx.size (ys := [l[k].dot]) (c := 1) rfl (Sl.ofBlkV (B := B) hb13 rfl rfl) RPair.oneC RPair.mono (by have := HLd.out; simp [maxLen]; omega) (by have := HLd.out; simp; omega) ?_
     intro v14 wn hod14 hch hbl _
     replace hov5 := hov5.chgT (B := B) (RVec.mono (by decide)) (by decide) hch
     replace hbk := hbk.chg hch (by decide)
     replace hx := hx.below hbl (Nat.le_refl _)
     replace hcz := hcz.trans (hch.more sub_d)
     clear hch hbl hod10 hb13
     obtain ⟨wc, rfl⟩ : ∃ wc', wc' = wn := ⟨_, rfl⟩
     refine hK.out _ _ (HAll.out _ hcz) (fun hHeld => ?_)
     clear hK K
     try simp only [pq]
     refine tk 15 ?_ rfl (by kernel_rfl) (fun _ _ _ h => h) (by rfl) ?_ (by assumption) ?_
     rotate_left
     ·intro w' hSw; (try dsimp only at hSw); go_simp <;> with_reducible rfl
     simp only [gq]; try simp only [pq]
     refine tk 16 ?_ rfl (by kernel_rfl) (fun _ _ _ h => h) (by rfl) ?_ (by assumption) ?_
     rotate_left
     ·intro w' hSw; (try dsimp only at hSw); go_simp <;> with_reducible rfl
     simp only [gq]; try simp only [pq]
     refine wpAnyH_done (by kernel_rfl) ?_ _
     go_wp2_with fail
     go_roundw
     case rel =>
      refine ⟨k + 1, hlt, by go_num, hx, hbk, ?_, ?_⟩
      ·rw [HSv.out]; exact hov5
      ·rw [HSd.out]; exact hod14
     case measure => simp [intOf]; omega
   ·obtain rfl : k = l.length := by omega
    rw [List.take_length] at hov hod
    have HV := hid (show ∀ x ∈ pastVecs (getL l s), x.length ≤ 5 ∧ ∀ n ∈ x, 0 ≤ n ∧ n ≤ 1000 from fun x hx => by
     obtain ⟨v, hv, rfl⟩ := List.mem_map.1 hx
     have := (HOK.out v (List.mem_filter.1 hv).1).k
     exact ⟨this.vlen, this.vec⟩)
    have HD := hid (show ∀ d ∈ pastDots (getL l s), dotOk d = true from fun d hd => by
     obtain ⟨v, hv, hd⟩ := List.mem_flatMap.1 hd
     have ho := HOK.out v (List.mem_filter.1 hv).1
     rcases List.mem_append.1 hd with hd | hd
     ·exact (ho.k.more d hd).1
     ·rw [List.mem_singleton.1 hd]; exact ho.dot)
    have HLv := hid (show (pastVecs (getL l s)).length ≤ 1000 by have := getL_len l s l.length; rw [List.take_length] at this; have := HL60.out; unfold pastVecs; rw [List.length_map]; omega)
    have HLd := hid (show (pastDots (getL l s)).length ≤ 10000 by have h1 := pastDots_len (getL_ok HOK.out s l.length); have h2 := getL_len l s l.length; rw [List.take_length] at h1 h2; have := HL60.out; omega)
    have HP := hid (show pastS (getL l s) = formOf (setOf (pastVecs (getL l s)) (pastDots (getL l s))) from rfl)
    obtain ⟨A5, c5, rfl, _, _⟩ := hov.len
    obtain ⟨A6, c6, rfl, _, _⟩ := hod.len
    go_wp2_with fail
    refine (know_Made B A5 c5 (pastVecs (getL l s)) A6 c6 (pastDots (getL l s)) wr (Nat.le_trans hB hx.size) (hov.sl B) HLv.out (fun x hx => (HV.out x hx).1) (fun x hx => (HV.out x hx).2) (hod.sl B) HLd.out HD.out).mono ?_
    rintro e w2 ⟨v, rfl, hk, hx2⟩
    rw [← HP.out] at hk
    obtain ⟨G, hG⟩ : ∃ G, G = pastS (getL l s) := ⟨_, rfl⟩
    rw [← hG] at hk HEr HKn
    clear hG
    obtain ⟨Ax, cx, Ay, cy, rfl, e1, e2, e3, e4, hk6⟩ := hk
    have hbl := (hbk.ext hx2).lt
    have HXF := hid (hx.trans hx2)
    have HKF := hid hk6
    have HT0 := hid (hbk.ext hx2).ty
    have y0 := (hbk.ext hx2).cell (i := 0) (u := .slice none 0 0) rfl
    have y1 := (hbk.ext hx2).cell (i := 1) (u := .slice none 0 0) rfl
    have y2 := (hbk.ext hx2).frozen 0
    have y3 := (hbk.ext hx2).frozen 1
    clear hbk hx hx2 hov hod hk6
    by_cases hm : G.more.length ≤ 60
    ·have hd : decide ((60 : Int) < G.more.length) = false := decide_eq_false (by omega)
     have HE := hid (show pastErr l s = 0 by rw [HEr.out]; exact if_pos hm)
     have HT := hid (show pastKn l s = G by rw [HKn.out]; exact if_pos hm)
     clear hm
     go_wp2_with fail
     refine bodyPost_ret (v := .tuple #[.agg #[.slice Ax G.vec.length cx, .slice Ay G.more.length cy], .int .i64 0]) (res_spast (b := w.heap.size) rfl rfl ?_ ?_) rfl ⟨.agg #[.slice Ax G.vec.length cx, .slice Ay G.more.length cy], by rw [← HE.out], ?_, ?_⟩
     ·go_simp
     ·go_simp
     ·rw [HT.out]
      exact ⟨Ax, cx, Ay, cy, rfl, e1, e2, e3, e4, (HKF.out.chg (((Chg.refl (ts := [101]) w2).setCell (p := ⟨w.heap.size, 0, none⟩) HT0.out (by simp) _ (Nat.zero_le _)).setCell (p := ⟨w.heap.size, 1, none⟩) (tyAt_put HT0.out) (by simp) _ (Nat.zero_le _)) (by decide) (by decide)).ext ((Ext.refl _).alloc _)⟩
     ·exact ((HXF.out.setCell (Nat.le_refl _) _).setCell (Nat.le_refl _) _).alloc _
    ·have hd : decide ((60 : Int) < G.more.length) = true := decide_eq_true (by omega)
     have HE := hid (show pastErr l s = 2 by rw [HEr.out]; exact if_neg hm)
     have HT := hid (show pastKn l s = ⟨[], []⟩ by rw [HKn.out]; exact if_neg hm)
     clear hm
     go_wp2_with fail
     refine bodyPost_ret (v := .tuple #[.agg #[.slice none 0 0, .slice none 0 0], .int .i64 2]) (res_spast (b := w.heap.size) rfl rfl ?_ ?_) rfl ⟨.agg #[.slice none 0 0, .slice none 0 0], by rw [← HE.out], ?_, ?_⟩
     ·go_simp
     ·go_simp
     ·rw [HT.out]; exact IsK.empty
     ·exact ((HXF.out.setCell (Nat.le_refl _) _).setCell (Nat.le_refl _) _).alloc _
 ·have hne : (shelfCheck l != 0) = true := by simpa using hc
  have HE := hid (show pastErr l s = shelfCheck l by unfold pastErr; rw [if_neg hc])
  have HT := hid (show pastKn l s = ⟨[], []⟩ by unfold pastKn; rw [if_neg hc])
  clear hc
  have y0 := hbk.cell (i := 0) (u := .slice none 0 0) rfl
  have y1 := hbk.cell (i := 1) (u := .slice none 0 0) rfl
  have y2 := hbk.frozen 0
  have y3 := hbk.frozen 1
  clear hbk
  go_wp2_with fail
  refine bodyPost_ret (v := .tuple #[.agg #[.slice none 0 0, .slice none 0 0], .int .i64 (shelfCheck l)]) (res_spast (b := w.heap.size) rfl rfl ?_ ?_) rfl ⟨.agg #[.slice none 0 0, .slice none 0 0], by rw [← HE.out], ?_, ?_⟩
  ·go_simp
  ·go_simp
  ·rw [HT.out]; exact IsK.empty
  ·exact (hx.setCell (Nat.le_refl _) _).setCell (Nat.le_refl _) _
end Go.Proofs.YtngbfdogiciahaaGreat
