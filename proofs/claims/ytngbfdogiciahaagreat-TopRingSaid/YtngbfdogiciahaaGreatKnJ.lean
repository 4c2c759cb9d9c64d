/- The walk of know.Join. -/
import Derived.Test.YtngbfdogiciahaaGreatShort
import Derived.Test.YtngbfdogiciahaaGreatJoinCopW
import Derived.Test.YtngbfdogiciahaaGreatJoinKnT
namespace Go.Proofs.YtngbfdogiciahaaGreat
open Go Go.RowKit
def joinS (k l : Know) : Know := formOf (setOf [k.vec, l.vec] [k.more, l.more].flatten)
def joinErr (k l : Know) : Int := if twoErr k l = 0 then toldErr (joinS k l) else twoErr k l
def joinK (k l : Know) : Know := if twoErr k l = 0 then toldKn (joinS k l) else ⟨[], []⟩
theorem two_ok {k l : Know} (h : twoErr k l = 0) : KnowOk k ∧ KnowOk l := by
 unfold twoErr at h
 by_cases h0 : knowCheck k = 0
 ·rw [if_pos h0] at h
  exact ⟨knowCheck_iff.1 h0, knowCheck_iff.1 h⟩
 ·rw [if_neg h0] at h
  exact absurd h h0
theorem InK.top {B : Nat} {w : World} {Av Am : Option Addr} {k : Know} (h : InK B w Av Am k) : InK w.heap.size w Av Am k := by
 refine ⟨h.lv, h.lm, ?_, ?_⟩
 ·intro i x hx
  obtain ⟨b, off, cs, h1, h2, _, h4⟩ := h.sv i x hx
  exact ⟨b, off, cs, h1, h2, .inl h2, h4⟩
 ·intro i x hx
  obtain ⟨b, off, cs, h1, h2, _, h4⟩ := h.sm i x hx
  exact ⟨b, off, cs, h1, h2, .inl h2, h4⟩
theorem Sl.two {α : Type} {R : World → List Value → α → Prop} {B : Nat} {e : TypeId} {o w : World} {u v : Value} {x y : α} (ho : o = w.alloc (.cells #[u, v] e)) (h1 : R o [u] x) (h2 : R o [v] y) : Sl B e R 1 o (some ⟨w.heap.size, 0, none⟩) [x, y] := by
 have hb := Blk.new w e #[u, v]
 rw [← ho] at hb
 intro i z hz
 match i, hz with
 | 0, hz =>
  simp at hz
  subst hz
  refine ⟨w.heap.size, 0, [u], rfl, hb.lt, .inr hb.ty, rfl, ?_, h1⟩
  intro j a ha
  match j, ha with
  | 0, ha => simp at ha; subst ha; exact hb.cell rfl
 | 1, hz =>
  simp at hz
  subst hz
  refine ⟨w.heap.size, 0, [v], rfl, hb.lt, .inr hb.ty, rfl, ?_, h2⟩
  intro j a ha
  match j, ha with
  | 0, ha => simp at ha; subst ha; exact hb.cell rfl
theorem res_join {w : World} {v : Value} {b : Nat} {x y : Value} {tmps : Array Value} (h4 : tmps.getD 4 undef = .pointer (some ⟨b, 0, none⟩)) (h5 : tmps.getD 5 undef = v) (c1 : w.cell? ⟨b, 0, none⟩ = some x) (c2 : w.cell? ⟨b, 1, none⟩ = some y) :
  (results Tryz.f226 tmps).run Tryz.prog w = .ok (.tuple #[.agg #[x, y], v]) w := by
 have h4' : tmps[4]?.getD undef = .pointer (some ⟨b, 0, none⟩) := by simpa using h4
 have h5' : tmps[5]?.getD undef = v := by simpa using h5
 simp [results, Tryz.results226, go_sem, h4', h5', c1, c2]
set_option maxRecDepth 100000 in
set_option maxHeartbeats 4000000 in
theorem know_Join (B : Nat) (va vb : Value) (k l : Know) (w : World) (ha : IsK B w va k) (hb : IsK B w vb l) :
  Calls Tryz.prog 226 #[va, vb] w fun e w' => ∃ x, e = .returned (.tuple #[x, .int .i64 (joinErr k l)]) ∧ IsK 0 w' x (joinK k l) ∧ Ext w w' := by
 obtain ⟨Av, cv, Am, cm, rfl, ha1, ha2, ha3, ha4, h⟩ := ha
 obtain ⟨Bv, dv, Bm, dm, rfl, hb1, hb2, hb3, hb4, g⟩ := hb
 replace h := h.top
 replace g := g.top
 have hx := (((Ext.refl w).alloc (.cells #[.slice Av k.vec.length cv, .slice Am k.more.length cm] 101)).alloc (.cells #[.slice Bv l.vec.length dv, .slice Bm l.more.length dm] 101)).alloc (.cells #[.slice none 0 0, .slice none 0 0] 101)
 have HE := hid (show joinErr k l = if twoErr k l = 0 then toldErr (joinS k l) else twoErr k l from rfl)
 have HA := hid (show joinK k l = if twoErr k l = 0 then toldKn (joinS k l) else ⟨[], []⟩ from rfl)
 have HKO := hid (two_ok (k := k) (l := l))
 go_enter Tryz.func226, Tryz.ntmps226
 go_wp2_with fail
 refine (know_two w.heap.size k l Av cv Am cm Bv dv Bm dm _ (h.ext hx) (g.ext hx)).mono ?_
 rintro e w1 ⟨rfl, hx1⟩
 have q0 : w1.cell? ⟨w.heap.size, 0, none⟩ = some (.slice Av k.vec.length cv) := hx1.cell (by go_simp)
 have q1 : w1.cell? ⟨w.heap.size, 1, none⟩ = some (.slice Am k.more.length cm) := hx1.cell (by go_simp)
 have d0 : w1.cell? ⟨w.heap.size + 1, 0, none⟩ = some (.slice Bv l.vec.length dv) := hx1.cell (by go_simp)
 have d1 : w1.cell? ⟨w.heap.size + 1, 1, none⟩ = some (.slice Bm l.more.length dm) := hx1.cell (by go_simp)
 have r0 : w1.cell? ⟨w.heap.size + 2, 0, none⟩ = some (.slice none 0 0) := hx1.cell (by go_simp)
 have r1 : w1.cell? ⟨w.heap.size + 2, 1, none⟩ = some (.slice none 0 0) := hx1.cell (by go_simp)
 have f0 : w1.frozen? ⟨w.heap.size + 2, 0, none⟩ = false := (hx1.frozenAt (by simp)).trans (by go_simp)
 have f1 : w1.frozen? ⟨w.heap.size + 2, 1, none⟩ = false := (hx1.frozenAt (by simp)).trans (by go_simp)
 have t0 : tyAt w1 (w.heap.size + 2) = some 101 := by
  rw [tyAt_of (hx1.blockAt (by simp))]
  have := heap_alloc_new ((w.alloc (.cells #[.slice Av k.vec.length cv, .slice Am k.more.length cm] 101)).alloc (.cells #[.slice Bv l.vec.length dv, .slice Bm l.more.length dm] 101)) (.cells #[.slice none 0 0, .slice none 0 0] 101)
  rw [World.size_alloc, World.size_alloc] at this
  unfold tyAt
  rw [this]
 have hz : w.heap.size + 2 < w1.heap.size := World.block_lt_of_cell? _ _ r0
 have HX2 := hid (hx.trans hx1)
 clear hx hx1
 generalize hkc : twoErr k l = c at HE HA HKO ⊢
 clear hkc
 by_cases h0 : c = 0
 ·subst h0
  have HK := hid (HKO.out rfl).1
  have HL := hid (HKO.out rfl).2
  have HE' := hid (show joinErr k l = toldErr (joinS k l) by rw [HE.out]; rfl)
  have HA' := hid (show joinK k l = toldKn (joinS k l) by rw [HA.out]; rfl)
  go_wp2_with fail
  have HAll := hid (fun w' (x : Ext w1 w') => show w'.cell? ⟨w.heap.size, 0, none⟩ = some (.slice Av k.vec.length cv) ∧ w'.cell? ⟨w.heap.size, 1, none⟩ = some (.slice Am k.more.length cm) ∧ w'.cell? ⟨w.heap.size + 1, 0, none⟩ = some (.slice Bv l.vec.length dv) ∧ w'.cell? ⟨w.heap.size + 1, 1, none⟩ = some (.slice Bm l.more.length dm) from ⟨x.cell q0, x.cell q1, x.cell d0, x.cell d1⟩)
  have HR := hid (fun w' (x : Ext w1 w') => show w'.cell? ⟨w.heap.size + 2, 0, none⟩ = some (.slice none 0 0) ∧ w'.cell? ⟨w.heap.size + 2, 1, none⟩ = some (.slice none 0 0) ∧ w'.frozen? ⟨w.heap.size + 2, 0, none⟩ = false ∧ w'.frozen? ⟨w.heap.size + 2, 1, none⟩ = false ∧ tyAt w' (w.heap.size + 2) = some 101 from ⟨x.cell r0, x.cell r1, (x.frozenAt (by omega)).trans f0, (x.frozenAt (by omega)).trans f1, (tyAt_of (x.blockAt (by omega))).trans t0⟩)
  have HKn := hid (fun w' (x : Ext w1 w') => (h.ext (HX2.out.trans x) : InK w.heap.size w' Av Am k))
  have HLn := hid (fun w' (x : Ext w1 w') => (g.ext (HX2.out.trans x) : InK w.heap.size w' Bv Bm l))
  clear q0 q1 d0 d1 r0 r1 f0 f1 t0
  have hyn := (Ext.refl w1).drew
  refine wp_region_held_drew (S := fun w' => Ext w w' ∧ w'.cell? ⟨w.heap.size, 0, none⟩ = some (.slice Av k.vec.length cv) ∧ w'.cell? ⟨w.heap.size, 1, none⟩ = some (.slice Am k.more.length cm) ∧ w'.cell? ⟨w.heap.size + 1, 0, none⟩ = some (.slice Bv l.vec.length dv) ∧ w'.cell? ⟨w.heap.size + 1, 1, none⟩ = some (.slice Bm l.more.length dm)) (by kernel_rfl) ⟨HX2.out.trans hyn, HAll.out _ hyn⟩ (fun hHeld => ?_)
  obtain ⟨wc, hwc⟩ : ∃ wc, wc = w1.drew := ⟨_, rfl⟩
  rw [← hwc] at hHeld hyn ⊢
  clear hwc
  refine tk 0 ?_ rfl (by kernel_rfl) (fun _ _ _ h => h) (by rfl) ?_ (by assumption) ?_
  rotate_left
  ·intro w' hSw; (try dsimp only at hSw); go_simp <;> with_reducible rfl
  simp only [gq]; try simp only [pq]
  refine tk 1 ?_ rfl (by kernel_rfl) (fun _ _ _ h => h) (by rfl) ?_ (by assumption) ?_
  rotate_left
  ·intro w' hSw; (try dsimp only at hSw); go_simp <;> with_reducible rfl
  simp only [gq]; try simp only [pq]
  refine tk 2 ?_ rfl (by kernel_rfl) (fun _ _ _ h => h) (by rfl) ?_ (by assumption) ?_
  rotate_left
  ·intro w' hSw; (try dsimp only at hSw); go_simp <;> with_reducible rfl
  simp only [gq]; try simp only [pq]
  refine tk 3 ?_ rfl (by kernel_rfl) (fun _ _ _ h => h) (by rfl) ?_ (by assumption) ?_
  rotate_left
  ·intro w' hSw; (try dsimp only at hSw); go_simp <;> with_reducible rfl
  simp only [gq]; try simp only [pq]
  refine tk 5 ?_ rfl (by kernel_rfl) (fun _ _ _ h => h) (by rfl) ?_ (by assumption) ?_
  rotate_left
  ·intro w' hSw; (try dsimp only at hSw); go_simp <;> with_reducible rfl
  simp only [gq]; try simp only [pq]
  refine tk 6 ?_ rfl (by kernel_rfl) (fun _ _ _ h => h) (by rfl) ?_ (by assumption) ?_
  rotate_left
  ·intro w' hSw; (try dsimp only at hSw); go_simp <;> with_reducible rfl
  simp only [gq]; try simp only [pq]
  refine tk 7 ?_ rfl (by kernel_rfl) (fun _ _ _ h => h) (by rfl) ?_ (by assumption) ?_
  rotate_left
  ·intro w' hSw; (try dsimp only at hSw); go_simp <;> with_reducible rfl
  simp only [gq]; try simp only [pq]
  refine tk 8 ?_ rfl (by kernel_rfl) (fun _ _ _ h => h) (by rfl) ?_ (by assumption) ?_
  rotate_left
  ·intro w' hSw; (try dsimp only at hSw); go_simp <;> with_reducible rfl
  simp only [gq]; try simp only [pq]
  refine wpAnyH_ready (rs := [4, 9]) (by kernel_rfl) (by simp) ?_
  refine AllReadyH.cons rfl (fun K hK => ?_) ?_
  ·simp only [gq]
   go_simp
   have hxa := (Ext.refl wc).alloc (.cells #[.slice Av k.vec.length cv, .slice Bv l.vec.length dv] 32)
   have hyn' := hyn.trans hxa
   obtain ⟨wn, hwn⟩ : ∃ wn, wn = wc.alloc (.cells #[.slice Av k.vec.length cv, .slice Bv l.vec.length dv] 32) := ⟨_, rfl⟩
   have hL4 : SlVecs w.heap.size wn (some ⟨wc.heap.size, 0, none⟩) [k.vec, l.vec] := Sl.two hwn ⟨_, rfl, Av, cv, rfl, ha1, ha2, (HKn.out wn (by rw [hwn]; exact hyn')).sv⟩ ⟨_, rfl, Bv, dv, rfl, hb1, hb2, (HLn.out wn (by rw [hwn]; exact hyn')).sv⟩
   obtain ⟨a4, ha4⟩ : ∃ a, a = some (⟨wc.heap.size, 0, none⟩ : Addr) := ⟨_, rfl⟩
   rw [← hwn] at hxa hyn'
   rw [← hwn, ← ha4]
   rw [← ha4] at hL4
   clear hxa hwn ha4 hyn
   have hyn := hyn'
   clear hyn'
   obtain ⟨wc, rfl⟩ : ∃ wc', wc' = wn := ⟨_, rfl⟩
   refine hK.out _ _ ⟨HX2.out.trans hyn, HAll.out _ hyn⟩ (fun hHeld => ?_)
   clear hK K
   try simp only [pq]
   refine wpAnyH_ready (rs := [9]) (by kernel_rfl) (by simp) ?_
   refine AllReadyH.cons rfl (fun K hK => ?_) AllReadyH.nil
   simp only [gq]
   go_simp
   have hxa := (Ext.refl wc).alloc (.cells #[.slice Am k.more.length cm, .slice Bm l.more.length dm] 99)
   have hyn' := hyn.trans hxa
   obtain ⟨wn, hwn⟩ : ∃ wn, wn = wc.alloc (.cells #[.slice Am k.more.length cm, .slice Bm l.more.length dm] 99) := ⟨_, rfl⟩
   have hL9 : SlDotss w.heap.size wn (some ⟨wc.heap.size, 0, none⟩) [k.more, l.more] := Sl.two hwn ⟨_, rfl, Am, cm, rfl, ha3, ha4, (HKn.out wn (by rw [hwn]; exact hyn')).sm⟩ ⟨_, rfl, Bm, dm, rfl, hb3, hb4, (HLn.out wn (by rw [hwn]; exact hyn')).sm⟩
   obtain ⟨a9, ha9⟩ : ∃ a, a = some (⟨wc.heap.size, 0, none⟩ : Addr) := ⟨_, rfl⟩
   rw [← hwn] at hxa hyn'
   rw [← hwn, ← ha9]
   rw [← ha9] at hL9
   replace hL4 := hL4.ext RVec.monoE hxa
   clear hxa hwn ha9 hyn
   have hyn := hyn'
   clear hyn'
   obtain ⟨wc, rfl⟩ : ∃ wc', wc' = wn := ⟨_, rfl⟩
   refine hK.out _ _ ⟨HX2.out.trans hyn, HAll.out _ hyn⟩ (fun hHeld => ?_)
   clear hK K
   try simp only [pq]
   refine wpAnyH_ready (rs := [10]) (by kernel_rfl) (by simp) ?_
   refine AllReadyH.cons rfl (fun K hK => ?_) AllReadyH.nil
   simp only [gq]
   go_simp
   refine (concat_dots w.heap.size a9 2 [k.more, l.more] wc (by have := hyn.size; have := HX2.out.size; omega) hL9 (by simp) (by have := HK.out.mlen; have := HL.out.mlen; simp; omega)).mono ?_
   rintro e wn ⟨v10, rfl, hL10, hxa⟩
   dsimp only
   obtain ⟨ds, hds⟩ : ∃ ds, ds = [k.more, l.more].flatten := ⟨_, rfl⟩
   rw [← hds] at hL10
   have HDS := hid hds
   obtain ⟨A10, c10, rfl, _, _⟩ := hL10.len
   replace hL4 := hL4.ext RVec.monoE hxa
   replace hyn := hyn.trans hxa
   clear hxa hds hL9
   obtain ⟨wc, rfl⟩ : ∃ wc', wc' = wn := ⟨_, rfl⟩
   refine hK.out _ _ ⟨HX2.out.trans hyn, HAll.out _ hyn⟩ (fun hHeld => ?_)
   clear hK K
   try simp only [pq]
   refine wpAnyH_ready (rs := [11]) (by kernel_rfl) (by simp) ?_
   refine AllReadyH.cons rfl (fun K hK => ?_) AllReadyH.nil
   simp only [gq]
   go_simp
   refine (know_Made w.heap.size a4 2 [k.vec, l.vec] A10 c10 ds wc (by have := hyn.size; have := HX2.out.size; omega) hL4 (by simp) (by intro x hx; simp at hx; rcases hx with rfl | rfl; exact HK.out.vlen; exact HL.out.vlen) (by intro x hx; simp at hx; rcases hx with rfl | rfl; exact HK.out.vec; exact HL.out.vec) (hL10.sl w.heap.size) (by rw [HDS.out]; have := HK.out.mlen; have := HL.out.mlen; simp; omega) (by rw [HDS.out]; intro x hx; simp at hx; rcases hx with h | h; exact (HK.out.more x h).1; exact (HL.out.more x h).1)).mono ?_
   rintro e wn ⟨v9, rfl, hk9, hxa⟩
   dsimp only
   replace hyn := hyn.trans hxa
   rw [HDS.out] at hk9
   clear hxa hL4 hL10
   obtain ⟨wc, rfl⟩ : ∃ wc', wc' = wn := ⟨_, rfl⟩
   refine hK.out _ _ ⟨HX2.out.trans hyn, HAll.out _ hyn⟩ (fun hHeld => ?_)
   clear hK K
   try simp only [pq]
   refine wpAnyH_ready (rs := [12]) (by kernel_rfl) (by simp) ?_
   refine AllReadyH.cons rfl (fun K hK => ?_) AllReadyH.nil
   simp only [gq]
   go_simp
   refine (know_told _ v9 _ wc hk9).mono ?_
   rintro e wn ⟨x, rfl, hk10, hxa⟩
   dsimp only
   obtain ⟨kk, hkk⟩ : ∃ kk, kk = toldKn (formOf (setOf [k.vec, l.vec] [k.more, l.more].flatten)) := ⟨_, rfl⟩
   rw [← hkk] at hk10
   have HKK := hid hkk
   obtain ⟨ee, hee⟩ : ∃ ee, ee = toldErr (formOf (setOf [k.vec, l.vec] [k.more, l.more].flatten)) := ⟨_, rfl⟩
   rw [← hee]
   have HEE := hid hee
   obtain ⟨Av', cv', Am', cm', rfl, k1, k2, k3, k4, hk10⟩ := hk10
   replace hyn := hyn.trans hxa
   clear hxa hk9 hkk hee
   obtain ⟨wc, rfl⟩ : ∃ wc', wc' = wn := ⟨_, rfl⟩
   refine hK.out _ _ ⟨HX2.out.trans hyn, HAll.out _ hyn⟩ (fun hHeld => ?_)
   clear hK K
   try simp only [pq]
   refine tk 13 ?_ rfl (by kernel_rfl) (fun _ _ _ h => h) (by rfl) ?_ (by assumption) ?_
   rotate_left
   ·intro w' hSw; (try dsimp only at hSw); go_simp <;> with_reducible rfl
   simp only [gq]; try simp only [pq]
   refine tk 14 ?_ rfl (by kernel_rfl) (fun _ _ _ h => h) (by rfl) ?_ (by assumption) ?_
   rotate_left
   ·intro w' hSw; (try dsimp only at hSw); go_simp <;> with_reducible rfl
   simp only [gq]; try simp only [pq]
   refine wpAnyH_ready (rs := [15]) (by kernel_rfl) (by simp) ?_
   refine AllReadyH.cons rfl (fun K hK => ?_) AllReadyH.nil
   simp only [gq]
   obtain ⟨r0, r1, f0, f1, t0⟩ := HR.out wc hyn
   go_simp
   have hyz := ((HX2.out.trans hyn).setCell (p := ⟨w.heap.size + 2, 0, none⟩) (by first | omega | (dsimp only; omega)) (.slice Av' kk.vec.length cv')).setCell (p := ⟨w.heap.size + 2, 1, none⟩) (by first | omega | (dsimp only; omega)) (.slice Am' kk.more.length cm')
   have hyk := hk10.chg (((Chg.refl (ts := [101]) wc).setCell (p := ⟨w.heap.size + 2, 0, none⟩) t0 (by simp) (.slice Av' kk.vec.length cv') (Nat.zero_le _)).setCell (p := ⟨w.heap.size + 2, 1, none⟩) (tyAt_put t0) (by simp) (.slice Am' kk.more.length cm') (Nat.zero_le _)) (by decide) (by decide)
   have z0 : ((wc.setCell ⟨w.heap.size + 2, 0, none⟩ (.slice Av' kk.vec.length cv')).setCell ⟨w.heap.size + 2, 1, none⟩ (.slice Am' kk.more.length cm')).cell? ⟨w.heap.size + 2, 0, none⟩ = some (.slice Av' kk.vec.length cv') := by go_simp
   have z1 : ((wc.setCell ⟨w.heap.size + 2, 0, none⟩ (.slice Av' kk.vec.length cv')).setCell ⟨w.heap.size + 2, 1, none⟩ (.slice Am' kk.more.length cm')).cell? ⟨w.heap.size + 2, 1, none⟩ = some (.slice Am' kk.more.length cm') := by go_simp
   obtain ⟨y0, y1, y2, y3⟩ := HAll.out wc hyn
   refine hK.out _ _ ⟨hyz, cell_ne (by omega) (cell_ne (by omega) y0), cell_ne (by omega) (cell_ne (by omega) y1), cell_ne (by omega) (cell_ne (by omega) y2), cell_ne (by omega) (cell_ne (by omega) y3)⟩ (fun hHeld => ?_)
   clear y0 y1 y2 y3 r0 r1 f0 f1 t0
   obtain ⟨wz, hwz⟩ : ∃ wz, wz = (wc.setCell ⟨w.heap.size + 2, 0, none⟩ (.slice Av' kk.vec.length cv')).setCell ⟨w.heap.size + 2, 1, none⟩ (.slice Am' kk.more.length cm') := ⟨_, rfl⟩
   rw [← hwz] at hyz hyk z0 z1 hHeld ⊢
   clear hwz
   clear hK K
   try simp only [pq]
   refine tk 16 ?_ rfl (by kernel_rfl) (fun _ _ _ h => h) (by rfl) ?_ (by assumption) ?_
   rotate_left
   ·intro w' hSw; (try dsimp only at hSw); go_simp <;> with_reducible rfl
   simp only [gq]; try simp only [pq]
   refine wpAnyH_done (by kernel_rfl) ?_ _
   go_wp2_with fail
   refine bodyPost_ret (v := .tuple #[.agg #[.slice Av' kk.vec.length cv', .slice Am' kk.more.length cm'], .int .i64 ee]) ?_ rfl ⟨.agg #[.slice Av' kk.vec.length cv', .slice Am' kk.more.length cm'], by rw [HEE.out, HE'.out]; rfl, ?_, ?_⟩
   ·exact res_join (b := w.heap.size + 2) rfl rfl z0 z1
   ·rw [HA'.out]
    exact HKK.out ▸ ⟨Av', cv', Am', cm', rfl, k1, k2, k3, k4, hyk⟩
   ·exact hyz
  refine AllReadyH.cons rfl (fun K hK => ?_) AllReadyH.nil
  simp only [gq]
  go_simp
  have hxa := (Ext.refl wc).alloc (.cells #[.slice Am k.more.length cm, .slice Bm l.more.length dm] 99)
  have hyn' := hyn.trans hxa
  obtain ⟨wn, hwn⟩ : ∃ wn, wn = wc.alloc (.cells #[.slice Am k.more.length cm, .slice Bm l.more.length dm] 99) := ⟨_, rfl⟩
  have hL9 : SlDotss w.heap.size wn (some ⟨wc.heap.size, 0, none⟩) [k.more, l.more] := Sl.two hwn ⟨_, rfl, Am, cm, rfl, ha3, ha4, (HKn.out wn (by rw [hwn]; exact hyn')).sm⟩ ⟨_, rfl, Bm, dm, rfl, hb3, hb4, (HLn.out wn (by rw [hwn]; exact hyn')).sm⟩
  obtain ⟨a9, ha9⟩ : ∃ a, a = some (⟨wc.heap.size, 0, none⟩ : Addr) := ⟨_, rfl⟩
  rw [← hwn] at hxa hyn'
  rw [← hwn, ← ha9]
  rw [← ha9] at hL9
  clear hxa hwn ha9 hyn
  have hyn := hyn'
  clear hyn'
  obtain ⟨wc, rfl⟩ : ∃ wc', wc' = wn := ⟨_, rfl⟩
  refine hK.out _ _ ⟨HX2.out.trans hyn, HAll.out _ hyn⟩ (fun hHeld => ?_)
  clear hK K
  try simp only [pq]
  refine wpAnyH_ready (rs := [4, 10]) (by kernel_rfl) (by simp) ?_
  refine AllReadyH.cons rfl (fun K hK => ?_) ?_
  ·simp only [gq]
   go_simp
   have hxa := (Ext.refl wc).alloc (.cells #[.slice Av k.vec.length cv, .slice Bv l.vec.length dv] 32)
   have hyn' := hyn.trans hxa
   obtain ⟨wn, hwn⟩ : ∃ wn, wn = wc.alloc (.cells #[.slice Av k.vec.length cv, .slice Bv l.vec.length dv] 32) := ⟨_, rfl⟩
   have hL4 : SlVecs w.heap.size wn (some ⟨wc.heap.size, 0, none⟩) [k.vec, l.vec] := Sl.two hwn ⟨_, rfl, Av, cv, rfl, ha1, ha2, (HKn.out wn (by rw [hwn]; exact hyn')).sv⟩ ⟨_, rfl, Bv, dv, rfl, hb1, hb2, (HLn.out wn (by rw [hwn]; exact hyn')).sv⟩
   obtain ⟨a4, ha4⟩ : ∃ a, a = some (⟨wc.heap.size, 0, none⟩ : Addr) := ⟨_, rfl⟩
   rw [← hwn] at hxa hyn'
   rw [← hwn, ← ha4]
   rw [← ha4] at hL4
   replace hL9 := hL9.ext RDots.monoE hxa
   clear hxa hwn ha4 hyn
   have hyn := hyn'
   clear hyn'
   obtain ⟨wc, rfl⟩ : ∃ wc', wc' = wn := ⟨_, rfl⟩
   refine hK.out _ _ ⟨HX2.out.trans hyn, HAll.out _ hyn⟩ (fun hHeld => ?_)
   clear hK K
   try simp only [pq]
   refine wpAnyH_ready (rs := [10]) (by kernel_rfl) (by simp) ?_
   refine AllReadyH.cons rfl (fun K hK => ?_) AllReadyH.nil
   simp only [gq]
   go_simp
   refine (concat_dots w.heap.size a9 2 [k.more, l.more] wc (by have := hyn.size; have := HX2.out.size; omega) hL9 (by simp) (by have := HK.out.mlen; have := HL.out.mlen; simp; omega)).mono ?_
   rintro e wn ⟨v10, rfl, hL10, hxa⟩
   dsimp only
   obtain ⟨ds, hds⟩ : ∃ ds, ds = [k.more, l.more].flatten := ⟨_, rfl⟩
   rw [← hds] at hL10
   have HDS := hid hds
   obtain ⟨A10, c10, rfl, _, _⟩ := hL10.len
   replace hL4 := hL4.ext RVec.monoE hxa
   replace hyn := hyn.trans hxa
   clear hxa hds hL9
   obtain ⟨wc, rfl⟩ : ∃ wc', wc' = wn := ⟨_, rfl⟩
   refine hK.out _ _ ⟨HX2.out.trans hyn, HAll.out _ hyn⟩ (fun hHeld => ?_)
   clear hK K
   try simp only [pq]
   refine wpAnyH_ready (rs := [11]) (by kernel_rfl) (by simp) ?_
   refine AllReadyH.cons rfl (fun K hK => ?_) AllReadyH.nil
   simp only [gq]
   go_simp
   refine (know_Made w.heap.size a4 2 [k.vec, l.vec] A10 c10 ds wc (by have := hyn.size; have := HX2.out.size; omega) hL4 (by simp) (by intro x hx; simp at hx; rcases hx with rfl | rfl; exact HK.out.vlen; exact HL.out.vlen) (by intro x hx; simp at hx; rcases hx with rfl | rfl; exact HK.out.vec; exact HL.out.vec) (hL10.sl w.heap.size) (by rw [HDS.out]; have := HK.out.mlen; have := HL.out.mlen; simp; omega) (by rw [HDS.out]; intro x hx; simp at hx; rcases hx with h | h; exact (HK.out.more x h).1; exact (HL.out.more x h).1)).mono ?_
   rintro e wn ⟨v9, rfl, hk9, hxa⟩
   dsimp only
   replace hyn := hyn.trans hxa
   rw [HDS.out] at hk9
   clear hxa hL4 hL10
   obtain ⟨wc, rfl⟩ : ∃ wc', wc' = wn := ⟨_, rfl⟩
   refine hK.out _ _ ⟨HX2.out.trans hyn, HAll.out _ hyn⟩ (fun hHeld => ?_)
   clear hK K
   try simp only [pq]
   refine wpAnyH_ready (rs := [12]) (by kernel_rfl) (by simp) ?_
   refine AllReadyH.cons rfl (fun K hK => ?_) AllReadyH.nil
   simp only [gq]
   go_simp
   refine (know_told _ v9 _ wc hk9).mono ?_
   rintro e wn ⟨x, rfl, hk10, hxa⟩
   dsimp only
   obtain ⟨kk, hkk⟩ : ∃ kk, kk = toldKn (formOf (setOf [k.vec, l.vec] [k.more, l.more].flatten)) := ⟨_, rfl⟩
   rw [← hkk] at hk10
   have HKK := hid hkk
   obtain ⟨ee, hee⟩ : ∃ ee, ee = toldErr (formOf (setOf [k.vec, l.vec] [k.more, l.more].flatten)) := ⟨_, rfl⟩
   rw [← hee]
   have HEE := hid hee
   obtain ⟨Av', cv', Am', cm', rfl, k1, k2, k3, k4, hk10⟩ := hk10
   replace hyn := hyn.trans hxa
   clear hxa hk9 hkk hee
   obtain ⟨wc, rfl⟩ : ∃ wc', wc' = wn := ⟨_, rfl⟩
   refine hK.out _ _ ⟨HX2.out.trans hyn, HAll.out _ hyn⟩ (fun hHeld => ?_)
   clear hK K
   try simp only [pq]
   refine tk 13 ?_ rfl (by kernel_rfl) (fun _ _ _ h => h) (by rfl) ?_ (by assumption) ?_
   rotate_left
   ·intro w' hSw; (try dsimp only at hSw); go_simp <;> with_reducible rfl
   simp only [gq]; try simp only [pq]
   refine tk 14 ?_ rfl (by kernel_rfl) (fun _ _ _ h => h) (by rfl) ?_ (by assumption) ?_
   rotate_left
   ·intro w' hSw; (try dsimp only at hSw); go_simp <;> with_reducible rfl
   simp only [gq]; try simp only [pq]
   refine wpAnyH_ready (rs := [15]) (by kernel_rfl) (by simp) ?_
   refine AllReadyH.cons rfl (fun K hK => ?_) AllReadyH.nil
   simp only [gq]
   obtain ⟨r0, r1, f0, f1, t0⟩ := HR.out wc hyn
   go_simp
   have hyz := ((HX2.out.trans hyn).setCell (p := ⟨w.heap.size + 2, 0, none⟩) (by first | omega | (dsimp only; omega)) (.slice Av' kk.vec.length cv')).setCell (p := ⟨w.heap.size + 2, 1, none⟩) (by first | omega | (dsimp only; omega)) (.slice Am' kk.more.length cm')
   have hyk := hk10.chg (((Chg.refl (ts := [101]) wc).setCell (p := ⟨w.heap.size + 2, 0, none⟩) t0 (by simp) (.slice Av' kk.vec.length cv') (Nat.zero_le _)).setCell (p := ⟨w.heap.size + 2, 1, none⟩) (tyAt_put t0) (by simp) (.slice Am' kk.more.length cm') (Nat.zero_le _)) (by decide) (by decide)
   have z0 : ((wc.setCell ⟨w.heap.size + 2, 0, none⟩ (.slice Av' kk.vec.length cv')).setCell ⟨w.heap.size + 2, 1, none⟩ (.slice Am' kk.more.length cm')).cell? ⟨w.heap.size + 2, 0, none⟩ = some (.slice Av' kk.vec.length cv') := by go_simp
   have z1 : ((wc.setCell ⟨w.heap.size + 2, 0, none⟩ (.slice Av' kk.vec.length cv')).setCell ⟨w.heap.size + 2, 1, none⟩ (.slice Am' kk.more.length cm')).cell? ⟨w.heap.size + 2, 1, none⟩ = some (.slice Am' kk.more.length cm') := by go_simp
   obtain ⟨y0, y1, y2, y3⟩ := HAll.out wc hyn
   refine hK.out _ _ ⟨hyz, cell_ne (by omega) (cell_ne (by omega) y0), cell_ne (by omega) (cell_ne (by omega) y1), cell_ne (by omega) (cell_ne (by omega) y2), cell_ne (by omega) (cell_ne (by omega) y3)⟩ (fun hHeld => ?_)
   clear y0 y1 y2 y3 r0 r1 f0 f1 t0
   obtain ⟨wz, hwz⟩ : ∃ wz, wz = (wc.setCell ⟨w.heap.size + 2, 0, none⟩ (.slice Av' kk.vec.length cv')).setCell ⟨w.heap.size + 2, 1, none⟩ (.slice Am' kk.more.length cm') := ⟨_, rfl⟩
   rw [← hwz] at hyz hyk z0 z1 hHeld ⊢
   clear hwz
   clear hK K
   try simp only [pq]
   refine tk 16 ?_ rfl (by kernel_rfl) (fun _ _ _ h => h) (by rfl) ?_ (by assumption) ?_
   rotate_left
   ·intro w' hSw; (try dsimp only at hSw); go_simp <;> with_reducible rfl
   simp only [gq]; try simp only [pq]
   refine wpAnyH_done (by kernel_rfl) ?_ _
   go_wp2_with fail
   refine bodyPost_ret (v := .tuple #[.agg #[.slice Av' kk.vec.length cv', .slice Am' kk.more.length cm'], .int .i64 ee]) ?_ rfl ⟨.agg #[.slice Av' kk.vec.length cv', .slice Am' kk.more.length cm'], by rw [HEE.out, HE'.out]; rfl, ?_, ?_⟩
   ·exact res_join (b := w.heap.size + 2) rfl rfl z0 z1
   ·rw [HA'.out]
    exact HKK.out ▸ ⟨Av', cv', Am', cm', rfl, k1, k2, k3, k4, hyk⟩
   ·exact hyz
  refine AllReadyH.cons rfl (fun K hK => ?_) AllReadyH.nil
  simp only [gq]
  go_simp
  refine (concat_dots w.heap.size a9 2 [k.more, l.more] wc (by have := hyn.size; have := HX2.out.size; omega) hL9 (by simp) (by have := HK.out.mlen; have := HL.out.mlen; simp; omega)).mono ?_
  rintro e wn ⟨v10, rfl, hL10, hxa⟩
  dsimp only
  obtain ⟨ds, hds⟩ : ∃ ds, ds = [k.more, l.more].flatten := ⟨_, rfl⟩
  rw [← hds] at hL10
  have HDS := hid hds
  obtain ⟨A10, c10, rfl, _, _⟩ := hL10.len
  replace hyn := hyn.trans hxa
  clear hxa hds hL9
  obtain ⟨wc, rfl⟩ : ∃ wc', wc' = wn := ⟨_, rfl⟩
  refine hK.out _ _ ⟨HX2.out.trans hyn, HAll.out _ hyn⟩ (fun hHeld => ?_)
  clear hK K
  try simp only [pq]
  refine wpAnyH_ready (rs := [4]) (by kernel_rfl) (by simp) ?_
  refine AllReadyH.cons rfl (fun K hK => ?_) AllReadyH.nil
  simp only [gq]
  go_simp
  have hxa := (Ext.refl wc).alloc (.cells #[.slice Av k.vec.length cv, .slice Bv l.vec.length dv] 32)
  have hyn' := hyn.trans hxa
  obtain ⟨wn, hwn⟩ : ∃ wn, wn = wc.alloc (.cells #[.slice Av k.vec.length cv, .slice Bv l.vec.length dv] 32) := ⟨_, rfl⟩
  have hL4 : SlVecs w.heap.size wn (some ⟨wc.heap.size, 0, none⟩) [k.vec, l.vec] := Sl.two hwn ⟨_, rfl, Av, cv, rfl, ha1, ha2, (HKn.out wn (by rw [hwn]; exact hyn')).sv⟩ ⟨_, rfl, Bv, dv, rfl, hb1, hb2, (HLn.out wn (by rw [hwn]; exact hyn')).sv⟩
  obtain ⟨a4, ha4⟩ : ∃ a, a = some (⟨wc.heap.size, 0, none⟩ : Addr) := ⟨_, rfl⟩
  rw [← hwn] at hxa hyn'
  rw [← hwn, ← ha4]
  rw [← ha4] at hL4
  replace hL10 := hL10.ext (B := 0) RPair.mono hxa
  clear hxa hwn ha4 hyn
  have hyn := hyn'
  clear hyn'
  obtain ⟨wc, rfl⟩ : ∃ wc', wc' = wn := ⟨_, rfl⟩
  refine hK.out _ _ ⟨HX2.out.trans hyn, HAll.out _ hyn⟩ (fun hHeld => ?_)
  clear hK K
  try simp only [pq]
  refine wpAnyH_ready (rs := [11]) (by kernel_rfl) (by simp) ?_
  refine AllReadyH.cons rfl (fun K hK => ?_) AllReadyH.nil
  simp only [gq]
  go_simp
  refine (know_Made w.heap.size a4 2 [k.vec, l.vec] A10 c10 ds wc (by have := hyn.size; have := HX2.out.size; omega) hL4 (by simp) (by intro x hx; simp at hx; rcases hx with rfl | rfl; exact HK.out.vlen; exact HL.out.vlen) (by intro x hx; simp at hx; rcases hx with rfl | rfl; exact HK.out.vec; exact HL.out.vec) (hL10.sl w.heap.size) (by rw [HDS.out]; have := HK.out.mlen; have := HL.out.mlen; simp; omega) (by rw [HDS.out]; intro x hx; simp at hx; rcases hx with h | h; exact (HK.out.more x h).1; exact (HL.out.more x h).1)).mono ?_
  rintro e wn ⟨v9, rfl, hk9, hxa⟩
  dsimp only
  replace hyn := hyn.trans hxa
  rw [HDS.out] at hk9
  clear hxa hL4 hL10
  obtain ⟨wc, rfl⟩ : ∃ wc', wc' = wn := ⟨_, rfl⟩
  refine hK.out _ _ ⟨HX2.out.trans hyn, HAll.out _ hyn⟩ (fun hHeld => ?_)
  clear hK K
  try simp only [pq]
  refine wpAnyH_ready (rs := [12]) (by kernel_rfl) (by simp) ?_
  refine AllReadyH.cons rfl (fun K hK => ?_) AllReadyH.nil
  simp only [gq]
  go_simp
  refine (know_told _ v9 _ wc hk9).mono ?_
  rintro e wn ⟨x, rfl, hk10, hxa⟩
  dsimp only
  obtain ⟨kk, hkk⟩ : ∃ kk, kk = toldKn (formOf (setOf [k.vec, l.vec] [k.more, l.more].flatten)) := ⟨_, rfl⟩
  rw [← hkk] at hk10
  have HKK := hid hkk
  obtain ⟨ee, hee⟩ : ∃ ee, ee = toldErr (formOf (setOf [k.vec, l.vec] [k.more, l.more].flatten)) := ⟨_, rfl⟩
  rw [← hee]
  have HEE := hid hee
  obtain ⟨Av', cv', Am', cm', rfl, k1, k2, k3, k4, hk10⟩ := hk10
  replace hyn := hyn.trans hxa
  clear hxa hk9 hkk hee
  obtain ⟨wc, rfl⟩ : ∃ wc', wc' = wn := ⟨_, rfl⟩
  refine hK.out _ _ ⟨HX2.out.trans hyn, HAll.out _ hyn⟩ (fun hHeld => ?_)
  clear hK K
  try simp only [pq]
  refine tk 13 ?_ rfl (by kernel_rfl) (fun _ _ _ h => h) (by rfl) ?_ (by assumption) ?_
  rotate_left
  ·intro w' hSw; (try dsimp only at hSw); go_simp <;> with_reducible rfl
  simp only [gq]; try simp only [pq]
  refine tk 14 ?_ rfl (by kernel_rfl) (fun _ _ _ h => h) (by rfl) ?_ (by assumption) ?_
  rotate_left
  ·intro w' hSw; (try dsimp only at hSw); go_simp <;> with_reducible rfl
  simp only [gq]; try simp only [pq]
  refine wpAnyH_ready (rs := [15]) (by kernel_rfl) (by simp) ?_
  refine AllReadyH.cons rfl (fun K hK => ?_) AllReadyH.nil
  simp only [gq]
  obtain ⟨r0, r1, f0, f1, t0⟩ := HR.out wc hyn
  go_simp
  have hyz := ((HX2.out.trans hyn).setCell (p := ⟨w.heap.size + 2, 0, none⟩) (by first | omega | (dsimp only; omega)) (.slice Av' kk.vec.length cv')).setCell (p := ⟨w.heap.size + 2, 1, none⟩) (by first | omega | (dsimp only; omega)) (.slice Am' kk.more.length cm')
  have hyk := hk10.chg (((Chg.refl (ts := [101]) wc).setCell (p := ⟨w.heap.size + 2, 0, none⟩) t0 (by simp) (.slice Av' kk.vec.length cv') (Nat.zero_le _)).setCell (p := ⟨w.heap.size + 2, 1, none⟩) (tyAt_put t0) (by simp) (.slice Am' kk.more.length cm') (Nat.zero_le _)) (by decide) (by decide)
  have z0 : ((wc.setCell ⟨w.heap.size + 2, 0, none⟩ (.slice Av' kk.vec.length cv')).setCell ⟨w.heap.size + 2, 1, none⟩ (.slice Am' kk.more.length cm')).cell? ⟨w.heap.size + 2, 0, none⟩ = some (.slice Av' kk.vec.length cv') := by go_simp
  have z1 : ((wc.setCell ⟨w.heap.size + 2, 0, none⟩ (.slice Av' kk.vec.length cv')).setCell ⟨w.heap.size + 2, 1, none⟩ (.slice Am' kk.more.length cm')).cell? ⟨w.heap.size + 2, 1, none⟩ = some (.slice Am' kk.more.length cm') := by go_simp
  obtain ⟨y0, y1, y2, y3⟩ := HAll.out wc hyn
  refine hK.out _ _ ⟨hyz, cell_ne (by omega) (cell_ne (by omega) y0), cell_ne (by omega) (cell_ne (by omega) y1), cell_ne (by omega) (cell_ne (by omega) y2), cell_ne (by omega) (cell_ne (by omega) y3)⟩ (fun hHeld => ?_)
  clear y0 y1 y2 y3 r0 r1 f0 f1 t0
  obtain ⟨wz, hwz⟩ : ∃ wz, wz = (wc.setCell ⟨w.heap.size + 2, 0, none⟩ (.slice Av' kk.vec.length cv')).setCell ⟨w.heap.size + 2, 1, none⟩ (.slice Am' kk.more.length cm') := ⟨_, rfl⟩
  rw [← hwz] at hyz hyk z0 z1 hHeld ⊢
  clear hwz
  clear hK K
  try simp only [pq]
  refine tk 16 ?_ rfl (by kernel_rfl) (fun _ _ _ h => h) (by rfl) ?_ (by assumption) ?_
  rotate_left
  ·intro w' hSw; (try dsimp only at hSw); go_simp <;> with_reducible rfl
  simp only [gq]; try simp only [pq]
  refine wpAnyH_done (by kernel_rfl) ?_ _
  go_wp2_with fail
  refine bodyPost_ret (v := .tuple #[.agg #[.slice Av' kk.vec.length cv', .slice Am' kk.more.length cm'], .int .i64 ee]) ?_ rfl ⟨.agg #[.slice Av' kk.vec.length cv', .slice Am' kk.more.length cm'], by rw [HEE.out, HE'.out]; rfl, ?_, ?_⟩
  ·exact res_join (b := w.heap.size + 2) rfl rfl z0 z1
  ·rw [HA'.out]
   exact HKK.out ▸ ⟨Av', cv', Am', cm', rfl, k1, k2, k3, k4, hyk⟩
  ·exact hyz
 ·have HE' := hid (show joinErr k l = c by rw [HE.out, if_neg h0])
  have HA' := hid (show joinK k l = ⟨[], []⟩ by rw [HA.out, if_neg h0])
  have hc : (c != 0) = true := by simpa using h0
  clear h0
  go_wp2_with fail
  refine bodyPost_ret (v := .tuple #[.agg #[.slice none 0 0, .slice none 0 0], .int .i64 c]) ?_ rfl ⟨.agg #[.slice none 0 0, .slice none 0 0], by rw [HE'.out], ?_, ?_⟩
  ·refine res_join (b := w.heap.size + 2) rfl rfl ?_ ?_ <;> go_simp
  ·rw [HA'.out]
   exact IsK.empty
  ·exact (HX2.out.setCell (by first | omega | (dsimp only; omega)) _).setCell (by first | omega | (dsimp only; omega)) _
end Go.Proofs.YtngbfdogiciahaaGreat
