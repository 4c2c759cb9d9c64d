/- The walk of formula.Filter. -/
import Derived.Test.YtbkmgbckeaimdaaDoorFormW
import Derived.Test.YtbkmgbckeaimdaaDoorFfP
import Derived.Test.YtbkmgbckeaimdaaDoorCopW
import Derived.Test.YtbkmgbckeaimdaaDoorBase
import Derived.Test.YtbkmgbckeaimdaaDoorSayP
import Derived.Test.YtbkmgbckeaimdaaDoorWalks
import Derived.Deep.RegionHeld3
namespace Go.Proofs.YtbkmgbckeaimdaaDoor
open Go Go.RowKit

theorem ei_rows : ElemInfo Tryd.prog 66 22 1 24 := ElemInfo.mk_ (z := .slice none 0 0) Tryd.underlying66 (by kernel_rfl) rfl (by decide)
theorem z_rows : (Tryd.prog.info? 22).bind (·.zero) = some (.slice none 0 0) := by kernel_rfl

/-- all filters made so far. -/
structure FRows (B : Nat) (l : List Node) (wr : World) (ba k : Nat) (V : Nat → Value) : Prop where
  blk : Blk wr ba 22 (rowF l.length V)
  nils : ∀ i, k ≤ i → V i = .slice none 0 0
  says : ∀ i, i < k → ∃ f, IsBoxes B wr (V i) f ∧ FSay l i f
theorem FRows.ext {B : Nat} {l : List Node} {w w' : World} {ba k : Nat} {V : Nat → Value} (h : FRows B l w ba k V) (x : Ext w w') : FRows B l w' ba k V :=
  ⟨h.blk.ext x, h.nils, fun i hi => (h.says i hi).imp fun _ hf => ⟨hf.1.ext RBox.monoE x, hf.2⟩⟩
/-- the k-th has been stored, and new blocks made and turned. -/
theorem FRows.put {B : Nat} {l : List Node} {w w' : World} {ba k : Nat} {V : Nat → Value} (h : FRows B l w ba k V) {v : Value} {f : List Box} (hb : Blk w' ba 22 (rowF l.length fun i => if i = k then v else V i)) (hc : Chg B [22] w w') (hv : IsBoxes B w' v f) (hf : FSay l k f) :
    FRows B l w' ba (k + 1) (fun i => if i = k then v else V i) := by
  refine ⟨hb, fun i hi => ?_, fun i hi => ?_⟩
  · show (if i = k then v else V i) = _
    rw [if_neg (by omega), h.nils i (by omega)]
  · show ∃ f, IsBoxes B _ (if i = k then v else V i) f ∧ _
    by_cases hik : i = k
    · subst hik
      exact ⟨f, by rw [if_pos rfl]; exact hv, hf⟩
    · rw [if_neg hik]
      obtain ⟨g, hg, hs⟩ := h.says i (by omega)
      exact ⟨g, hg.chg (RBox.mono (by decide)) (by decide) hc, hs⟩
theorem FRows.chgSet {B : Nat} {l : List Node} {w : World} {ba k : Nat} {V : Nat → Value} (h : FRows B l w ba k V) (hB : B ≤ ba) (v : Value) : Chg B [22] w (w.setCell ⟨ba, k, none⟩ v) :=
  (Chg.refl w).setCell (p := ⟨ba, k, none⟩) h.blk.ty (by simp) _ hB
theorem FRows.set {B : Nat} {l : List Node} {w : World} {ba k : Nat} {V : Nat → Value} (h : FRows B l w ba k V) (hB : B ≤ ba) {v : Value} {f : List Box} (hv : IsBoxes B w v f) (hf : FSay l k f) :
    FRows B l (w.setCell ⟨ba, k, none⟩ v) ba (k + 1) (fun i => if i = k then v else V i) :=
  h.put (by rw [← rowF_set]; exact h.blk.set k v) (h.chgSet hB v) (hv.chg (RBox.mono (by decide)) (by decide) (h.chgSet hB v)) hf

theorem filter_EveryO (B : Nat) (w : World) (_hB : B ≤ w.heap.size) :
    Calls Tryd.prog 18 #[] w fun e w' => ∃ g A', e = .returned (.slice (some ⟨g, 0, none⟩) 1 1) ∧ w.heap.size < g ∧ Blk w' g 51 #[.int .i64 0, .int .i64 0, .slice A' 1 1] ∧ SlSpans B w' A' [⟨0, 32⟩] ∧ Ext w w' := by
  go_enter Tryd.func18, Tryd.ntmps18
  go_wp2_with fail
  go_ret
  have h1 : SlSpans B (w.alloc (.cells #[.int .i64 0, .int .i64 32] 56)) (some ⟨w.heap.size, 0, none⟩) [⟨0, 32⟩] := Sl.one rfl rfl rfl
  refine ⟨w.heap.size + 1, some ⟨w.heap.size, 0, none⟩, rfl, by omega, ?_, h1.ext RPair.mono ((Ext.refl _).alloc _), ((Ext.refl w).alloc (.cells #[.int .i64 0, .int .i64 32] 56)).alloc (.cells #[.int .i64 0, .int .i64 0, .slice (some ⟨w.heap.size, 0, none⟩) 1 1] 51)⟩
  have := Blk.new (w.alloc (.cells #[.int .i64 0, .int .i64 32] 56)) 51 #[.int .i64 0, .int .i64 0, .slice (some ⟨w.heap.size, 0, none⟩) 1 1]
  rwa [show (w.alloc (.cells #[.int .i64 0, .int .i64 32] 56)).heap.size = w.heap.size + 1 by simp] at this

/-- a row of one box. -/
theorem isBoxes_one {B : Nat} {w : World} {g : Nat} {y n : Int} {A' : Option Addr} {ss : List Span} (h : Blk w g 51 #[.int .i64 y, .int .i64 n, .slice A' ss.length ss.length]) (hs : SlSpans B w A' ss) (hl : ss.length ≤ maxLen) :
    IsBoxes B w (.slice (some ⟨g, 0, none⟩) 1 1) [⟨⟨y, n⟩, ss⟩] := by
  refine ⟨some ⟨g, 0, none⟩, 1, rfl, Nat.le_refl _, by decide, ?_⟩
  intro i x hi
  match i, hi with
  | 0, hi =>
    simp at hi; subst hi
    refine ⟨g, 0, _, rfl, h.lt, .inr h.ty, rfl, ?_, _, rfl, A', ss.length, rfl, Nat.le_refl _, hl, hs⟩
    intro j u hj
    simp only [Nat.zero_mul, Nat.zero_add]
    exact h.cell (by simpa using hj)

set_option maxRecDepth 100000 in
set_option maxHeartbeats 4000000 in
theorem formula_Filter (B : Nat) (A : Option Addr) (c : Nat) (l : List Node) (w : World) (hB : B ≤ w.heap.size) (hl : l.length ≤ maxLen) (h : SlNodes B w A l) (h0 : formCheck l = 0) :
    Calls Tryd.prog 10 #[.slice A l.length c] w fun e w' => ∃ v f, e = .returned (.tuple #[v, .int .i64 0]) ∧ IsBoxes B w' v f ∧ FSay l (l.length - 1) f ∧ Ext w w' := by
  have hf := formCheck_iff.1 h0
  have hlo := hf.lo
  have hhi := hf.hi
  have HF := hid hf.node
  clear hf
  go_enter Tryd.func10, Tryd.ntmps10
  go_wp2_with fail
  refine (formula_Check B A c l _ hl h).mono ?_
  rintro e w1 ⟨rfl, hx⟩
  rw [h0]
  clear h0
  go_wp2_with ((with_reducible refine at_op (some 15) (.makeSlice _ _ _) ?_); refine wpList_makeArr ei_rows z_rows rfl _ _ rfl rfl l.length rfl rfl (by omega) (by unfold maxLen; omega) ?_; intro ba w3 hba hx3 hb3 hs3)
  have hbl : w.heap.size ≤ ba := by rw [← hba]; exact hx.size
  replace hx := hx.trans hx3
  clear hba hx3 hs3
  have hr0 : FRows B l w3 ba 0 (fun _ => .slice none 0 0) := ⟨hb3, fun _ _ => rfl, fun i hi => by omega⟩
  clear hb3
  go_wp2_with fail
  go_loopw [18] (fun i wr => ∃ k V, k ≤ l.length ∧ i = .int .i64 (k : Nat) ∧ FRows B l wr ba k V ∧ Ext w wr) (fun i _ => l.length - (intOf i).toNat)
  case atStart => exact ⟨0, _, Nat.zero_le _, rfl, hr0, hx⟩
  case round =>
    clear hr0 hx
    obtain ⟨k, V, hk, rfl, hr, hx⟩ := hrel
    by_cases hlt : k < l.length
    · obtain ⟨b, off, rfl, hbk, g0, g1, g2⟩ := (h.ext RTrip.mono hx).trip hlt
      have k0 : (0 : Int) ≤ k := by omega
      have kl : (k : Int) < l.length := by omega
      have hwr := hx.size
      have hbw := hr.blk.lt
      obtain ⟨wn, hwn⟩ : ∃ wn, wn = wr.alloc (.cells #[.int .i64 l[k].kind, .int .i64 l[k].a, .int .i64 l[k].b] 39) := ⟨_, rfl⟩
      have hxn : Ext wr wn := by rw [hwn]; exact (Ext.refl wr).alloc _
      have n1 : wn.cell? ⟨wr.heap.size, 1, none⟩ = some (.int .i64 l[k].a) := by rw [hwn]; go_simp
      have n2 : wn.cell? ⟨wr.heap.size, 2, none⟩ = some (.int .i64 l[k].b) := by rw [hwn]; go_simp
      have hrn := hr.ext hxn
      have hxw := hx.trans hxn
      rcases nodeErr_cases (HF.out k hlt) with hq | ⟨hq, ha0, ha1⟩ | ⟨hq, ha0, ha1, ha2⟩ | ⟨hq, ha0, ha1⟩ | ⟨hq, ha0, ha1, hb0, hb1⟩
      · have HV := hid (fsay_all hlt hq)
        rw [hq] at g0 hwn
        clear hq
        go_wp2_with fail
        rw [← hwn]
        clear hwn
        refine (filter_Every B _ (Nat.le_trans hB hxw.size)).mono ?_
        rintro e w4 ⟨v, rfl, hv, hx4⟩
        obtain ⟨Av, cv, rfl, hv1, hv2, hvs⟩ := id hv
        have hr4 := hrn.ext hx4
        have hz := hr4.blk.frozen k
        have hck := hr4.blk.cell (rowF_get V hlt)
        rw [hr4.nils k (Nat.le_refl _)] at hck
        go_wp2_with fail
        go_roundw
        case rel => exact ⟨k + 1, fun i => if i = k then _ else V i, hlt, by go_num, hr4.set (by omega) hv HV.out, (hxw.trans hx4).setCell hbl _⟩
        case measure => simp [intOf]; omega
      · obtain ⟨a, ha⟩ := Int.eq_ofNat_of_zero_le ha0
        have HV := hid (fsay_tag hlt hq ha (by omega))
        obtain ⟨bit, hbit⟩ : ∃ bit, bit = 2 ^ a := ⟨_, rfl⟩
        have e4 : wrap64 ((2 : Int) ^ a) = (bit : Int) := by rw [hbit]; exact shl_bit a (by omega)
        rw [← hbit] at HV
        clear hbit
        rw [ha] at g1 n1 ha1
        rw [ha, hq] at hwn
        rw [hq] at g0
        clear hq ha ha0
        go_wp2_with fail
        rw [← hwn]
        clear hwn g0 g1 g2
        refine (filter_EveryO B _ (Nat.le_trans hB hxw.size)).mono ?_
        rintro e w4 ⟨g, A', rfl, hg, hgb, hsp, hx4⟩
        have hr4 := hrn.ext hx4
        have hz := hr4.blk.frozen k
        have hck := hr4.blk.cell (rowF_get V hlt)
        rw [hr4.nils k (Nat.le_refl _)] at hck
        have n14 := hx4.cell n1
        go_wp2_with fail
        have hgn := hxn.size
        have c5 : (w4.setCell ⟨ba, k, none⟩ (.slice (some ⟨g, 0, none⟩) 1 1)).cell? ⟨ba, k, none⟩ = some (.slice (some ⟨g, 0, none⟩) 1 1) := (hr4.blk.set k _).cell (by simp [rowF_size, hlt])
        have n5 : (w4.setCell ⟨ba, k, none⟩ (.slice (some ⟨g, 0, none⟩) 1 1)).cell? ⟨wr.heap.size, 1, none⟩ = some (.int .i64 (a : Int)) := (World.cell?_setCell_other _ _ _ _ (by intro e; injection e with e1 e2; omega)).trans n14
        have hgb5 : Blk (w4.setCell ⟨ba, k, none⟩ (.slice (some ⟨g, 0, none⟩) 1 1)) g 51 #[.int .i64 0, .int .i64 0, .slice A' 1 1] := hgb.far (by show g ≠ ba; omega) _
        have z5 := hgb5.frozen 0
        have d5 := hgb5.cell (i := 0) rfl
        have hblk5 : Blk (w4.setCell ⟨ba, k, none⟩ (.slice (some ⟨g, 0, none⟩) 1 1)) ba 22 (rowF l.length fun i => if i = k then .slice (some ⟨g, 0, none⟩) 1 1 else V i) := by rw [← rowF_set]; exact hr4.blk.set k _
        have hchg5 : Chg B [22] wn (w4.setCell ⟨ba, k, none⟩ (.slice (some ⟨g, 0, none⟩) 1 1)) := (Chg.of_ext hx4).trans (hr4.chgSet (by omega) _)
        have hsp5 : SlSpans B (w4.setCell ⟨ba, k, none⟩ (.slice (some ⟨g, 0, none⟩) 1 1)) A' [⟨0, 32⟩] := hsp.chg RPair.mono (by decide) (hr4.chgSet (by omega) _)
        have hx5 : Ext w (w4.setCell ⟨ba, k, none⟩ (.slice (some ⟨g, 0, none⟩) 1 1)) := (hxw.trans hx4).setCell hbl _
        obtain ⟨w5, hw5⟩ : ∃ w5, w5 = w4.setCell ⟨ba, k, none⟩ (.slice (some ⟨g, 0, none⟩) 1 1) := ⟨_, rfl⟩
        rw [← hw5] at c5 n5 hgb5 z5 d5 hblk5 hchg5 hsp5 hx5
        rw [← hw5]
        clear hw5
        have a0 : (0 : Int) ≤ a := by omega
        have hgw : wr.heap.size ≠ g := by omega
        have z6 : w5.drew.frozen? ⟨g, 0, none⟩ = false := z5
        have d6 : w5.drew.cell? ⟨g, 0, none⟩ = some (.int .i64 0) := d5
        have hgb' : ba ≠ g := by omega
        go_region
        have hb6 : Blk (w5.setCell ⟨g, 0, none⟩ (.int .i64 (bit : Int))).drew g 51 #[.int .i64 (bit : Int), .int .i64 0, .slice A' 1 1] := (hgb5.set 0 _).ext (Ext.refl _).drew
        have hsp6 : SlSpans B (w5.setCell ⟨g, 0, none⟩ (.int .i64 (bit : Int))).drew A' [⟨0, 32⟩] := (hsp5.chg RPair.mono (ts := [51]) (by decide) ((Chg.refl w5).setCell (p := ⟨g, 0, none⟩) hgb5.ty (by simp) _ (by show B ≤ g; omega))).ext RPair.mono (Ext.refl _).drew
        have hblk6 := (hblk5.far (p := ⟨g, 0, none⟩) hgb' (.int .i64 (bit : Int))).ext (Ext.refl _).drew
        have hchg6 := (hchg5.setNew (p := ⟨g, 0, none⟩) (by show wn.heap.size ≤ g; have := hx4.size; omega) (.int .i64 (bit : Int))).trans (.of_ext (Ext.refl _).drew)
        have hx6 := (hx5.setCell (p := ⟨g, 0, none⟩) (by show w.heap.size ≤ g; omega) (.int .i64 (bit : Int))).drew
        go_wp2_with fail
        go_roundw
        case rel => exact ⟨k + 1, fun i => if i = k then _ else V i, hlt, by go_num, hrn.put hblk6 hchg6 (isBoxes_one hb6 hsp6 (by decide)) HV.out, hx6⟩
        case measure => simp [intOf]; omega
      · have HV := hid (fsay_in hlt hq ha0 ha1 ha2)
        rw [hq] at g0 hwn
        clear hq ha0 ha1 ha2
        have hz := hr.blk.frozen k
        have hck := hr.blk.cell (rowF_get V hlt)
        rw [hr.nils k (Nat.le_refl _)] at hck
        have hbw1 : ba < wr.heap.size + 1 := by omega
        have hbw2 : ba < wr.heap.size + 1 + 1 := by omega
        go_wp2_with fail
        obtain ⟨W0, hW0⟩ : ∃ W0, W0 = (wr.setCell ⟨ba, k, none⟩ (.slice (some ⟨wr.heap.size + 1 + 1, 0, none⟩) 1 1)).alloc (.cells #[.int .i64 3, .int .i64 l[k].a, .int .i64 l[k].b] 39) := ⟨_, rfl⟩
        have hs0 : W0.heap.size = wr.heap.size + 1 := by rw [hW0]; simp
        have hc0 : Chg B [22] wr W0 := by rw [hW0]; exact (hr.chgSet (by omega) _).trans (.of_ext ((Ext.refl _).alloc _))
        have hb0 : Blk W0 ba 22 (rowF l.length fun i => if i = k then .slice (some ⟨wr.heap.size + 1 + 1, 0, none⟩) 1 1 else V i) := by rw [hW0, ← rowF_set]; exact (hr.blk.set k _).alloc _
        have hxa : Ext w W0 := by rw [hW0]; exact (hx.setCell hbl _).alloc _
        rw [← hW0]
        clear hW0
        have h1 : SlSpans B (W0.alloc (.cells #[.int .i64 l[k].a, .int .i64 l[k].b] 56)) (some ⟨W0.heap.size, 0, none⟩) [⟨l[k].a, l[k].b⟩] := Sl.one rfl rfl rfl
        rw [hs0] at h1
        have h2 : Blk ((W0.alloc (.cells #[.int .i64 l[k].a, .int .i64 l[k].b] 56)).alloc (.cells #[.int .i64 0, .int .i64 0, .slice (some ⟨wr.heap.size + 1, 0, none⟩) 1 1] 51)) (W0.alloc (.cells #[.int .i64 l[k].a, .int .i64 l[k].b] 56)).heap.size 51 #[.int .i64 0, .int .i64 0, .slice (some ⟨wr.heap.size + 1, 0, none⟩) 1 1] := Blk.new _ _ _
        rw [show (W0.alloc (.cells #[.int .i64 l[k].a, .int .i64 l[k].b] 56)).heap.size = wr.heap.size + 1 + 1 by simp [hs0]] at h2
        have hxx := ((Ext.refl W0).alloc (.cells #[.int .i64 l[k].a, .int .i64 l[k].b] 56)).alloc (.cells #[.int .i64 0, .int .i64 0, .slice (some ⟨wr.heap.size + 1, 0, none⟩) 1 1] 51)
        go_roundw
        case rel => exact ⟨k + 1, fun i => if i = k then _ else V i, hlt, by go_num, hr.put (hb0.ext hxx) (hc0.trans (.of_ext hxx)) (isBoxes_one h2 (h1.ext RPair.mono ((Ext.refl _).alloc _)) (by simp [maxLen])) HV.out, hxa.trans hxx⟩
        case measure => simp [intOf]; omega
      · obtain ⟨a, ha⟩ := Int.eq_ofNat_of_zero_le ha0
        rw [ha] at g1 n1 ha1
        rw [ha] at hwn
        have a0 : (0 : Int) ≤ a := by omega
        have al : (a : Int) < l.length := by omega
        obtain ⟨fa, hfa, hsa⟩ := hrn.says a (by omega)
        obtain ⟨Aa, ca, hva, hva1, hva2, hvas⟩ := id hfa
        have HC0 := hid (fun w' (x : Ext wn w') => show w'.cell? ⟨ba, a, none⟩ = some (.slice Aa fa.length ca) from x.cell (by have := hrn.blk.cell (rowF_get V (show a < l.length by omega)); rwa [hva] at this))
        have HC3 := hid (fun w' (x : Ext wn w') => show w'.cell? ⟨wr.heap.size, 1, none⟩ = some (.int .i64 (a : Int)) from x.cell n1)
        have HZ := hid (fun w' (x : Ext wn w') => (hrn.ext x).blk.frozen k)
        have HK := hid (fun w' (x : Ext wn w') => show w'.cell? ⟨ba, k, none⟩ = some (.slice none 0 0) by have := (hrn.ext x).blk.cell (rowF_get V hlt); rwa [hr.nils k (Nat.le_refl _)] at this)
        have HB1 := hid (Nat.le_trans hB hxw.size)
        have HBW := hid hbw
        have HV := hid (fsay_not hlt hq ha (by omega) hsa)
        obtain ⟨E, hE⟩ : ∃ E, E = everyF := ⟨_, rfl⟩
        rw [← hE] at HV
        have HEl := hid (show E.length ≤ maxLen by rw [hE]; decide)
        have HEv := hid (fun w' (x : Ext wn w') => show Calls Tryd.prog 18 #[] w' fun e w2 => ∃ v, e = .returned v ∧ IsBoxes B w2 v E ∧ Ext w' w2 by rw [hE]; exact filter_Every B w' (Nat.le_trans HB1.out x.size))
        have HOp := hid (fun Av cv w' (x : Ext wn w') (hs : SlBoxes B w' Av E) => filter_Less B Av Aa cv ca E fa w' (Nat.le_trans HB1.out x.size) HEl.out (by omega) hs (hvas.ext RBox.monoE x))
        rw [hq] at g0 hwn
        clear hq hwr hva hvas hfa hsa hE
        go_wp2_with fail
        rw [← hwn]
        clear hwn g0 g1 g2
        have hyn : Ext wn wn.drew := (Ext.refl wn).drew
        go_region_held3 (fun w' => w'.cell? ⟨ba, a, none⟩ = some (.slice Aa fa.length ca) ∧ w'.cell? ⟨wr.heap.size, 1, none⟩ = some (.int .i64 (a : Int)))
          (first | exact ⟨HC0.out _ hyn, HC3.out _ hyn⟩ | exact ⟨(World.cell?_setCell_other _ _ _ _ (by intro e; injection e with e1 e2; omega)).trans (HC0.out _ hyn), (World.cell?_setCell_other _ _ _ _ (by intro e; injection e with e1 e2; omega)).trans (HC3.out _ hyn)⟩)
          (first
            | (go_at_call 18; refine (HEv.out _ hyn).mono ?_; rintro e w7 ⟨v, rfl, hv, hx7⟩; obtain ⟨Av, cv, rfl, hv1, hv2, hvs⟩ := hv; have hyn := hyn.trans hx7)
            | (go_at_call 26; refine (HOp.out _ _ _ hyn (by assumption)).mono ?_; rintro e w8 ⟨u, rfl, hu, hx8⟩; obtain ⟨Au, cu, rfl, hu1, hu2, hus⟩ := id hu; have hyn := hyn.trans hx8; have hz8 := HZ.out _ hyn; have hck8 := HK.out _ hyn))
        have hr8 := hrn.ext hyn
        go_wp2_with fail
        go_roundw
        case rel => exact ⟨k + 1, fun i => if i = k then _ else V i, hlt, by go_num, hr8.set (by omega) hu HV.out, (hxw.trans hyn).setCell hbl _⟩
        case measure => simp [intOf]; omega
      · obtain ⟨a, ha⟩ := Int.eq_ofNat_of_zero_le ha0
        obtain ⟨a', ha'⟩ := Int.eq_ofNat_of_zero_le hb0
        rw [ha] at g1 n1 ha1
        rw [ha'] at g2 n2 hb1
        rw [ha, ha'] at hwn
        have a0 : (0 : Int) ≤ a := by omega
        have al : (a : Int) < l.length := by omega
        have a0' : (0 : Int) ≤ a' := by omega
        have al' : (a' : Int) < l.length := by omega
        rcases hq with hq | hq
        · obtain ⟨fa, hfa, hsa⟩ := hrn.says a (by omega)
          obtain ⟨Aa, ca, hva, hva1, hva2, hvas⟩ := id hfa
          have HC0 := hid (fun w' (x : Ext wn w') => show w'.cell? ⟨ba, a, none⟩ = some (.slice Aa fa.length ca) from x.cell (by have := hrn.blk.cell (rowF_get V (show a < l.length by omega)); rwa [hva] at this))
          obtain ⟨fb, hfb, hsb⟩ := hrn.says a' (by omega)
          obtain ⟨Ab, cb, hvb, hvb1, hvb2, hvbs⟩ := id hfb
          have HC1 := hid (fun w' (x : Ext wn w') => show w'.cell? ⟨ba, a', none⟩ = some (.slice Ab fb.length cb) from x.cell (by have := hrn.blk.cell (rowF_get V (show a' < l.length by omega)); rwa [hvb] at this))
          have HC2 := hid (fun w' (x : Ext wn w') => show w'.cell? ⟨wr.heap.size, 2, none⟩ = some (.int .i64 (a' : Int)) from x.cell n2)
          have HC3 := hid (fun w' (x : Ext wn w') => show w'.cell? ⟨wr.heap.size, 1, none⟩ = some (.int .i64 (a : Int)) from x.cell n1)
          have HZ := hid (fun w' (x : Ext wn w') => (hrn.ext x).blk.frozen k)
          have HK := hid (fun w' (x : Ext wn w') => show w'.cell? ⟨ba, k, none⟩ = some (.slice none 0 0) by have := (hrn.ext x).blk.cell (rowF_get V hlt); rwa [hr.nils k (Nat.le_refl _)] at this)
          have HB1 := hid (Nat.le_trans hB hxw.size)
          have HBW := hid hbw
          have HV := hid (fsay_both hlt hq ha ha' (by omega) (by omega) hsa hsb)
          have HOp := hid (fun w' (x : Ext wn w') => filter_Meet B Aa Ab ca cb fa fb w' (Nat.le_trans HB1.out x.size) (by omega) (by omega) (hvas.ext RBox.monoE x) (hvbs.ext RBox.monoE x))
          rw [hq] at g0 hwn
          clear hq hwr hva hvas hfa hsa hvb hvbs hfb hsb
          go_wp2_with fail
          rw [← hwn]
          clear hwn g0 g1 g2
          have hyn : Ext wn wn.drew := (Ext.refl wn).drew
          go_region_held3 (fun w' => w'.cell? ⟨ba, a, none⟩ = some (.slice Aa fa.length ca) ∧ w'.cell? ⟨wr.heap.size, 1, none⟩ = some (.int .i64 (a : Int)) ∧ w'.cell? ⟨ba, a', none⟩ = some (.slice Ab fb.length cb) ∧ w'.cell? ⟨wr.heap.size, 2, none⟩ = some (.int .i64 (a' : Int)))
            (first | exact ⟨HC0.out _ hyn, HC3.out _ hyn, HC1.out _ hyn, HC2.out _ hyn⟩ | exact ⟨(World.cell?_setCell_other _ _ _ _ (by intro e; injection e with e1 e2; omega)).trans (HC0.out _ hyn), (World.cell?_setCell_other _ _ _ _ (by intro e; injection e with e1 e2; omega)).trans (HC3.out _ hyn), (World.cell?_setCell_other _ _ _ _ (by intro e; injection e with e1 e2; omega)).trans (HC1.out _ hyn), (World.cell?_setCell_other _ _ _ _ (by intro e; injection e with e1 e2; omega)).trans (HC2.out _ hyn)⟩)
            (first
              | (go_at_call 27; refine (HOp.out _ hyn).mono ?_; rintro e w8 ⟨u, rfl, hu, hx8⟩; obtain ⟨Au, cu, rfl, hu1, hu2, hus⟩ := id hu; have hyn := hyn.trans hx8; have hz8 := HZ.out _ hyn; have hck8 := HK.out _ hyn))
          have hr8 := hrn.ext hyn
          go_wp2_with fail
          go_roundw
          case rel => exact ⟨k + 1, fun i => if i = k then _ else V i, hlt, by go_num, hr8.set (by omega) hu HV.out, (hxw.trans hyn).setCell hbl _⟩
          case measure => simp [intOf]; omega
        · obtain ⟨fa, hfa, hsa⟩ := hrn.says a (by omega)
          obtain ⟨Aa, ca, hva, hva1, hva2, hvas⟩ := id hfa
          have HC0 := hid (fun w' (x : Ext wn w') => show w'.cell? ⟨ba, a, none⟩ = some (.slice Aa fa.length ca) from x.cell (by have := hrn.blk.cell (rowF_get V (show a < l.length by omega)); rwa [hva] at this))
          obtain ⟨fb, hfb, hsb⟩ := hrn.says a' (by omega)
          obtain ⟨Ab, cb, hvb, hvb1, hvb2, hvbs⟩ := id hfb
          have HC1 := hid (fun w' (x : Ext wn w') => show w'.cell? ⟨ba, a', none⟩ = some (.slice Ab fb.length cb) from x.cell (by have := hrn.blk.cell (rowF_get V (show a' < l.length by omega)); rwa [hvb] at this))
          have HC2 := hid (fun w' (x : Ext wn w') => show w'.cell? ⟨wr.heap.size, 2, none⟩ = some (.int .i64 (a' : Int)) from x.cell n2)
          have HC3 := hid (fun w' (x : Ext wn w') => show w'.cell? ⟨wr.heap.size, 1, none⟩ = some (.int .i64 (a : Int)) from x.cell n1)
          have HZ := hid (fun w' (x : Ext wn w') => (hrn.ext x).blk.frozen k)
          have HK := hid (fun w' (x : Ext wn w') => show w'.cell? ⟨ba, k, none⟩ = some (.slice none 0 0) by have := (hrn.ext x).blk.cell (rowF_get V hlt); rwa [hr.nils k (Nat.le_refl _)] at this)
          have HB1 := hid (Nat.le_trans hB hxw.size)
          have HBW := hid hbw
          have HV := hid (fsay_any hlt hq ha ha' (by omega) (by omega) hsa hsb)
          have HOp := hid (fun w' (x : Ext wn w') => filter_Join B Aa Ab ca cb fa fb w' (Nat.le_trans HB1.out x.size) (by omega) (by omega) (hvas.ext RBox.monoE x) (hvbs.ext RBox.monoE x))
          rw [hq] at g0 hwn
          clear hq hwr hva hvas hfa hsa hvb hvbs hfb hsb
          go_wp2_with fail
          rw [← hwn]
          clear hwn g0 g1 g2
          have hyn : Ext wn wn.drew := (Ext.refl wn).drew
          go_region_held3 (fun w' => w'.cell? ⟨ba, a, none⟩ = some (.slice Aa fa.length ca) ∧ w'.cell? ⟨wr.heap.size, 1, none⟩ = some (.int .i64 (a : Int)) ∧ w'.cell? ⟨ba, a', none⟩ = some (.slice Ab fb.length cb) ∧ w'.cell? ⟨wr.heap.size, 2, none⟩ = some (.int .i64 (a' : Int)))
            (first | exact ⟨HC0.out _ hyn, HC3.out _ hyn, HC1.out _ hyn, HC2.out _ hyn⟩ | exact ⟨(World.cell?_setCell_other _ _ _ _ (by intro e; injection e with e1 e2; omega)).trans (HC0.out _ hyn), (World.cell?_setCell_other _ _ _ _ (by intro e; injection e with e1 e2; omega)).trans (HC3.out _ hyn), (World.cell?_setCell_other _ _ _ _ (by intro e; injection e with e1 e2; omega)).trans (HC1.out _ hyn), (World.cell?_setCell_other _ _ _ _ (by intro e; injection e with e1 e2; omega)).trans (HC2.out _ hyn)⟩)
            (first
              | (go_at_call 28; refine (HOp.out _ hyn).mono ?_; rintro e w8 ⟨u, rfl, hu, hx8⟩; obtain ⟨Au, cu, rfl, hu1, hu2, hus⟩ := id hu; have hyn := hyn.trans hx8; have hz8 := HZ.out _ hyn; have hck8 := HK.out _ hyn))
          have hr8 := hrn.ext hyn
          go_wp2_with fail
          go_roundw
          case rel => exact ⟨k + 1, fun i => if i = k then _ else V i, hlt, by go_num, hr8.set (by omega) hu HV.out, (hxw.trans hyn).setCell hbl _⟩
          case measure => simp [intOf]; omega
    · obtain rfl : k = l.length := by omega
      obtain ⟨f, hfi, hfs⟩ := hr.says (l.length - 1) (by omega)
      have hc := hr.blk.cell (rowF_get V (show l.length - 1 < l.length by omega))
      obtain ⟨Av, cv, hv, hv1, hv2, hvs⟩ := hfi
      rw [hv] at hc
      have en : ((l.length : Int) - 1) = ((l.length - 1 : Nat) : Int) := by omega
      have ez : (0 : Int) ≤ (l.length : Int) - 1 := by omega
      go_wp2_with fail
      refine (filter_Copied B Av cv f _ (Nat.le_trans hB hx.size) (by have := hfs.len; omega) (fun b hb => by have := (spanCheck_ok ((filterCheck_ok hfs.ok).2 b hb).2).2; omega) hvs).mono ?_
      rintro e w5 ⟨v, rfl, hv5, hx5⟩
      go_wp2_with fail
      go_ret2
      exact ⟨_, f, rfl, hv5, hfs, hx.trans hx5⟩

end Go.Proofs.YtbkmgbckeaimdaaDoor
