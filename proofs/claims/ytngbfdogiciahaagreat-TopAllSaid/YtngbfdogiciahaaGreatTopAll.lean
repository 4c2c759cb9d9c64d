/- THE LAW TopAll: whatever was made, asked and wanted: once one who wants all has asked everybody, and everybody has asked him, each has just what he has of what it wants, and of what it made. The conditions are the statement's own. -/
import Derived.Test.YtngbfdogiciahaaGreatRows
import Derived.Test.YtngbfdogiciahaaGreatTopI
import Derived.Test.YtngbfdogiciahaaGreatJoinShelfF
namespace Go.Proofs.YtngbfdogiciahaaGreat
open Go Go.RowKit
theorem Sl.ptrC {B : Nat} {w : World} {A : Option Addr} {l : List Nat} (h : SlPtrs B w A l) {i : Nat} (hi : i < l.length) : ∃ b off, A = some ⟨b, off, none⟩ ∧ ∀ w', Chg B [159] w w' → w'.cell? ⟨b, off + i, none⟩ = some (.pointer (some ⟨l[i], 0, none⟩)) := by
 obtain ⟨b, off, u, h1, _, h3, h4⟩ := h.cellC (ts := [159]) (by decide) hi
 injection h3 with h3 _
 exact ⟨b, off, h1, fun w' x => h3 ▸ h4 w' x⟩
set_option maxRecDepth 100000 in
set_option maxHeartbeats 20000000 in
theorem law_TopAll (A : Option Addr) (c : Nat) (fs0 : List (List Box)) (Al : Option Addr) (cl : Nat) (l : List (List Int)) (w : World) (hlc : fs0.length ≤ c) (hlc2 : l.length ≤ cl) (hf0 : SlFils w.heap.size w A fs0) (hl0 : SlVecs w.heap.size w Al l) :
  Calls Tryz.prog 7 #[.slice A fs0.length c, .slice Al l.length cl] w fun e w' => e = .returned (.bool true) ∧ Ext w w' := by
 obtain ⟨B, hBd⟩ : ∃ B, B = w.heap.size := ⟨_, rfl⟩
 rw [← hBd] at hf0 hl0
 have HB := hid (Nat.le_of_eq hBd)
 have HBD := hid hBd
 have HL0 := hid hl0
 have HF0 := hid hf0
 have HLC := hid hlc
 have HLC2 := hid hlc2
 clear hBd hlc hlc2 hf0 hl0
 go_enter Tryz.func7, Tryz.ntmps7
 go_wp2_with fail
 refine (top_begun B w HB.out).mono ?_
 rintro e w1 ⟨rfl, hx⟩
 go_wp2_with fail
 refine (top_filters B A c fs0 w1 (Nat.le_trans HB.out hx.size) HLC.out (HF0.out.ext RBoxes.monoE hx)).mono ?_
 rintro e w2 ⟨v2, F, rfl, ⟨Af, cf, rfl, f1, f2, hsf⟩, hF3, hFok, hx2⟩
 have HF3 := hid hF3
 have HFOK := hid hFok
 replace hx := hx.trans hx2
 clear hx2 hF3 hFok f1 f2
 go_wp2_with fail
 refine (top_sites B Af cf F w2 (Nat.le_trans HB.out hx.size) (Nat.le_of_eq HF3.out) HFOK.out hsf).mono ?_
 rintro e w3 ⟨v3, rs, rfl, ⟨As, cs, rfl, s1, s2, hss⟩, hS, hx3⟩
 have HSF := hid (hsf.ext RBoxes.monoE hx3)
 replace hx := hx.trans hx3
 have hrl : rs.length = 4 := by rw [hS.len, freshL_len]; simp [HF3.out]
 have HRL := hid hrl
 have HCS := hid s1
 clear hx3 hsf s1 s2 hrl
 obtain ⟨Fok, hFk⟩ : ∃ Fok : Nat → List Box → Prop, Fok = fun i f => i = 3 → AllF f := ⟨_, rfl⟩
 have HFK := hid hFk
 have HI0 := hid (show TopI Fok 0 (freshL (F ++ [everyF])) by
  refine topI_new (by simp [HF3.out]) (fun f hf => (List.mem_append.1 hf).elim (HFOK.out f) fun h => by rw [List.mem_singleton.1 h]; exact everyF_ok) fun i f hf => ?_
  rw [hFk]
  intro hi
  rw [hi, List.getElem?_append_right (by rw [HF3.out]; exact Nat.le_refl _), HF3.out] at hf
  simp at hf
  rw [← hf]
  exact allF_every)
 have HFIN := hid (show ∀ (i : Nat) (f : List Box), i < F.length → f ∈ F → Fok i (plainF f) by
  intro i f hi _
  rw [hFk]
  intro h
  rw [HF3.out] at hi
  omega)
 have HX3 := hid hx
 clear hFk
 go_wp2_with fail
 refine (top_played Fok B As cs rs Af cf F Al cl l (freshL (F ++ [everyF])) w3 (Nat.le_trans HB.out hx.size) (by rw [HRL.out]; omega) (by rw [HF3.out]; omega) HLC2.out HFOK.out HFIN.out hss HSF.out (HL0.out.ext RVec.monoE hx) hS HI0.out).mono ?_
 clear hx hS
 rintro e w4 ⟨hr, hc⟩
 have HSS := hid (hss.chg RPtr.mono (by decide) hc)
 clear hss
 obtain ⟨L, rfl, hS, hI⟩ | rfl := hr
 case inr =>
  go_wp2_with fail
  go_ret
  exact ⟨rfl, ((Chg.of_ext HX3.out).trans hc).ext (Nat.le_of_eq HBD.out.symm)⟩
 obtain ⟨M, H, hJ⟩ := hI
 have HJ0 := hid hJ
 have hLl : L.length = 4 := by rw [← hS.len]; exact HRL.out
 have HLL := hid hLl
 obtain ⟨r3, hr3⟩ : ∃ r, rs[3]? = some r := ⟨_, List.getElem?_eq_getElem (by rw [HRL.out]; omega)⟩
 obtain ⟨g0, hg0⟩ : ∃ s, L[3]? = some s := ⟨_, List.getElem?_eq_getElem (by omega)⟩
 have HR3 := hid hr3
 have HG0 := hid (got_zero (H := H) hg0 (by have := (hJ.inv 3 g0 hg0).2.2.2; rw [HFK.out] at this; exact this rfl))
 clear hr3 hg0 hJ hLl
 replace hc := (Chg.of_ext HX3.out).trans hc
 have HPT := hid (fun (k : Nat) (hk : k < rs.length) => Sl.ptrC HSS.out hk)
 obtain ⟨bs, os, hA, _⟩ := Sl.ptrC HSS.out (i := 0) (by rw [HRL.out]; omega)
 subst hA
 have HP := hid (fun (k : Nat) (hk : k < rs.length) (w' : World) (x : Chg B [159] w4 w') => show w'.cell? ⟨bs, os + k, none⟩ = some (.pointer (some ⟨rs[k], 0, none⟩)) by
  obtain ⟨b', o', h1, h2⟩ := HPT.out k hk
  injection h1 with h1
  injection h1 with h1 h1'
  subst h1 h1'
  exact h2 w' x)
 clear HPT
 have HC4 := hid hc
 have p3 := HP.out 3 (by rw [HRL.out]; omega) w4 (Chg.refl _)
 rw [(List.getElem?_eq_some_iff.1 HR3.out).2] at p3
 have hcs4 : (3 : Int) ≤ (cs : Int) := by have := HCS.out; have := HRL.out; omega
 rw [HRL.out]
 go_wp2_with fail
 clear p3
 go_loopw [51] (fun i wr => ∃ (k : Nat) (L : List SiteS), k ≤ 3 ∧ i = .int .i64 k ∧ Sites B wr rs L ∧ Hid (L.length = 4 ∧ TopJ Fok 40 M H L ∧ Got H L 3 k) ∧ Chg B [159] w4 wr) (fun i _ => 3 - (intOf i).toNat)
 case atStart => exact ⟨0, L, Nat.zero_le _, rfl, hS, hid ⟨HLL.out, HJ0.out, HG0.out⟩, Chg.refl _⟩
 case round =>
  clear hS HG0 HJ0 HLL L hc
  obtain ⟨k, L, hk, rfl, hS, HI, hx⟩ := hrel
  have HXW := hid hx
  by_cases hlt : k < 3
  ·obtain ⟨rk, hrk⟩ : ∃ r, rs[k]? = some r := ⟨_, List.getElem?_eq_getElem (by rw [HRL.out]; omega)⟩
   obtain ⟨sk, hsk⟩ : ∃ s, L[k]? = some s := ⟨_, List.getElem?_eq_getElem (by rw [HI.out.1]; omega)⟩
   obtain ⟨g, hg⟩ : ∃ s, L[3]? = some s := ⟨_, List.getElem?_eq_getElem (by rw [HI.out.1]; omega)⟩
   have pk := HP.out k (by rw [HRL.out]; omega) wr hx
   rw [(List.getElem?_eq_some_iff.1 hrk).2] at pk
   have HIS := hid (hS.at_ 3 r3 g HR3.out hg)
   have HJS := hid (hS.at_ k rk sk hrk hsk)
   have HQ := hid (topJ_ask HI.out.2.1 (by decide) hg hsk)
   have HSW := hid hS
   have HGK := hid (And.intro hg hsk)
   have HK := hid hlt
   have hw1 : wrap64 ((k : Int) + 1) = ((k + 1 : Nat) : Int) := by unfold wrap64; omega
   have HBW := hid (show B ≤ wr.heap.size from Nat.le_trans HB.out ((Chg.trans HC4.out hx).size))
   have hki : (k : Int) < 3 := by omega
   clear hS hrk hsk hg hk
   go_wp2_with fail
   refine (top_asked B r3 rk g sk wr HBW.out HIS.out.1 HQ.out.1 HQ.out.2.1 HIS.out.2 HJS.out.2 HQ.out.2.2.1 HQ.out.2.2.2.1).mono ?_
   rintro e w5 ⟨rfl, hsn, hfm⟩
   have hxn := hx.trans (hfm.chg HIS.out.2.ty HIS.out.1)
   obtain ⟨E, hE⟩ : ∃ E, E = takeErr g (giveB sk (askS g)) := ⟨_, rfl⟩
   have HEE := hid hE
   rw [← hE]
   clear hE
   obtain rfl | rfl : E = 0 ∨ E = 2 := by rw [HEE.out]; exact HQ.out.2.2.2.2
   ·go_wp2_with fail
    go_roundw
    case rel => exact ⟨k + 1, L.set 3 (takeS g (giveB sk (askS g))), HK.out, by first | rw [hw1] | rfl, HSW.out.set HR3.out HGK.out.1 hfm hsn, hid ⟨by rw [List.length_set]; exact HI.out.1, (HI.out.2.1.asked HGK.out.1 HGK.out.2).1, got_step HI.out.2.1 HI.out.2.2 HGK.out.1 HGK.out.2 HEE.out.symm⟩, hxn⟩
    case measure => (try rw [hw1]); simp [intOf]; omega
   ·go_wp2_with fail
    go_ret
    exact ⟨rfl, ((HC4.out).trans hxn).ext (Nat.le_of_eq HBD.out.symm)⟩
  ·obtain rfl : k = 3 := by omega
   obtain ⟨g, hg⟩ : ∃ s, L[3]? = some s := ⟨_, List.getElem?_eq_getElem (by rw [HI.out.1]; omega)⟩
   have HFU := hid (got_full HI.out.2.1 HI.out.1 HI.out.2.2 hg)
   have HI1 := hid (And.intro HI.out.1 (And.intro HI.out.2.1 hg))
   clear HI hg hlt hk
   go_wp2_with fail
   obtain ⟨wc, hwc⟩ : ∃ wc, wc = wr := ⟨_, rfl⟩
   rw [← hwc]
   rw [← hwc] at hS hx
   clear hwc HXW
   rw [show ((3 : Nat) : Int) = 3 from rfl]
   go_loopw [71] (fun i wr => ∃ (k : Nat) (L : List SiteS), k ≤ 3 ∧ i = .int .i64 k ∧ Sites B wr rs L ∧ Hid (L.length = 4 ∧ TopJ Fok 40 M H L ∧ L[3]? = some g) ∧ Chg B [159] w4 wr) (fun i _ => 3 - (intOf i).toNat)
   case atStart => exact ⟨0, L, Nat.zero_le _, rfl, hS, HI1, hx⟩
   case round =>
    clear hS HI1 L hx
    obtain ⟨k, L, hk, rfl, hS, HI, hx⟩ := hrel
    by_cases hlt : k < 3
    ·obtain ⟨rk, hrk⟩ : ∃ r, rs[k]? = some r := ⟨_, List.getElem?_eq_getElem (by rw [HRL.out]; omega)⟩
     obtain ⟨sk, hsk⟩ : ∃ s, L[k]? = some s := ⟨_, List.getElem?_eq_getElem (by rw [HI.out.1]; omega)⟩
     have pk := HP.out k (by rw [HRL.out]; omega) wr hx
     rw [(List.getElem?_eq_some_iff.1 hrk).2] at pk
     have HIS := hid (hS.at_ k rk sk hrk hsk)
     have HJS := hid (hS.at_ 3 r3 g HR3.out HI.out.2.2)
     have HQ := hid (topJ_ask HI.out.2.1 (by decide) hsk HI.out.2.2)
     have HSW := hid hS
     have HGK := hid (And.intro hrk hsk)
     have HK := hid hlt
     have hw1 : wrap64 ((k : Int) + 1) = ((k + 1 : Nat) : Int) := by unfold wrap64; omega
     have HBW := hid (show B ≤ wr.heap.size from Nat.le_trans HB.out ((Chg.trans HC4.out hx).size))
     have hki : (k : Int) < 3 := by omega
     have HNE := hid (show rk ≠ r3 from fun e => by have := hS.inj k 3 r3 (e ▸ hrk) HR3.out; omega)
     clear hS hrk hsk hk
     go_wp2_with fail
     refine (top_asked B rk r3 sk g wr HBW.out HIS.out.1 HQ.out.1 HQ.out.2.1 HIS.out.2 HJS.out.2 HQ.out.2.2.1 HQ.out.2.2.2.1).mono ?_
     rintro e w5 ⟨rfl, hsn, hfm⟩
     have hxn := hx.trans (hfm.chg HIS.out.2.ty HIS.out.1)
     obtain ⟨E, hE⟩ : ∃ E, E = takeErr sk (giveB g (askS sk)) := ⟨_, rfl⟩
     have HEE := hid hE
     rw [← hE]
     clear hE
     obtain rfl | rfl : E = 0 ∨ E = 2 := by rw [HEE.out]; exact HQ.out.2.2.2.2
     ·have HEQ := hid (asked_all HI.out.2.1 HI.out.2.2 HFU.out HGK.out.2 HEE.out.symm)
      have HJN := hid (HI.out.2.1.asked HGK.out.2 HI.out.2.2).1
      have hgs := HJS.out.2.other hfm HIS.out.2.ty HIS.out.1 HNE.out.symm
      have HSN := hid (HSW.out.set HGK.out.1 HGK.out.2 hfm hsn)
      obtain ⟨t, ht⟩ : ∃ t, t = takeS sk (giveB g (askS sk)) := ⟨_, rfl⟩
      rw [← ht] at HEQ HJN HSN hsn
      have HLK := hid (show (L.set k t)[k]? = some t by rw [List.getElem?_set_self (by rw [HI.out.1]; have := HK.out; omega)])
      have HOT := hid (HJN.out.inv k t HLK.out)
      have HOG := hid (HI.out.2.1.inv 3 g HI.out.2.2)
      clear ht hfm
      go_wp2_with fail
      refine (site_Shelf B rk t w5 (Nat.le_trans HB.out (Chg.trans HC4.out hxn).size) HOT.out.1.ok hsn).mono ?_
      rintro e w6 ⟨v6, rfl, ⟨A6, c6, rfl, _, _, hv6⟩, hx6⟩
      replace hgs := hgs.ext hx6
      replace hsn := hsn.ext hx6
      replace hxn := hxn.trans (Chg.of_ext hx6)
      go_wp2_with fail
      refine (site_Shelf B r3 g w6 (Nat.le_trans HB.out (Chg.trans HC4.out hxn).size) HOG.out.1.ok hgs).mono ?_
      rintro e w7 ⟨v7, rfl, ⟨A7, c7, rfl, _, _, hv7⟩, hx7⟩
      replace hsn := hsn.ext hx7
      replace hv6 := hv6.ext RVer.monoE hx7
      replace hxn := hxn.trans (Chg.of_ext hx7)
      go_wp2_with fail
      refine (site_Filter B rk t w7 (Nat.le_trans HB.out (Chg.trans HC4.out hxn).size) HOT.out.1.ok hsn).mono ?_
      rintro e w8 ⟨v8, rfl, ⟨A8, c8, rfl, l8, m8, hv8⟩, hx8⟩
      replace hv6 := hv6.ext RVer.monoE hx8
      replace hv7 := hv7.ext RVer.monoE hx8
      replace hxn := hxn.trans (Chg.of_ext hx8)
      go_wp2_with fail
      refine (top_wanted B A7 c7 g.shelf A8 c8 t.filter (k : Int) w8 (Nat.le_trans HB.out (Chg.trans HC4.out hxn).size) (by have := HOG.out.1.ok.shelf.len; omega) (fun v hv => (HOG.out.1.ok.shelf.all v hv).pt) (Nat.le_trans l8 m8) HOT.out.1.ok.filter hv7 hv8).mono ?_
      rw [← HEQ.out]
      rintro e w9 ⟨v9, rfl, ⟨A9, c9, rfl, _, _, hv9⟩, hx9⟩
      replace hv6 := hv6.ext RVer.monoE hx9
      replace hxn := hxn.trans (Chg.of_ext hx9)
      go_wp2_with fail
      refine (ref_SameShelf B B A6 c6 A9 c9 t.shelf w9 (by have := HOT.out.1.ok.shelf.len; unfold maxLen; omega) hv6 hv9).mono ?_
      rintro e w10 ⟨rfl, hx10⟩
      replace hxn := hxn.trans (Chg.of_ext hx10)
      have hxe := ((((hx6.trans hx7).trans hx8).trans hx9).trans hx10)
      clear hv6 hv7 hv8 hv9 hx6 hx7 hx8 hx9 hx10
      go_wp2_with fail
      go_roundw
      case rel => exact ⟨k + 1, L.set k t, HK.out, by first | rw [hw1] | rfl, HSN.out.ext hxe, hid ⟨by rw [List.length_set]; exact HI.out.1, HJN.out, by rw [List.getElem?_set_ne (by have := HK.out; omega)]; exact HI.out.2.2⟩, hxn⟩
      case measure => (try rw [hw1]); have := HK.out; simp [intOf]; omega
     ·go_wp2_with fail
      go_ret
      exact ⟨rfl, ((HC4.out).trans hxn).ext (Nat.le_of_eq HBD.out.symm)⟩
    ·obtain rfl : k = 3 := by omega
     go_wp2_with fail
     go_ret
     exact ⟨rfl, ((HC4.out).trans hx).ext (Nat.le_of_eq HBD.out.symm)⟩
namespace TopAllProof
open Go.ChangeShapes Go.WideShapes Go.ChangeAt Go.Joins
set_option maxRecDepth 100000 in
theorem lifted (os : Os) (started : os.Started) (H : Type) (enc : TypeId × Value → H) :
  ReturnsInHanded {} Tryz.checked os 7 .any (Rows.topAllSpec.pre6 enc Tryz.prog Tryz.f7 Rows.topAllRow.domain false) (Rows.topAllSpec.post enc Tryz.prog Tryz.f7 false true false false) := by
 refine returnsInHanded_of_change (C := Tryz.checked) own started (by kernel_rfl) Tryz.func7
  (ChangeSpec.witness6 (enc := enc) (C := Tryz.checked) false ⟨#[], #[.slice none 0 0, .slice none 0 0], []⟩ 8 (by kernel_rfl) (by kernel_rfl) (by kernel_rfl) (by kernel_rfl)) ?_
 intro W base args ds gs before hval0 hW hcnd _
 have hval : ∀ (j : Nat) t v, Tryz.f7.params[j]? = some t → args[j]? = some v → Value.okWide Tryz.prog W .any base t v := hval0
 have hW' := hW
 obtain ⟨p, q, hA0, hV, rfl, hfz, hnd⟩ := hW
 have hA : DataW.TrodAll enc Tryz.prog W 0 (fun _ => true) true Tryz.f7.params.toList args.toList ds p := hA0
 rw [Tryz.params7] at hA hval
 obtain ⟨v0, vs0, d0, ds0, p0, q0, hargs, rfl, rfl, h0, r0⟩ := trodAll_cons hA
 obtain ⟨v1, vs1, d1, ds1, p1, q1, rfl, rfl, rfl, h1, r1⟩ := trodAll_cons r0
 obtain ⟨rfl, rfl, rfl⟩ := trodAll_nil r1
 obtain rfl : args = #[v0, v1] := by cases args; simp_all
 obtain ⟨rfl, rfl⟩ := trodVars_none hV
 obtain ⟨a0, n0, c0, rfl⟩ := okWide_slice Tryz.underlying22 (hval 0 22 v0 rfl rfl)
 have k0 := h0
 have lt0 : ∀ x ∈ p0, x.block < W.heap.size := by obtain ⟨m, hm⟩ := k0; exact DataW.trod_lt m _ _ _ hm
 obtain ⟨l0, rfl, hl0, s0, g0⟩ := open_fils h0
 obtain ⟨a1, n1, c1, rfl⟩ := okWide_slice Tryz.underlying23 (hval 1 23 v1 rfl rfl)
 have k1 := h1
 have lt1 : ∀ x ∈ p1, x.block < W.heap.size := by obtain ⟨m, hm⟩ := k1; exact DataW.trod_lt m _ _ _ hm
 obtain ⟨l1, rfl, hl1, s1, g1⟩ := open_vecs h1
 clear hA0 hval0
 refine (law_TopAll a0 c0 l0 a1 c1 l1 W hl0 hl1 s0 s1).mono fun e W' ⟨he, bel⟩ => ?_
 subst he
 exact ⟨_, rfl, _, _, _, [], _, [], hW', trodAll_mk1 (shut_bool Tryz.underlying4 _), (trodAll_cons_mk (Below.trod laidOut (by kernel_rfl) (of_decide_eq_true (by kernel_rfl)) k0 bel lt0) (trodAll_cons_mk (Below.trod laidOut (by kernel_rfl) (of_decide_eq_true (by kernel_rfl)) k1 bel lt1) trodAll_mk0)), rfl, Below.frame bel _, fun h => by cases h⟩
theorem over : Rows.topAllRow.holds Tryz.pinned (OpenSpec.ofChange Rows.topAllSpec) :=
 OpenClaim.holds_of_wide 7 Tryz.f7 rfl rfl rfl rfl rfl rfl rfl ⟨rfl, rfl, rfl, rfl, rfl⟩ rfl rfl rfl rfl rfl (by kernel_rfl) Tryz.func7 (by kernel_rfl)
  (of_decide_eq_true (by kernel_rfl)) (by unfold Func.isWrapper; first | (rw [if_pos (by decide +kernel)]; kernel_rfl) | (rw [if_neg (by decide +kernel)]; exact ⟨rfl, rfl⟩))
  (fun os started H enc _ => lifted os started H enc)
end TopAllProof
theorem topAll_holds : Rows.TopAllSaid := TopAllProof.over
#print axioms topAll_holds
end Go.Proofs.YtngbfdogiciahaaGreat
