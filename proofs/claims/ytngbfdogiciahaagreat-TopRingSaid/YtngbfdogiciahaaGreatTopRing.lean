/- THE LAW TopRing: sites that want all, and ask each other round, twice, have the same. The conditions are the statement's own. -/
import Derived.Test.YtngbfdogiciahaaGreatShort
import Derived.Test.YtngbfdogiciahaaGreatRows
import Derived.Test.YtngbfdogiciahaaGreatJoinTopI
import Derived.Test.YtngbfdogiciahaaGreatJoinShelfF
namespace Go.Proofs.YtngbfdogiciahaaGreat
open Go Go.RowKit
theorem Sl.ptrC {B : Nat} {w : World} {A : Option Addr} {l : List Nat} (h : SlPtrs B w A l) {i : Nat} (hi : i < l.length) : ∃ b off, A = some ⟨b, off, none⟩ ∧ ∀ w', Chg B [159] w w' → w'.cell? ⟨b, off + i, none⟩ = some (.pointer (some ⟨l[i], 0, none⟩)) := by
 obtain ⟨b, off, u, h1, _, h3, h4⟩ := h.cellC (ts := [159]) (by decide) hi
 injection h3 with h3 _
 exact ⟨b, off, h1, fun w' x => h3 ▸ h4 w' x⟩
theorem Sl.three {α : Type} {R : World → List Value → α → Prop} {B : Nat} {e : TypeId} {w : World} {b : Nat} {u0 u1 u2 : Value} {x y z : α} (h : Blk w b e #[u0, u1, u2]) (h0 : R w [u0] x) (h1 : R w [u1] y) (h2 : R w [u2] z) : Sl B e R 1 w (some ⟨b, 0, none⟩) [x, y, z] := by
 intro i q hq
 have hl : i < 3 := (List.getElem?_eq_some_iff.1 hq).1
 have hc : ∀ (j : Nat) (u : Value), (#[u0, u1, u2] : Array Value)[j]? = some u → CellsAt w b (0 + j * 1) [u] := by
  intro j u hu o v hv
  match o, hv with
  | 0, hv =>
   injection hv with hv
   subst hv
   rw [Nat.mul_one, Nat.zero_add, Nat.add_zero]
   exact h.cell hu
 obtain rfl | rfl | rfl : i = 0 ∨ i = 1 ∨ i = 2 := by omega
 ·injection hq with hq; subst hq; exact ⟨b, 0, [u0], rfl, h.lt, .inr h.ty, rfl, hc 0 u0 rfl, h0⟩
 ·injection hq with hq; subst hq; exact ⟨b, 0, [u1], rfl, h.lt, .inr h.ty, rfl, hc 1 u1 rfl, h1⟩
 ·injection hq with hq; subst hq; exact ⟨b, 0, [u2], rfl, h.lt, .inr h.ty, rfl, hc 2 u2 rfl, h2⟩
theorem ring_idx {k : Nat} (h : k < 4) : ∃ (a4 a3 : Int) (jj : Nat), IntKind.i64.wrap ((k : Int) + 4) = a4 ∧ IntKind.i64.wrap (a4 - 1) = a3 ∧ a3.tmod 4 = (jj : Int) ∧ jj = (k + 3) % 4 ∧ jj < 4 ∧ (jj : Int) < 4 := by
 refine ⟨(k : Int) + 4, (k : Int) + 3, (k + 3) % 4, ?_, ?_, ?_, rfl, by omega, by omega⟩
 ·rw [IntKind.wrap_i64]; omega
 ·rw [IntKind.wrap_i64]; omega
 ·rw [Int.tmod_eq_emod_of_nonneg (by omega)]; omega
set_option maxRecDepth 100000 in
set_option maxHeartbeats 20000000 in
theorem law_TopRing (Al : Option Addr) (cl : Nat) (l : List (List Int)) (w : World) (hlc2 : l.length ≤ cl) (hl0 : SlVecs w.heap.size w Al l) :
  Calls Tryz.prog 4 #[.slice Al l.length cl] w fun e w' => e = .returned (.bool true) ∧ Ext w w' := by
 obtain ⟨B, hBd⟩ : ∃ B, B = w.heap.size := ⟨_, rfl⟩
 rw [← hBd] at hl0
 have HB := hid (Nat.le_of_eq hBd)
 have HBD := hid hBd
 have HL0 := hid hl0
 have HLC2 := hid hlc2
 clear hBd hlc2 hl0
 go_enter Tryz.func4, Tryz.ntmps4
 go_wp2_with fail
 refine (top_begun B w HB.out).mono ?_
 rintro e w1 ⟨rfl, hx⟩
 go_wp2_with fail
 refine (filter_Every B w1 (Nat.le_trans HB.out hx.size)).mono ?_
 rintro e wa ⟨va, rfl, ⟨Aa, ca, rfl, la, ma, hva⟩, hxa⟩
 replace hx := hx.trans hxa
 clear hxa
 obtain ⟨E, hE⟩ : ∃ E, E = everyF := ⟨_, rfl⟩
 rw [← hE] at la hva ⊢
 go_wp2_with fail
 refine (filter_Every B wa (Nat.le_trans HB.out hx.size)).mono ?_
 rw [← hE]
 rintro e wb ⟨vb, rfl, ⟨Ab, cb, rfl, lb, mb, hvb⟩, hxb⟩
 replace hx := hx.trans hxb
 replace hva := hva.ext RBox.monoE hxb
 clear hxb
 go_wp2_with fail
 refine (filter_Every B wb (Nat.le_trans HB.out hx.size)).mono ?_
 rw [← hE]
 rintro e wd ⟨vd, rfl, ⟨Ad, cd, rfl, ld, md, hvd⟩, hxd⟩
 replace hx := hx.trans hxd
 replace hva := hva.ext RBox.monoE hxd
 replace hvb := hvb.ext RBox.monoE hxd
 clear hxd
 have hxl := (Ext.refl wd).alloc (.cells #[.slice Aa E.length ca, .slice Ab E.length cb, .slice Ad E.length cd] 30)
 have hsf : SlFils B (wd.alloc (.cells #[.slice Aa E.length ca, .slice Ab E.length cb, .slice Ad E.length cd] 30)) (some ⟨wd.heap.size, 0, none⟩) [E, E, E] := Sl.three (Blk.new wd 30 #[.slice Aa E.length ca, .slice Ab E.length cb, .slice Ad E.length cd]) ⟨_, rfl, Aa, ca, rfl, la, ma, hva.ext RBox.monoE hxl⟩ ⟨_, rfl, Ab, cb, rfl, lb, mb, hvb.ext RBox.monoE hxl⟩ ⟨_, rfl, Ad, cd, rfl, ld, md, hvd.ext RBox.monoE hxl⟩
 replace hx := hx.trans hxl
 have HEV := hid hE
 clear la ma hva lb mb hvb ld md hvd hxl hE
 go_wp2_with fail
 obtain ⟨F, hF⟩ : ∃ F, F = [E, E, E] := ⟨_, rfl⟩
 rw [← hF] at hsf
 have HF3 := hid (show F.length = 3 by rw [hF]; rfl)
 have HFE := hid (show ∀ f ∈ F, f = everyF by rw [hF, ← HEV.out]; simp)
 clear hF
 have HFOK := hid (show ∀ f ∈ F, filterCheck f = 0 from fun f hf => by rw [HFE.out f hf]; exact everyF_ok)
 have hk3 : (3 : Nat) = F.length := HF3.out.symm
 rw [hk3]
 clear hk3
 refine (top_sites B _ F.length F _ (Nat.le_trans HB.out hx.size) (Nat.le_of_eq HF3.out) HFOK.out hsf).mono ?_
 rintro e w3 ⟨v3, rs, rfl, ⟨As, cs, rfl, s1, s2, hss⟩, hS, hx3⟩
 have HSF := hid (hsf.ext RBoxes.monoE hx3)
 replace hx := hx.trans hx3
 have hrl : rs.length = 4 := by rw [hS.len, freshL_len]; simp [HF3.out]
 have HRL := hid hrl
 have HCS := hid s1
 clear hx3 hsf s1 s2 hrl
 obtain ⟨Fok, hFk⟩ : ∃ Fok : Nat → List Box → Prop, Fok = fun _ f => AllF f := ⟨_, rfl⟩
 have HFK := hid hFk
 have HI0 := hid (show TopI Fok 0 (freshL (F ++ [everyF])) by
  refine topI_new (by simp [HF3.out]) (fun f hf => (List.mem_append.1 hf).elim (HFOK.out f) fun h => by rw [List.mem_singleton.1 h]; exact everyF_ok) fun i f hf => ?_
  rw [hFk]
  have hm := List.mem_of_getElem? hf
  rw [show f = everyF from (List.mem_append.1 hm).elim (HFE.out f) fun h => List.mem_singleton.1 h]
  exact allF_every)
 have HFIN := hid (show ∀ (i : Nat) (f : List Box), i < F.length → f ∈ F → Fok i (plainF f) by
  intro i f _ hf
  rw [hFk, HFE.out f hf]
  exact allF_every)
 have HX3 := hid hx
 clear hFk
 go_wp2_with fail
 refine (top_played Fok B As cs rs _ F.length F Al cl l (freshL (F ++ [everyF])) w3 (Nat.le_trans HB.out hx.size) (by rw [HRL.out]; omega) (by rw [HF3.out]; omega) HLC2.out HFOK.out HFIN.out hss HSF.out (HL0.out.ext RVec.monoE hx) hS HI0.out).mono ?_
 clear hx hS
 rintro e w4 ⟨hr, hc⟩
 have HSS := hid (hss.chg RPtr.mono (by decide) hc)
 clear hss
 obtain ⟨L, rfl, hS, hI⟩ | rfl := hr
 case inr =>
  go_wp2_with fail
  go_ret
  exact ⟨rfl, ((Chg.of_ext HX3.out).trans hc).ext (Nat.le_of_eq HBD.out.symm)⟩
 obtain ⟨M, H, hJ⟩ := hI
 have hLl : L.length = 4 := by rw [← hS.len]; exact HRL.out
 have HI1 := hid (show L.length = 4 ∧ TopJ Fok 40 M H L ∧ RInv H L 0 0 from ⟨hLl, hJ, rinv_zero⟩)
 clear hJ hLl
 replace hc := (Chg.of_ext HX3.out).trans hc
 have HPT := hid (fun (k : Nat) (hk : k < rs.length) => Sl.ptrC HSS.out hk)
 obtain ⟨bs, os, hA, _⟩ := Sl.ptrC HSS.out (i := 0) (by rw [HRL.out]; omega)
 subst hA
 have HP := hid (fun (k : Nat) (hk : k < rs.length) (w' : World) (x : Chg B [159] w4 w') => show w'.cell? ⟨bs, os + k, none⟩ = some (.pointer (some ⟨rs[k], 0, none⟩)) by
  obtain ⟨b', o', h1, h2⟩ := HPT.out k hk
  injection h1 with h1
  injection h1 with h1 h1'
  subst h1 h1'
  exact h2 w' x)
 clear HPT
 have HC4 := hid hc
 have hcs4 : (1 : Int) ≤ (cs : Int) := by have := HCS.out; have := HRL.out; omega
 have hcs5 : (4 : Int) ≤ (cs : Int) := by have := HCS.out; have := HRL.out; omega
 clear hc
 rw [HRL.out]
 go_wp2_with fail
 go_loopw [36] (fun i wr => ∃ (k : Nat) (L : List SiteS), k ≤ 2 ∧ i = .int .i64 k ∧ Sites B wr rs L ∧ Hid (L.length = 4 ∧ TopJ Fok 40 M H L ∧ RInv H L k 0) ∧ Chg B [159] w4 wr) (fun i _ => 2 - (intOf i).toNat)
 case atStart => exact ⟨0, L, Nat.zero_le _, rfl, hS, HI1, Chg.refl _⟩
 case round =>
  clear hS HI1 L
  obtain ⟨r, L, hk, rfl, hS, HI, hx⟩ := hrel
  by_cases hlt : r < 2
  ·have HR2 := hid hlt
   have hri : (r : Int) < 2 := by omega
   go_wp2_with fail
   obtain ⟨wc, hwc⟩ : ∃ wc, wc = wr := ⟨_, rfl⟩
   rw [← hwc]
   rw [← hwc] at hS hx
   clear hwc hk
   go_loopw [40] (fun i wr => ∃ (k : Nat) (L : List SiteS), k ≤ 4 ∧ i = .int .i64 k ∧ Sites B wr rs L ∧ Hid (L.length = 4 ∧ TopJ Fok 40 M H L ∧ RInv H L r k) ∧ Chg B [159] w4 wr) (fun i _ => 4 - (intOf i).toNat)
   case atStart => exact ⟨0, L, Nat.zero_le _, rfl, hS, HI, hx⟩
   case round =>
    clear hS HI L hx
    obtain ⟨k, L, hk, rfl, hS, HI, hx⟩ := hrel
    by_cases hlt4 : k < 4
    ·have HK4 := hid hlt4
     have hk4 : (k : Int) < 4 := by omega
     have hw1 : wrap64 ((k : Int) + 1) = ((k + 1 : Nat) : Int) := by unfold wrap64; omega
     obtain ⟨a4, a3, jj, hA, hB, hC, hjj, hj4n, hj4⟩ := ring_idx hlt4
     have HJJ := hid hjj
     have HJ4 := hid hj4n
     clear hjj hj4n
     obtain ⟨rk, hrk⟩ : ∃ r, rs[k]? = some r := ⟨_, List.getElem?_eq_getElem (by rw [HRL.out]; exact hlt4)⟩
     obtain ⟨rj, hrj⟩ : ∃ r, rs[jj]? = some r := ⟨_, List.getElem?_eq_getElem (by rw [HRL.out]; exact HJ4.out)⟩
     obtain ⟨sk, hsk⟩ : ∃ s, L[k]? = some s := ⟨_, List.getElem?_eq_getElem (by rw [HI.out.1]; exact hlt4)⟩
     obtain ⟨sj, hsj⟩ : ∃ s, L[jj]? = some s := ⟨_, List.getElem?_eq_getElem (by rw [HI.out.1]; exact HJ4.out)⟩
     have HIS := hid (hS.at_ k rk sk hrk hsk)
     have HJS := hid (hS.at_ jj rj sj hrj hsj)
     have HQ := hid (topJ_ask HI.out.2.1 (by decide) hsk hsj)
     have HSW := hid hS
     have HGK := hid (And.intro hrk (And.intro hsk hsj))
     have HBW := hid (show B ≤ wr.heap.size from Nat.le_trans HB.out ((Chg.trans HC4.out hx).size))
     have HALLF := hid (show AllF sk.filter by have := (HI.out.2.1.inv k sk hsk).2.2.2; rw [HFK.out] at this; exact this)
     have HAll := hid (fun w' (x : Fr rk wr w') => show w'.cell? ⟨bs, os + k, none⟩ = some (.pointer (some ⟨rk, 0, none⟩)) ∧ w'.cell? ⟨bs, os + jj, none⟩ = some (.pointer (some ⟨rj, 0, none⟩)) from by
      have h1 := HP.out k (by rw [HRL.out]; exact HK4.out) w' (hx.trans (x.chg HIS.out.2.ty HIS.out.1))
      have h2 := HP.out jj (by rw [HRL.out]; exact HJ4.out) w' (hx.trans (x.chg HIS.out.2.ty HIS.out.1))
      rw [(List.getElem?_eq_some_iff.1 HGK.out.1).2] at h1
      rw [(List.getElem?_eq_some_iff.1 hrj).2] at h2
      exact ⟨h1, h2⟩)
     clear hS hrk hrj hsk hsj hk
     go_wp2_with fail
     have hyn := (Ext.refl wr).drew
     refine wp_region_held_drew (S := fun w' => w'.cell? ⟨bs, os + k, none⟩ = some (.pointer (some ⟨rk, 0, none⟩)) ∧ w'.cell? ⟨bs, os + jj, none⟩ = some (.pointer (some ⟨rj, 0, none⟩))) (by kernel_rfl) (HAll.out _ (Fr.of_ext hyn)) (fun hHeld => ?_)
     obtain ⟨wc, hwc⟩ : ∃ wc, wc = wr.drew := ⟨_, rfl⟩
     rw [← hwc] at hHeld hyn ⊢
     clear hwc
     refine tk 0 ?_ rfl (by kernel_rfl) (fun _ _ _ h => h) (by rfl) ?_ (by assumption) ?_
     rotate_left
     ·intro w' hSw; (try dsimp only at hSw); go_simp <;> with_reducible rfl
     simp only [gq]; try simp only [pq]
     refine tk 1 ?_ rfl (by kernel_rfl) (fun _ _ _ h => h) (by rfl) ?_ (by assumption) ?_
     rotate_left
     ·intro w' hSw; (try dsimp only at hSw); go_simp <;> with_reducible rfl
     simp only [gq]; try simp only [pq]
     refine tk 2 ?_ rfl (by kernel_rfl) (fun _ _ _ h => h) (by rfl) ?_ (by assumption) ?_
     rotate_left
     ·intro w' hSw; (try dsimp only at hSw); go_simp <;> with_reducible rfl
     simp only [gq]; try simp only [pq]
     refine tk 3 ?_ rfl (by kernel_rfl) (fun _ _ _ h => h) (by rfl) ?_ (by assumption) ?_
     rotate_left
     ·intro w' hSw; (try dsimp only at hSw); go_simp <;> with_reducible rfl
     simp only [gq]; try simp only [pq]
     refine tk 4 ?_ rfl (by kernel_rfl) (fun _ _ _ h => h) (by rfl) ?_ (by assumption) ?_
     rotate_left
     ·intro w' hSw; (try dsimp only at hSw); go_simp <;> with_reducible rfl
     simp only [gq]; try simp only [pq]
     refine tk 5 ?_ rfl (by kernel_rfl) (fun _ _ _ h => h) (by rfl) ?_ (by assumption) ?_
     rotate_left
     ·intro w' hSw; (try dsimp only at hSw); go_simp <;> with_reducible rfl
     simp only [gq]; try simp only [pq]
     refine tk 6 ?_ rfl (by kernel_rfl) (fun _ _ _ h => h) (by rfl) ?_ (by assumption) ?_
     rotate_left
     ·intro w' hSw; (try dsimp only at hSw); go_simp <;> with_reducible rfl
     simp only [gq]; try simp only [pq]
     refine tk 7 ?_ rfl (by kernel_rfl) (fun _ _ _ h => h) (by rfl) ?_ (by assumption) ?_
     rotate_left
     ·intro w' hSw; (try dsimp only at hSw); go_simp <;> with_reducible rfl
     simp only [gq]; try simp only [pq]
     refine tk 8 ?_ rfl (by kernel_rfl) (fun _ _ _ h => h) (by rfl) ?_ (by assumption) ?_
     rotate_left
     ·intro w' hSw; (try dsimp only at hSw); go_simp <;> with_reducible rfl
     simp only [gq]; try simp only [pq]
     try simp only [hA, hB, hC, Int.toNat_natCast]
     try simp only [pq]
     refine tk 9 ?_ rfl (by kernel_rfl) (fun _ _ _ h => h) (by rfl) ?_ (by assumption) ?_
     rotate_left
     ·intro w' hSw; (try dsimp only at hSw); go_simp <;> with_reducible rfl
     simp only [gq]; try simp only [pq]
     try simp only [hA, hB, hC, Int.toNat_natCast]
     try simp only [pq]
     refine tk 10 ?_ rfl (by kernel_rfl) (fun _ _ _ h => h) (by rfl) ?_ (by assumption) ?_
     rotate_left
     ·intro w' hSw; (try dsimp only at hSw); go_simp <;> with_reducible rfl
     simp only [gq]; try simp only [pq]
     refine tk 11 ?_ rfl (by kernel_rfl) (fun _ _ _ h => h) (by rfl) ?_ (by assumption) ?_
     rotate_left
     ·intro w' hSw; (try dsimp only at hSw); go_simp <;> with_reducible rfl
     simp only [gq]; try simp only [pq]
     refine tk 12 ?_ rfl (by kernel_rfl) (fun _ _ _ h => h) (by rfl) ?_ (by assumption) ?_
     rotate_left
     ·intro w' hSw; (try dsimp only at hSw); go_simp <;> with_reducible rfl
     simp only [gq]; try simp only [pq]
     try simp only [hA, hB, hC, Int.toNat_natCast]
     try simp only [pq]
     refine tk 13 ?_ rfl (by kernel_rfl) (fun _ _ _ h => h) (by rfl) ?_ (by assumption) ?_
     rotate_left
     ·intro w' hSw; (try dsimp only at hSw); go_simp <;> with_reducible rfl
     simp only [gq]; try simp only [pq]
     try simp only [hA, hB, hC, Int.toNat_natCast]
     try simp only [pq]
     refine tk 14 ?_ rfl (by kernel_rfl) (fun _ _ _ h => h) (by rfl) ?_ (by assumption) ?_
     rotate_left
     ·intro w' hSw; (try dsimp only at hSw); go_simp <;> with_reducible rfl
     simp only [gq]; try simp only [pq]
     refine wpAnyH_ready (rs := [15]) (by kernel_rfl) (by simp) ?_
     refine AllReadyH.cons rfl (fun K hK => ?_) AllReadyH.nil
     simp only [gq]
     go_simp
     refine (top_asked B rk rj sk sj wc (Nat.le_trans HBW.out hyn.size) HIS.out.1 HQ.out.1 HQ.out.2.1 (HIS.out.2.ext hyn) (HJS.out.2.ext hyn) HQ.out.2.2.1 HQ.out.2.2.2.1).mono ?_
     rintro e wn ⟨rfl, hsn, hfm⟩
     dsimp only
     have hfr := (Fr.of_ext hyn).trans hfm
     clear hyn hfm
     obtain ⟨wc, rfl⟩ : ∃ wc', wc' = wn := ⟨_, rfl⟩
     refine hK.out _ _ (HAll.out _ hfr) (fun hHeld => ?_)
     clear hK K
     try simp only [pq]
     refine tk 16 ?_ rfl (by kernel_rfl) (fun _ _ _ h => h) (by rfl) ?_ (by assumption) ?_
     rotate_left
     ·intro w' hSw; (try dsimp only at hSw); go_simp <;> with_reducible rfl
     simp only [gq]; try simp only [pq]
     refine tk 17 ?_ rfl (by kernel_rfl) (fun _ _ _ h => h) (by rfl) ?_ (by assumption) ?_
     rotate_left
     ·intro w' hSw; (try dsimp only at hSw); go_simp <;> with_reducible rfl
     simp only [gq]; try simp only [pq]
     refine tk 18 ?_ rfl (by kernel_rfl) (fun _ _ _ h => h) (by rfl) ?_ (by assumption) ?_
     rotate_left
     ·intro w' hSw; (try dsimp only at hSw); go_simp <;> with_reducible rfl
     simp only [gq]; try simp only [pq]
     refine tk 19 ?_ rfl (by kernel_rfl) (fun _ _ _ h => h) (by rfl) ?_ (by assumption) ?_
     rotate_left
     ·intro w' hSw; (try dsimp only at hSw); go_simp <;> with_reducible rfl
     simp only [gq]; try simp only [pq]
     refine tk 20 ?_ rfl (by kernel_rfl) (fun _ _ _ h => h) (by rfl) ?_ (by assumption) ?_
     rotate_left
     ·intro w' hSw; (try dsimp only at hSw); go_simp <;> with_reducible rfl
     simp only [gq]; try simp only [pq]
     refine wpAnyH_done (by kernel_rfl) ?_ _
     clear hHeld HAll
     have hxn := hx.trans (hfr.chg HIS.out.2.ty HIS.out.1)
     obtain ⟨E, hE⟩ : ∃ E, E = takeErr sk (giveB sj (askS sk)) := ⟨_, rfl⟩
     have HEE := hid hE
     rw [← hE]
     clear hE
     obtain rfl | rfl : E = 0 ∨ E = 2 := by rw [HEE.out]; exact HQ.out.2.2.2.2
     ·go_wp2_with fail
      go_roundw
      case rel => exact ⟨k + 1, L.set k (takeS sk (giveB sj (askS sk))), HK4.out, by first | rw [hw1] | rfl, HSW.out.set HGK.out.1 HGK.out.2.1 hfr hsn, hid ⟨by rw [List.length_set]; exact HI.out.1, (HI.out.2.1.asked HGK.out.2.1 HGK.out.2.2).1, rinv_step HI.out.2.1 HR2.out HI.out.2.2 HK4.out HJJ.out HGK.out.2.1 HGK.out.2.2 HALLF.out HEE.out.symm⟩, hxn⟩
      case measure => (try rw [hw1]); have := HK4.out; simp [intOf]; omega
     ·go_wp2_with fail
      go_ret
      exact ⟨rfl, ((HC4.out).trans hxn).ext (Nat.le_of_eq HBD.out.symm)⟩
    ·obtain rfl : k = 4 := Nat.le_antisymm hk (Nat.le_of_not_lt hlt4)
     have HIN := hid (rinv_next HI.out.2.1 HI.out.1 HR2.out HI.out.2.2)
     go_wp2_with fail
     go_roundw
     case rel => exact ⟨r + 1, L, HR2.out, by first | rfl | go_num, hS, hid ⟨HI.out.1, HI.out.2.1, HIN.out⟩, hx⟩
     case measure => simp [intOf]; omega
  ·obtain rfl : r = 2 := by omega
   have HFA := hid (HI.out.2.2.all (Nat.le_refl _))
   clear hlt hk
   go_wp2_with fail
   obtain ⟨r0, hr0⟩ : ∃ q, rs[0]? = some q := ⟨_, List.getElem?_eq_getElem (by rw [HRL.out]; omega)⟩
   obtain ⟨t0, ht0⟩ : ∃ s, L[0]? = some s := ⟨_, List.getElem?_eq_getElem (by rw [HI.out.1]; omega)⟩
   have HG0 := hid (And.intro hr0 ht0)
   clear hr0 ht0
   obtain ⟨wc, hwc⟩ : ∃ wc, wc = wr := ⟨_, rfl⟩
   rw [← hwc]
   rw [← hwc] at hS hx
   clear hwc
   try rw [show ((2 : Nat) : Int) = 2 from rfl]
   go_loopw [70] (fun i wr => ∃ (k : Nat), k ≤ 3 ∧ i = .int .i64 k ∧ Sites B wr rs L ∧ Chg B [159] w4 wr) (fun i _ => 3 - (intOf i).toNat)
   case atStart => exact ⟨0, Nat.zero_le _, rfl, hS, hx⟩
   case round =>
    clear hS hx
    obtain ⟨k, hk, rfl, hS, hx⟩ := hrel
    have hw1 : wrap64 ((k : Int) + 1) = ((k + 1 : Nat) : Int) := by unfold wrap64; omega
    by_cases hlt : k < 3
    ·obtain ⟨rk, hrk⟩ : ∃ q, rs[k + 1]? = some q := ⟨_, List.getElem?_eq_getElem (by rw [HRL.out]; omega)⟩
     obtain ⟨t, ht⟩ : ∃ s, L[k + 1]? = some s := ⟨_, List.getElem?_eq_getElem (by rw [HI.out.1]; omega)⟩
     have HIS := hid (hS.at_ (k + 1) rk t hrk ht)
     have HJS := hid (hS.at_ 0 r0 t0 HG0.out.1 HG0.out.2)
     have HOT := hid (show SiteOk t ∧ SiteOk t0 ∧ t.shelf = t0.shelf from ⟨(HI.out.2.1.inv _ t ht).1.ok, (HI.out.2.1.inv _ t0 HG0.out.2).1.ok, full_same HI.out.2.1 ht HG0.out.2 (HFA.out _ t ht) (HFA.out _ t0 HG0.out.2)⟩)
     have HSW := hid hS
     have HBW := hid (show B ≤ wr.heap.size from Nat.le_trans HB.out ((Chg.trans HC4.out hx).size))
     have hki : (k : Int) < 3 := by omega
     have pk := HP.out (k + 1) (by rw [HRL.out]; omega) wr hx
     rw [(List.getElem?_eq_some_iff.1 hrk).2, show os + (k + 1) = os + 1 + k by omega] at pk
     have HAll := hid (fun w' (x : Ext wr w') => show w'.cell? ⟨bs, os, none⟩ = some (.pointer (some ⟨r0, 0, none⟩)) by
      have h1 := HP.out 0 (by rw [HRL.out]; omega) w' (hx.trans (Chg.of_ext x))
      rw [(List.getElem?_eq_some_iff.1 HG0.out.1).2] at h1
      exact h1)
     clear hS hrk ht
     go_wp2_with fail
     clear pk
     have hyn := (Ext.refl wr).drew
     refine wp_region_held_drew (S := fun w' => w'.cell? ⟨bs, os, none⟩ = some (.pointer (some ⟨r0, 0, none⟩))) (by kernel_rfl) (HAll.out _ hyn) (fun hHeld => ?_)
     obtain ⟨wc, hwc⟩ : ∃ wc, wc = wr.drew := ⟨_, rfl⟩
     rw [← hwc] at hHeld hyn ⊢
     clear hwc
     refine tk 0 ?_ rfl (by kernel_rfl) (fun _ _ _ h => h) (by rfl) ?_ (by assumption) ?_
     rotate_left
     ·intro w' hSw; (try dsimp only at hSw); go_simp <;> with_reducible rfl
     simp only [gq]; try simp only [pq]
     refine tk 2 ?_ rfl (by kernel_rfl) (fun _ _ _ h => h) (by rfl) ?_ (by assumption) ?_
     rotate_left
     ·intro w' hSw; (try dsimp only at hSw); go_simp <;> with_reducible rfl
     simp only [gq]; try simp only [pq]
     refine tk 3 ?_ rfl (by kernel_rfl) (fun _ _ _ h => h) (by rfl) ?_ (by assumption) ?_
     rotate_left
     ·intro w' hSw; (try dsimp only at hSw); go_simp <;> with_reducible rfl
     simp only [gq]; try simp only [pq]
     refine tk 4 ?_ rfl (by kernel_rfl) (fun _ _ _ h => h) (by rfl) ?_ (by assumption) ?_
     rotate_left
     ·intro w' hSw; (try dsimp only at hSw); go_simp <;> with_reducible rfl
     simp only [gq]; try simp only [pq]
     refine wpAnyH_ready (rs := [1]) (by kernel_rfl) (by simp) ?_
     refine AllReadyH.cons rfl (fun K hK => ?_) AllReadyH.nil
     simp only [gq]
     go_simp
     refine (site_Shelf B rk t wc (Nat.le_trans HBW.out hyn.size) HOT.out.1 (HIS.out.2.ext hyn)).mono ?_
     rintro e wn ⟨v6, rfl, ⟨A6, c6, rfl, -, -, hv6⟩, hxa⟩
     dsimp only
     replace hyn := hyn.trans hxa
     clear hxa
     obtain ⟨wc, rfl⟩ : ∃ wc', wc' = wn := ⟨_, rfl⟩
     refine hK.out _ _ (HAll.out _ hyn) (fun hHeld => ?_)
     clear hK K
     try simp only [pq]
     refine wpAnyH_ready (rs := [5]) (by kernel_rfl) (by simp) ?_
     refine AllReadyH.cons rfl (fun K hK => ?_) AllReadyH.nil
     simp only [gq]
     go_simp
     refine (site_Shelf B r0 t0 wc (Nat.le_trans HBW.out hyn.size) HOT.out.2.1 (HJS.out.2.ext hyn)).mono ?_
     rw [← HOT.out.2.2]
     rintro e wn ⟨v7, rfl, ⟨A7, c7, rfl, -, -, hv7⟩, hxa⟩
     dsimp only
     replace hyn := hyn.trans hxa
     replace hv6 := hv6.ext RVer.monoE hxa
     clear hxa
     obtain ⟨wc, rfl⟩ : ∃ wc', wc' = wn := ⟨_, rfl⟩
     refine hK.out _ _ (HAll.out _ hyn) (fun hHeld => ?_)
     clear hK K
     try simp only [pq]
     refine wpAnyH_ready (rs := [6]) (by kernel_rfl) (by simp) ?_
     refine AllReadyH.cons rfl (fun K hK => ?_) AllReadyH.nil
     simp only [gq]
     go_simp
     refine (ref_SameShelf B B A6 c6 A7 c7 t.shelf wc (by have := HOT.out.1.shelf.len; unfold maxLen; omega) hv6 hv7).mono ?_
     rintro e wn ⟨rfl, hxa⟩
     dsimp only
     replace hyn := hyn.trans hxa
     clear hxa hv6 hv7
     obtain ⟨wc, rfl⟩ : ∃ wc', wc' = wn := ⟨_, rfl⟩
     refine hK.out _ _ (HAll.out _ hyn) (fun hHeld => ?_)
     clear hK K
     try simp only [pq]
     refine tk 7 ?_ rfl (by kernel_rfl) (fun _ _ _ h => h) (by rfl) ?_ (by assumption) ?_
     rotate_left
     ·intro w' hSw; (try dsimp only at hSw); go_simp <;> with_reducible rfl
     simp only [gq]; try simp only [pq]
     refine wpAnyH_done (by kernel_rfl) ?_ _
     clear hHeld HAll
     go_wp2_with fail
     go_roundw
     case rel => exact ⟨k + 1, by omega, by first | rw [hw1] | rfl, HSW.out.ext hyn, hx.trans (Chg.of_ext hyn)⟩
     case measure => (try rw [hw1]); simp [intOf]; omega
    ·obtain rfl : k = 3 := by omega
     go_wp2_with fail
     go_ret
     exact ⟨rfl, ((HC4.out).trans hx).ext (Nat.le_of_eq HBD.out.symm)⟩
namespace TopRingProof
open Go.ChangeShapes Go.WideShapes Go.ChangeAt Go.Joins
set_option maxRecDepth 100000 in
theorem lifted (os : Os) (started : os.Started) (H : Type) (enc : TypeId × Value → H) :
  ReturnsInHanded {} Tryz.checked os 4 .any (Rows.topRingSpec.pre6 enc Tryz.prog Tryz.f4 Rows.topRingRow.domain false) (Rows.topRingSpec.post enc Tryz.prog Tryz.f4 false true false false) := by
 refine returnsInHanded_of_change (C := Tryz.checked) own started (by kernel_rfl) Tryz.func4
  (ChangeSpec.witness6 (enc := enc) (C := Tryz.checked) false ⟨#[], #[.slice none 0 0], []⟩ 8 (by kernel_rfl) (by kernel_rfl) (by kernel_rfl) (by kernel_rfl)) ?_
 intro W base args ds gs before hval0 hW hcnd _
 have hval : ∀ (j : Nat) t v, Tryz.f4.params[j]? = some t → args[j]? = some v → Value.okWide Tryz.prog W .any base t v := hval0
 have hW' := hW
 obtain ⟨p, q, hA0, hV, rfl, hfz, hnd⟩ := hW
 have hA : DataW.TrodAll enc Tryz.prog W 0 (fun _ => true) true Tryz.f4.params.toList args.toList ds p := hA0
 rw [Tryz.params4] at hA hval
 obtain ⟨v0, vs0, d0, ds0, p0, q0, hargs, rfl, rfl, h0, r0⟩ := trodAll_cons hA
 obtain ⟨rfl, rfl, rfl⟩ := trodAll_nil r0
 obtain rfl : args = #[v0] := by cases args; simp_all
 obtain ⟨rfl, rfl⟩ := trodVars_none hV
 obtain ⟨a0, n0, c0, rfl⟩ := okWide_slice Tryz.underlying23 (hval 0 23 v0 rfl rfl)
 have k0 := h0
 have lt0 : ∀ x ∈ p0, x.block < W.heap.size := by obtain ⟨m, hm⟩ := k0; exact DataW.trod_lt m _ _ _ hm
 obtain ⟨l0, rfl, hl0, s0, g0⟩ := open_vecs h0
 clear hA0 hval0
 refine (law_TopRing a0 c0 l0 W hl0 s0).mono fun e W' ⟨he, bel⟩ => ?_
 subst he
 exact ⟨_, rfl, _, _, _, [], _, [], hW', trodAll_mk1 (shut_bool Tryz.underlying4 _), (trodAll_cons_mk (Below.trod laidOut (by kernel_rfl) (of_decide_eq_true (by kernel_rfl)) k0 bel lt0) trodAll_mk0), rfl, Below.frame bel _, fun h => by cases h⟩
theorem over : Rows.topRingRow.holds Tryz.pinned (OpenSpec.ofChange Rows.topRingSpec) :=
 OpenClaim.holds_of_wide 4 Tryz.f4 rfl rfl rfl rfl rfl rfl rfl ⟨rfl, rfl, rfl, rfl, rfl⟩ rfl rfl rfl rfl rfl (by kernel_rfl) Tryz.func4 (by kernel_rfl)
  (of_decide_eq_true (by kernel_rfl)) (by unfold Func.isWrapper; first | (rw [if_pos (by decide +kernel)]; kernel_rfl) | (rw [if_neg (by decide +kernel)]; exact ⟨rfl, rfl⟩))
  (fun os started H enc _ => lifted os started H enc)
end TopRingProof
theorem topRing_holds : Rows.TopRingSaid := TopRingProof.over
#print axioms topRing_holds
end Go.Proofs.YtngbfdogiciahaaGreat
