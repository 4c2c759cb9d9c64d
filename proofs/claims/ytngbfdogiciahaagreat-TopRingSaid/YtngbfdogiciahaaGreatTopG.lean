/- The walk of reedtop.played. -/
import Derived.Test.YtngbfdogiciahaaGreatShort
import Derived.Test.YtngbfdogiciahaaGreatJoinTopF
namespace Go.Proofs.YtngbfdogiciahaaGreat
open Go Go.RowKit
theorem Sl.cellC {α : Type} {B : Nat} {e : TypeId} {ts : List TypeId} {R : World → List Value → α → Prop} {w : World} {A : Option Addr} {l : List α} (he : e ∉ ts) (h : Sl B e R 1 w A l) {i : Nat} (hi : i < l.length) :
  ∃ b off u, A = some ⟨b, off, none⟩ ∧ b < w.heap.size ∧ R w [u] l[i] ∧ ∀ w', Chg B ts w w' → w'.cell? ⟨b, off + i, none⟩ = some u := by
 obtain ⟨b, off, cs, hA, hb, hk, hl, hc, hR⟩ := h i _ (List.getElem?_eq_getElem hi)
 match cs, hl with
 | [u], _ =>
  have h0 := hc 0 u rfl
  rw [Nat.mul_one, Nat.add_zero] at h0
  refine ⟨b, off, u, hA, hb, hR, fun w' x => x.cell ?_ h0⟩
  rcases hk with hk | hk
  ·exact .inl hk
  ·refine .inr fun t ht h2 => ?_
   rw [hk] at h2
   injection h2 with h2
   exact he (h2 ▸ ht)
theorem Sl.intC {B : Nat} {w : World} {A : Option Addr} {l : List Int} (h : SlInts B w A l) {i : Nat} (hi : i < l.length) : ∃ b off, A = some ⟨b, off, none⟩ ∧ b < w.heap.size ∧ ∀ w', Chg B [159] w w' → w'.cell? ⟨b, off + i, none⟩ = some (.int .i64 l[i]) := by
 obtain ⟨b, off, u, h1, h2, h3, h4⟩ := h.cellC (ts := [159]) (by decide) hi
 injection h3 with h3 _
 exact ⟨b, off, h1, h2, fun w' x => h3 ▸ h4 w' x⟩
def wN (n m : Int) : Nat := (IntKind.u64.wrap n % m).toNat
theorem wN_lt (n : Int) {m : Nat} (h0 : 0 < m) : wN n (m : Int) < m := by
 unfold wN
 have h2 := Int.emod_nonneg (IntKind.u64.wrap n) (show ((m : Nat) : Int) ≠ 0 by omega)
 have h3 := Int.emod_lt_of_pos (IntKind.u64.wrap n) (show (0 : Int) < (m : Int) by omega)
 omega
theorem keep_within (n : Int) (m : Int) (h0 : 0 < m) (h1 : m ≤ 1000) (w : World) : Calls Tryz.prog 13 #[.int .i64 n, .int .i64 m] w fun e w' => e = .returned (.int .i64 (wN n m : Nat)) ∧ w' = w := by
 have hm0 : (m == 0) = false := by rw [beq_eq_false_iff_ne]; omega
 have hm1 : ¬ m = 0 := by omega
 have hw1 : IntKind.u64.wrap m = m := by rw [IntKind.wrap_u64]; omega
 obtain ⟨N, hN⟩ : ∃ N, N = IntKind.u64.wrap n := ⟨_, rfl⟩
 have HN := hid hN
 go_enter Tryz.func13, Tryz.ntmps13
 go_wp2_with fail
 go_ret
 have h2 := Int.emod_nonneg N hm1
 have h3 := Int.emod_lt_of_pos N h0
 have h4 : wrap64 (N % m) = N % m := by unfold wrap64; omega
 refine ⟨?_, rfl⟩
 have h5 : N.tmod m = N % m := Int.tmod_eq_emod_of_nonneg (by rw [HN.out, IntKind.wrap_u64]; omega)
 show Ending.returned (Value.int .i64 (wrap64 ((IntKind.u64.wrap n).tmod m))) = _
 unfold wN
 rw [← HN.out, h5, h4, Int.toNat_of_nonneg h2]
theorem Sl.filC {B : Nat} {w : World} {A : Option Addr} {l : List (List Box)} (h : SlFils B w A l) {i : Nat} (hi : i < l.length) : ∃ b off Af cf f, A = some ⟨b, off, none⟩ ∧ f ∈ l ∧ f.length ≤ maxLen ∧ SlBoxes B w Af f ∧ ∀ w', Chg B [159] w w' → w'.cell? ⟨b, off + i, none⟩ = some (.slice Af f.length cf) := by
 obtain ⟨b, off, u, h1, _, ⟨v, he, ⟨Af, cf, hv, h3, h4, h5⟩⟩, h6⟩ := h.cellC (ts := [159]) (by decide) hi
 injection he with he _
 exact ⟨b, off, Af, cf, l[i], h1, List.getElem_mem hi, Nat.le_trans h3 h4, h5, fun w' x => by rw [h6 w' x, he, hv]⟩
def nm : Nat → ByteArray
 | 0 => ⟨#[97]⟩
 | 1 => ⟨#[98]⟩
 | _ => ⟨#[99]⟩
def ptOf (x : Int) : Point := ⟨(wN x 16 : Nat), (wN (IntKind.i64.wrap (x.tdiv 3)) 32 : Nat)⟩
def bdOf (x : Int) : Int := (wN x 99 : Nat)
theorem ptOf_ok (x : Int) : pointOk (ptOf x) = true := by
 have h1 := show wN x 16 < 16 from wN_lt x (m := 16) (by decide)
 have h2 := show wN (IntKind.i64.wrap (x.tdiv 3)) 32 < 32 from wN_lt _ (m := 32) (by decide)
 exact pointOk_iff.2 ⟨show (0 : Int) ≤ ((wN x 16 : Nat) : Int) by omega, show ((wN x 16 : Nat) : Int) ≤ 15 by omega, show (0 : Int) ≤ ((wN (IntKind.i64.wrap (x.tdiv 3)) 32 : Nat) : Int) by omega, show ((wN (IntKind.i64.wrap (x.tdiv 3)) 32 : Nat) : Int) ≤ 31 by omega⟩
theorem bdOf_ok (x : Int) : bodyOk (bdOf x) = true := by
 have h1 := show wN x 99 < 99 from wN_lt x (m := 99) (by decide)
 show (decide (0 ≤ ((wN x 99 : Nat) : Int)) && decide (((wN x 99 : Nat) : Int) ≤ 1000000)) = true
 rw [decide_eq_true (show 0 ≤ ((wN x 99 : Nat) : Int) by omega), decide_eq_true (show ((wN x 99 : Nat) : Int) ≤ 1000000 by omega)]
 rfl
theorem nm_get {k : Nat} (h : k < 3) : (#[.string ⟨#[97]⟩, .string ⟨#[98]⟩, .string ⟨#[99]⟩] : Array Value)[k]? = some (.string (nm k)) := by
 obtain rfl | rfl | rfl : k = 0 ∨ k = 1 ∨ k = 2 := by omega
 all_goals rfl
theorem nm_ok (k : Nat) : idOk (nm k) = true ∧ (nm k).size ≤ maxLen := by
 unfold nm
 split <;> exact ⟨by decide +kernel, by decide +kernel⟩
theorem isSite_z8 {B : Nat} {w w' : World} {r b8 : Nat} {s : SiteS} (h : IsSite B w r s) (hok : SiteOk s) (z : Z8 B w w' b8) (hne : r ≠ b8) : IsSite B w' r s := by
 obtain ⟨Af, cf, Ax, cx, Ap, cp, h⟩ := h
 exact ⟨Af, cf, Ax, cx, Ap, cp, h.z8 hok z hne⟩
set_option maxRecDepth 100000 in
set_option maxHeartbeats 40000000 in
theorem top_played (Fok : Nat → List Box → Prop) (B : Nat) (As : Option Addr) (cs : Nat) (rs : List Nat) (Af : Option Addr) (cf : Nat) (fs : List (List Box)) (Al : Option Addr) (cl : Nat) (l : List (List Int)) (L : List SiteS) (w : World) (hB : B ≤ w.heap.size)
  (hn : 0 < rs.length ∧ rs.length ≤ 4) (hnf : 0 < fs.length ∧ fs.length ≤ 4) (hll : l.length ≤ cl) (hf : ∀ f ∈ fs, filterCheck f = 0) (hF : ∀ (i : Nat) (f : List Box), i < fs.length → f ∈ fs → Fok i (plainF f))
  (hss : SlPtrs B w As rs) (hsf : SlFils B w Af fs) (hsl : SlVecs B w Al l) (hS : Sites B w rs L) (hI : TopI Fok 0 L) :
  Calls Tryz.prog 25 #[.slice As rs.length cs, .slice Af fs.length cf, .slice Al l.length cl] w fun e w' => ((∃ L', e = .returned (.tuple #[.bool true, .bool false]) ∧ Sites B w' rs L' ∧ TopI Fok 40 L') ∨ e = .returned (.tuple #[.bool false, .bool true])) ∧ Chg B [159] w w' := by
 have HB := hid hB
 have HN := hid hn
 have HNF := hid hnf
 have HF := hid (And.intro hf hF)
 have hm0 : 0 ≤ min (l.length : Int) 40 := by omega
 have hm1 : min (l.length : Int) 40 ≤ (cl : Int) := by omega
 clear hf hF hB hn hnf
 go_enter Tryz.func25, Tryz.ntmps25
 go_wp2_with fail
 obtain ⟨T, hT⟩ : ∃ T, T = l.take 40 := ⟨_, rfl⟩
 have hll2 : T.length = min l.length 40 := by rw [hT, List.length_take]; omega
 rw [show (min (l.length : Int) 40).toNat = T.length by omega, show max (min (l.length : Int) 40) 0 = (T.length : Int) by omega]
 replace hsl : SlVecs B w Al T := hT ▸ hsl.take 40
 have HT40 := hid (show T.length ≤ 40 by omega)
 have HSS := hid hss
 have HSF := hid hsf
 have HSL := hid hsl
 have HI0 := hid hI
 clear hT hll2 hm0 hm1 hll hss hsf hsl hI
 go_loopw [22] (fun i wr => ∃ (k : Nat) (L : List SiteS), k ≤ T.length ∧ i = .int .i64 k ∧ Sites B wr rs L ∧ Hid (TopI Fok (k : Int) L) ∧ Chg B [159] w wr) (fun i _ => T.length - (intOf i).toNat)
 case atStart => exact ⟨0, L, Nat.zero_le _, rfl, hS, HI0, Chg.refl _⟩
 case round =>
  clear hS HI0 L
  obtain ⟨k, L, hk, rfl, hS, HI, hx⟩ := hrel
  have hw1 : wrap64 ((k : Int) + 1) = ((k + 1 : Nat) : Int) := by have := HT40.out; unfold wrap64; omega
  by_cases hlt : k < T.length
  ·obtain ⟨bl, ol, u, rfl, hbl, ⟨uv, hue, hvv⟩, hcell⟩ := (HSL.out).cellC (ts := [159]) (by decide) hlt
   obtain ⟨Ac, ccp, rfl, c1, c2, hcs⟩ := hvv
   injection hue with hue _
   subst hue
   have hl0 := hcell wr hx
   obtain ⟨cc, hcc⟩ : ∃ cc, cc = T[k] := ⟨_, rfl⟩
   rw [← hcc] at hcs hl0
   have HCS := hid hcs
   have HK := hid (And.intro hlt hk)
   have hbw := Nat.lt_of_lt_of_le hbl hx.size
   clear hcell hcc c1 c2 hcs hk
   by_cases h3 : cc.length < 3
   ·have hd : decide ((cc.length : Int) < 3) = true := decide_eq_true (by omega)
    clear h3
    go_wp2_with fail
    go_roundw
    case rel => exact ⟨k + 1, L, HK.out.1, by rw [hw1], hS, hid (HI.out.mono (by omega)), hx⟩
    case measure => rw [hw1]; have := HK.out.1; simp only [intOf, Int.toNat_natCast]; omega
   ·have hd : decide ((cc.length : Int) < 3) = false := decide_eq_false (by omega)
    have hc3 : 3 ≤ cc.length := by omega
    have hb0 : (0 : Int) < (cc.length : Int) := by omega
    have hb1 : (1 : Int) < (cc.length : Int) := by omega
    have hb2 : (2 : Int) < (cc.length : Int) := by omega
    clear h3
    obtain ⟨bc, oc, hA0, hbc, hc0⟩ := Sl.intC HCS.out (show 0 < cc.length by omega)
    obtain ⟨_, _, hA1, _, hc1⟩ := Sl.intC HCS.out (show 1 < cc.length by omega)
    obtain ⟨_, _, hA2, _, hc2⟩ := Sl.intC HCS.out (show 2 < cc.length by omega)
    rw [hA0] at hA1 hA2
    injection hA1 with hA1
    injection hA1 with hA1 hA1'
    injection hA2 with hA2
    injection hA2 with hA2 hA2'
    subst hA1 hA1' hA2 hA2' hA0
    have HC := hid (fun w' (x : Chg B [159] w w') => And.intro (hc0 w' x) (And.intro (hc1 w' x) (hc2 w' x)))
    clear hc0 hc1 hc2
    obtain ⟨x0, hx0⟩ : ∃ x, x = cc[0] := ⟨_, rfl⟩
    obtain ⟨x1, hx1⟩ : ∃ x, x = cc[1] := ⟨_, rfl⟩
    obtain ⟨x2, hx2⟩ : ∃ x, x = cc[2] := ⟨_, rfl⟩
    rw [← hx0, ← hx1, ← hx2, Nat.add_zero] at HC
    clear hx0 hx1 hx2
    have hii := wN_lt x1 HN.out.1
    have hjj := wN_lt x2 HN.out.1
    have HW1 := hid (fun w' => keep_within x1 (rs.length : Int) (by have := HN.out; omega) (by have := HN.out; omega) w')
    have HW2 := hid (fun w' => keep_within x2 (rs.length : Int) (by have := HN.out; omega) (by have := HN.out; omega) w')
    obtain ⟨ii, hid1⟩ : ∃ a, a = wN x1 (rs.length : Int) := ⟨_, rfl⟩
    obtain ⟨jj, hid2⟩ : ∃ a, a = wN x2 (rs.length : Int) := ⟨_, rfl⟩
    rw [← hid1] at hii HW1
    rw [← hid2] at hjj HW2
    clear hid1 hid2
    obtain ⟨ri, hri⟩ : ∃ r, rs[ii]? = some r := ⟨_, List.getElem?_eq_getElem hii⟩
    obtain ⟨rj, hrj⟩ : ∃ r, rs[jj]? = some r := ⟨_, List.getElem?_eq_getElem hjj⟩
    obtain ⟨si, hsi⟩ : ∃ s, L[ii]? = some s := ⟨_, List.getElem?_eq_getElem (by have := hS.len; omega)⟩
    obtain ⟨sj, hsj⟩ : ∃ s, L[jj]? = some s := ⟨_, List.getElem?_eq_getElem (by have := hS.len; omega)⟩
    have HIS := hid (hS.at_ ii ri si hri hsi)
    have HJS := hid (hS.at_ jj rj sj hrj hsj)
    obtain ⟨bs, os, us, rfl, hbs, hus, hcs⟩ := HSS.out.cellC (ts := [159]) (by decide) hii
    obtain ⟨_, _, ut, hA2, _, hut, hct⟩ := HSS.out.cellC (ts := [159]) (by decide) hjj
    injection hA2 with hA2
    injection hA2 with hA2 hA2'
    subst hA2 hA2'
    injection hus with hus _
    injection hut with hut _
    subst hus hut
    rw [(List.getElem?_eq_some_iff.1 hri).2] at hcs
    rw [(List.getElem?_eq_some_iff.1 hrj).2] at hct
    have HP := hid (fun w' (x : Chg B [159] w w') => And.intro (hcs w' x) (hct w' x))
    have HFR := hid (fun w' (x : Fr ri wr w') => hx.trans (x.chg HIS.out.2.ty HIS.out.1))
    have HX := hid hx
    have HBW := hid (Nat.le_trans HB.out hx.size)
    have HOKI := hid (show SiteOk si by obtain ⟨M, H, h⟩ := HI.out; exact (h.inv ii si hsi).1.ok)
    have HSI := hid (And.intro hri (And.intro hrj (And.intro hsi hsj)))
    have HSW := hid hS
    have HAll := hid (fun w' (x : Fr ri wr w') => show w'.cell? ⟨bc, oc + 1, none⟩ = some (.int .i64 x1) ∧ w'.cell? ⟨bc, oc + 2, none⟩ = some (.int .i64 x2) from (HC.out w' (HFR.out w' x)).2)
    clear hcs hct hri hrj hsi hsj hS hx
    go_wp2_with fail
    have hyn := (Ext.refl wr).drew
    refine wp_region_held_drew (S := fun w' => w'.cell? ⟨bc, oc + 1, none⟩ = some (.int .i64 x1) ∧ w'.cell? ⟨bc, oc + 2, none⟩ = some (.int .i64 x2)) (by kernel_rfl) (HAll.out _ (Fr.of_ext hyn)) (fun hHeld => ?_)
    obtain ⟨wc, hwc⟩ : ∃ wc, wc = wr.drew := ⟨_, rfl⟩
    rw [← hwc] at hHeld hyn ⊢
    clear hwc
    refine tk 0 ?_ rfl (by kernel_rfl) (fun _ _ _ h => h) (by rfl) ?_ (by assumption) ?_
    rotate_left
    ·intro w' hSw; (try dsimp only at hSw); go_simp <;> with_reducible rfl
    simp only [gq]; try simp only [pq]
    refine tk 1 ?_ rfl (by kernel_rfl) (fun _ _ _ h => h) (by rfl) ?_ (by assumption) ?_
    rotate_left
    ·intro w' hSw; (try dsimp only at hSw); go_simp <;> with_reducible rfl
    simp only [gq]; try simp only [pq]
    refine tk 2 ?_ rfl (by kernel_rfl) (fun _ _ _ h => h) (by rfl) ?_ (by assumption) ?_
    rotate_left
    ·intro w' hSw; (try dsimp only at hSw); go_simp <;> with_reducible rfl
    simp only [gq]; try simp only [pq]
    refine tk 3 ?_ rfl (by kernel_rfl) (fun _ _ _ h => h) (by rfl) ?_ (by assumption) ?_
    rotate_left
    ·intro w' hSw; (try dsimp only at hSw); go_simp <;> with_reducible rfl
    simp only [gq]; try simp only [pq]
    refine tk 4 ?_ rfl (by kernel_rfl) (fun _ _ _ h => h) (by rfl) ?_ (by assumption) ?_
    rotate_left
    ·intro w' hSw; (try dsimp only at hSw); go_simp <;> with_reducible rfl
    simp only [gq]; try simp only [pq]
    refine wpAnyC_call (i := 5) Tryz.call13 rfl (by kernel_rfl) (by kernel_rfl) (by kernel_rfl) (fun _ _ _ h => h) (by rfl) (fun w' _ => HW1.out w') (by assumption) ?_
    try simp only [pq]
    refine tk 6 ?_ rfl (by kernel_rfl) (fun _ _ _ h => h) (by rfl) ?_ (by assumption) ?_
    rotate_left
    ·intro w' hSw; (try dsimp only at hSw); go_simp <;> with_reducible rfl
    simp only [gq]; try simp only [pq]
    refine tk 7 ?_ rfl (by kernel_rfl) (fun _ _ _ h => h) (by rfl) ?_ (by assumption) ?_
    rotate_left
    ·intro w' hSw; (try dsimp only at hSw); go_simp <;> with_reducible rfl
    simp only [gq]; try simp only [pq]
    refine tk 8 ?_ rfl (by kernel_rfl) (fun _ _ _ h => h) (by rfl) ?_ (by assumption) ?_
    rotate_left
    ·intro w' hSw; (try dsimp only at hSw); go_simp <;> with_reducible rfl
    simp only [gq]; try simp only [pq]
    refine tk 9 ?_ rfl (by kernel_rfl) (fun _ _ _ h => h) (by rfl) ?_ (by assumption) ?_
    rotate_left
    ·intro w' hSw; (try dsimp only at hSw); go_simp <;> with_reducible rfl
    simp only [gq]; try simp only [pq]
    refine tk 10 ?_ rfl (by kernel_rfl) (fun _ _ _ h => h) (by rfl) ?_ (by assumption) ?_
    rotate_left
    ·intro w' hSw; (try dsimp only at hSw); go_simp <;> with_reducible rfl
    simp only [gq]; try simp only [pq]
    refine wpAnyC_call (i := 11) Tryz.call13 rfl (by kernel_rfl) (by kernel_rfl) (by kernel_rfl) (fun _ _ _ h => h) (by rfl) (fun w' _ => HW2.out w') (by assumption) ?_
    try simp only [pq]
    refine tk 12 ?_ rfl (by kernel_rfl) (fun _ _ _ h => h) (by rfl) ?_ (by assumption) ?_
    rotate_left
    ·intro w' hSw; (try dsimp only at hSw); go_simp <;> with_reducible rfl
    simp only [gq]; try simp only [pq]
    refine tk 13 ?_ rfl (by kernel_rfl) (fun _ _ _ h => h) (by rfl) ?_ (by assumption) ?_
    rotate_left
    ·intro w' hSw; (try dsimp only at hSw); go_simp <;> with_reducible rfl
    simp only [gq]; try simp only [pq]
    refine wpAnyH_done (by kernel_rfl) ?_ _
    clear hHeld HAll
    have h0c := (HC.out wc (HFR.out wc (Fr.of_ext hyn))).1
    go_wp2_with fail
    refine (keep_within x0 5 (by decide) (by decide) wc).mono ?_
    rintro e w1 ⟨rfl, rfl⟩
    have hq5 := show wN x0 5 < 5 from wN_lt x0 (m := 5) (by decide)
    obtain ⟨q, hq⟩ : ∃ q, q = wN x0 5 := ⟨_, rfl⟩
    rw [← hq] at hq5 ⊢
    clear hq h0c
    obtain hq | hq | rfl : (q = 0 ∨ q = 1) ∨ (q = 2 ∨ q = 3) ∨ q = 4 := by omega
    ·obtain rfl | rfl := hq
     all_goals
      have HYN0 := hid hyn
      have hx3 := show wN x2 3 < 3 from wN_lt x2 (m := 3) (by decide)
      have hx3i : ((wN x2 3 : Nat) : Int) < 3 := by omega
      have HAll := hid (fun w' (x : Fr ri wr w') => show w'.cell? ⟨bs, os + ii, none⟩ = some (.pointer (some ⟨ri, 0, none⟩)) ∧ w'.cell? ⟨bc, oc + 2, none⟩ = some (.int .i64 x2) from And.intro (HP.out w' (HFR.out w' x)).1 (HC.out w' (HFR.out w' x)).2.2)
      clear hyn
      go_wp2_with fail
      have hyn := HYN0.out.trans (Ext.refl w1).drew
      refine wp_region_held_drew (S := fun w' => w'.cell? ⟨bs, os + ii, none⟩ = some (.pointer (some ⟨ri, 0, none⟩)) ∧ w'.cell? ⟨bc, oc + 2, none⟩ = some (.int .i64 x2)) (by kernel_rfl) (HAll.out _ (Fr.of_ext hyn)) (fun hHeld => ?_)
      obtain ⟨wc, hwc⟩ : ∃ wc, wc = w1.drew := ⟨_, rfl⟩
      rw [← hwc] at hHeld hyn ⊢
      clear hwc
      refine tk 0 ?_ rfl (by kernel_rfl) (fun _ _ _ h => h) (by rfl) ?_ (by assumption) ?_
      rotate_left
      ·intro w' hSw; (try dsimp only at hSw); go_simp <;> with_reducible rfl
      simp only [gq]; try simp only [pq]
      refine tk 1 ?_ rfl (by kernel_rfl) (fun _ _ _ h => h) (by rfl) ?_ (by assumption) ?_
      rotate_left
      ·intro w' hSw; (try dsimp only at hSw); go_simp <;> with_reducible rfl
      simp only [gq]; try simp only [pq]
      refine tk 2 ?_ rfl (by kernel_rfl) (fun _ _ _ h => h) (by rfl) ?_ (by assumption) ?_
      rotate_left
      ·intro w' hSw; (try dsimp only at hSw); go_simp <;> with_reducible rfl
      simp only [gq]; try simp only [pq]
      refine tk 3 ?_ rfl (by kernel_rfl) (fun _ _ _ h => h) (by rfl) ?_ (by assumption) ?_
      rotate_left
      ·intro w' hSw; (try dsimp only at hSw); go_simp <;> with_reducible rfl
      simp only [gq]; try simp only [pq]
      refine tk 5 ?_ rfl (by kernel_rfl) (fun _ _ _ h => h) (by rfl) ?_ (by assumption) ?_
      rotate_left
      ·intro w' hSw; (try dsimp only at hSw); go_simp <;> with_reducible rfl
      simp only [gq]; try simp only [pq]
      refine tk 6 ?_ rfl (by kernel_rfl) (fun _ _ _ h => h) (by rfl) ?_ (by assumption) ?_
      rotate_left
      ·intro w' hSw; (try dsimp only at hSw); go_simp <;> with_reducible rfl
      simp only [gq]; try simp only [pq]
      refine tk 7 ?_ rfl (by kernel_rfl) (fun _ _ _ h => h) (by rfl) ?_ (by assumption) ?_
      rotate_left
      ·intro w' hSw; (try dsimp only at hSw); go_simp <;> with_reducible rfl
      simp only [gq]; try simp only [pq]
      refine wpAnyC_call (i := 8) Tryz.call13 rfl (by kernel_rfl) (by kernel_rfl) (by kernel_rfl) (fun _ _ _ h => h) (by rfl) (fun w' _ => keep_within _ 3 (by decide) (by decide) w') (by assumption) ?_
      try simp only [pq]
      refine tk 11 ?_ rfl (by kernel_rfl) (fun _ _ _ h => h) (by rfl) ?_ (by assumption) ?_
      rotate_left
      ·intro w' hSw; (try dsimp only at hSw); go_simp <;> with_reducible rfl
      simp only [gq]; try simp only [pq]
      refine tk 12 ?_ rfl (by kernel_rfl) (fun _ _ _ h => h) (by rfl) ?_ (by assumption) ?_
      rotate_left
      ·intro w' hSw; (try dsimp only at hSw); go_simp <;> with_reducible rfl
      simp only [gq]; try simp only [pq]
      refine tk 13 ?_ rfl (by kernel_rfl) (fun _ _ _ h => h) (by rfl) ?_ (by assumption) ?_
      rotate_left
      ·intro w' hSw; (try dsimp only at hSw); go_simp <;> with_reducible rfl
      simp only [gq]; try simp only [pq]
      refine wpAnyC_call (i := 14) Tryz.call13 rfl (by kernel_rfl) (by kernel_rfl) (by kernel_rfl) (fun _ _ _ h => h) (by rfl) (fun w' _ => keep_within _ 16 (by decide) (by decide) w') (by assumption) ?_
      try simp only [pq]
      refine tk 15 ?_ rfl (by kernel_rfl) (fun _ _ _ h => h) (by rfl) ?_ (by assumption) ?_
      rotate_left
      ·intro w' hSw; (try dsimp only at hSw); go_simp <;> with_reducible rfl
      simp only [gq]; try simp only [pq]
      refine tk 16 ?_ rfl (by kernel_rfl) (fun _ _ _ h => h) (by rfl) ?_ (by assumption) ?_
      rotate_left
      ·intro w' hSw; (try dsimp only at hSw); go_simp <;> with_reducible rfl
      simp only [gq]; try simp only [pq]
      refine tk 17 ?_ rfl (by kernel_rfl) (fun _ _ _ h => h) (by rfl) ?_ (by assumption) ?_
      rotate_left
      ·intro w' hSw; (try dsimp only at hSw); go_simp <;> with_reducible rfl
      simp only [gq]; try simp only [pq]
      refine tk 18 ?_ rfl (by kernel_rfl) (fun _ _ _ h => h) (by rfl) ?_ (by assumption) ?_
      rotate_left
      ·intro w' hSw; (try dsimp only at hSw); go_simp <;> with_reducible rfl
      simp only [gq]; try simp only [pq]
      refine wpAnyC_call (i := 19) Tryz.call13 rfl (by kernel_rfl) (by kernel_rfl) (by kernel_rfl) (fun _ _ _ h => h) (by rfl) (fun w' _ => keep_within _ 32 (by decide) (by decide) w') (by assumption) ?_
      try simp only [pq]
      refine tk 20 ?_ rfl (by kernel_rfl) (fun _ _ _ h => h) (by rfl) ?_ (by assumption) ?_
      rotate_left
      ·intro w' hSw; (try dsimp only at hSw); go_simp <;> with_reducible rfl
      simp only [gq]; try simp only [pq]
      refine tk 21 ?_ rfl (by kernel_rfl) (fun _ _ _ h => h) (by rfl) ?_ (by assumption) ?_
      rotate_left
      ·intro w' hSw; (try dsimp only at hSw); go_simp <;> with_reducible rfl
      simp only [gq]; try simp only [pq]
      refine tk 22 ?_ rfl (by kernel_rfl) (fun _ _ _ h => h) (by rfl) ?_ (by assumption) ?_
      rotate_left
      ·intro w' hSw; (try dsimp only at hSw); go_simp <;> with_reducible rfl
      simp only [gq]; try simp only [pq]
      refine tk 23 ?_ rfl (by kernel_rfl) (fun _ _ _ h => h) (by rfl) ?_ (by assumption) ?_
      rotate_left
      ·intro w' hSw; (try dsimp only at hSw); go_simp <;> with_reducible rfl
      simp only [gq]; try simp only [pq]
      refine wpAnyC_call (i := 24) Tryz.call13 rfl (by kernel_rfl) (by kernel_rfl) (by kernel_rfl) (fun _ _ _ h => h) (by rfl) (fun w' _ => keep_within _ 99 (by decide) (by decide) w') (by assumption) ?_
      try simp only [pq]
      refine wpAnyH_ready (rs := [4, 29]) (by kernel_rfl) (by simp) ?_
      refine AllReadyH.cons rfl (fun K hK => ?_) ?_
      ·simp only [gq]
       go_simp
       have hb4 := Blk.new wc 9 #[.string ⟨#[97]⟩, .string ⟨#[98]⟩, .string ⟨#[99]⟩]
       have hxa := (Ext.refl wc).alloc (.cells #[.string ⟨#[97]⟩, .string ⟨#[98]⟩, .string ⟨#[99]⟩] 9)
       have hge4 := hyn.size
       replace hyn := hyn.trans hxa
       obtain ⟨wn, hwn⟩ : ∃ wn, wn = wc.alloc (.cells #[.string ⟨#[97]⟩, .string ⟨#[98]⟩, .string ⟨#[99]⟩] 9) := ⟨_, rfl⟩
       obtain ⟨b4, hbd⟩ : ∃ b, b = wc.heap.size := ⟨_, rfl⟩
       rw [← hwn] at hb4 hyn
       rw [← hwn, ← hbd]
       rw [← hbd] at hb4 hge4
       clear hxa hwn hbd
       obtain ⟨wc, rfl⟩ : ∃ wc', wc' = wn := ⟨_, rfl⟩
       refine hK.out _ _ (HAll.out _ (Fr.of_ext hyn)) (fun hHeld => ?_)
       clear hK K
       try simp only [pq]
       refine tk 9 ?_ rfl (by kernel_rfl) (fun _ _ _ h => h) (by rfl) ?_ (by assumption) ?_
       rotate_left
       ·intro w' hSw; (try dsimp only at hSw); go_simp <;> with_reducible rfl
       simp only [gq]; try simp only [pq]
       refine wpAnyH_ready (rs := [10, 29]) (by kernel_rfl) (by simp) ?_
       refine AllReadyH.cons rfl (fun K hK => ?_) ?_
       ·simp only [gq]
        have y4 := hb4.cell (nm_get hx3)
        go_simp
        clear y4 hb4
        refine hK.out _ _ (HAll.out _ (Fr.of_ext hyn)) (fun hHeld => ?_)
        clear hK K
        try simp only [pq]
        refine wpAnyH_ready (rs := [25, 29]) (by kernel_rfl) (by simp) ?_
        refine AllReadyH.cons rfl (fun K hK => ?_) ?_
        ·simp only [gq]
         go_simp
         refine (site_Make B ri si (nm (wN x2 3)) (ptOf x2) (bdOf x2) wc (Nat.le_trans HBW.out hyn.size) HIS.out.1 HOKI.out (nm_ok _).2 (HIS.out.2.ext hyn)).mono ?_
         rintro e wn ⟨rfl, hsn, hfm⟩
         dsimp only
         have hfr := (Fr.of_ext hyn).trans hfm
         clear hyn hfm
         obtain ⟨wc, rfl⟩ : ∃ wc', wc' = wn := ⟨_, rfl⟩
         refine hK.out _ _ (HAll.out _ hfr) (fun hHeld => ?_)
         clear hK K
         try simp only [pq]
         refine tk 26 ?_ rfl (by kernel_rfl) (fun _ _ _ h => h) (by rfl) ?_ (by assumption) ?_
         rotate_left
         ·intro w' hSw; (try dsimp only at hSw); go_simp <;> with_reducible rfl
         simp only [gq]; try simp only [pq]
         refine tk 27 ?_ rfl (by kernel_rfl) (fun _ _ _ h => h) (by rfl) ?_ (by assumption) ?_
         rotate_left
         ·intro w' hSw; (try dsimp only at hSw); go_simp <;> with_reducible rfl
         simp only [gq]; try simp only [pq]
         refine tk 28 ?_ rfl (by kernel_rfl) (fun _ _ _ h => h) (by rfl) ?_ (by assumption) ?_
         rotate_left
         ·intro w' hSw; (try dsimp only at hSw); go_simp <;> with_reducible rfl
         simp only [gq]; try simp only [pq]
         refine wpAnyH_ready (rs := [29]) (by kernel_rfl) (by simp) ?_
         refine AllReadyH.cons rfl (fun K hK => ?_) AllReadyH.nil
         simp only [gq]
         go_simp
         have hb29 := Blk.new wc 35 #[.int .i64 0, .int .i64 0]
         have hxa := (Ext.refl wc).alloc (.cells #[.int .i64 0, .int .i64 0] 35)
         have hge29 := hfr.size
         replace hfr := hfr.trans (Fr.of_ext hxa)
         replace hsn := hsn.ext hxa
         obtain ⟨wn, hwn⟩ : ∃ wn, wn = wc.alloc (.cells #[.int .i64 0, .int .i64 0] 35) := ⟨_, rfl⟩
         obtain ⟨b29, hbd⟩ : ∃ b, b = wc.heap.size := ⟨_, rfl⟩
         rw [← hwn] at hb29 hfr hsn
         rw [← hwn, ← hbd]
         rw [← hbd] at hb29 hge29
         clear hxa hwn hbd
         obtain ⟨wc, rfl⟩ : ∃ wc', wc' = wn := ⟨_, rfl⟩
         refine hK.out _ _ (HAll.out _ hfr) (fun hHeld => ?_)
         clear hK K
         try simp only [pq]
         refine wpAnyH_ready (rs := [30]) (by kernel_rfl) (by simp) ?_
         refine AllReadyH.cons rfl (fun K hK => ?_) AllReadyH.nil
         simp only [gq]
         have y0 := hb29.cell (i := 0) (u := .int .i64 0) rfl
         have y1 := hb29.cell (i := 1) (u := .int .i64 0) rfl
         have z0 := hb29.frozen 0
         have z1 := hb29.frozen 1
         go_simp
         have hz := fr_two hfr hge29 (.int .i64 (makeDot si (nm (wN x2 3)) (ptOf x2) (bdOf x2)).site) (.int .i64 (makeDot si (nm (wN x2 3)) (ptOf x2) (bdOf x2)).count)
         have hs2 := (isSite_z8 hsn (makeS_ok HOKI.out _ _ _) (z8_two hb29 (Nat.le_trans HBW.out hge29) (.int .i64 (makeDot si (nm (wN x2 3)) (ptOf x2) (bdOf x2)).site) (.int .i64 (makeDot si (nm (wN x2 3)) (ptOf x2) (bdOf x2)).count)) (by have := HIS.out.2.lt; omega))
         clear y0 y1 z0 z1
         obtain ⟨wn, hwn⟩ : ∃ wn, wn = (wc.setCell ⟨b29, 0, none⟩ (.int .i64 (makeDot si (nm (wN x2 3)) (ptOf x2) (bdOf x2)).site)).setCell ⟨b29, 1, none⟩ (.int .i64 (makeDot si (nm (wN x2 3)) (ptOf x2) (bdOf x2)).count) := ⟨_, rfl⟩
         rw [← hwn] at hz hs2 ⊢
         clear hwn hfr hsn hb29
         refine hK.out _ _ (HAll.out _ hz) (fun hHeld => ?_)
         clear hK K
         try simp only [pq]
         refine tk 31 ?_ rfl (by kernel_rfl) (fun _ _ _ h => h) (by rfl) ?_ (by assumption) ?_
         rotate_left
         ·intro w' hSw; (try dsimp only at hSw); go_simp <;> with_reducible rfl
         simp only [gq]; try simp only [pq]
         refine wpAnyH_done (by kernel_rfl) ?_ _
         clear hHeld HAll
         have HMK := hid (topI_make HI.out HSI.out.2.2.1 (nm (wN x2 3)) (ptOf x2) (bdOf x2) (nm_ok _).1 (ptOf_ok _) (bdOf_ok _))
         obtain ⟨E, hE⟩ : ∃ E, E = makeErr si (nm (wN x2 3)) (ptOf x2) (bdOf x2) := ⟨_, rfl⟩
         have HEE := hid hE
         rw [← hE]
         clear hE
         obtain rfl | rfl : E = 0 ∨ E = 2 := by rw [HEE.out]; exact HMK.out.2
         all_goals
          go_wp2_with fail
          go_roundw
          case rel => exact ⟨k + 1, L.set ii (makeS si (nm (wN x2 3)) (ptOf x2) (bdOf x2)), HK.out.1, by rw [hw1], HSW.out.set HSI.out.1 HSI.out.2.2.1 hz hs2, hid (HMK.out.1.mono (by omega)), HFR.out _ hz⟩
          case measure => rw [hw1]; have := HK.out.1; simp only [intOf, Int.toNat_natCast]; omega
        refine AllReadyH.cons rfl (fun K hK => ?_) AllReadyH.nil
        simp only [gq]
        go_simp
        have hb29 := Blk.new wc 35 #[.int .i64 0, .int .i64 0]
        have hxa := (Ext.refl wc).alloc (.cells #[.int .i64 0, .int .i64 0] 35)
        have hge29 := hyn.size
        replace hyn := hyn.trans hxa
        obtain ⟨wn, hwn⟩ : ∃ wn, wn = wc.alloc (.cells #[.int .i64 0, .int .i64 0] 35) := ⟨_, rfl⟩
        obtain ⟨b29, hbd⟩ : ∃ b, b = wc.heap.size := ⟨_, rfl⟩
        rw [← hwn] at hb29 hyn
        rw [← hwn, ← hbd]
        rw [← hbd] at hb29 hge29
        clear hxa hwn hbd
        obtain ⟨wc, rfl⟩ : ∃ wc', wc' = wn := ⟨_, rfl⟩
        refine hK.out _ _ (HAll.out _ (Fr.of_ext hyn)) (fun hHeld => ?_)
        clear hK K
        try simp only [pq]
        refine wpAnyH_ready (rs := [25]) (by kernel_rfl) (by simp) ?_
        refine AllReadyH.cons rfl (fun K hK => ?_) AllReadyH.nil
        simp only [gq]
        go_simp
        refine (site_Make B ri si (nm (wN x2 3)) (ptOf x2) (bdOf x2) wc (Nat.le_trans HBW.out hyn.size) HIS.out.1 HOKI.out (nm_ok _).2 (HIS.out.2.ext hyn)).mono ?_
        rintro e wn ⟨rfl, hsn, hfm⟩
        dsimp only
        have hfr := (Fr.of_ext hyn).trans hfm
        replace hb29 := hfm.blkO hb29 (by have := HIS.out.2.lt; omega)
        clear hyn hfm
        obtain ⟨wc, rfl⟩ : ∃ wc', wc' = wn := ⟨_, rfl⟩
        refine hK.out _ _ (HAll.out _ hfr) (fun hHeld => ?_)
        clear hK K
        try simp only [pq]
        refine tk 26 ?_ rfl (by kernel_rfl) (fun _ _ _ h => h) (by rfl) ?_ (by assumption) ?_
        rotate_left
        ·intro w' hSw; (try dsimp only at hSw); go_simp <;> with_reducible rfl
        simp only [gq]; try simp only [pq]
        refine tk 27 ?_ rfl (by kernel_rfl) (fun _ _ _ h => h) (by rfl) ?_ (by assumption) ?_
        rotate_left
        ·intro w' hSw; (try dsimp only at hSw); go_simp <;> with_reducible rfl
        simp only [gq]; try simp only [pq]
        refine tk 28 ?_ rfl (by kernel_rfl) (fun _ _ _ h => h) (by rfl) ?_ (by assumption) ?_
        rotate_left
        ·intro w' hSw; (try dsimp only at hSw); go_simp <;> with_reducible rfl
        simp only [gq]; try simp only [pq]
        refine wpAnyH_ready (rs := [30]) (by kernel_rfl) (by simp) ?_
        refine AllReadyH.cons rfl (fun K hK => ?_) AllReadyH.nil
        simp only [gq]
        have y0 := hb29.cell (i := 0) (u := .int .i64 0) rfl
        have y1 := hb29.cell (i := 1) (u := .int .i64 0) rfl
        have z0 := hb29.frozen 0
        have z1 := hb29.frozen 1
        go_simp
        have hz := fr_two hfr hge29 (.int .i64 (makeDot si (nm (wN x2 3)) (ptOf x2) (bdOf x2)).site) (.int .i64 (makeDot si (nm (wN x2 3)) (ptOf x2) (bdOf x2)).count)
        have hs2 := (isSite_z8 hsn (makeS_ok HOKI.out _ _ _) (z8_two hb29 (Nat.le_trans HBW.out hge29) (.int .i64 (makeDot si (nm (wN x2 3)) (ptOf x2) (bdOf x2)).site) (.int .i64 (makeDot si (nm (wN x2 3)) (ptOf x2) (bdOf x2)).count)) (by have := HIS.out.2.lt; omega))
        clear y0 y1 z0 z1
        obtain ⟨wn, hwn⟩ : ∃ wn, wn = (wc.setCell ⟨b29, 0, none⟩ (.int .i64 (makeDot si (nm (wN x2 3)) (ptOf x2) (bdOf x2)).site)).setCell ⟨b29, 1, none⟩ (.int .i64 (makeDot si (nm (wN x2 3)) (ptOf x2) (bdOf x2)).count) := ⟨_, rfl⟩
        rw [← hwn] at hz hs2 ⊢
        clear hwn hfr hsn hb29
        refine hK.out _ _ (HAll.out _ hz) (fun hHeld => ?_)
        clear hK K
        try simp only [pq]
        refine tk 31 ?_ rfl (by kernel_rfl) (fun _ _ _ h => h) (by rfl) ?_ (by assumption) ?_
        rotate_left
        ·intro w' hSw; (try dsimp only at hSw); go_simp <;> with_reducible rfl
        simp only [gq]; try simp only [pq]
        refine wpAnyH_done (by kernel_rfl) ?_ _
        clear hHeld HAll
        have HMK := hid (topI_make HI.out HSI.out.2.2.1 (nm (wN x2 3)) (ptOf x2) (bdOf x2) (nm_ok _).1 (ptOf_ok _) (bdOf_ok _))
        obtain ⟨E, hE⟩ : ∃ E, E = makeErr si (nm (wN x2 3)) (ptOf x2) (bdOf x2) := ⟨_, rfl⟩
        have HEE := hid hE
        rw [← hE]
        clear hE
        obtain rfl | rfl : E = 0 ∨ E = 2 := by rw [HEE.out]; exact HMK.out.2
        all_goals
         go_wp2_with fail
         go_roundw
         case rel => exact ⟨k + 1, L.set ii (makeS si (nm (wN x2 3)) (ptOf x2) (bdOf x2)), HK.out.1, by rw [hw1], HSW.out.set HSI.out.1 HSI.out.2.2.1 hz hs2, hid (HMK.out.1.mono (by omega)), HFR.out _ hz⟩
         case measure => rw [hw1]; have := HK.out.1; simp only [intOf, Int.toNat_natCast]; omega
       refine AllReadyH.cons rfl (fun K hK => ?_) AllReadyH.nil
       simp only [gq]
       go_simp
       have hb29 := Blk.new wc 35 #[.int .i64 0, .int .i64 0]
       have hxa := (Ext.refl wc).alloc (.cells #[.int .i64 0, .int .i64 0] 35)
       have hge29 := hyn.size
       replace hyn := hyn.trans hxa
       replace hb4 := hb4.ext hxa
       obtain ⟨wn, hwn⟩ : ∃ wn, wn = wc.alloc (.cells #[.int .i64 0, .int .i64 0] 35) := ⟨_, rfl⟩
       obtain ⟨b29, hbd⟩ : ∃ b, b = wc.heap.size := ⟨_, rfl⟩
       rw [← hwn] at hb29 hyn hb4
       rw [← hwn, ← hbd]
       rw [← hbd] at hb29 hge29
       clear hxa hwn hbd
       obtain ⟨wc, rfl⟩ : ∃ wc', wc' = wn := ⟨_, rfl⟩
       refine hK.out _ _ (HAll.out _ (Fr.of_ext hyn)) (fun hHeld => ?_)
       clear hK K
       try simp only [pq]
       refine wpAnyH_ready (rs := [10]) (by kernel_rfl) (by simp) ?_
       refine AllReadyH.cons rfl (fun K hK => ?_) AllReadyH.nil
       simp only [gq]
       have y4 := hb4.cell (nm_get hx3)
       go_simp
       clear y4 hb4
       refine hK.out _ _ (HAll.out _ (Fr.of_ext hyn)) (fun hHeld => ?_)
       clear hK K
       try simp only [pq]
       refine wpAnyH_ready (rs := [25]) (by kernel_rfl) (by simp) ?_
       refine AllReadyH.cons rfl (fun K hK => ?_) AllReadyH.nil
       simp only [gq]
       go_simp
       refine (site_Make B ri si (nm (wN x2 3)) (ptOf x2) (bdOf x2) wc (Nat.le_trans HBW.out hyn.size) HIS.out.1 HOKI.out (nm_ok _).2 (HIS.out.2.ext hyn)).mono ?_
       rintro e wn ⟨rfl, hsn, hfm⟩
       dsimp only
       have hfr := (Fr.of_ext hyn).trans hfm
       replace hb29 := hfm.blkO hb29 (by have := HIS.out.2.lt; omega)
       clear hyn hfm
       obtain ⟨wc, rfl⟩ : ∃ wc', wc' = wn := ⟨_, rfl⟩
       refine hK.out _ _ (HAll.out _ hfr) (fun hHeld => ?_)
       clear hK K
       try simp only [pq]
       refine tk 26 ?_ rfl (by kernel_rfl) (fun _ _ _ h => h) (by rfl) ?_ (by assumption) ?_
       rotate_left
       ·intro w' hSw; (try dsimp only at hSw); go_simp <;> with_reducible rfl
       simp only [gq]; try simp only [pq]
       refine tk 27 ?_ rfl (by kernel_rfl) (fun _ _ _ h => h) (by rfl) ?_ (by assumption) ?_
       rotate_left
       ·intro w' hSw; (try dsimp only at hSw); go_simp <;> with_reducible rfl
       simp only [gq]; try simp only [pq]
       refine tk 28 ?_ rfl (by kernel_rfl) (fun _ _ _ h => h) (by rfl) ?_ (by assumption) ?_
       rotate_left
       ·intro w' hSw; (try dsimp only at hSw); go_simp <;> with_reducible rfl
       simp only [gq]; try simp only [pq]
       refine wpAnyH_ready (rs := [30]) (by kernel_rfl) (by simp) ?_
       refine AllReadyH.cons rfl (fun K hK => ?_) AllReadyH.nil
       simp only [gq]
       have y0 := hb29.cell (i := 0) (u := .int .i64 0) rfl
       have y1 := hb29.cell (i := 1) (u := .int .i64 0) rfl
       have z0 := hb29.frozen 0
       have z1 := hb29.frozen 1
       go_simp
       have hz := fr_two hfr hge29 (.int .i64 (makeDot si (nm (wN x2 3)) (ptOf x2) (bdOf x2)).site) (.int .i64 (makeDot si (nm (wN x2 3)) (ptOf x2) (bdOf x2)).count)
       have hs2 := (isSite_z8 hsn (makeS_ok HOKI.out _ _ _) (z8_two hb29 (Nat.le_trans HBW.out hge29) (.int .i64 (makeDot si (nm (wN x2 3)) (ptOf x2) (bdOf x2)).site) (.int .i64 (makeDot si (nm (wN x2 3)) (ptOf x2) (bdOf x2)).count)) (by have := HIS.out.2.lt; omega))
       clear y0 y1 z0 z1
       obtain ⟨wn, hwn⟩ : ∃ wn, wn = (wc.setCell ⟨b29, 0, none⟩ (.int .i64 (makeDot si (nm (wN x2 3)) (ptOf x2) (bdOf x2)).site)).setCell ⟨b29, 1, none⟩ (.int .i64 (makeDot si (nm (wN x2 3)) (ptOf x2) (bdOf x2)).count) := ⟨_, rfl⟩
       rw [← hwn] at hz hs2 ⊢
       clear hwn hfr hsn hb29
       refine hK.out _ _ (HAll.out _ hz) (fun hHeld => ?_)
       clear hK K
       try simp only [pq]
       refine tk 31 ?_ rfl (by kernel_rfl) (fun _ _ _ h => h) (by rfl) ?_ (by assumption) ?_
       rotate_left
       ·intro w' hSw; (try dsimp only at hSw); go_simp <;> with_reducible rfl
       simp only [gq]; try simp only [pq]
       refine wpAnyH_done (by kernel_rfl) ?_ _
       clear hHeld HAll
       have HMK := hid (topI_make HI.out HSI.out.2.2.1 (nm (wN x2 3)) (ptOf x2) (bdOf x2) (nm_ok _).1 (ptOf_ok _) (bdOf_ok _))
       obtain ⟨E, hE⟩ : ∃ E, E = makeErr si (nm (wN x2 3)) (ptOf x2) (bdOf x2) := ⟨_, rfl⟩
       have HEE := hid hE
       rw [← hE]
       clear hE
       obtain rfl | rfl : E = 0 ∨ E = 2 := by rw [HEE.out]; exact HMK.out.2
       all_goals
        go_wp2_with fail
        go_roundw
        case rel => exact ⟨k + 1, L.set ii (makeS si (nm (wN x2 3)) (ptOf x2) (bdOf x2)), HK.out.1, by rw [hw1], HSW.out.set HSI.out.1 HSI.out.2.2.1 hz hs2, hid (HMK.out.1.mono (by omega)), HFR.out _ hz⟩
        case measure => rw [hw1]; have := HK.out.1; simp only [intOf, Int.toNat_natCast]; omega
      refine AllReadyH.cons rfl (fun K hK => ?_) AllReadyH.nil
      simp only [gq]
      go_simp
      have hb29 := Blk.new wc 35 #[.int .i64 0, .int .i64 0]
      have hxa := (Ext.refl wc).alloc (.cells #[.int .i64 0, .int .i64 0] 35)
      have hge29 := hyn.size
      replace hyn := hyn.trans hxa
      obtain ⟨wn, hwn⟩ : ∃ wn, wn = wc.alloc (.cells #[.int .i64 0, .int .i64 0] 35) := ⟨_, rfl⟩
      obtain ⟨b29, hbd⟩ : ∃ b, b = wc.heap.size := ⟨_, rfl⟩
      rw [← hwn] at hb29 hyn
      rw [← hwn, ← hbd]
      rw [← hbd] at hb29 hge29
      clear hxa hwn hbd
      obtain ⟨wc, rfl⟩ : ∃ wc', wc' = wn := ⟨_, rfl⟩
      refine hK.out _ _ (HAll.out _ (Fr.of_ext hyn)) (fun hHeld => ?_)
      clear hK K
      try simp only [pq]
      refine wpAnyH_ready (rs := [4]) (by kernel_rfl) (by simp) ?_
      refine AllReadyH.cons rfl (fun K hK => ?_) AllReadyH.nil
      simp only [gq]
      go_simp
      have hb4 := Blk.new wc 9 #[.string ⟨#[97]⟩, .string ⟨#[98]⟩, .string ⟨#[99]⟩]
      have hxa := (Ext.refl wc).alloc (.cells #[.string ⟨#[97]⟩, .string ⟨#[98]⟩, .string ⟨#[99]⟩] 9)
      have hge4 := hyn.size
      replace hyn := hyn.trans hxa
      replace hb29 := hb29.ext hxa
      obtain ⟨wn, hwn⟩ : ∃ wn, wn = wc.alloc (.cells #[.string ⟨#[97]⟩, .string ⟨#[98]⟩, .string ⟨#[99]⟩] 9) := ⟨_, rfl⟩
      obtain ⟨b4, hbd⟩ : ∃ b, b = wc.heap.size := ⟨_, rfl⟩
      rw [← hwn] at hb4 hyn hb29
      rw [← hwn, ← hbd]
      rw [← hbd] at hb4 hge4
      clear hxa hwn hbd
      obtain ⟨wc, rfl⟩ : ∃ wc', wc' = wn := ⟨_, rfl⟩
      refine hK.out _ _ (HAll.out _ (Fr.of_ext hyn)) (fun hHeld => ?_)
      clear hK K
      try simp only [pq]
      refine tk 9 ?_ rfl (by kernel_rfl) (fun _ _ _ h => h) (by rfl) ?_ (by assumption) ?_
      rotate_left
      ·intro w' hSw; (try dsimp only at hSw); go_simp <;> with_reducible rfl
      simp only [gq]; try simp only [pq]
      refine wpAnyH_ready (rs := [10]) (by kernel_rfl) (by simp) ?_
      refine AllReadyH.cons rfl (fun K hK => ?_) AllReadyH.nil
      simp only [gq]
      have y4 := hb4.cell (nm_get hx3)
      go_simp
      clear y4 hb4
      refine hK.out _ _ (HAll.out _ (Fr.of_ext hyn)) (fun hHeld => ?_)
      clear hK K
      try simp only [pq]
      refine wpAnyH_ready (rs := [25]) (by kernel_rfl) (by simp) ?_
      refine AllReadyH.cons rfl (fun K hK => ?_) AllReadyH.nil
      simp only [gq]
      go_simp
      refine (site_Make B ri si (nm (wN x2 3)) (ptOf x2) (bdOf x2) wc (Nat.le_trans HBW.out hyn.size) HIS.out.1 HOKI.out (nm_ok _).2 (HIS.out.2.ext hyn)).mono ?_
      rintro e wn ⟨rfl, hsn, hfm⟩
      dsimp only
      have hfr := (Fr.of_ext hyn).trans hfm
      replace hb29 := hfm.blkO hb29 (by have := HIS.out.2.lt; omega)
      clear hyn hfm
      obtain ⟨wc, rfl⟩ : ∃ wc', wc' = wn := ⟨_, rfl⟩
      refine hK.out _ _ (HAll.out _ hfr) (fun hHeld => ?_)
      clear hK K
      try simp only [pq]
      refine tk 26 ?_ rfl (by kernel_rfl) (fun _ _ _ h => h) (by rfl) ?_ (by assumption) ?_
      rotate_left
      ·intro w' hSw; (try dsimp only at hSw); go_simp <;> with_reducible rfl
      simp only [gq]; try simp only [pq]
      refine tk 27 ?_ rfl (by kernel_rfl) (fun _ _ _ h => h) (by rfl) ?_ (by assumption) ?_
      rotate_left
      ·intro w' hSw; (try dsimp only at hSw); go_simp <;> with_reducible rfl
      simp only [gq]; try simp only [pq]
      refine tk 28 ?_ rfl (by kernel_rfl) (fun _ _ _ h => h) (by rfl) ?_ (by assumption) ?_
      rotate_left
      ·intro w' hSw; (try dsimp only at hSw); go_simp <;> with_reducible rfl
      simp only [gq]; try simp only [pq]
      refine wpAnyH_ready (rs := [30]) (by kernel_rfl) (by simp) ?_
      refine AllReadyH.cons rfl (fun K hK => ?_) AllReadyH.nil
      simp only [gq]
      have y0 := hb29.cell (i := 0) (u := .int .i64 0) rfl
      have y1 := hb29.cell (i := 1) (u := .int .i64 0) rfl
      have z0 := hb29.frozen 0
      have z1 := hb29.frozen 1
      go_simp
      have hz := fr_two hfr hge29 (.int .i64 (makeDot si (nm (wN x2 3)) (ptOf x2) (bdOf x2)).site) (.int .i64 (makeDot si (nm (wN x2 3)) (ptOf x2) (bdOf x2)).count)
      have hs2 := (isSite_z8 hsn (makeS_ok HOKI.out _ _ _) (z8_two hb29 (Nat.le_trans HBW.out hge29) (.int .i64 (makeDot si (nm (wN x2 3)) (ptOf x2) (bdOf x2)).site) (.int .i64 (makeDot si (nm (wN x2 3)) (ptOf x2) (bdOf x2)).count)) (by have := HIS.out.2.lt; omega))
      clear y0 y1 z0 z1
      obtain ⟨wn, hwn⟩ : ∃ wn, wn = (wc.setCell ⟨b29, 0, none⟩ (.int .i64 (makeDot si (nm (wN x2 3)) (ptOf x2) (bdOf x2)).site)).setCell ⟨b29, 1, none⟩ (.int .i64 (makeDot si (nm (wN x2 3)) (ptOf x2) (bdOf x2)).count) := ⟨_, rfl⟩
      rw [← hwn] at hz hs2 ⊢
      clear hwn hfr hsn hb29
      refine hK.out _ _ (HAll.out _ hz) (fun hHeld => ?_)
      clear hK K
      try simp only [pq]
      refine tk 31 ?_ rfl (by kernel_rfl) (fun _ _ _ h => h) (by rfl) ?_ (by assumption) ?_
      rotate_left
      ·intro w' hSw; (try dsimp only at hSw); go_simp <;> with_reducible rfl
      simp only [gq]; try simp only [pq]
      refine wpAnyH_done (by kernel_rfl) ?_ _
      clear hHeld HAll
      have HMK := hid (topI_make HI.out HSI.out.2.2.1 (nm (wN x2 3)) (ptOf x2) (bdOf x2) (nm_ok _).1 (ptOf_ok _) (bdOf_ok _))
      obtain ⟨E, hE⟩ : ∃ E, E = makeErr si (nm (wN x2 3)) (ptOf x2) (bdOf x2) := ⟨_, rfl⟩
      have HEE := hid hE
      rw [← hE]
      clear hE
      obtain rfl | rfl : E = 0 ∨ E = 2 := by rw [HEE.out]; exact HMK.out.2
      all_goals
       go_wp2_with fail
       go_roundw
       case rel => exact ⟨k + 1, L.set ii (makeS si (nm (wN x2 3)) (ptOf x2) (bdOf x2)), HK.out.1, by rw [hw1], HSW.out.set HSI.out.1 HSI.out.2.2.1 hz hs2, hid (HMK.out.1.mono (by omega)), HFR.out _ hz⟩
       case measure => rw [hw1]; have := HK.out.1; simp only [intOf, Int.toNat_natCast]; omega
    ·obtain rfl | rfl := hq
     all_goals
      by_cases hij : ii = jj
      ·have hbe : ((ii : Int) == (jj : Int)) = true := by rw [hij]; exact beq_self_eq_true _
       clear hij
       go_wp2_with fail
       go_roundw
       case rel => exact ⟨k + 1, L, HK.out.1, by rw [hw1], HSW.out.ext hyn, hid (HI.out.mono (by omega)), HFR.out _ (Fr.of_ext hyn)⟩
       case measure => rw [hw1]; have := HK.out.1; simp only [intOf, Int.toNat_natCast]; omega
      ·have hbe : ((ii : Int) == (jj : Int)) = false := by rw [beq_eq_false_iff_ne]; omega
       clear hij
       have HQ := hid (show SiteOk si ∧ SiteOk sj ∧ giveErr (askS si) = 0 ∧ wireErr (giveB sj (askS si)) = 0 ∧ (takeErr si (giveB sj (askS si)) = 0 ∨ takeErr si (giveB sj (askS si)) = 2) by
        obtain ⟨M, H, h⟩ := HI.out
        exact topJ_ask h (by have := HT40.out; have := HK.out.1; omega) HSI.out.2.2.1 HSI.out.2.2.2)
       have HYN0 := hid hyn
       have HAll := hid (fun w' (x : Fr ri wr w') => show w'.cell? ⟨bs, os + ii, none⟩ = some (.pointer (some ⟨ri, 0, none⟩)) ∧ w'.cell? ⟨bs, os + jj, none⟩ = some (.pointer (some ⟨rj, 0, none⟩)) from HP.out w' (HFR.out w' x))
       clear hyn
       go_wp2_with fail
       have hyn := HYN0.out.trans (Ext.refl w1).drew
       refine wp_region_held_drew (S := fun w' => w'.cell? ⟨bs, os + ii, none⟩ = some (.pointer (some ⟨ri, 0, none⟩)) ∧ w'.cell? ⟨bs, os + jj, none⟩ = some (.pointer (some ⟨rj, 0, none⟩))) (by kernel_rfl) (HAll.out _ (Fr.of_ext hyn)) (fun hHeld => ?_)
       obtain ⟨wc, hwc⟩ : ∃ wc, wc = w1.drew := ⟨_, rfl⟩
       rw [← hwc] at hHeld hyn ⊢
       clear hwc
       refine tk 0 ?_ rfl (by kernel_rfl) (fun _ _ _ h => h) (by rfl) ?_ (by assumption) ?_
       rotate_left
       ·intro w' hSw; (try dsimp only at hSw); go_simp <;> with_reducible rfl
       simp only [gq]; try simp only [pq]
       refine tk 1 ?_ rfl (by kernel_rfl) (fun _ _ _ h => h) (by rfl) ?_ (by assumption) ?_
       rotate_left
       ·intro w' hSw; (try dsimp only at hSw); go_simp <;> with_reducible rfl
       simp only [gq]; try simp only [pq]
       refine tk 2 ?_ rfl (by kernel_rfl) (fun _ _ _ h => h) (by rfl) ?_ (by assumption) ?_
       rotate_left
       ·intro w' hSw; (try dsimp only at hSw); go_simp <;> with_reducible rfl
       simp only [gq]; try simp only [pq]
       refine tk 3 ?_ rfl (by kernel_rfl) (fun _ _ _ h => h) (by rfl) ?_ (by assumption) ?_
       rotate_left
       ·intro w' hSw; (try dsimp only at hSw); go_simp <;> with_reducible rfl
       simp only [gq]; try simp only [pq]
       refine tk 4 ?_ rfl (by kernel_rfl) (fun _ _ _ h => h) (by rfl) ?_ (by assumption) ?_
       rotate_left
       ·intro w' hSw; (try dsimp only at hSw); go_simp <;> with_reducible rfl
       simp only [gq]; try simp only [pq]
       refine tk 5 ?_ rfl (by kernel_rfl) (fun _ _ _ h => h) (by rfl) ?_ (by assumption) ?_
       rotate_left
       ·intro w' hSw; (try dsimp only at hSw); go_simp <;> with_reducible rfl
       simp only [gq]; try simp only [pq]
       refine tk 6 ?_ rfl (by kernel_rfl) (fun _ _ _ h => h) (by rfl) ?_ (by assumption) ?_
       rotate_left
       ·intro w' hSw; (try dsimp only at hSw); go_simp <;> with_reducible rfl
       simp only [gq]; try simp only [pq]
       refine tk 7 ?_ rfl (by kernel_rfl) (fun _ _ _ h => h) (by rfl) ?_ (by assumption) ?_
       rotate_left
       ·intro w' hSw; (try dsimp only at hSw); go_simp <;> with_reducible rfl
       simp only [gq]; try simp only [pq]
       refine wpAnyH_ready (rs := [8]) (by kernel_rfl) (by simp) ?_
       refine AllReadyH.cons rfl (fun K hK => ?_) AllReadyH.nil
       simp only [gq]
       go_simp
       refine (top_asked B ri rj si sj wc (Nat.le_trans HBW.out hyn.size) HIS.out.1 HQ.out.1 HQ.out.2.1 (HIS.out.2.ext hyn) (HJS.out.2.ext hyn) HQ.out.2.2.1 HQ.out.2.2.2.1).mono ?_
       rintro e wn ⟨rfl, hsn, hfm⟩
       dsimp only
       have hfr := (Fr.of_ext hyn).trans hfm
       clear hyn hfm
       obtain ⟨wc, rfl⟩ : ∃ wc', wc' = wn := ⟨_, rfl⟩
       refine hK.out _ _ (HAll.out _ hfr) (fun hHeld => ?_)
       clear hK K
       try simp only [pq]
       refine tk 9 ?_ rfl (by kernel_rfl) (fun _ _ _ h => h) (by rfl) ?_ (by assumption) ?_
       rotate_left
       ·intro w' hSw; (try dsimp only at hSw); go_simp <;> with_reducible rfl
       simp only [gq]; try simp only [pq]
       refine tk 10 ?_ rfl (by kernel_rfl) (fun _ _ _ h => h) (by rfl) ?_ (by assumption) ?_
       rotate_left
       ·intro w' hSw; (try dsimp only at hSw); go_simp <;> with_reducible rfl
       simp only [gq]; try simp only [pq]
       refine tk 11 ?_ rfl (by kernel_rfl) (fun _ _ _ h => h) (by rfl) ?_ (by assumption) ?_
       rotate_left
       ·intro w' hSw; (try dsimp only at hSw); go_simp <;> with_reducible rfl
       simp only [gq]; try simp only [pq]
       refine tk 12 ?_ rfl (by kernel_rfl) (fun _ _ _ h => h) (by rfl) ?_ (by assumption) ?_
       rotate_left
       ·intro w' hSw; (try dsimp only at hSw); go_simp <;> with_reducible rfl
       simp only [gq]; try simp only [pq]
       refine tk 13 ?_ rfl (by kernel_rfl) (fun _ _ _ h => h) (by rfl) ?_ (by assumption) ?_
       rotate_left
       ·intro w' hSw; (try dsimp only at hSw); go_simp <;> with_reducible rfl
       simp only [gq]; try simp only [pq]
       refine wpAnyH_done (by kernel_rfl) ?_ _
       clear hHeld HAll
       have HTJ := hid (show TopI Fok (k : Int) (L.set ii (takeS si (giveB sj (askS si)))) by
        obtain ⟨M, H, h⟩ := HI.out
        exact ⟨M, H, (h.asked HSI.out.2.2.1 HSI.out.2.2.2).1⟩)
       obtain ⟨E, hE⟩ : ∃ E, E = takeErr si (giveB sj (askS si)) := ⟨_, rfl⟩
       have HEE := hid hE
       rw [← hE]
       clear hE
       obtain rfl | rfl : E = 0 ∨ E = 2 := by rw [HEE.out]; exact HQ.out.2.2.2.2
       ·go_wp2_with fail
        go_roundw
        case rel => exact ⟨k + 1, L.set ii (takeS si (giveB sj (askS si))), HK.out.1, by rw [hw1], HSW.out.set HSI.out.1 HSI.out.2.2.1 hfr hsn, hid (HTJ.out.mono (by omega)), HFR.out _ hfr⟩
        case measure => rw [hw1]; have := HK.out.1; simp only [intOf, Int.toNat_natCast]; omega
       ·go_wp2_with fail
        go_ret2
        exact ⟨.inr rfl, HFR.out _ hfr⟩
    ·by_cases hiw : ii < fs.length
     ·have hd5 : decide ((ii : Int) < (fs.length : Int)) = true := decide_eq_true (by omega)
      have hd5n : decide (ii < fs.length) = true := decide_eq_true hiw
      have HIW := hid hiw
      have HQQ := hid (show jj % fs.length < fs.length from Nat.mod_lt _ HNF.out.1)
      have htm : (jj : Int).tmod (fs.length : Int) = ((jj % fs.length : Nat) : Int) := by rw [Int.tmod_eq_emod_of_nonneg (by omega)]; rfl
      have hqi : ((jj % fs.length : Nat) : Int) < (fs.length : Int) := by have := HQQ.out; omega
      have hwq : IntKind.i64.wrap ((jj % fs.length : Nat) : Int) = ((jj % fs.length : Nat) : Int) := by have := HQQ.out; have := HNF.out; rw [IntKind.wrap_i64]; omega
      have hz2 : ¬ fs = [] := by intro e; have := HNF.out.1; rw [e] at this; exact Nat.lt_irrefl _ this
      have hz0 : ¬ (fs.length : Int) = 0 := by have := HNF.out; omega
      have hz1 : ((fs.length : Int) == 0) = false := by rw [beq_eq_false_iff_ne]; exact hz0
      obtain ⟨qq, hqq⟩ : ∃ q, q = jj % fs.length := ⟨_, rfl⟩
      rw [← hqq] at HQQ htm hqi hwq
      clear hqq hiw
      obtain ⟨bf, of_, Bf, df, fq, rfl, hfm, hlq, hfq, hcf⟩ := Sl.filC HSF.out HQQ.out
      have HLQ := hid hlq
      have HFQ := hid hfq
      have HFM := hid hfm
      have HST := hid (show si.stamp < 1000000000 by
       obtain ⟨M, H, h⟩ := HI.out
       have h1 := (h.inv ii si HSI.out.2.2.1).2.2.1
       have := HT40.out
       have := HK.out.1
       omega)
      have HYN0 := hid hyn
      have HAll := hid (fun w' (x : Fr ri wr w') => show w'.cell? ⟨bs, os + ii, none⟩ = some (.pointer (some ⟨ri, 0, none⟩)) ∧ w'.cell? ⟨bf, of_ + qq, none⟩ = some (.slice Bf fq.length df) from ⟨(HP.out w' (HFR.out w' x)).1, hcf w' (HFR.out w' x)⟩)
      clear hyn hlq hfq hfm hcf
      go_wp2_with fail
      have hyn := HYN0.out.trans (Ext.refl w1).drew
      refine wp_region_held_drew (S := fun w' => w'.cell? ⟨bs, os + ii, none⟩ = some (.pointer (some ⟨ri, 0, none⟩)) ∧ w'.cell? ⟨bf, of_ + qq, none⟩ = some (.slice Bf fq.length df)) (by kernel_rfl) (HAll.out _ (Fr.of_ext hyn)) (fun hHeld => ?_)
      obtain ⟨wc, hwc⟩ : ∃ wc, wc = w1.drew := ⟨_, rfl⟩
      rw [← hwc] at hHeld hyn ⊢
      clear hwc
      refine tk 0 ?_ rfl (by kernel_rfl) (fun _ _ _ h => h) (by rfl) ?_ (by assumption) ?_
      rotate_left
      ·intro w' hSw; (try dsimp only at hSw); go_simp <;> with_reducible rfl
      simp only [gq]; try simp only [pq]
      refine tk 1 ?_ rfl (by kernel_rfl) (fun _ _ _ h => h) (by rfl) ?_ (by assumption) ?_
      rotate_left
      ·intro w' hSw; (try dsimp only at hSw); go_simp <;> with_reducible rfl
      simp only [gq]; try simp only [pq]
      refine tk 2 ?_ rfl (by kernel_rfl) (fun _ _ _ h => h) (by rfl) ?_ (by assumption) ?_
      rotate_left
      ·intro w' hSw; (try dsimp only at hSw); go_simp <;> with_reducible rfl
      simp only [gq]; try simp only [pq]
      refine tk 3 ?_ rfl (by kernel_rfl) (fun _ _ _ h => h) (by rfl) ?_ (by assumption) ?_
      rotate_left
      ·intro w' hSw; (try dsimp only at hSw); go_simp <;> with_reducible rfl
      simp only [gq]; try simp only [pq]
      try simp only [hd5, hd5n]
      try simp only [pq]
      refine tk 4 ?_ rfl (by kernel_rfl) (fun _ _ _ h => h) (by rfl) ?_ (by assumption) ?_
      rotate_left
      ·intro w' hSw; (try dsimp only at hSw); go_simp <;> with_reducible rfl
      simp only [gq]; try simp only [pq]
      refine tk 5 ?_ rfl (by kernel_rfl) (fun _ _ _ h => h) (by rfl) ?_ (by assumption) ?_
      rotate_left
      ·intro w' hSw; (try dsimp only at hSw); go_simp <;> with_reducible rfl
      simp only [gq]; try simp only [pq]
      refine tk 6 ?_ rfl (by kernel_rfl) (fun _ _ _ h => h) (by rfl) ?_ (by assumption) ?_
      rotate_left
      ·intro w' hSw; (try dsimp only at hSw); go_simp <;> with_reducible rfl
      simp only [gq]; try simp only [pq]
      refine tk 7 ?_ rfl (by kernel_rfl) (fun _ _ _ h => h) (by rfl) ?_ (by assumption) ?_
      rotate_left
      ·intro w' hSw; (try dsimp only at hSw); go_simp <;> with_reducible rfl
      simp only [gq]; try simp only [pq]
      refine tk 8 ?_ rfl (by kernel_rfl) (fun _ _ _ h => h) (by rfl) ?_ (by assumption) ?_
      rotate_left
      ·intro w' hSw; (try dsimp only at hSw); go_simp <;> with_reducible rfl
      simp only [gq]; try simp only [pq]
      refine tk 9 ?_ rfl (by kernel_rfl) (fun _ _ _ h => h) (by rfl) ?_ (by assumption) ?_
      rotate_left
      ·intro w' hSw; (try dsimp only at hSw); go_simp <;> with_reducible rfl
      simp only [gq]; try simp only [pq]
      refine tk 10 ?_ rfl (by kernel_rfl) (fun _ _ _ h => h) (by rfl) ?_ (by assumption) ?_
      rotate_left
      ·intro w' hSw; (try dsimp only at hSw); go_simp <;> with_reducible rfl
      simp only [gq]; try simp only [pq]
      refine tk 11 ?_ rfl (by kernel_rfl) (fun _ _ _ h => h) (by rfl) ?_ (by assumption) ?_
      rotate_left
      ·intro w' hSw; (try dsimp only at hSw); go_simp <;> with_reducible rfl
      simp only [gq]; try simp only [pq]
      refine tk 12 ?_ rfl (by kernel_rfl) (fun _ _ _ h => h) (by rfl) ?_ (by assumption) ?_
      rotate_left
      ·intro w' hSw; (try dsimp only at hSw); go_simp <;> with_reducible rfl
      simp only [gq]; try simp only [pq]
      refine tk 13 ?_ rfl (by kernel_rfl) (fun _ _ _ h => h) (by rfl) ?_ (by assumption) ?_
      rotate_left
      ·intro w' hSw; (try dsimp only at hSw); go_simp <;> with_reducible rfl
      simp only [gq]; try simp only [pq]
      refine tk 14 ?_ rfl (by kernel_rfl) (fun _ _ _ h => h) (by rfl) ?_ (by assumption) ?_
      rotate_left
      ·intro w' hSw; (try dsimp only at hSw); go_simp <;> with_reducible rfl
      simp only [gq]; try simp only [pq]
      refine tk 15 ?_ rfl (by kernel_rfl) (fun _ _ _ h => h) (by rfl) ?_ (by assumption) ?_
      rotate_left
      ·intro w' hSw; (try dsimp only at hSw); go_simp <;> with_reducible rfl
      simp only [gq]; try simp only [pq]
      refine wpAnyH_ready (rs := [16]) (by kernel_rfl) (by simp) ?_
      refine AllReadyH.cons rfl (fun K hK => ?_) AllReadyH.nil
      simp only [gq]
      go_simp
      refine (site_Want B ri si Bf df fq wc (Nat.le_trans HBW.out hyn.size) HIS.out.1 HOKI.out HST.out HLQ.out (HIS.out.2.ext hyn) (HFQ.out.chg (RBox.mono (by decide)) (by decide) (HFR.out _ (Fr.of_ext hyn)))).mono ?_
      rw [HF.out.1 _ HFM.out]
      rintro e wn ⟨rfl, hsn, hfm⟩
      dsimp only
      have hfr := (Fr.of_ext hyn).trans hfm
      clear hyn hfm
      obtain ⟨wc, rfl⟩ : ∃ wc', wc' = wn := ⟨_, rfl⟩
      refine hK.out _ _ (HAll.out _ hfr) (fun hHeld => ?_)
      clear hK K
      try simp only [pq]
      refine tk 17 ?_ rfl (by kernel_rfl) (fun _ _ _ h => h) (by rfl) ?_ (by assumption) ?_
      rotate_left
      ·intro w' hSw; (try dsimp only at hSw); go_simp <;> with_reducible rfl
      simp only [gq]; try simp only [pq]
      refine tk 18 ?_ rfl (by kernel_rfl) (fun _ _ _ h => h) (by rfl) ?_ (by assumption) ?_
      rotate_left
      ·intro w' hSw; (try dsimp only at hSw); go_simp <;> with_reducible rfl
      simp only [gq]; try simp only [pq]
      refine wpAnyH_done (by kernel_rfl) ?_ _
      clear hHeld HAll
      go_wp2_with fail
      go_roundw
      case rel => exact ⟨k + 1, L.set ii (wantS si fq), HK.out.1, by rw [hw1], HSW.out.set HSI.out.1 HSI.out.2.2.1 hfr hsn, hid (topI_want HI.out HSI.out.2.2.1 (HF.out.1 _ HFM.out) (HF.out.2 _ _ HIW.out HFM.out)), HFR.out _ hfr⟩
      case measure => rw [hw1]; have := HK.out.1; simp only [intOf, Int.toNat_natCast]; omega
     ·have hd5 : decide ((ii : Int) < (fs.length : Int)) = false := decide_eq_false (by omega)
      have hd5n : decide (ii < fs.length) = false := decide_eq_false hiw
      have HYN0 := hid hyn
      have HAll := hid (fun w' (x : Fr ri wr w') => show w'.cell? ⟨bs, os + ii, none⟩ = some (.pointer (some ⟨ri, 0, none⟩)) ∧ w'.cell? ⟨bs, os + jj, none⟩ = some (.pointer (some ⟨rj, 0, none⟩)) from HP.out w' (HFR.out w' x))
      clear hyn hiw
      go_wp2_with fail
      have hyn := HYN0.out.trans (Ext.refl w1).drew
      refine wp_region_held_drew (S := fun w' => w'.cell? ⟨bs, os + ii, none⟩ = some (.pointer (some ⟨ri, 0, none⟩)) ∧ w'.cell? ⟨bs, os + jj, none⟩ = some (.pointer (some ⟨rj, 0, none⟩))) (by kernel_rfl) (HAll.out _ (Fr.of_ext hyn)) (fun hHeld => ?_)
      obtain ⟨wc, hwc⟩ : ∃ wc, wc = w1.drew := ⟨_, rfl⟩
      rw [← hwc] at hHeld hyn ⊢
      clear hwc
      refine tk 0 ?_ rfl (by kernel_rfl) (fun _ _ _ h => h) (by rfl) ?_ (by assumption) ?_
      rotate_left
      ·intro w' hSw; (try dsimp only at hSw); go_simp <;> with_reducible rfl
      simp only [gq]; try simp only [pq]
      refine tk 1 ?_ rfl (by kernel_rfl) (fun _ _ _ h => h) (by rfl) ?_ (by assumption) ?_
      rotate_left
      ·intro w' hSw; (try dsimp only at hSw); go_simp <;> with_reducible rfl
      simp only [gq]; try simp only [pq]
      refine tk 2 ?_ rfl (by kernel_rfl) (fun _ _ _ h => h) (by rfl) ?_ (by assumption) ?_
      rotate_left
      ·intro w' hSw; (try dsimp only at hSw); go_simp <;> with_reducible rfl
      simp only [gq]; try simp only [pq]
      refine tk 3 ?_ rfl (by kernel_rfl) (fun _ _ _ h => h) (by rfl) ?_ (by assumption) ?_
      rotate_left
      ·intro w' hSw; (try dsimp only at hSw); go_simp <;> with_reducible rfl
      simp only [gq]; try simp only [pq]
      try simp only [hd5, hd5n]
      try simp only [pq]
      refine tk 4 ?_ rfl (by kernel_rfl) (fun _ _ _ h => h) (by rfl) ?_ (by assumption) ?_
      rotate_left
      ·intro w' hSw; (try dsimp only at hSw); go_simp <;> with_reducible rfl
      simp only [gq]; try simp only [pq]
      refine wpAnyH_take (i := 5) (oi := _) (v := undef) rfl (by kernel_rfl) (by kernel_rfl) (by kernel_rfl) (fun _ _ _ h => h) (Or.inr ⟨by rfl, rfl⟩) (by assumption) ?_
      simp only [gq]; try simp only [pq]
      refine wpAnyH_take (i := 6) (oi := _) (v := undef) rfl (by kernel_rfl) (by kernel_rfl) (by kernel_rfl) (fun _ _ _ h => h) (Or.inr ⟨by rfl, rfl⟩) (by assumption) ?_
      simp only [gq]; try simp only [pq]
      refine wpAnyH_take (i := 7) (oi := _) (v := undef) rfl (by kernel_rfl) (by kernel_rfl) (by kernel_rfl) (fun _ _ _ h => h) (Or.inr ⟨by rfl, rfl⟩) (by assumption) ?_
      simp only [gq]; try simp only [pq]
      refine wpAnyH_take (i := 8) (oi := _) (v := undef) rfl (by kernel_rfl) (by kernel_rfl) (by kernel_rfl) (fun _ _ _ h => h) (Or.inr ⟨by rfl, rfl⟩) (by assumption) ?_
      simp only [gq]; try simp only [pq]
      refine wpAnyH_take (i := 9) (oi := _) (v := undef) rfl (by kernel_rfl) (by kernel_rfl) (by kernel_rfl) (fun _ _ _ h => h) (Or.inr ⟨by rfl, rfl⟩) (by assumption) ?_
      simp only [gq]; try simp only [pq]
      refine wpAnyH_take (i := 10) (oi := _) (v := undef) rfl (by kernel_rfl) (by kernel_rfl) (by kernel_rfl) (fun _ _ _ h => h) (Or.inr ⟨by rfl, rfl⟩) (by assumption) ?_
      simp only [gq]; try simp only [pq]
      refine wpAnyH_take (i := 11) (oi := _) (v := undef) rfl (by kernel_rfl) (by kernel_rfl) (by kernel_rfl) (fun _ _ _ h => h) (Or.inr ⟨by rfl, rfl⟩) (by assumption) ?_
      simp only [gq]; try simp only [pq]
      refine wpAnyH_take (i := 12) (oi := _) (v := undef) rfl (by kernel_rfl) (by kernel_rfl) (by kernel_rfl) (fun _ _ _ h => h) (Or.inr ⟨by rfl, rfl⟩) (by assumption) ?_
      simp only [gq]; try simp only [pq]
      refine wpAnyH_take (i := 13) (oi := _) (v := undef) rfl (by kernel_rfl) (by kernel_rfl) (by kernel_rfl) (fun _ _ _ h => h) (Or.inr ⟨by rfl, rfl⟩) (by assumption) ?_
      simp only [gq]; try simp only [pq]
      refine wpAnyH_take (i := 14) (oi := _) (v := undef) rfl (by kernel_rfl) (by kernel_rfl) (by kernel_rfl) (fun _ _ _ h => h) (Or.inr ⟨by rfl, rfl⟩) (by assumption) ?_
      simp only [gq]; try simp only [pq]
      refine wpAnyH_take (i := 15) (oi := _) (v := undef) rfl (by kernel_rfl) (by kernel_rfl) (by kernel_rfl) (fun _ _ _ h => h) (Or.inr ⟨by rfl, rfl⟩) (by assumption) ?_
      simp only [gq]; try simp only [pq]
      refine wpAnyH_take (i := 16) (oi := _) (v := undef) rfl (by kernel_rfl) (by kernel_rfl) (by kernel_rfl) (fun _ _ _ h => h) (Or.inr ⟨by rfl, rfl⟩) (by assumption) ?_
      simp only [gq]; try simp only [pq]
      refine wpAnyH_take (i := 17) (oi := _) (v := undef) rfl (by kernel_rfl) (by kernel_rfl) (by kernel_rfl) (fun _ _ _ h => h) (Or.inr ⟨by rfl, rfl⟩) (by assumption) ?_
      simp only [gq]; try simp only [pq]
      refine tk 18 ?_ rfl (by kernel_rfl) (fun _ _ _ h => h) (by rfl) ?_ (by assumption) ?_
      rotate_left
      ·intro w' hSw; (try dsimp only at hSw); go_simp <;> with_reducible rfl
      simp only [gq]; try simp only [pq]
      refine wpAnyH_done (by kernel_rfl) ?_ _
      clear hHeld HAll
      go_wp2_with fail
      go_roundw
      case rel => exact ⟨k + 1, L, HK.out.1, by rw [hw1], HSW.out.ext hyn, hid (HI.out.mono (by omega)), HFR.out _ (Fr.of_ext hyn)⟩
      case measure => rw [hw1]; have := HK.out.1; simp only [intOf, Int.toNat_natCast]; omega
  ·obtain rfl : k = T.length := by omega
   go_wp2_with fail
   go_ret2
   exact ⟨.inl ⟨L, rfl, hS, HI.out.mono (by have := HT40.out; omega)⟩, hx⟩
end Go.Proofs.YtngbfdogiciahaaGreat
