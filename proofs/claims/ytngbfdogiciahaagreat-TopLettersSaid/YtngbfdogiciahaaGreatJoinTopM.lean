/- Several texts in one: data, readings, plain laws, walks. No condition. -/
import Derived.Test.YtngbfdogiciahaaGreatTownB
import Derived.Test.YtngbfdogiciahaaGreatTownS
namespace Go.Proofs.YtngbfdogiciahaaGreat
open Go Go.RowKit
abbrev TS : List TypeId := [135, 147, 159]
theorem sendE_ok {n i tw : Nat} (h : i ≠ tw) (hn : n < 60) : sendE n i tw = 0 := by unfold sendE; rw [if_neg h, if_neg (by omega)]
set_option maxRecDepth 100000 in
set_option maxHeartbeats 8000000 in
theorem let_ask (B bt rT : Nat) (rs : List Nat) (L : List SiteS) (i k ri rk : Nat) (si sk : SiteS) (w : World) (hB : B ≤ w.heap.size) (hb : Blk w bt 26 #[.pointer (some ⟨rT, 0, none⟩)]) (h : IsTown B w rT rs L []) (hne : i ≠ k) (hri : rs[i]? = some ri) (hrk : rs[k]? = some rk) (hsi : L[i]? = some si) (hsk : L[k]? = some sk)
  (hoi : SiteOk si) (hok : SiteOk sk) (hme : si.me = (i : Int)) (hE : takeErr si (giveB sk (askS si)) = 0 ∨ takeErr si (giveB sk (askS si)) = 2) :
  Calls Tryz.prog 20 #[.int .i64 (i : Int), .int .i64 (k : Int), .pointer (some ⟨bt, 0, none⟩)] w fun e w' => e = .returned (.tuple #[.bool (takeErr si (giveB sk (askS si)) == 0), .bool (takeErr si (giveB sk (askS si)) == 2)]) ∧ (takeErr si (giveB sk (askS si)) = 0 → IsTown B w' rT rs (L.set i (takeS si (giveB sk (askS si)))) []) ∧ Chg B TS w w' := by
 have hkl : k < L.length := (List.getElem?_eq_some_iff.1 hsk).1
 have hge := ask_err hoi
 have HSE := hid (sendE_ok (n := ([] : List LetS).length) hne (by decide))
 have HSW := hid (show sendW [] i k si = [.ask k (askS si)] by unfold sendW; rw [HSE.out]; rfl)
 have HIN := hid (show (askS si).site.toNat = i by show si.me.toNat = i; rw [hme]; rfl)
 have HB := hid hB
 have H1 := hid (town_Send B rT rs L [] i k ri si w hB h hri hsi hkl hoi (Nat.zero_le _))
 have HP := hid (And.intro hri (And.intro hrk (And.intro hsi hsk)))
 have HOK := hid (And.intro hoi hok)
 have HG := hid hge
 have HBT := hid hb
 obtain ⟨b, hbd⟩ : ∃ b, b = giveB sk (askS si) := ⟨_, rfl⟩
 rw [← hbd] at hE ⊢
 have HBD := hid hbd
 have hq := hb.cell (i := 0) (u := .pointer (some ⟨rT, 0, none⟩)) rfl
 have hl := hb.lt
 clear hkl hge h hne hri hrk hsi hsk hoi hok hme hB hb hbd
 go_enter Tryz.func20, Tryz.ntmps20
 go_wp2_with fail
 refine H1.out.mono ?_
 rw [HSE.out, HSW.out]
 rintro e w1 ⟨rfl, ht1, hc1⟩
 have HC1 := hid (show Chg B TS w w1 from hc1.more (by simp))
 have HB1 := hid (HBT.out.chg hc1 (by decide))
 have H2 := hid (town_BringA B rT rs L [.ask k (askS si)] 0 k rk (askS si) sk w1 (Nat.le_trans HB.out hc1.size) ht1 rfl HP.out.2.1 HP.out.2.2.2 HOK.out.2 HG.out (show (1 : Nat) ≤ 60 by decide))
 have hq1 := HB1.out.cell (i := 0) (u := .pointer (some ⟨rT, 0, none⟩)) rfl
 have hl1 := HB1.out.lt
 have HW2 := hid (show bringW [.ask k (askS si)] (askS si) sk = [.ask k (askS si), .bat i b] by unfold bringW; rw [if_neg (show ¬ 60 ≤ ([.ask k (askS si)] : List LetS).length from (by decide : ¬ 60 ≤ 1)), HIN.out, ← HBD.out]; rfl)
 have HE2 := hid (show bringE ([.ask k (askS si)] : List LetS).length = 0 from rfl)
 clear ht1 hc1 hq hl H1
 go_wp2_with fail
 refine H2.out.mono ?_
 rw [HW2.out, HE2.out]
 rintro e w2 ⟨rfl, ht2, hc2⟩
 have HC2 := hid (show Chg B TS w w2 from HC1.out.trans (hc2.more (by simp)))
 have HB2 := hid (HB1.out.chg hc2 (by decide))
 have H3 := hid (town_BringB B rT rs L [.ask k (askS si), .bat i b] 1 i ri b si w2 (Nat.le_trans HB.out HC2.out.size) ht2 rfl HP.out.1 HP.out.2.2.1 HOK.out.1)
 have hq2 := HB2.out.cell (i := 0) (u := .pointer (some ⟨rT, 0, none⟩)) rfl
 have hl2 := HB2.out.lt
 have HT2 := hid ht2
 clear ht2 hc2 hq1 hl1 H2
 go_wp2_with fail
 refine H3.out.mono ?_
 rintro e w3 ⟨rfl, hs3, hf3⟩
 have hsi := HP.out.2.2.1
 have hri := HP.out.1
 obtain ⟨hBri, hty⟩ : B ≤ ri ∧ tyAt w2 ri = some 159 := by
  obtain ⟨As, cs, v, ht⟩ := HT2.out
  have := ht.sites.at_ i ri si hri hsi
  exact ⟨this.1, this.2.ty⟩
 have hc3 := hf3.chg hty hBri
 have HT3 := hid (HT2.out.site hri hsi hf3 hs3)
 have HC3 := hid (show Chg B TS w w3 from HC2.out.trans (hc3.more (by simp)))
 have HB3 := hid (HB2.out.chg hc3 (by decide))
 have hq3 := HB3.out.cell (i := 0) (u := .pointer (some ⟨rT, 0, none⟩)) rfl
 have hl3 := HB3.out.lt
 obtain ⟨E, hEE⟩ : ∃ E, E = takeErr si b := ⟨_, rfl⟩
 rw [← hEE] at hE ⊢
 have HEE := hid hEE
 obtain ⟨L2, hL2⟩ : ∃ L2, L2 = L.set i (takeS si b) := ⟨_, rfl⟩
 rw [← hL2] at HT3
 have HL2 := hid hL2
 clear hs3 hf3 hsi hri hBri hty hc3 hq2 hl2 H3 hEE hL2
 obtain rfl | rfl := hE
 ·have H4 := hid (town_Lose B rT rs L2 [.ask k (askS si), .bat i b] 0 w3 (Nat.le_trans HB.out HC3.out.size) HT3.out (show (2 : Nat) ≤ 60 by decide) (by decide))
  have HE4 := hid (show loseE ([.ask k (askS si), .bat i b] : List LetS).length 0 = 0 from rfl)
  have HW4 := hid (show ([.ask k (askS si), .bat i b] : List LetS).eraseIdx 0 = [.bat i b] from rfl)
  go_wp2_with fail
  refine H4.out.mono ?_
  rw [HE4.out, HW4.out]
  rintro e w4 ⟨rfl, ht4, hc4⟩
  have HC4 := hid (show Chg B TS w w4 from HC3.out.trans (hc4.more (by simp)))
  have HB4 := hid (HB3.out.chg hc4 (by decide))
  have hq4 := HB4.out.cell (i := 0) (u := .pointer (some ⟨rT, 0, none⟩)) rfl
  have hl4 := HB4.out.lt
  have H5 := hid (town_Lose B rT rs L2 [.bat i b] 0 w4 (Nat.le_trans HB.out HC4.out.size) ht4 (show (1 : Nat) ≤ 60 by decide) (by decide))
  have HE5 := hid (show loseE ([.bat i b] : List LetS).length 0 = 0 from rfl)
  have HW5 := hid (show ([.bat i b] : List LetS).eraseIdx 0 = [] from rfl)
  clear ht4 hc4 hq3 hl3 H4
  go_wp2_with fail
  refine H5.out.mono ?_
  rw [HE5.out, HW5.out]
  rintro e w5 ⟨rfl, ht5, hc5⟩
  clear hq4 hl4 H5
  go_wp2_with fail
  go_ret2
  exact ⟨by rw [← HEE.out]; rfl, fun _ => HL2.out ▸ ht5, HC4.out.trans (hc5.more (by simp))⟩
 ·go_wp2_with fail
  go_ret2
  refine ⟨by rw [← HEE.out]; rfl, ?_, HC3.out⟩
  rw [← HEE.out]
  intro h
  cases h
end Go.Proofs.YtngbfdogiciahaaGreat
namespace Go.Proofs.YtngbfdogiciahaaGreat
open Go Go.RowKit
set_option maxRecDepth 100000 in
set_option maxHeartbeats 8000000 in
theorem town_New (B : Nat) (A : Option Addr) (c : Nat) (G : List (List Box)) (w : World) (hB : B ≤ w.heap.size) (hl : G.length ≤ 5) (hok : ∀ f ∈ G, filterCheck f = 0) (h : SlFils B w A G) :
  Calls Tryz.prog 10 #[.slice A G.length c] w fun e w' => ∃ rT rs, e = .returned (.tuple #[.pointer (some ⟨rT, 0, none⟩), .int .i64 0]) ∧ IsTown B w' rT rs (freshL G) [] ∧ Ext w w' := by
 have HOK := hid hok
 have HL := hid hl
 have HB := hid hB
 have HF := hid h
 have hd5 : decide ((5 : Int) < (G.length : Int)) = false := decide_eq_false (by omega)
 have hx0 := (Ext.refl w).alloc (.cells #[.slice none 0 0, .slice none 0 0] 135)
 have hb0 := Blk.new w 135 #[.slice none 0 0, .slice none 0 0]
 clear hok hB hl h
 go_enter Tryz.func10, Tryz.ntmps10
 go_wp2_with fail
 obtain ⟨w0, hw0⟩ : ∃ w0, w0 = w.alloc (.cells #[.slice none 0 0, .slice none 0 0] 135) := ⟨_, rfl⟩
 obtain ⟨rT, hrT⟩ : ∃ r, r = w.heap.size := ⟨_, rfl⟩
 rw [← hw0, ← hrT]
 rw [← hw0] at hx0 hb0
 rw [← hrT] at hb0
 have HG := hid (show w.heap.size ≤ rT by rw [hrT]; exact Nat.le_refl _)
 have HX0 := hid hx0
 clear hw0 hrT hx0
 go_loopw [16] (fun i wr => ∃ (k : Nat) (v : Value) (rs : List Nat), k ≤ G.length ∧ i = .int .i64 k ∧ Blk wr rT 135 #[v, .slice none 0 0] ∧ Own RPtr 1 59 wr w.heap.size v rs ∧ Sites B wr rs (freshL (G.take k)) ∧ Ext w wr) (fun i _ => G.length - (intOf i).toNat)
 case atStart => exact ⟨0, .slice none 0 0, [], Nat.zero_le _, rfl, hb0, Own.nil, ⟨rfl, by simp, by simp⟩, HX0.out⟩
 case round =>
  clear hb0
  obtain ⟨k, v, rs, hk, rfl, hb, ho, hss, hx⟩ := hrel
  obtain ⟨Ao, co, rfl, o1, o2⟩ := ho.len
  have hw1 : wrap64 ((k : Int) + 1) = ((k + 1 : Nat) : Int) := by have := HL.out; unfold wrap64; omega
  by_cases hlt : k < G.length
  ·obtain ⟨b, off, Af, cf, rfl, hbl, g0, g1, g2, hf⟩ := (HF.out.ext RBoxes.monoE hx).fil hlt
   have H0 := hid (HOK.out _ (List.getElem_mem hlt))
   have HSU := hid (freshL_take hlt)
   have HO12 := hid (And.intro o1 o2)
   clear o1 o2
   go_wp2_with fail
   refine (site_New B (k : Int) Af cf G[k] wr (Nat.le_trans HB.out hx.size) (Nat.le_trans g1 g2) hf).mono ?_
   rintro e w4 ⟨hr, hx4⟩
   have he : siteErr (k : Int) G[k] = 0 := by
    unfold siteErr
    rw [if_pos (by have := HL.out; omega)]
    exact H0.out
   obtain ⟨r, hrw, rfl, hsr⟩ : ∃ r, wr.heap.size ≤ r ∧ e = .returned (.tuple #[.pointer (some ⟨r, 0, none⟩), .int .i64 0]) ∧ IsSite B w4 r (siteNew (k : Int) G[k]) := by
    rcases hr with ⟨hr, _⟩ | ⟨_, hr⟩
    ·exact absurd he hr
    ·exact hr
   have hn : r ∉ rs := by
    intro hm
    obtain ⟨i, hi, hri⟩ := List.getElem_of_mem hm
    have hl := hss.len
    have := (hss.at_ i r _ (List.getElem?_eq_some_iff.2 ⟨hi, hri⟩) (List.getElem?_eq_getElem (by omega))).2.lt
    omega
   replace hss := (hss.ext hx4).push hn (Nat.le_trans HB.out (Nat.le_trans hx.size hrw)) hsr
   rw [← HSU.out] at hss
   replace ho := ho.ext (B := B) RPtr.mono hx4
   replace hb := hb.ext hx4
   replace hx := hx.trans hx4
   have hlen : rs.length ≤ 4 := by
    have h5 := hss.len
    rw [freshL_len, List.length_take] at h5
    have := HL.out
    simp at h5
    omega
   have HLEN := hid hlen
   clear hlen hr he hsr hrw hn hx4 g0 g1 g2 hf hbl
   have hxa := (Ext.refl w4).alloc (.cells #[.pointer (some ⟨r, 0, none⟩)] 59)
   have hone : SlPtrs B (w4.alloc (.cells #[.pointer (some ⟨r, 0, none⟩)] 59)) (some ⟨w4.heap.size, 0, none⟩) [r] := Sl.one (R := RPtr) (B := B) (cs := [.pointer (some ⟨r, 0, none⟩)]) rfl rfl rfl
   have q0 := hb.cell (i := 0) (u := .slice Ao rs.length co) rfl
   have hlT := hb.lt
   have hba := hb.ext hxa
   have hxx := hx.trans hxa
   have hob := ho.ext (B := B) RPtr.mono hxa
   have hbs := hxx.size
   have HLI := hid hlt
   clear hk
   go_wp2_with (at_builtin; refine wpList_app (ys := [r]) rfl _ _ rfl ei_ptrs rfl hob HB.out hbs rfl hone RPtr.oneC RPtr.mono (by have := HLEN.out; simp [maxLen]; omega) (by have := HLEN.out; simp; omega) ?_; intro v5 w5 ho5 hc5 hb5 hg5; have hT5 := hba.chg hc5 (by decide); have q5 := hT5.cell (i := 0) rfl; have z5 := hT5.frozen 0; have hl5 := hT5.lt; obtain ⟨M, hM⟩ : ∃ M, M = rs ++ [r] := ⟨_, rfl⟩; rw [← hM] at ho5; have HM := hid hM; obtain ⟨A5, c5, rfl, m1, m2⟩ := ho5.len; clear hM)
   have hss5 := (hss.ext hxa).chgP hc5
   rw [← HM.out] at hss5
   have hs5 : Chg B [135] w5 (w5.setCell ⟨rT, 0, none⟩ (.slice A5 M.length c5)) := (Chg.refl w5).setCell (p := ⟨rT, 0, none⟩) hT5.ty (by simp) _ (Nat.le_trans HB.out HG.out)
   have hx9 := (hxx.below hb5 (Nat.le_refl _)).setCell (p := ⟨rT, 0, none⟩) HG.out (.slice A5 M.length c5)
   have hss9 := hss5.chgT (hs5.more (by simp))
   have ho9 := ho5.chgW (B := B) RPtr.mono hs5 (by decide)
   have hb9 := hT5.set 0 (.slice A5 M.length c5)
   clear hT5 q5 z5 hl5 hs5 ho5 hss5 hc5 hb5 hg5 hone q0 hlT hba hxx hob hbs hxa hss ho hb hx m1 m2
   go_roundw
   case rel => exact ⟨k + 1, .slice A5 M.length c5, M, HLI.out, by rw [hw1], by simpa using hb9, ho9, hss9, hx9⟩
   case measure => rw [hw1]; have := HLI.out; simp only [intOf, Int.toNat_natCast]; omega
  ·obtain rfl : k = G.length := by omega
   rw [List.take_length] at hss
   have hlT := hb.lt
   have hl := hss.len
   have hsl := ho.sl B
   have hfin : IsTown B wr rT rs (freshL G) [] := ⟨Ao, co, .slice none 0 0, Nat.le_trans HB.out HG.out, by rw [← hl]; exact hb, by rw [← hl]; exact o1, hsl, hss, Own.nil⟩
   clear hl hsl hb ho hss o1 o2
   go_wp2_with fail
   go_ret2
   exact ⟨rT, rs, rfl, hfin, hx⟩
end Go.Proofs.YtngbfdogiciahaaGreat
