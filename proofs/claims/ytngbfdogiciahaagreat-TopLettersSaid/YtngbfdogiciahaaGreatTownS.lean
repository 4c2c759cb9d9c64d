/- The walks of a town's Send and Lose: its letters turn. -/
import Derived.Test.YtngbfdogiciahaaGreatTownW
namespace Go.Proofs.YtngbfdogiciahaaGreat
open Go Go.RowKit
abbrev TL : List TypeId := [135, 147]
theorem Sites.chgT {B : Nat} {w w' : World} {rs : List Nat} {L : List SiteS} (h : Sites B w rs L) (x : Chg B TL w w') : Sites B w' rs L := by
 refine ⟨h.len, h.inj, fun i r s a b => ⟨(h.at_ i r s a b).1, ?_⟩⟩
 obtain ⟨Af, cf, Ax, cx, Ap, cp, q⟩ := (h.at_ i r s a b).2
 exact ⟨Af, cf, Ax, cx, Ap, cp, q.blk.chg x (by decide), q.sf.chg (RBox.mono (by decide)) (by decide) x, q.sx.chg (RVer.mono (by decide) (by decide)) (by decide) x, q.sp.chg (RPart.mono (by decide) (by decide) (by decide) (by decide)) (by decide) x⟩
theorem TownAt.turn {B : Nat} {w w5 : World} {rT : Nat} {rs : List Nat} {L : List SiteS} {W M : List LetS} {As : Option Addr} {cs : Nat} {v : Value} {A : Option Addr} {c : Nat} (h : TownAt B w rT rs L W As cs v) (x : Chg B [147] w w5) (ho : Own (RLet B) 3 147 w5 B (.slice A M.length c) M) :
  IsTown B (w5.setCell ⟨rT, 1, none⟩ (.slice A M.length c)) rT rs L M ∧ Chg B TL w (w5.setCell ⟨rT, 1, none⟩ (.slice A M.length c)) := by
 have hb5 := h.blk.chg x (by decide)
 have hs : Chg B [135] w5 (w5.setCell ⟨rT, 1, none⟩ (.slice A M.length c)) := (Chg.refl w5).setCell (p := ⟨rT, 1, none⟩) hb5.ty (by simp) _ h.hB
 have hc : Chg B TL w (w5.setCell ⟨rT, 1, none⟩ (.slice A M.length c)) := (x.more (by simp)).trans (hs.more (by simp))
 have hb6 := hb5.set 1 (.slice A M.length c)
 exact ⟨⟨As, cs, _, h.hB, by simpa using hb6, h.cap, h.sp.chg RPtr.mono (by decide) hc, h.sites.chgT hc, ho.chgW (RLet.mono (by decide)) hs (by decide)⟩, hc⟩
theorem letters_one {B : Nat} {w : World} {cs : List Value} {x : LetS} (hl : cs.length = 3) (hR : RLet B (w.alloc (.cells cs.toArray 147)) cs x) : Sl B 147 (RLet B) 3 (w.alloc (.cells cs.toArray 147)) (some ⟨w.heap.size, 0, none⟩) [x] := Sl.one (R := RLet B) (B := B) rfl hl hR
def sendE (n i tw : Nat) : Int := if i = tw then 1 else if 60 ≤ n then 2 else 0
def sendW (W : List LetS) (i tw : Nat) (s : SiteS) : List LetS := if sendE W.length i tw = 0 then W ++ [.ask tw (askS s)] else W
set_option maxRecDepth 100000 in
set_option maxHeartbeats 8000000 in
theorem town_Send (B rT : Nat) (rs : List Nat) (L : List SiteS) (W : List LetS) (i tw r : Nat) (s : SiteS) (w : World) (hB : B ≤ w.heap.size) (h : IsTown B w rT rs L W) (hr : rs[i]? = some r) (hs : L[i]? = some s) (hto : tw < L.length) (hok : SiteOk s) (hW : W.length ≤ 60) :
  Calls Tryz.prog 16 #[.pointer (some ⟨rT, 0, none⟩), .int .i64 (i : Int), .int .i64 (tw : Int)] w fun e w' => e = .returned (.int .i64 (sendE W.length i tw)) ∧ IsTown B w' rT rs L (sendW W i tw s) ∧ Chg B TL w w' := by
 obtain ⟨As, cs, v, h⟩ := h
 obtain ⟨bs, os, rfl, _, _, hBr, hp, hbl, hil⟩ := h.ptr hr hs
 obtain ⟨Aw, cw, rfl, hw1, hw2⟩ := h.way.len
 have HT := hid h
 have HIS := hid (h.sites.at_ i r s hr hs)
 have hq := h.blk.cell (i := 0) (u := .slice (some ⟨bs, os, none⟩) L.length cs) rfl
 have hq1 := h.blk.cell (i := 1) (u := .slice Aw W.length cw) rfl
 have hrl := h.blk.lt
 have hcap := h.cap
 have HY1 := hid (isI_yes hil)
 have HY2 := hid (isI_yes hto)
 have HB := hid hB
 have HOK := hid hok
 have HW := hid hW
 have HE := hid (show sendE W.length i tw = if i = tw then 1 else if 60 ≤ W.length then 2 else 0 from rfl)
 have HS := hid (show sendW W i tw s = if sendE W.length i tw = 0 then W ++ [.ask tw (askS s)] else W from rfl)
 obtain ⟨n, hn⟩ : ∃ n, n = L.length := ⟨_, rfl⟩
 rw [← hn] at hq hil hcap HY1 HY2
 have hii : (i : Int) < (n : Int) := by omega
 have HN := hid hn
 clear h hr hs hil hto hB hok hW hw1 hw2 hBr hn
 by_cases hne : i = tw
 ·have HA := hid (show sendE W.length i tw = 1 ∧ sendW W i tw s = W by rw [HS.out, HE.out, if_pos hne]; exact ⟨rfl, rfl⟩)
  have hbe : ((i : Int) == (tw : Int)) = true := by rw [hne]; exact beq_self_eq_true _
  clear hne
  go_enter Tryz.func16, Tryz.ntmps16
  go_wp2_with fail
  refine (town_is rT (some ⟨bs, os, none⟩) n cs (i : Int) w hq).mono ?_
  rw [HY1.out]
  rintro e w' ⟨rfl, rfl⟩
  go_wp2_with fail
  refine (town_is rT (some ⟨bs, os, none⟩) n cs (tw : Int) w' hq).mono ?_
  rw [HY2.out]
  rintro e w' ⟨rfl, rfl⟩
  go_wp2_with fail
  go_ret
  exact ⟨ret_int HA.out.1.symm, by rw [HA.out.2]; exact HT.out.is, Chg.refl _⟩
 ·have hbe : ((i : Int) == (tw : Int)) = false := by rw [beq_eq_false_iff_ne]; omega
  by_cases h60 : 60 ≤ W.length
  ·have HA := hid (show sendE W.length i tw = 2 ∧ sendW W i tw s = W by rw [HS.out, HE.out, if_neg hne, if_pos h60]; exact ⟨rfl, rfl⟩)
   have hd : decide ((60 : Int) ≤ (W.length : Int)) = true := decide_eq_true (by omega)
   clear hne h60
   go_enter Tryz.func16, Tryz.ntmps16
   go_wp2_with fail
   refine (town_is rT (some ⟨bs, os, none⟩) n cs (i : Int) w hq).mono ?_
   rw [HY1.out]
   rintro e w' ⟨rfl, rfl⟩
   go_wp2_with fail
   refine (town_is rT (some ⟨bs, os, none⟩) n cs (tw : Int) w' hq).mono ?_
   rw [HY2.out]
   rintro e w' ⟨rfl, rfl⟩
   go_wp2_with fail
   go_ret
   exact ⟨ret_int HA.out.1.symm, by rw [HA.out.2]; exact HT.out.is, Chg.refl _⟩
  ·have HA := hid (show sendE W.length i tw = 0 ∧ sendW W i tw s = W ++ [.ask tw (askS s)] by
    have h0 : sendE W.length i tw = 0 := by rw [HE.out, if_neg hne, if_neg h60]
    exact ⟨h0, by rw [HS.out, if_pos h0]⟩)
   have hd : decide ((60 : Int) ≤ (W.length : Int)) = false := decide_eq_false (by omega)
   clear hne h60
   go_enter Tryz.func16, Tryz.ntmps16
   go_wp2_with fail
   refine (town_is rT (some ⟨bs, os, none⟩) n cs (i : Int) w hq).mono ?_
   rw [HY1.out]
   rintro e w' ⟨rfl, rfl⟩
   go_wp2_with fail
   refine (town_is rT (some ⟨bs, os, none⟩) n cs (tw : Int) w' hq).mono ?_
   rw [HY2.out]
   rintro e w' ⟨rfl, rfl⟩
   go_wp2_with fail
   refine (site_Ask B r s w' HB.out HOK.out HIS.out.2).mono ?_
   rintro e w2 ⟨A1, c1, A2, c2, rfl, hi, hx2⟩
   have hx3 := (Ext.refl w2).alloc (.cells #[.int .i64 s.me, .int .i64 s.stamp, .slice A1 s.filter.length c1, .slice A2 (knownP s).length c2] 68)
   have hxa := hx2.trans hx3
   have hba := Blk.new w2 68 #[.int .i64 s.me, .int .i64 s.stamp, .slice A1 s.filter.length c1, .slice A2 (knownP s).length c2]
   have hxb := (Ext.refl (w2.alloc (.cells #[.int .i64 s.me, .int .i64 s.stamp, .slice A1 s.filter.length c1, .slice A2 (knownP s).length c2] 68))).alloc (.cells #[.int .i64 (tw : Int), .pointer (some ⟨w2.heap.size, 0, none⟩), .pointer none] 147)
   have hone := letters_one (B := B) (w := (w2.alloc (.cells #[.int .i64 s.me, .int .i64 s.stamp, .slice A1 s.filter.length c1, .slice A2 (knownP s).length c2] 68))) (cs := [.int .i64 (tw : Int), .pointer (some ⟨w2.heap.size, 0, none⟩), .pointer none]) (x := .ask tw (askS s)) rfl ⟨w2.heap.size, A1, c1, A2, c2, rfl, hba.ext hxb, (hi.ext hx3).ext hxb⟩
   rw [show (w2.alloc (.cells #[.int .i64 s.me, .int .i64 s.stamp, .slice A1 s.filter.length c1, .slice A2 (knownP s).length c2] 68)).heap.size = w2.heap.size + 1 by simp] at hone
   have hq3 := (HT.out.ext hxa).blk.cell (i := 1) (u := .slice Aw W.length cw) rfl
   have hxw := hxa.trans hxb
   have hbs := Nat.le_trans HB.out hxw.size
   have hrl3 := (HT.out.ext hxa).blk.lt
   have hlw := (HT.out.ext hxw).way
   have HX := hid hxw
   have HTT := hid (HT.out.ext hxw)
   clear hx2 hx3 hxa hba hi hxw hq hq1 hp hbl hrl hii hcap hxb
   go_wp2_with (at_builtin; refine wpList_app (ys := [.ask tw (askS s)]) (c := 1) (B := B) rfl _ _ rfl ei_let rfl hlw (Nat.le_refl B) hbs rfl hone RLet.oneC (RLet.mono (by decide)) (by have := HW.out; simp [maxLen]; omega) (by have := HW.out; simp; omega) ?_; intro v5 w5 ho5 hc5 hb5 hg5; have hT5 := HTT.out.blk.chg hc5 (by decide); have q5 := hT5.cell (i := 1) rfl; have z5 := hT5.frozen 1; obtain ⟨M, hM⟩ : ∃ M, M = W ++ [.ask tw (askS s)] := ⟨_, rfl⟩; rw [← hM] at ho5; have HM := hid hM; obtain ⟨A5, c5, rfl, m1, m2⟩ := ho5.len; clear hM)
   have ht := HTT.out.turn hc5 ho5
   clear hT5 q5 z5 ho5 hc5 hb5 hg5 hone hlw
   go_ret
   exact ⟨ret_int HA.out.1.symm, by rw [HA.out.2, ← HM.out]; exact ht.1, (Chg.of_ext HX.out).trans ht.2⟩
def loseE (n k : Nat) : Int := if k < n then 0 else 4
set_option maxRecDepth 100000 in
set_option maxHeartbeats 8000000 in
theorem town_Lose (B rT : Nat) (rs : List Nat) (L : List SiteS) (W : List LetS) (k : Nat) (w : World) (hB : B ≤ w.heap.size) (h : IsTown B w rT rs L W) (hW : W.length ≤ 60) (hk1 : k ≤ 1000) :
  Calls Tryz.prog 19 #[.pointer (some ⟨rT, 0, none⟩), .int .i64 (k : Int)] w fun e w' => e = .returned (.int .i64 (loseE W.length k)) ∧ IsTown B w' rT rs L (W.eraseIdx k) ∧ Chg B TL w w' := by
 obtain ⟨As, cs, v, h⟩ := h
 obtain ⟨Aw, cw, rfl, hw1, hw2⟩ := h.way.len
 have HT := hid h
 have hq1 := h.blk.cell (i := 1) (u := .slice Aw W.length cw) rfl
 have hrl := h.blk.lt
 have HB := hid hB
 have HE := hid (show loseE W.length k = if k < W.length then 0 else 4 from rfl)
 have hd0 : decide ((k : Int) < 0) = false := decide_eq_false (by omega)
 by_cases hk : k < W.length
 ·have HA := hid (show loseE W.length k = 0 by rw [HE.out, if_pos hk])
  have hd1 : decide ((W.length : Int) ≤ (k : Int)) = false := decide_eq_false (by omega)
  have hd1n : decide (W.length ≤ k) = false := decide_eq_false (by omega)
  have hwr : wrap64 ((k : Int) + 1) = ((k + 1 : Nat) : Int) := by unfold wrap64; omega
  rcases h.way.at_ with ⟨_, hnil⟩ | ⟨g, c', hv, _⟩
  ·rw [hnil] at hk; exact absurd hk (Nat.not_lt_zero _)
  injection hv with hA _ hcc
  subst hA hcc
  have HK := hid hk
  have HD := hid (delete_let (R := RLet B) B B g cw k W w (RLet.mono (by decide)) RLet.oneC (Nat.le_refl _) (by omega) hk h.way)
  have HLE := hid (show W.length - 1 = (W.eraseIdx k).length by rw [List.length_eraseIdx_of_lt hk])
  clear hk h hB hw1 hw2 hW
  go_enter Tryz.func19, Tryz.ntmps19
  go_wp2_with fail
  refine (HD.out).mono ?_
  rw [HLE.out]
  obtain ⟨M, hM⟩ : ∃ M, M = W.eraseIdx k := ⟨_, rfl⟩
  rw [← hM]
  have HM := hid hM
  clear hM HLE HD
  rintro e w5 ⟨rfl, ho5, hg5⟩
  have hc5 : Chg B [147] w w5 := HT.out.way.chg_of (Nat.le_refl _) hg5
  have hT5 := HT.out.blk.chg hc5 (by decide)
  have q5 := hT5.cell (i := 1) rfl
  have z5 := hT5.frozen 1
  have hrl5 := hT5.lt
  have ht := HT.out.turn hc5 ho5
  clear hT5 ho5 hc5 hg5
  go_wp2_with fail
  go_ret
  exact ⟨ret_int HA.out.symm, by rw [← HM.out]; exact ht.1, ht.2⟩
 ·have HA := hid (show loseE W.length k = 4 by rw [HE.out, if_neg hk])
  have hd1 : decide ((W.length : Int) ≤ (k : Int)) = true := decide_eq_true (by omega)
  have hd1n : decide (W.length ≤ k) = true := decide_eq_true (by omega)
  have HW2 := hid (show W.eraseIdx k = W from List.eraseIdx_of_length_le (by omega))
  clear hk h hB hw1 hw2 hW
  go_enter Tryz.func19, Tryz.ntmps19
  go_wp2_with fail
  go_ret
  exact ⟨ret_int HA.out.symm, by rw [HW2.out]; exact HT.out.is, Chg.refl _⟩
end Go.Proofs.YtngbfdogiciahaaGreat
