/- The walks of part.Join, Narrow. -/
import Derived.Test.YtngbfdogiciahaaGreatFewB
namespace Go.Proofs.YtngbfdogiciahaaGreat
open Go Go.RowKit
def joinPE (a b : List Part) : Int := if partsTwo a b = 0 then (if 30 < (fewOut (a ++ b)).length then 2 else 0) else partsTwo a b
def joinP (a b : List Part) : List Part := if joinPE a b = 0 then fewOut (a ++ b) else []
def mapTo (h : Part → Part) (L : List Part) (k : Nat) : List Part := (L.take k).map h ++ L.drop k
theorem mapTo_len (h : Part → Part) (L : List Part) (k : Nat) (hk : k ≤ L.length) : (mapTo h L k).length = L.length := by unfold mapTo; simp; omega
theorem mapTo_get (h : Part → Part) (L : List Part) (k : Nat) (hk : k < L.length) : (mapTo h L k)[k]? = some L[k] := by
 unfold mapTo
 rw [List.getElem?_append_right (by simp; omega)]
 simp [Nat.min_eq_left (Nat.le_of_lt hk), hk]
theorem mapTo_set (h : Part → Part) (L : List Part) (k : Nat) (hk : k < L.length) : (mapTo h L k).set k (h L[k]) = mapTo h L (k + 1) := by
 unfold mapTo
 rw [List.set_append_right _ _ (by simp; omega)]
 simp only [List.length_map, List.length_take, Nat.min_eq_left (Nat.le_of_lt hk), Nat.sub_self]
 rw [List.drop_eq_getElem_cons hk, List.set_cons_zero, List.take_succ_eq_append_getElem hk, List.map_append, List.append_assoc]
 rfl
def meetF (f g : List Box) : List Box := filterOp (fun a b => a &&& b) f g
def narrowP (f : List Box) (p : Part) : Part := ⟨meetF p.filter f, p.know⟩
def narrowE (l : List Part) (f : List Box) : Int := if partsCheck l = 0 then filterCheck f else partsCheck l
def narrowO (l : List Part) (f : List Box) : List Part := if narrowE l f = 0 then fewOut (l.map (narrowP f)) else []
theorem meetF_ok {f g : List Box} (hf : filterCheck f = 0) (hg : filterCheck g = 0) : filterCheck (meetF f g) = 0 ∧ ∀ i, i < 512 → pts (meetF f g) i = (pts f i && pts g i) := by
 have h2 : filterTwo f g = 0 := by rw [filterTwo, if_pos hf, hg]
 have h := filterOp_says bits_and h2
 exact ⟨h.ok, h.pts⟩
theorem narrowP_ok {p : Part} {f : List Box} (hp : PartOk p) (hf : filterCheck f = 0) : PartOk (narrowP f p) := ⟨(meetF_ok hp.f hf).1, hp.k⟩
set_option maxRecDepth 100000 in
set_option maxHeartbeats 1000000 in
theorem part_Join (B : Nat) (A A' : Option Addr) (c c' : Nat) (a b : List Part) (w : World) (hB : B ≤ w.heap.size) (hla : a.length ≤ maxLen) (hlb : b.length ≤ maxLen) (ha : SlParts B w A a) (hb : SlParts B w A' b) :
  Calls Tryz.prog 111 #[.slice A a.length c, .slice A' b.length c'] w fun e w' => ∃ v, e = .returned (.tuple #[v, .int .i64 (joinPE a b)]) ∧ IsParts B w' v (joinP a b) ∧ Ext w w' := by
 have HJE := hid (show joinPE a b = if partsTwo a b = 0 then (if 30 < (fewOut (a ++ b)).length then 2 else 0) else partsTwo a b from rfl)
 have HJ := hid (show joinP a b = if joinPE a b = 0 then fewOut (a ++ b) else [] from rfl)
 have HT := hid (show partsTwo a b = if partsCheck a = 0 then partsCheck b else partsCheck a from rfl)
 have HCa := hid (partsCheck_ok (l := a))
 have HCb := hid (partsCheck_ok (l := b))
 go_enter Tryz.func111, Tryz.ntmps111
 go_wp2_with fail
 refine (part_Check B A c a _ hla ha).mono ?_
 rintro e w1 ⟨rfl, hx1⟩
 generalize hpa : partsCheck a = x at HT HCa ⊢
 clear hpa
 by_cases h0 : x = 0
 ·subst h0
  have HOa := hid (HCa.out rfl)
  have HT1 := hid (show partsTwo a b = partsCheck b by rw [HT.out]; rfl)
  clear HCa HT
  go_wp2_with fail
  refine (part_Check B A' c' b _ hlb (hb.ext RPart.monoE hx1)).mono ?_
  rintro e w2 ⟨rfl, hx2⟩
  generalize hpb : partsCheck b = y at HT1 HCb ⊢
  clear hpb
  by_cases h1 : y = 0
  ·subst h1
   have HOb := hid (HCb.out rfl)
   have hx := hx1.trans hx2
   have hxa := (Ext.refl w2).alloc (.cells #[.slice A a.length c, .slice A' b.length c'] 66)
   have hl2 : Sl B 66 (RL B 181 (RPart B) 3) 1 (w2.alloc (.cells #[.slice A a.length c, .slice A' b.length c'] 66)) (some ⟨w2.heap.size, 0, none⟩) [a, b] := Sl.lit2 rfl ⟨A, c, rfl, ha.ext RPart.monoE (hx.trans hxa)⟩ ⟨A', c', rfl, hb.ext RPart.monoE (hx.trans hxa)⟩
   have HX := hid (hx.trans hxa)
   clear HCb hx1 hx2 hx hxa
   go_wp2_with fail
   refine (concat_prt B _ 2 [a, b] _ (Nat.le_trans hB HX.out.size) hl2 (by simp) (by have := HOa.out.1; have := HOb.out.1; simp; omega)).mono ?_
   rintro e w3 ⟨v3, rfl, hv3, hx3⟩
   rw [show [a, b].flatten = a ++ b by simp] at hv3
   obtain ⟨ab, hab⟩ : ∃ x, x = a ++ b := ⟨_, rfl⟩
   have HAB := hid hab
   rw [← hab] at hv3
   have HLen := hid (show ab.length ≤ 60 by rw [hab, List.length_append]; have := HOa.out.1; have := HOb.out.1; omega)
   have HMem := hid (show ∀ x ∈ ab, PartOk x by
    intro x hx
    rw [hab] at hx
    rcases List.mem_append.1 hx with h | h
    ·exact HOa.out.2 x h
    ·exact HOb.out.2 x h)
   obtain ⟨A3, c3, rfl, _, _⟩ := hv3.len
   have HX3 := hid (HX.out.trans hx3)
   clear hab hx3 hl2
   go_wp2_with fail
   refine (part_Few B A3 c3 ab _ (Nat.le_trans hB HX3.out.size) (by have := HLen.out; omega) HMem.out (hv3.sl B)).mono ?_
   rintro e w4 ⟨v4, rfl, hv4, hx4⟩
   rw [HAB.out] at hv4
   obtain ⟨FO, hFO⟩ : ∃ x, x = fewOut (a ++ b) := ⟨_, rfl⟩
   rw [← hFO] at hv4 HJE HJ
   obtain ⟨A4, c4, rfl, b1, b2⟩ := hv4.len
   clear hFO hv3
   by_cases hbig : 30 < FO.length
   ·have hbd : decide ((30 : Int) < FO.length) = true := decide_eq_true (by omega)
    have e1 : joinPE a b = 2 := by rw [HJE.out, if_pos HT1.out, if_pos hbig]
    have e2 : joinP a b = [] := by rw [HJ.out, if_neg (by rw [e1]; decide)]
    clear hbig
    go_wp2_with fail
    go_ret2
    exact ⟨.slice none 0 0, by simp [e1], by rw [e2]; exact IsSl.nil, HX3.out.trans hx4⟩
   ·have hbd : decide ((30 : Int) < FO.length) = false := decide_eq_false (by omega)
    have e1 : joinPE a b = 0 := by rw [HJE.out, if_pos HT1.out, if_neg hbig]
    have e2 : joinP a b = FO := by rw [HJ.out, if_pos e1]
    clear hbig
    go_wp2_with fail
    go_ret2
    exact ⟨.slice A4 FO.length c4, by simp [e1], by rw [e2]; exact hv4.isSl B, HX3.out.trans hx4⟩
  ·have hne : (y != 0) = true := by simpa using h1
   have e1 : joinPE a b = y := by rw [HJE.out, HT1.out, if_neg h1]
   have e2 : joinP a b = [] := by rw [HJ.out, if_neg (by rw [e1]; exact h1)]
   clear h1
   go_wp2_with fail
   go_ret2
   exact ⟨.slice none 0 0, by simp [e1], by rw [e2]; exact IsSl.nil, hx1.trans hx2⟩
 ·have hne : (x != 0) = true := by simpa using h0
  have e1 : joinPE a b = x := by rw [HJE.out, HT.out, if_neg h0, if_neg h0]
  have e2 : joinP a b = [] := by rw [HJ.out, if_neg (by rw [e1]; exact h0)]
  clear h0
  go_wp2_with fail
  go_ret2
  exact ⟨.slice none 0 0, by simp [e1], by rw [e2]; exact IsSl.nil, hx1⟩
set_option maxRecDepth 100000 in
set_option maxHeartbeats 1000000 in
theorem part_Narrow (B : Nat) (A A' : Option Addr) (c c' : Nat) (l : List Part) (f : List Box) (w : World) (hB : B ≤ w.heap.size) (hla : l.length ≤ maxLen) (hlf : f.length ≤ maxLen) (ha : SlParts B w A l) (hf : SlBoxes B w A' f) :
  Calls Tryz.prog 84 #[.slice A l.length c, .slice A' f.length c'] w fun e w' => ∃ v, e = .returned (.tuple #[v, .int .i64 (narrowE l f)]) ∧ IsParts B w' v (narrowO l f) ∧ Ext w w' := by
 have HNE := hid (show narrowE l f = if partsCheck l = 0 then filterCheck f else partsCheck l from rfl)
 have HNO := hid (show narrowO l f = if narrowE l f = 0 then fewOut (l.map (narrowP f)) else [] from rfl)
 have HC := hid (partsCheck_ok (l := l))
 go_enter Tryz.func84, Tryz.ntmps84
 go_wp2_with fail
 refine (part_Check B A c l _ hla ha).mono ?_
 rintro e w1 ⟨rfl, hx1⟩
 generalize hpa : partsCheck l = x at HNE HC ⊢
 clear hpa
 by_cases h0 : x = 0
 ·subst h0
  have HO := hid (HC.out rfl)
  have HE1 := hid (show narrowE l f = filterCheck f by rw [HNE.out]; rfl)
  clear HC HNE
  go_wp2_with fail
  refine (filter_Check B A' c' f _ hlf (hf.ext RBox.monoE hx1)).mono ?_
  rintro e w2 ⟨rfl, hx2⟩
  have HFC := hid (rfl : filterCheck f = filterCheck f)
  generalize hpb : filterCheck f = y at HE1 ⊢
  by_cases h1 : y = 0
  ·subst h1
   have HF0 := hid hpb
   have e1 := HE1.out
   have HN2 := hid (show narrowO l f = fewOut (l.map (narrowP f)) by rw [HNO.out, if_pos e1])
   have hx := hx1.trans hx2
   clear hx1 hx2 HNO hpb HFC e1
   go_wp2_with fail
   refine (part_Copied B A c l _ (Nat.le_trans hB hx.size) (by have := HO.out.1; omega) HO.out.2 (ha.ext RPart.monoE hx)).mono ?_
   rintro e w3 ⟨v3, rfl, hv3, hx3⟩
   obtain ⟨A3, c3, rfl, b1, b2⟩ := hv3.len
   have hxw := hx.trans hx3
   replace hv3 := hv3.weaken hx.size
   have L0 := HO.out.1
   clear hx hx3
   go_wp2_with fail
   go_loopw [24] (fun i ws => ∃ k : Nat, k ≤ l.length ∧ i = .int .i64 k ∧ Own (RPart B) 3 181 ws w.heap.size (.slice A3 l.length c3) (mapTo (narrowP f) l k) ∧ Ext w ws) (fun i _ => l.length - (intOf i).toNat)
   case atStart => exact ⟨0, Nat.zero_le _, rfl, by rw [show mapTo (narrowP f) l 0 = l by simp [mapTo]]; exact hv3, hxw⟩
   case round =>
    clear hv3 hxw
    obtain ⟨k, hk, rfl, how, hx⟩ := hrel
    by_cases hlt : k < l.length
    ·have HOk := hid (HO.out.2 _ (List.getElem_mem hlt))
     have HPL := hid (mapTo_len (narrowP f) l k hk)
     rcases how.at_ with ⟨_, hn⟩ | ⟨g, cx, hv, hbg, hgl, hty, hfz, hat⟩
     ·have := HPL.out; rw [hn] at this; simp at this; omega
     injection hv with hA hnn hcc
     clear hnn
     subst hA hcc
     obtain ⟨cs, hcl, hcc, hR⟩ := hat k _ (mapTo_get (narrowP f) l k hlt)
     obtain ⟨Af, cf, Av, cv, Am, cm, rfl, hi⟩ := hR.inP
     have g0 := hcc 0 _ rfl
     simp only [Nat.add_zero] at g0
     have hf0 := hfz (k * 3)
     have k0 : (0 : Int) ≤ k := by omega
     have k1 : (k : Int) < l.length := by omega
     have HGB := hid hbg
     have HI := hid hi
     clear hat hcc hcl hR hi hfz hty
     go_wp2_with fail
     refine (filter_Meet B Af A' cf c' l[k].filter f wr (Nat.le_trans hB hx.size) HI.out.lf hlf HI.out.sf (hf.ext RBox.monoE hx)).mono ?_
     rintro e w4 ⟨v4, rfl, hv4, hx4⟩
     obtain ⟨M, hM⟩ : ∃ m, m = filterOp (fun a b => a &&& b) l[k].filter f := ⟨_, rfl⟩
     rw [← hM] at hv4
     have HM := hid (show narrowP f l[k] = ⟨M, l[k].know⟩ by rw [hM]; rfl)
     obtain ⟨A4, c4, rfl, b3, b4, hv4⟩ := hv4
     have how3 := how.ext RPart.monoE hx4
     replace g0 := hx4.cell g0
     replace hf0 := (hx4.frozenAt hgl).trans hf0
     have hxw := hx.trans hx4
     have hgl3 : g < w4.heap.size := Nat.lt_of_lt_of_le hgl hx4.size
     clear how hx hx4 hgl hM
     go_wp2_with fail
     have hpl : Own (RPart B) 3 181 w4 w.heap.size (.slice (some ⟨g, 0, none⟩) (mapTo (narrowP f) l k).length c3) (mapTo (narrowP f) l k) := by rw [HPL.out]; exact how3
     have hkl : k < (mapTo (narrowP f) l k).length := by rw [HPL.out]; exact hlt
     have hek : (mapTo (narrowP f) l k)[k] = l[k] := by
      have := mapTo_get (narrowP f) l k hlt
      rw [List.getElem?_eq_getElem hkl] at this
      injection this
     obtain ⟨hset, hcs, hbs⟩ := hpl.set (B := B) (RPart.mono (by decide) (by decide) (by decide) (by decide)) hB hkl (show 0 < 3 by omega) (.slice A4 M.length c4) (narrowP f l[k]) (by
      intro cs hcl hR
      rw [hek] at hR
      obtain ⟨f', v, m, rfl, hf', hvv, hm⟩ := hR
      have hch : Chg B [181] w4 (w4.setCell ⟨g, k * 3 + 0, none⟩ (.slice A4 M.length c4)) := (Chg.refl w4).setCell (p := ⟨g, k * 3 + 0, none⟩) (show tyAt w4 g = some 181 by
       rcases how3.at_ with ⟨hv, _⟩ | ⟨g', cx, hv, _, _, hty, _, _⟩
       ·cases hv
       ·injection hv with hA _ _
        injection hA with hA
        injection hA with hA _
        rw [hA]; exact hty) (by simp) _ (Nat.le_trans hB HGB.out)
      rw [HM.out]
      exact ⟨_, v, m, rfl, (show IsBoxes B w4 (.slice A4 M.length c4) M from ⟨A4, c4, rfl, b3, b4, hv4⟩).chg (RBox.mono (by decide)) (by decide) hch, hvv.chg RInt.mono (by decide) hch, hm.chg RPair.mono (by decide) hch⟩)
     rw [mapTo_set (narrowP f) l k hlt, HPL.out, Nat.add_zero] at hset
     rw [Nat.add_zero] at hbs
     go_roundw
     case rel => exact ⟨k + 1, hlt, by go_num, hset, hxw.below hbs (Nat.le_refl _)⟩
     case measure => simp [intOf]; omega
    ·obtain rfl : k = l.length := by omega
     rw [show mapTo (narrowP f) l l.length = l.map (narrowP f) by simp [mapTo]] at how
     obtain ⟨NL, hNL⟩ : ∃ n, n = l.map (narrowP f) := ⟨_, rfl⟩
     have HNL := hid hNL
     rw [← hNL] at how
     have HLn := hid (show NL.length = l.length by rw [hNL, List.length_map])
     have HMem := hid (show ∀ x ∈ NL, PartOk x by
      intro x hx
      rw [hNL] at hx
      obtain ⟨y, hy, rfl⟩ := List.mem_map.1 hx
      exact narrowP_ok (HO.out.2 y hy) HF0.out)
     clear hNL
     go_wp2_with fail
     have hfew := part_Few B A3 c3 NL wr (Nat.le_trans hB hx.size) (by rw [HLn.out]; omega) HMem.out (how.sl B)
     rw [HLn.out] at hfew
     refine hfew.mono ?_
     rintro e w5 ⟨v5, rfl, hv5, hx5⟩
     rw [HNL.out, ← HN2.out] at hv5
     obtain ⟨A5, c5, rfl, b5, b6⟩ := hv5.len
     have e1 := HE1.out
     go_wp2_with fail
     go_ret2
     exact ⟨.slice A5 (narrowO l f).length c5, by simp [e1], hv5.isSl B, hx.trans hx5⟩
  ·have hne : (y != 0) = true := by simpa using h1
   have e1 := HE1.out
   have e2 : narrowO l f = [] := by rw [HNO.out, if_neg (by rw [e1]; exact h1)]
   clear h1 hpb
   go_wp2_with fail
   go_ret2
   exact ⟨.slice none 0 0, by simp [e1], by rw [e2]; exact IsSl.nil, hx1.trans hx2⟩
 ·have hne : (x != 0) = true := by simpa using h0
  have e1 : narrowE l f = x := by rw [HNE.out, if_neg h0]
  have e2 : narrowO l f = [] := by rw [HNO.out, if_neg (by rw [e1]; exact h0)]
  clear h0
  go_wp2_with fail
  go_ret2
  exact ⟨.slice none 0 0, by simp [e1], by rw [e2]; exact IsSl.nil, hx1⟩
end Go.Proofs.YtngbfdogiciahaaGreat
