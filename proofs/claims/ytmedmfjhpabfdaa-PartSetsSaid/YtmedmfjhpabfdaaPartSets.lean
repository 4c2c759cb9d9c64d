/- THE LAW PartSets: whatever parts and filters are handed in, Join and Narrow answer what the document says. The conditions are the statement's own. -/
import Derived.Test.YtmedmfjhpabfdaaRows
import Derived.Test.YtmedmfjhpabfdaaFewT
namespace Go.Proofs.Ytmedmfjhpabfdaa
open Go Go.RowKit

theorem own_joinE : joinPE [] [⟨everyF, ⟨[1], []⟩⟩] = 0 := by decide +kernel
theorem own_joinL : (joinP [] [⟨everyF, ⟨[1], []⟩⟩]).length = 1 := by decide +kernel
theorem own_joinF : ∀ p ∈ joinP [] [⟨everyF, ⟨[1], []⟩⟩], filterCheck p.filter = 0 := by
  intro p hp
  rw [joinP, if_pos own_joinE] at hp
  obtain ⟨q, hq, rfl⟩ := List.mem_map.1 hp
  exact mkBoxes_check _
theorem Sl.ofBlk2 {α : Type} {R : World → List Value → α → Prop} {B sz : Nat} {e : TypeId} {w : World} {b : Nat} {cs : Array Value} {x : α} (h : Blk w b e cs) (hl : cs.size = sz) (hR : R w cs.toList x) : Sl B e R sz w (some ⟨b, 0, none⟩) [x] := by
  intro i y hi
  match i, hi with
  | 0, hi =>
    simp at hi; subst hi
    exact ⟨b, 0, cs.toList, rfl, h.lt, .inr h.ty, by simp [hl], fun j u hj => by rw [Nat.zero_mul, Nat.zero_add]; exact h.cell (by rwa [Array.getElem?_toList] at hj), hR⟩

set_option maxRecDepth 100000 in
set_option maxHeartbeats 4000000 in
theorem law_PartSets (B : Nat) (A A' Af : Option Addr) (c c' cf : Nat) (a b : List Part) (f : List Box) (w : World) (hB : B ≤ w.heap.size) (hla : a.length ≤ maxLen) (hlb : b.length ≤ maxLen) (hlf : f.length ≤ maxLen) (ha : SlParts B w A a) (hb : SlParts B w A' b) (hf : SlBoxes B w Af f) :
    Calls Try.prog 8 #[.slice A a.length c, .slice A' b.length c', .slice Af f.length cf] w fun e w' => e = .returned (.bool true) ∧ Ext w w' := by
  have HCa := hid (partsCheck_ok (l := a))
  have HCb := hid (partsCheck_ok (l := b))
  obtain ⟨MA, hMA⟩ : ∃ m, m = a.map meanOf := ⟨_, rfl⟩
  obtain ⟨MB, hMB⟩ : ∃ m, m = b.map meanOf := ⟨_, rfl⟩
  have HMA := hid hMA
  have HMB := hid hMB
  have HLA := hid (show MA.length = a.length by rw [hMA, List.length_map])
  have HLB := hid (show MB.length = b.length by rw [hMB, List.length_map])
  clear hMA hMB
  go_enter Try.func8, Try.ntmps8
  go_wp2_with fail
  refine (part_Join B A A' c c' a b _ hB hla hlb ha hb).mono ?_
  rintro e w1 ⟨vj, rfl, hj, hx1⟩
  obtain ⟨J, hJ⟩ : ∃ J, J = joinP a b := ⟨_, rfl⟩
  have HJ := hid hJ
  rw [← hJ] at hj
  obtain ⟨Aj, cj, rfl, _, _, hj⟩ := hj
  clear hJ
  go_wp2_with fail
  refine (part_Narrow B A Af c cf a f _ (Nat.le_trans hB hx1.size) hla hlf (ha.ext RPart.monoE hx1) (hf.ext RBox.monoE hx1)).mono ?_
  rintro e w2 ⟨vn, rfl, hn, hx2⟩
  obtain ⟨NO, hNO⟩ : ∃ N, N = narrowO a f := ⟨_, rfl⟩
  have HNO := hid hNO
  rw [← hNO] at hn
  obtain ⟨An, cn, rfl, _, _, hn⟩ := hn
  replace hj := hj.ext RPart.monoE hx2
  have hx := hx1.trans hx2
  clear hNO hx1 hx2
  go_wp2_with fail
  refine (ref_Parts B A c a _ hla (ha.ext RPart.monoE hx)).mono ?_
  rintro e w3 ⟨rfl, hx3⟩
  replace hj := hj.ext RPart.monoE hx3
  replace hn := hn.ext RPart.monoE hx3
  replace hx := hx.trans hx3
  clear hx3
  go_wp2_with fail
  refine (filter_Every B _ (Nat.le_trans hB hx.size)).mono ?_
  rintro e w4 ⟨v4, rfl, h4, hx4⟩
  obtain ⟨A4, c4, rfl, b41, b42, h4⟩ := h4
  replace hj := hj.ext RPart.monoE hx4
  replace hn := hn.ext RPart.monoE hx4
  replace hx := hx.trans hx4
  clear hx4
  go_wp2_with fail
  have hbv := (Blk.new w4 3 #[.int .i64 1]).alloc (.cells #[.slice A4 everyF.length c4, .slice (some ⟨w4.heap.size, 0, none⟩) 1 1, .slice none 0 0] 69)
  have hbp := Blk.new (w4.alloc (.cells #[.int .i64 1] 3)) 69 #[.slice A4 everyF.length c4, .slice (some ⟨w4.heap.size, 0, none⟩) 1 1, .slice none 0 0]
  rw [World.size_alloc] at hbp
  have hxp := ((Ext.refl w4).alloc (.cells #[.int .i64 1] 3)).alloc (.cells #[.slice A4 everyF.length c4, .slice (some ⟨w4.heap.size, 0, none⟩) 1 1, .slice none 0 0] 69)
  refine (part_Join B none (some ⟨w4.heap.size + 1, 0, none⟩) 0 1 [] [⟨everyF, ⟨[1], []⟩⟩] _ (Nat.le_trans hB (hx.trans hxp).size) (by simp [maxLen]) (by simp [maxLen]) Sl.nil (Sl.ofBlk2 hbp rfl ⟨_, _, _, rfl, ⟨A4, c4, rfl, b41, b42, h4.ext RBox.monoE hxp⟩, ⟨_, 1, rfl, by simp, by simp [maxLen], Sl.ofBlk2 hbv rfl rfl⟩, IsSl.nil⟩)).mono ?_
  rintro e w5 ⟨v5, rfl, h5, hx5⟩
  have HOJ := hid own_joinF
  obtain ⟨OJ, hOJ⟩ : ∃ o, o = joinP [] [⟨everyF, ⟨[1], []⟩⟩] := ⟨_, rfl⟩
  have HOL := hid (show OJ.length = 1 by rw [hOJ]; exact own_joinL)
  rw [← hOJ] at h5 HOJ
  rw [own_joinE]
  obtain ⟨A5, c5, rfl, _, _, h5⟩ := h5
  obtain ⟨P5, hP5⟩ : ∃ P5, OJ = [P5] := List.length_eq_one_iff.1 HOL.out
  subst hP5
  rw [show ([P5] : List Part).length = 1 from rfl]
  obtain ⟨b5, off5, Af5, cf5, Av5, cv5, Am5, cm5, rfl, hb5, g50, g51, g52, hi5⟩ := h5.part (i := 0) (by simp)
  rw [Nat.zero_mul, Nat.add_zero] at g50
  simp only [List.getElem_cons_zero] at g50 hi5
  have HF5 := hid (HOJ.out P5 (by simp))
  have HI5 := hid hi5
  replace hx5 := hxp.trans hx5
  clear hbv hbp hxp hOJ h5 g51 g52 hi5 h4
  replace hj := hj.ext RPart.monoE hx5
  replace hn := hn.ext RPart.monoE hx5
  replace hx := hx.trans hx5
  clear hx5
  go_wp2_with fail
  refine (ref_Filter B Af5 cf5 P5.filter _ HI5.out.lf HI5.out.sf).mono ?_
  rintro e w6 ⟨rfl, hx6⟩
  rw [HF5.out]
  clear g50
  replace hj := hj.ext RPart.monoE hx6
  replace hn := hn.ext RPart.monoE hx6
  replace hx := hx.trans hx6
  clear hx6
  have HT := hid (show partsTwo a b = if partsCheck a = 0 then partsCheck b else partsCheck a from rfl)
  have HN := hid (show narrowE a f = if partsCheck a = 0 then filterCheck f else partsCheck a from rfl)
  generalize hpa : partsCheck a = x at HCa HT HN ⊢
  by_cases h0 : x = 0
  · subst h0
    have HOa := hid (HCa.out rfl)
    have HT1 := hid (show partsTwo a b = partsCheck b by rw [HT.out]; rfl)
    have HN1 := hid (show narrowE a f = filterCheck f by rw [HN.out]; rfl)
    clear HCa HT HN hpa
    go_wp2_with fail
    refine (ref_Filter B Af cf f _ hlf (hf.ext RBox.monoE hx)).mono ?_
    rintro e w7 ⟨rfl, hx7⟩
    replace hj := hj.ext RPart.monoE hx7
    replace hn := hn.ext RPart.monoE hx7
    replace hx := hx.trans hx7
    clear hx7
    generalize hpf : filterCheck f = y at HN1 ⊢
    by_cases h1 : y = 0
    · subst h1
      have HF0 := hid hpf
      have e1 := HN1.out
      have HSn := hid (narrow_say HOa.out.2 HF0.out)
      have HNO2 := hid (show NO = fewOut (a.map (narrowP f)) by rw [HNO.out, narrowO, if_pos e1])
      rw [e1]
      clear e1 hpf
      go_wp2_with fail
      refine (ref_Mean B A c a _ HOa.out.1 HOa.out.2 (ha.ext RPart.monoE hx)).mono ?_
      rintro e w8 ⟨v8, rfl, hv8, hx8⟩
      rw [← HMA.out] at hv8
      obtain ⟨A8, c8, rfl, _, _⟩ := hv8.len
      replace hj := hj.ext RPart.monoE hx8
      replace hn := hn.ext RPart.monoE hx8
      replace hx := hx.trans hx8
      clear hx8
      go_wp2_with fail
      refine (ref_Of B Af cf f _ hlf (filterCheck_ok HF0.out).2 (hf.ext RBox.monoE hx)).mono ?_
      rintro e w9 ⟨rfl, hx9⟩
      replace hj := hj.ext RPart.monoE hx9
      replace hn := hn.ext RPart.monoE hx9
      replace hv8 := hv8.ext (RRef.mono (B := 0)) hx9
      replace hx := hx.trans hx9
      clear hx9
      go_wp2_with fail
      refine (ref_Narrowed 0 A8 c8 MA (pts f) _ (by have := HLA.out; have := HOa.out.1; omega) (hv8.sl 0)).mono ?_
      rintro e w10 ⟨v10, rfl, hv10, hx10⟩
      obtain ⟨WN, hWN⟩ : ∃ m, m = fewR (MA.map (narrowR (pts f))) := ⟨_, rfl⟩
      have HSy := hid (show SayOk NO WN by rw [hWN, HMA.out, HNO2.out]; exact HSn.out)
      have HNL := hid (show NO.length ≤ 1000 by
        have h1 := HSy.out.len
        have h2 := fewR_len (MA.map (narrowR (pts f)))
        rw [← hWN, List.length_map] at h2
        have := HLA.out; have := HOa.out.1; omega)
      rw [← hWN] at hv10
      obtain ⟨A10, c10, rfl, _, _⟩ := hv10.len
      clear hWN hv8
      replace hj := hj.ext RPart.monoE hx10
      replace hn := hn.ext RPart.monoE hx10
      replace hx := hx.trans hx10
      clear hx10
      go_wp2_with fail
      refine (ref_SayParts B 0 An A10 cn c10 NO WN w10 HNL.out HSy.out hn (hv10.sl 0)).mono ?_
      rintro e w11 ⟨rfl, hx11⟩
      replace hj := hj.ext RPart.monoE hx11
      replace hn := hn.ext RPart.monoE hx11
      replace hx := hx.trans hx11
      clear hx11
      clear hv10
      go_wp2_with fail
      refine (ref_Parts B A' c' b _ hlb (hb.ext RPart.monoE hx)).mono ?_
      rintro e w20 ⟨rfl, hx20⟩
      replace hj := hj.ext RPart.monoE hx20
      replace hn := hn.ext RPart.monoE hx20
      replace hx := hx.trans hx20
      clear hx20
      have HZ := hid (rfl : partsCheck b = partsCheck b)
      generalize hpb : partsCheck b = z at HCb HT1 ⊢
      by_cases h2 : z = 0
      · subst h2
        have HOb := hid (HCb.out rfl)
        have HSay := hid (join_say HOa.out.2 HOb.out.2)
        have HE1 := hid (show joinPE a b = if 30 < (fewOut (a ++ b)).length then 2 else 0 by rw [joinPE, if_pos HT1.out])
        clear HCb hpb HZ
        go_wp2_with fail
        refine (ref_Mean B A c a _ HOa.out.1 HOa.out.2 (ha.ext RPart.monoE hx)).mono ?_
        rintro e w21 ⟨v21, rfl, hv21, hx21⟩
        rw [← HMA.out] at hv21
        obtain ⟨A21, c21, rfl, _, _⟩ := hv21.len
        replace hj := hj.ext RPart.monoE hx21
        replace hn := hn.ext RPart.monoE hx21
        replace hx := hx.trans hx21
        clear hx21
        go_wp2_with fail
        refine (ref_Mean B A' c' b _ HOb.out.1 HOb.out.2 (hb.ext RPart.monoE hx)).mono ?_
        rintro e w22 ⟨v22, rfl, hv22, hx22⟩
        rw [← HMB.out] at hv22
        obtain ⟨A22, c22, rfl, _, _⟩ := hv22.len
        replace hj := hj.ext RPart.monoE hx22
        replace hn := hn.ext RPart.monoE hx22
        replace hv21 := hv21.ext (RRef.mono (B := 0)) hx22
        replace hx := hx.trans hx22
        clear hx22
        have hxa := (Ext.refl w22).alloc (.cells #[.slice A21 MA.length c21, .slice A22 MB.length c22] 73)
        have hl2 : Sl 0 73 (RL 0 85 RRef 592) 1 (w22.alloc (.cells #[.slice A21 MA.length c21, .slice A22 MB.length c22] 73)) (some ⟨w22.heap.size, 0, none⟩) [MA, MB] := Sl.lit2 rfl ⟨A21, c21, rfl, (hv21.sl 0).ext (RRef.mono (B := 0)) hxa⟩ ⟨A22, c22, rfl, (hv22.sl 0).ext (RRef.mono (B := 0)) hxa⟩
        replace hj := hj.ext RPart.monoE hxa
        replace hx := hx.trans hxa
        clear hv21 hv22 hn hxa
        go_wp2_with fail
        refine (concat_rp 0 _ 2 [MA, MB] _ (Nat.zero_le _) hl2 (by simp) (by have := HLA.out; have := HLB.out; have := HOa.out.1; have := HOb.out.1; simp; omega)).mono ?_
        rintro e w23 ⟨v23, rfl, hv23, hx23⟩
        rw [show [MA, MB].flatten = MA ++ MB by simp] at hv23
        obtain ⟨MM, hMM⟩ : ∃ m, m = MA ++ MB := ⟨_, rfl⟩
        have HMM := hid hMM
        have HLM := hid (show MM.length ≤ 1000 by rw [hMM, List.length_append]; have := HLA.out; have := HLB.out; have := HOa.out.1; have := HOb.out.1; omega)
        rw [← hMM] at hv23
        obtain ⟨A23, c23, rfl, _, _⟩ := hv23.len
        replace hj := hj.ext RPart.monoE hx23
        replace hx := hx.trans hx23
        clear hMM hx23 hl2
        go_wp2_with fail
        refine (ref_Few 0 A23 c23 MM w23 HLM.out (hv23.sl 0)).mono ?_
        rintro e w24 ⟨v24, rfl, hv24, hx24⟩
        obtain ⟨WT, hWT⟩ : ∃ m, m = fewR MM := ⟨_, rfl⟩
        have HWT := hid (show WT = fewR (a.map meanOf ++ b.map meanOf) by rw [hWT, HMM.out, HMA.out, HMB.out])
        rw [← hWT] at hv24
        obtain ⟨A24, c24, rfl, _, _⟩ := hv24.len
        replace hj := hj.ext RPart.monoE hx24
        replace hx := hx.trans hx24
        clear hWT hx24 hv23
        have hle := HSay.out.len
        rw [← HWT.out] at hle
        by_cases hbig : 30 < WT.length
        · have hbd : decide ((30 : Int) < WT.length) = true := decide_eq_true (by omega)
          have e1 : joinPE a b = 2 := by rw [HE1.out, if_pos (by omega)]
          obtain rfl : J = [] := by rw [HJ.out, joinP, if_neg (by rw [e1]; decide)]
          rw [e1]
          clear hbig hle e1
          go_wp2_with fail
          go_ret
          exact ⟨rfl, hx⟩
        · have hbd : decide ((30 : Int) < WT.length) = false := decide_eq_false (by omega)
          have e1 : joinPE a b = 0 := by rw [HE1.out, if_neg (by omega)]
          have HJ2 := hid (show J = fewOut (a ++ b) by rw [HJ.out, joinP, if_pos e1])
          have HSy := hid (show SayOk J WT by rw [HJ2.out, HWT.out]; exact HSay.out)
          have HJL := hid (show J.length ≤ 1000 by rw [HJ2.out]; have := HSay.out.len; rw [← HWT.out] at this; omega)
          rw [e1]
          clear hbig hle e1
          go_wp2_with fail
          refine (ref_SayParts B 0 Aj A24 cj c24 J WT w24 HJL.out HSy.out hj (hv24.sl 0)).mono ?_
          rintro e w25 ⟨rfl, hx25⟩
          go_wp2_with fail
          go_ret
          exact ⟨rfl, hx.trans hx25⟩
      · have hze : (z != 0) = true := by simpa using h2
        have e1 : joinPE a b = z := by rw [joinPE, HT1.out, if_neg h2]
        obtain rfl : J = [] := by rw [HJ.out, joinP, if_neg (by rw [e1]; exact h2)]
        rw [e1]
        have hzz : (z == z) = true := by simp
        clear h2 e1
        go_wp2_with fail
        go_ret
        exact ⟨rfl, hx⟩
    · have hye : (y != 0) = true := by simpa using h1
      have e1 := HN1.out
      obtain rfl : NO = [] := by rw [HNO.out, narrowO, if_neg (by rw [e1]; exact h1)]
      rw [e1]
      have hyy : (y != y) = false := by simp
      clear h1 e1 hpf
      go_wp2_with fail
      refine (ref_Parts B A' c' b _ hlb (hb.ext RPart.monoE hx)).mono ?_
      rintro e w20 ⟨rfl, hx20⟩
      replace hj := hj.ext RPart.monoE hx20
      replace hn := hn.ext RPart.monoE hx20
      replace hx := hx.trans hx20
      clear hx20
      have HZ := hid (rfl : partsCheck b = partsCheck b)
      generalize hpb : partsCheck b = z at HCb HT1 ⊢
      by_cases h2 : z = 0
      · subst h2
        have HOb := hid (HCb.out rfl)
        have HSay := hid (join_say HOa.out.2 HOb.out.2)
        have HE1 := hid (show joinPE a b = if 30 < (fewOut (a ++ b)).length then 2 else 0 by rw [joinPE, if_pos HT1.out])
        clear HCb hpb HZ
        go_wp2_with fail
        refine (ref_Mean B A c a _ HOa.out.1 HOa.out.2 (ha.ext RPart.monoE hx)).mono ?_
        rintro e w21 ⟨v21, rfl, hv21, hx21⟩
        rw [← HMA.out] at hv21
        obtain ⟨A21, c21, rfl, _, _⟩ := hv21.len
        replace hj := hj.ext RPart.monoE hx21
        replace hn := hn.ext RPart.monoE hx21
        replace hx := hx.trans hx21
        clear hx21
        go_wp2_with fail
        refine (ref_Mean B A' c' b _ HOb.out.1 HOb.out.2 (hb.ext RPart.monoE hx)).mono ?_
        rintro e w22 ⟨v22, rfl, hv22, hx22⟩
        rw [← HMB.out] at hv22
        obtain ⟨A22, c22, rfl, _, _⟩ := hv22.len
        replace hj := hj.ext RPart.monoE hx22
        replace hn := hn.ext RPart.monoE hx22
        replace hv21 := hv21.ext (RRef.mono (B := 0)) hx22
        replace hx := hx.trans hx22
        clear hx22
        have hxa := (Ext.refl w22).alloc (.cells #[.slice A21 MA.length c21, .slice A22 MB.length c22] 73)
        have hl2 : Sl 0 73 (RL 0 85 RRef 592) 1 (w22.alloc (.cells #[.slice A21 MA.length c21, .slice A22 MB.length c22] 73)) (some ⟨w22.heap.size, 0, none⟩) [MA, MB] := Sl.lit2 rfl ⟨A21, c21, rfl, (hv21.sl 0).ext (RRef.mono (B := 0)) hxa⟩ ⟨A22, c22, rfl, (hv22.sl 0).ext (RRef.mono (B := 0)) hxa⟩
        replace hj := hj.ext RPart.monoE hxa
        replace hx := hx.trans hxa
        clear hv21 hv22 hn hxa
        go_wp2_with fail
        refine (concat_rp 0 _ 2 [MA, MB] _ (Nat.zero_le _) hl2 (by simp) (by have := HLA.out; have := HLB.out; have := HOa.out.1; have := HOb.out.1; simp; omega)).mono ?_
        rintro e w23 ⟨v23, rfl, hv23, hx23⟩
        rw [show [MA, MB].flatten = MA ++ MB by simp] at hv23
        obtain ⟨MM, hMM⟩ : ∃ m, m = MA ++ MB := ⟨_, rfl⟩
        have HMM := hid hMM
        have HLM := hid (show MM.length ≤ 1000 by rw [hMM, List.length_append]; have := HLA.out; have := HLB.out; have := HOa.out.1; have := HOb.out.1; omega)
        rw [← hMM] at hv23
        obtain ⟨A23, c23, rfl, _, _⟩ := hv23.len
        replace hj := hj.ext RPart.monoE hx23
        replace hx := hx.trans hx23
        clear hMM hx23 hl2
        go_wp2_with fail
        refine (ref_Few 0 A23 c23 MM w23 HLM.out (hv23.sl 0)).mono ?_
        rintro e w24 ⟨v24, rfl, hv24, hx24⟩
        obtain ⟨WT, hWT⟩ : ∃ m, m = fewR MM := ⟨_, rfl⟩
        have HWT := hid (show WT = fewR (a.map meanOf ++ b.map meanOf) by rw [hWT, HMM.out, HMA.out, HMB.out])
        rw [← hWT] at hv24
        obtain ⟨A24, c24, rfl, _, _⟩ := hv24.len
        replace hj := hj.ext RPart.monoE hx24
        replace hx := hx.trans hx24
        clear hWT hx24 hv23
        have hle := HSay.out.len
        rw [← HWT.out] at hle
        by_cases hbig : 30 < WT.length
        · have hbd : decide ((30 : Int) < WT.length) = true := decide_eq_true (by omega)
          have e1 : joinPE a b = 2 := by rw [HE1.out, if_pos (by omega)]
          obtain rfl : J = [] := by rw [HJ.out, joinP, if_neg (by rw [e1]; decide)]
          rw [e1]
          clear hbig hle e1
          go_wp2_with fail
          go_ret
          exact ⟨rfl, hx⟩
        · have hbd : decide ((30 : Int) < WT.length) = false := decide_eq_false (by omega)
          have e1 : joinPE a b = 0 := by rw [HE1.out, if_neg (by omega)]
          have HJ2 := hid (show J = fewOut (a ++ b) by rw [HJ.out, joinP, if_pos e1])
          have HSy := hid (show SayOk J WT by rw [HJ2.out, HWT.out]; exact HSay.out)
          have HJL := hid (show J.length ≤ 1000 by rw [HJ2.out]; have := HSay.out.len; rw [← HWT.out] at this; omega)
          rw [e1]
          clear hbig hle e1
          go_wp2_with fail
          refine (ref_SayParts B 0 Aj A24 cj c24 J WT w24 HJL.out HSy.out hj (hv24.sl 0)).mono ?_
          rintro e w25 ⟨rfl, hx25⟩
          go_wp2_with fail
          go_ret
          exact ⟨rfl, hx.trans hx25⟩
      · have hze : (z != 0) = true := by simpa using h2
        have e1 : joinPE a b = z := by rw [joinPE, HT1.out, if_neg h2]
        obtain rfl : J = [] := by rw [HJ.out, joinP, if_neg (by rw [e1]; exact h2)]
        rw [e1]
        have hzz : (z == z) = true := by simp
        clear h2 e1
        go_wp2_with fail
        go_ret
        exact ⟨rfl, hx⟩
  · have hne : (x != 0) = true := by simpa using h0
    have e1 : joinPE a b = x := by rw [joinPE, HT.out, if_neg h0, if_neg h0]
    have e2 : narrowE a f = x := by rw [HN.out, if_neg h0]
    obtain rfl : J = [] := by rw [HJ.out, joinP, if_neg (by rw [e1]; exact h0)]
    obtain rfl : NO = [] := by rw [HNO.out, narrowO, if_neg (by rw [e2]; exact h0)]
    rw [e1, e2]
    have hxx : (x == x) = true := by simp
    clear h0 e1 e2 HT HN HCa
    go_wp2_with fail
    go_ret
    exact ⟨rfl, hx⟩

namespace PartSetsProof
open Go.ChangeShapes Go.WideShapes Go.ChangeAt Go.Joins

set_option maxRecDepth 100000 in
theorem lifted (os : Os) (started : os.Started) (H : Type) (enc : TypeId × Value → H) :
    ReturnsInHanded {} Try.checked os 8 .any (Rows.partSetsSpec.pre6 enc Try.prog Try.f8 Rows.partSetsRow.domain false) (Rows.partSetsSpec.post enc Try.prog Try.f8 false true false false) := by
  refine returnsInHanded_of_change (C := Try.checked) own started (by kernel_rfl) Try.func8
    (ChangeSpec.witness6 (enc := enc) (C := Try.checked) false ⟨#[], #[.slice none 0 0, .slice none 0 0, .slice none 0 0], []⟩ 8 (by kernel_rfl) (by kernel_rfl) (by kernel_rfl) (by kernel_rfl)) ?_
  intro W base args ds gs before hval0 hW hcnd _
  have hval : ∀ (j : Nat) t v, Try.f8.params[j]? = some t → args[j]? = some v → Value.okWide Try.prog W .any base t v := hval0
  have hW' := hW
  obtain ⟨p, q, hA0, hV, rfl, hfz, hnd⟩ := hW
  have hA : DataW.TrodAll enc Try.prog W 0 (fun _ => true) true Try.f8.params.toList args.toList ds p := hA0
  rw [Try.params8] at hA hval
  obtain ⟨v0, vs0, d0, ds0, p0, q0, hargs, rfl, rfl, h0, r0⟩ := trodAll_cons hA
  obtain ⟨v1, vs1, d1, ds1, p1, q1, rfl, rfl, rfl, h1, r1⟩ := trodAll_cons r0
  obtain ⟨v2, vs2, d2, ds2, p2, q2, rfl, rfl, rfl, h2, r2⟩ := trodAll_cons r1
  obtain ⟨rfl, rfl, rfl⟩ := trodAll_nil r2
  obtain rfl : args = #[v0, v1, v2] := by cases args; simp_all
  obtain ⟨rfl, rfl⟩ := trodVars_none hV
  obtain ⟨a0, n0, c0, rfl⟩ := okWide_slice Try.underlying24 (hval 0 24 v0 rfl rfl)
  have k0 := h0
  have lt0 : ∀ x ∈ p0, x.block < W.heap.size := by obtain ⟨m, hm⟩ := k0; exact DataW.trod_lt m _ _ _ hm
  obtain ⟨l0, rfl, hl0, s0, g0⟩ := open_parts h0
  obtain ⟨a1, n1, c1, rfl⟩ := okWide_slice Try.underlying24 (hval 1 24 v1 rfl rfl)
  have k1 := h1
  have lt1 : ∀ x ∈ p1, x.block < W.heap.size := by obtain ⟨m, hm⟩ := k1; exact DataW.trod_lt m _ _ _ hm
  obtain ⟨l1, rfl, hl1, s1, g1⟩ := open_parts h1
  obtain ⟨a2, n2, c2, rfl⟩ := okWide_slice Try.underlying67 (hval 2 67 v2 rfl rfl)
  have k2 := h2
  have lt2 : ∀ x ∈ p2, x.block < W.heap.size := by obtain ⟨m, hm⟩ := k2; exact DataW.trod_lt m _ _ _ hm
  obtain ⟨l2, rfl, hl2, s2, g2⟩ := open_boxes h2
  clear hA0 hval0
  refine (law_PartSets W.heap.size a0 a1 a2 c0 c1 c2 l0 l1 l2 W (Nat.le_refl _) hl0 hl1 hl2 s0 s1 s2).mono fun e W' ⟨he, bel⟩ => ?_
  subst he
  exact ⟨_, rfl, _, _, _, [], _, [], hW', trodAll_mk1 (shut_bool Try.underlying4 _), (trodAll_cons_mk (Below.trod laidOut (by kernel_rfl) (of_decide_eq_true (by kernel_rfl)) k0 bel lt0) (trodAll_cons_mk (Below.trod laidOut (by kernel_rfl) (of_decide_eq_true (by kernel_rfl)) k1 bel lt1) (trodAll_cons_mk (Below.trod laidOut (by kernel_rfl) (of_decide_eq_true (by kernel_rfl)) k2 bel lt2) trodAll_mk0))), rfl, Below.frame bel _, fun h => by cases h⟩

theorem over : Rows.partSetsRow.holds Try.pinned (OpenSpec.ofChange Rows.partSetsSpec) :=
  OpenClaim.holds_of_wide 8 Try.f8 rfl rfl rfl rfl rfl rfl rfl ⟨rfl, rfl, rfl, rfl, rfl⟩ rfl rfl rfl rfl rfl (by kernel_rfl) Try.func8 (by kernel_rfl)
    (of_decide_eq_true (by kernel_rfl)) (by unfold Func.isWrapper; first | (rw [if_pos (by decide +kernel)]; kernel_rfl) | (rw [if_neg (by decide +kernel)]; exact ⟨rfl, rfl⟩))
    (fun os started H enc _ => lifted os started H enc)
end PartSetsProof

theorem partSets_holds : Rows.PartSetsSaid := PartSetsProof.over
#print axioms partSets_holds

end Go.Proofs.Ytmedmfjhpabfdaa
