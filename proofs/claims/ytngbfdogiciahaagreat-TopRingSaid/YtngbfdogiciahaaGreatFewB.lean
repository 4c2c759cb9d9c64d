/- The walk of part.Few. -/
import Derived.Test.YtngbfdogiciahaaGreatFewA
namespace Go.Proofs.YtngbfdogiciahaaGreat
open Go Go.RowKit
def fewStep (out : List Part) (p : Part) : List Part := if (noneP p || out.any (underP p)) = true then out else (out.filter fun q => !underP q p) ++ [p]
def fewL (l : List Part) : List Part := l.foldl fewStep []
theorem fewL_step (l : List Part) (k : Nat) (hk : k < l.length) : fewL (l.take (k + 1)) = fewStep (fewL (l.take k)) l[k] := by
 unfold fewL
 rw [List.take_succ_eq_append_getElem hk, List.foldl_append]
 rfl
theorem fewStep_mem {out : List Part} {p x : Part} (h : x ∈ fewStep out p) : x ∈ out ∨ x = p := by
 unfold fewStep at h
 split at h
 ·exact .inl h
 ·rcases List.mem_append.1 h with h | h
  ·exact .inl (List.mem_filter.1 h).1
  ·exact .inr (List.mem_singleton.1 h)
theorem fewFold_mem : ∀ (l out : List Part) (x : Part), x ∈ l.foldl fewStep out → x ∈ out ∨ x ∈ l
 | [], _, _, h => .inl h
 | p :: r, out, x, h => by
  rcases fewFold_mem r _ x h with h | h
  ·rcases fewStep_mem h with h | h
   ·exact .inl h
   ·exact .inr (by rw [h]; simp)
  ·exact .inr (by simp [h])
theorem fewL_mem {l : List Part} {x : Part} (h : x ∈ fewL l) : x ∈ l := (fewFold_mem l [] x h).resolve_left (by simp)
theorem fewFold_len : ∀ (l out : List Part), (l.foldl fewStep out).length ≤ out.length + l.length
 | [], _ => by simp
 | p :: r, out => by
  have h := fewFold_len r (fewStep out p)
  have h2 : (fewStep out p).length ≤ out.length + 1 := by
   unfold fewStep
   split
   ·omega
   ·rw [List.length_append]
    have := List.length_filter_le (fun q => !underP q p) out
    simp; omega
  simp only [List.foldl_cons, List.length_cons]
  omega
theorem fewL_len (l : List Part) : (fewL l).length ≤ l.length := by have := fewFold_len l []; simpa [fewL] using this
def plainP (p : Part) : Part := ⟨plainF p.filter, p.know⟩
def fewOut (l : List Part) : List Part := (fewL l).map plainP
def plainTo (L : List Part) (k : Nat) : List Part := (L.take k).map plainP ++ L.drop k
theorem plainTo_len (L : List Part) (k : Nat) (hk : k ≤ L.length) : (plainTo L k).length = L.length := by unfold plainTo; simp; omega
theorem plainTo_get (L : List Part) (k : Nat) (hk : k < L.length) : (plainTo L k)[k]? = some L[k] := by
 unfold plainTo
 rw [List.getElem?_append_right (by simp; omega)]
 simp [Nat.min_eq_left (Nat.le_of_lt hk), hk]
theorem plainTo_set (L : List Part) (k : Nat) (hk : k < L.length) : (plainTo L k).set k (plainP L[k]) = plainTo L (k + 1) := by
 unfold plainTo
 rw [List.set_append_right _ _ (by simp; omega)]
 simp only [List.length_map, List.length_take, Nat.min_eq_left (Nat.le_of_lt hk), Nat.sub_self]
 rw [List.drop_eq_getElem_cons hk, List.set_cons_zero, List.take_succ_eq_append_getElem hk, List.map_append, List.append_assoc]
 rfl
theorem InP.chg {B : Nat} {ts : List TypeId} {w w' : World} {Af : Option Addr} {cf : Nat} {Av : Option Addr} {cv : Nat} {Am : Option Addr} {cm : Nat} {p : Part} (h : InP B w Af cf Av cv Am cm p) (x : Chg B ts w w') (h1 : 137 ∉ ts) (h2 : 142 ∉ ts) (h3 : 3 ∉ ts) (h4 : 35 ∉ ts) : InP B w' Af cf Av cv Am cm p :=
 ⟨h.lf, h.lcf, h.sf.chg (RBox.mono h1) h2 x, h.lcv, h.lcm, h.k.chg x h3 h4⟩
theorem grown_none {w w' : World} (h : w.grownBy w' none) : Ext w w' := ⟨h.os, h.tape, h.output, h.size, fun k hk => h.block k hk (by simp)⟩
theorem Own.weaken {α : Type} {R : World → List Value → α → Prop} {sz : Nat} {e : TypeId} {w : World} {base base' : Nat} {v : Value} {l : List α} (h : Own R sz e w base v l) (hb : base' ≤ base) : Own R sz e w base' v l := by
 obtain ⟨xs, hx, hR, ho⟩ := h
 refine ⟨xs, hx, hR, ho.1, ?_⟩
 rcases ho.2 with hn | ⟨g, cap, cur, rfl, hbg, rest⟩
 ·exact .inl hn
 ·exact .inr ⟨g, cap, cur, rfl, by omega, rest⟩
set_option maxRecDepth 100000 in
set_option maxHeartbeats 2000000 in
theorem part_Few (B : Nat) (A : Option Addr) (c : Nat) (l : List Part) (w : World) (hB : B ≤ w.heap.size) (hl : l.length ≤ 10000) (hok : ∀ x ∈ l, PartOk x) (h : SlParts B w A l) :
  Calls Tryz.prog 137 #[.slice A l.length c] w fun e w' => ∃ v, e = .returned v ∧ Own (RPart B) 3 181 w' w.heap.size v (fewOut l) ∧ Ext w w' := by
 have HOK := hid hok
 clear hok
 go_enter Tryz.func137, Tryz.ntmps137
 go_wp2_with fail
 go_loopw [9, 3] (fun i v wr => ∃ k : Nat, k ≤ l.length ∧ i = .int .i64 k ∧ Own (RPart B) 3 181 wr w.heap.size v (fewL (l.take k)) ∧ Ext w wr) (fun i _ _ => l.length - (intOf i).toNat)
 case atStart => exact ⟨0, Nat.zero_le _, rfl, Own.nil, Ext.refl _⟩
 case round =>
  obtain ⟨k, hk, rfl, hov, hx⟩ := hrel
  by_cases hlt : k < l.length
  ·obtain ⟨b, off, Af, cf, Av, cv, Am, cm, rfl, hb, g0, g1, g2, hp⟩ := (h.ext RPart.monoE hx).part hlt
   have HO := hid (HOK.out _ (List.getElem_mem hlt))
   have HP := hid hp
   have HSS := hid (fewL_step l k hlt)
   have HLen := hid (show (fewL (l.take k)).length ≤ 10000 by have := fewL_len (l.take k); rw [List.length_take] at this; omega)
   obtain ⟨OUT, hOUT⟩ : ∃ o, o = fewL (l.take k) := ⟨_, rfl⟩
   rw [← hOUT] at hov HSS HLen
   obtain ⟨Ao, co, rfl, ho1, ho2⟩ := hov.len
   have HVR := hid (fun g hg => (hov.lt (g := g) hg).2)
   clear hp hOUT
   go_wp2_with fail
   have hxl := (Ext.refl wr).alloc (.cells #[.slice Af l[k].filter.length cf, .slice Av l[k].know.vec.length cv, .slice Am l[k].know.more.length cm] 181)
   refine (part_none B l[k] Af cf Av cv Am cm _ (HP.out.ext hxl)).mono ?_
   rintro e w1 ⟨rfl, hx1⟩
   have q0 : w1.cell? ⟨wr.heap.size, 0, none⟩ = some (.slice Af l[k].filter.length cf) := hx1.cell (by go_simp)
   have q1 : w1.cell? ⟨wr.heap.size, 1, none⟩ = some (.slice Av l[k].know.vec.length cv) := hx1.cell (by go_simp)
   have q2 : w1.cell? ⟨wr.heap.size, 2, none⟩ = some (.slice Am l[k].know.more.length cm) := hx1.cell (by go_simp)
   obtain ⟨r, hr⟩ : ∃ r, r = wr.heap.size := ⟨_, rfl⟩
   rw [← hr] at q0 q1 q2 HVR ⊢
   have hxx := hxl.trans hx1
   have HI := hid (HP.out.ext hxx)
   replace hov := hov.ext RPart.monoE hxx
   have hxw := hx.trans hxx
   have hwr := hx.size
   clear hr hxl hx1 hxx hx g0 g1 g2
   cases hN : noneP l[k]
   ·have HN := hid hN
    clear hN
    go_wp2_with fail
    have HBW := hid (Nat.le_trans hB hxw.size)
    refine (contains_prt B none 183 #[.pointer (some ⟨r, 0, none⟩)] Ao co OUT (underP l[k]) w1 (by have := HLen.out; unfold maxLen; omega) (hov.sl B) Tryz.call183 (fun q hq cs wn hg hcl hR => by
     obtain ⟨Bf, df, Bv, dv, Bm, dm, rfl, hi⟩ := hR.inP
     have hxn := grown_none hg
     exact few1 B r l[k] OUT[q] Af cf Av cv Am cm Bf df Bv dv Bm dm wn (Nat.le_trans HBW.out hg.size) (HI.out.ext hxn) hi (hxn.cell q0) (hxn.cell q1) (hxn.cell q2))).mono ?_
    rintro e w2 ⟨rfl, hx2⟩
    replace q0 := hx2.cell q0
    replace q1 := hx2.cell q1
    replace q2 := hx2.cell q2
    replace hov := hov.ext RPart.monoE hx2
    replace hxw := hxw.trans hx2
    have HI2 := hid (HI.out.ext hx2)
    have HBW2 := hid (Nat.le_trans HBW.out hx2.size)
    clear hx2
    cases hA : OUT.any (underP l[k])
    ·have HSt := hid (show fewL (l.take (k + 1)) = (OUT.filter fun q => !underP q l[k]) ++ [l[k]] by rw [HSS.out, fewStep, HN.out, hA]; rfl)
     clear hA
     go_wp2_with fail
     have hne : some r ≠ (Value.slice Ao OUT.length co).ownBlock := fun e => by have := HVR.out r e.symm; omega
     refine (delete_prt B w.heap.size 186 #[.pointer (some ⟨r, 0, none⟩)] (.slice Ao OUT.length co) OUT (fun q => underP q l[k]) w2 hB (by have := HLen.out; omega) hov Tryz.call186 (fun q hq cs wn hg hcl hR => by
      obtain ⟨Bf, df, Bv, dv, Bm, dm, rfl, hi⟩ := hR.inP
      exact few2 B r l[k] OUT[q] Af cf Av cv Am cm Bf df Bv dv Bm dm wn (Nat.le_trans HBW2.out hg.size) (HI2.out.chg (hov.chg_of hB hg) (by decide) (by decide) (by decide) (by decide)) hi (grown_cell hg q0 hne) (grown_cell hg q1 hne) (grown_cell hg q2 hne))).mono ?_
     rintro e w3 ⟨v3, rfl, ho3, hg3, hob⟩
     obtain ⟨A3, c3, rfl, _, _⟩ := ho3.len
     have hch := hov.chg_of hB hg3
     have hbl := hov.below_of hg3 hxw.size
     replace q0 := grown_cell hg3 q0 hne
     replace q1 := grown_cell hg3 q1 hne
     replace q2 := grown_cell hg3 q2 hne
     have HI3 := HI2.out.chg hch (by decide) (by decide) (by decide) (by decide)
     have hxw3 := hxw.below hbl (Nat.le_refl _)
     have HLen3 := hid (show (OUT.filter fun q => !underP q l[k]).length ≤ 10000 by have := List.length_filter_le (fun q => !underP q l[k]) OUT; have := HLen.out; omega)
     obtain ⟨FL, hFL⟩ : ∃ f, f = OUT.filter fun q => !underP q l[k] := ⟨_, rfl⟩
     rw [← hFL] at ho3 HSt HLen3
     rw [← hFL]
     clear hFL hov hxw hch hbl hg3 hne hob
     have hxa := (Ext.refl w3).alloc (.cells #[.slice Af l[k].filter.length cf, .slice Av l[k].know.vec.length cv, .slice Am l[k].know.more.length cm] 181)
     have hone : SlParts B (w3.alloc (.cells #[.slice Af l[k].filter.length cf, .slice Av l[k].know.vec.length cv, .slice Am l[k].know.more.length cm] 181)) (some ⟨w3.heap.size, 0, none⟩) [l[k]] := Sl.one (cs := [.slice Af l[k].filter.length cf, .slice Av l[k].know.vec.length cv, .slice Am l[k].know.more.length cm]) rfl rfl (HI3.ext hxa).rpart
     have ho4 := ho3.ext RPart.monoE hxa
     have hs4 : w.heap.size ≤ (w3.alloc (.cells #[.slice Af l[k].filter.length cf, .slice Av l[k].know.vec.length cv, .slice Am l[k].know.more.length cm] 181)).heap.size := (hxw3.trans hxa).size
     clear HI3 ho3
     go_wp2_with (at_builtin; refine wpList_app (ys := [l[k]]) (c := 1) (B := B) rfl _ _ rfl ei_prt rfl ho4 hB hs4 rfl hone RPart.oneC (RPart.mono (by decide) (by decide) (by decide) (by decide)) (by have := HLen3.out; simp [maxLen]; omega) (by have := HLen3.out; simp; omega) ?_; intro v5 w5 ho5 hc5 hb5 hg5)
     have hxw5 := (hxw3.trans hxa).below hb5 (Nat.le_refl _)
     clear hc5 hb5 hg5 ho4 hone hxa
     go_roundw
     case rel =>
      refine ⟨k + 1, hlt, by go_num, ?_, hxw5⟩
      rw [HSt.out]
      exact ho5
     case measure => simp [intOf]; omega
    ·have HSt := hid (show fewL (l.take (k + 1)) = OUT by rw [HSS.out, fewStep, HN.out, hA]; rfl)
     clear hA
     go_wp2_with fail
     go_roundw
     case rel =>
      refine ⟨k + 1, hlt, by go_num, ?_, hxw⟩
      rw [HSt.out]
      exact hov
     case measure => simp [intOf]; omega
   ·have HSt := hid (show fewL (l.take (k + 1)) = OUT by rw [HSS.out, fewStep, hN]; rfl)
    clear hN
    go_wp2_with fail
    go_roundw
    case rel =>
     refine ⟨k + 1, hlt, by go_num, ?_, hxw⟩
     rw [HSt.out]
     exact hov
    case measure => simp [intOf]; omega
  ·obtain rfl : k = l.length := by omega
   rw [List.take_length] at hov
   obtain ⟨OUT, hOUT⟩ : ∃ o, o = fewL l := ⟨_, rfl⟩
   have HOut := hid (show fewOut l = OUT.map plainP by rw [hOUT]; rfl)
   have HMem := hid (show ∀ x ∈ OUT, PartOk x from fun x hm => HOK.out x (fewL_mem (hOUT ▸ hm)))
   have HLen := hid (show OUT.length ≤ 10000 by rw [hOUT]; have := fewL_len l; omega)
   rw [← hOUT] at hov
   clear hOUT
   obtain ⟨Ao, co, rfl, ho1, ho2⟩ := hov.len
   go_wp2_with fail
   refine (part_Copied B Ao co OUT _ (Nat.le_trans hB hx.size) HLen.out HMem.out (hov.sl B)).mono ?_
   rintro e w2 ⟨v2, rfl, hv2, hx2⟩
   obtain ⟨A2, c2, rfl, u1, u2⟩ := hv2.len
   have hxw := hx.trans hx2
   replace hv2 := hv2.weaken hx.size
   have L0 := HLen.out
   clear hov hx hx2 ho1 ho2
   go_wp2_with fail
   go_loopw [32] (fun i ws => ∃ k : Nat, k ≤ OUT.length ∧ i = .int .i64 k ∧ Own (RPart B) 3 181 ws w.heap.size (.slice A2 OUT.length c2) (plainTo OUT k) ∧ Ext w ws) (fun i _ => OUT.length - (intOf i).toNat)
   case atStart => exact ⟨0, Nat.zero_le _, rfl, by rw [show plainTo OUT 0 = OUT by simp [plainTo]]; exact hv2, hxw⟩
   case round =>
    clear hv2 hxw
    obtain ⟨k, hk, rfl, how, hx⟩ := hrel
    by_cases hlt : k < OUT.length
    ·have HO := hid (HMem.out _ (List.getElem_mem hlt))
     have HPL := hid (plainTo_len OUT k hk)
     rcases how.at_ with ⟨_, hn⟩ | ⟨g, c', hv, hbg, hgl, hty, hfz, hat⟩
     ·have := HPL.out; rw [hn] at this; simp at this; omega
     injection hv with hA hnn hcc
     clear hnn
     subst hA hcc
     obtain ⟨cs, hcl, hcc, hR⟩ := hat k _ (plainTo_get OUT k hlt)
     obtain ⟨Af, cf, Av, cv, Am, cm, rfl, hi⟩ := hR.inP
     have g0 := hcc 0 _ rfl
     simp only [Nat.add_zero] at g0
     have hf0 := hfz (k * 3)
     have k0 : (0 : Int) ≤ k := by omega
     have k1 : (k : Int) < OUT.length := by omega
     have HGB := hid hbg
     have HI := hid hi
     clear hat hcc hcl hR hi hfz hty
     go_wp2_with fail
     refine (filter_Plain B Af cf OUT[k].filter wr (Nat.le_trans hB hx.size) HI.out.lf (filterCheck_ok HO.out.f).2 HI.out.sf).mono ?_
     rintro e w3 ⟨v3, rfl, hv3, hx3⟩
     obtain ⟨A3, c3, rfl, b1, b2, hv3⟩ := hv3
     have how3 := how.ext RPart.monoE hx3
     replace g0 := hx3.cell g0
     replace hf0 := (hx3.frozenAt hgl).trans hf0
     have hxw := hx.trans hx3
     have hgl3 : g < w3.heap.size := Nat.lt_of_lt_of_le hgl hx3.size
     clear how hx hx3 hgl
     go_wp2_with fail
     have hpl : Own (RPart B) 3 181 w3 w.heap.size (.slice (some ⟨g, 0, none⟩) (plainTo OUT k).length c2) (plainTo OUT k) := by rw [HPL.out]; exact how3
     have hkl : k < (plainTo OUT k).length := by rw [HPL.out]; exact hlt
     have hek : (plainTo OUT k)[k] = OUT[k] := by
      have := plainTo_get OUT k hlt
      rw [List.getElem?_eq_getElem hkl] at this
      injection this
     obtain ⟨hset, hcs, hbs⟩ := hpl.set (B := B) (RPart.mono (by decide) (by decide) (by decide) (by decide)) hB hkl (show 0 < 3 by omega) (.slice A3 (plainF OUT[k].filter).length c3) (plainP OUT[k]) (by
      intro cs hcl hR
      rw [hek] at hR
      obtain ⟨f, v, m, rfl, hf, hvv, hm⟩ := hR
      have hch : Chg B [181] w3 (w3.setCell ⟨g, k * 3 + 0, none⟩ (.slice A3 (plainF OUT[k].filter).length c3)) := (Chg.refl w3).setCell (p := ⟨g, k * 3 + 0, none⟩) (show tyAt w3 g = some 181 by
       rcases how3.at_ with ⟨hv, _⟩ | ⟨g', c', hv, _, _, hty, _, _⟩
       ·cases hv
       ·injection hv with hA _ _
        injection hA with hA
        injection hA with hA _
        rw [hA]; exact hty) (by simp) _ (Nat.le_trans hB HGB.out)
      exact ⟨_, v, m, rfl, (show IsBoxes B w3 (.slice A3 (plainF OUT[k].filter).length c3) (plainF OUT[k].filter) from ⟨A3, c3, rfl, b1, b2, hv3⟩).chg (RBox.mono (by decide)) (by decide) hch, hvv.chg RInt.mono (by decide) hch, hm.chg RPair.mono (by decide) hch⟩)
     rw [plainTo_set OUT k hlt, HPL.out, Nat.add_zero] at hset
     rw [Nat.add_zero] at hbs
     go_roundw
     case rel => exact ⟨k + 1, hlt, by go_num, hset, hxw.below hbs (Nat.le_refl _)⟩
     case measure => simp [intOf]; omega
    ·obtain rfl : k = OUT.length := by omega
     rw [show plainTo OUT OUT.length = OUT.map plainP by simp [plainTo], ← HOut.out] at how
     go_wp2_with fail
     go_ret
     exact ⟨_, rfl, how, hx⟩
end Go.Proofs.YtngbfdogiciahaaGreat
