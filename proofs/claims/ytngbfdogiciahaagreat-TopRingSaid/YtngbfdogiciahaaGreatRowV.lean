/- The walks of slices.IndexFunc, ContainsFunc, DeleteFunc, Clone at versions. -/
import Derived.Test.YtngbfdogiciahaaGreatJoinShelfD
import Derived.Test.YtngbfdogiciahaaGreatBase
import Derived.Test.YtngbfdogiciahaaGreatJoinKnT
namespace Go.Proofs.YtngbfdogiciahaaGreat
open Go Go.RowKit
theorem ei_ver : ElemInfo Tryz.prog 48 151 8 104 := ElemInfo.mk_ (z := .agg #[.string ⟨#[]⟩, .int .i64 0, .int .i64 0, .int .i64 0, .int .i64 0, .int .i64 0, .slice none 0 0, .slice none 0 0]) Tryz.underlying48 (by kernel_rfl) rfl (by decide)
set_option maxHeartbeats 1000000 in
theorem index_ver (B : Nat) (ob : Option Nat) (fn : FuncId) (cap : Array Value) (A : Option Addr) (c : Nat) (l : List Version) (p : Version → Bool) (w : World) (hl : l.length ≤ maxLen) (h : Sl B 151 (RVer B) 8 w A l)
  (hc : ∀ (args : Array Value) (wn : World), (callFunc fn args).run Tryz.prog wn = .ok (.enter fn args) wn)
  (hf : ∀ (k : Nat) (hk : k < l.length) (cs : List Value) (wn : World), w.grownBy wn ob → cs.length = 8 → (RVer B) wn cs l[k] → Calls Tryz.prog fn (#[.agg cs.toArray] ++ cap) wn fun e w' => e = .returned (.bool (p l[k])) ∧ Ext wn w') :
  Calls Tryz.prog 141 #[.slice A l.length c, .func (.func fn) #[] cap] w fun e w' => e = .returned (.int .i64 (idxOf p l)) ∧ Ext w w' := by
 unfold maxLen at hl
 have HF := hid hf
 clear hf
 go_enter Tryz.func141, Tryz.ntmps141
 go_wp2_with fail
 go_loopw [8] (fun i wr => ∃ k : Nat, k ≤ l.length ∧ i = .int .i64 k ∧ (∀ q x, q < k → l[q]? = some x → p x = false) ∧ Ext w wr) (fun i _ => l.length - (intOf i).toNat)
 case atStart => exact ⟨0, Nat.zero_le _, rfl, by intro q x hq; omega, Ext.refl _⟩
 case round =>
  obtain ⟨k, hk, rfl, hG, hx⟩ := hrel
  have HG := hid hG
  clear hG
  by_cases hlt : k < l.length
  ·obtain ⟨b, off, cs, rfl, hb, hcl, hcs, hR⟩ := (h.ext RVer.monoE hx).at_ hlt
   have hr : wr.rangeAt b (off + k * 8) cs := hcs
   clear hcs
   go_wp2_with ((with_reducible refine wpList_loadL (o := ⟨some 15, _, _, _, _, _⟩) ri_ver _ rfl rfl rfl hr hcl ?_))
   refine (HF.out k hlt cs wr (grown_ext hx) hcl hR).mono ?_
   rintro e w1 ⟨rfl, hx1⟩
   cases hp : p l[k]
   ·have HP := hid hp
    clear hp
    go_wp2_with fail
    go_roundw
    case rel =>
     refine ⟨k + 1, hlt, by go_num, fun q x hq hxq => ?_, hx.trans hx1⟩
     by_cases hqk : q = k
     ·subst hqk
      rw [List.getElem?_eq_getElem hlt] at hxq
      injection hxq with hxq
      rw [← hxq]; exact HP.out
     ·exact HG.out q x (by omega) hxq
    case measure => simp [intOf]; omega
   ·have HI := hid (idx_some hlt hp HG.out)
    clear hp
    go_wp2_with fail
    go_ret
    exact ⟨ret_int HI.out.symm, hx.trans hx1⟩
  ·obtain rfl : k = l.length := by omega
   have HI := hid (idx_none (p := p) (l := l) fun x hx => by
    obtain ⟨q, hq⟩ := List.mem_iff_getElem?.1 hx
    exact HG.out q x (List.getElem?_eq_some_iff.1 hq).1 hq)
   go_wp2_with fail
   go_ret
   exact ⟨ret_int HI.out.symm, hx⟩
theorem contains_ver (B : Nat) (ob : Option Nat) (fn : FuncId) (cap : Array Value) (A : Option Addr) (c : Nat) (l : List Version) (p : Version → Bool) (w : World) (hl : l.length ≤ maxLen) (h : Sl B 151 (RVer B) 8 w A l)
  (hc : ∀ (args : Array Value) (wn : World), (callFunc fn args).run Tryz.prog wn = .ok (.enter fn args) wn)
  (hf : ∀ (k : Nat) (hk : k < l.length) (cs : List Value) (wn : World), w.grownBy wn ob → cs.length = 8 → (RVer B) wn cs l[k] → Calls Tryz.prog fn (#[.agg cs.toArray] ++ cap) wn fun e w' => e = .returned (.bool (p l[k])) ∧ Ext wn w') :
  Calls Tryz.prog 152 #[.slice A l.length c, .func (.func fn) #[] cap] w fun e w' => e = .returned (.bool (l.any p)) ∧ Ext w w' := by
 have HF := hid hf
 have HA := hid (idx_any (p := p) (l := l))
 clear hf
 go_enter Tryz.func152, Tryz.ntmps152
 go_wp2_with fail
 refine (index_ver B ob fn cap A c l p _ hl h hc HF.out).mono ?_
 rintro e w1 ⟨rfl, hx⟩
 go_wp2_with fail
 go_ret
 exact ⟨ret_bool HA.out, hx⟩
set_option maxRecDepth 100000 in
set_option maxHeartbeats 2000000 in
theorem delete_ver (B base : Nat) (fn : FuncId) (cap : Array Value) (v : Value) (l : List Version) (p : Version → Bool) (w : World) (hB : B ≤ base) (hl : l.length ≤ 1000000) (hown : Own (RVer B) 8 151 w base v l)
  (hc : ∀ (args : Array Value) (wn : World), (callFunc fn args).run Tryz.prog wn = .ok (.enter fn args) wn)
  (hf : ∀ (k : Nat) (hk : k < l.length) (cs : List Value) (wn : World), w.grownBy wn v.ownBlock → cs.length = 8 → (RVer B) wn cs l[k] → Calls Tryz.prog fn (#[.agg cs.toArray] ++ cap) wn fun e w' => e = .returned (.bool (p l[k])) ∧ Ext wn w') :
  Calls Tryz.prog 85 #[v, .func (.func fn) #[] cap] w fun e w' => ∃ v', e = .returned v' ∧ Own (RVer B) 8 151 w' base v' (l.filter fun x => !p x) ∧ w.grownBy w' v.ownBlock ∧ v'.ownBlock = v.ownBlock := by
 have HF := hid hf
 have HB := hid hB
 clear hf hB
 obtain ⟨A, c, rfl, hlc, hcm⟩ := hown.len
 have hSl := hown.sl B
 have HOWN := hid hown
 clear hown
 go_enter Tryz.func85, Tryz.ntmps85
 go_wp2_with fail
 refine (index_ver B (Value.slice A l.length c).ownBlock fn cap A c l p _ (by unfold maxLen; omega) hSl hc HF.out).mono ?_
 rintro e w1 ⟨rfl, hx1⟩
 rcases idx_cases p l with ⟨hi, hn⟩ | ⟨k0, hk0, hi, hp0, hn⟩
 ·rw [hi]
  have HN := hid (show l.filter (fun x => !p x) = l from List.filter_eq_self.2 fun x hx => by rw [hn x hx]; rfl)
  clear hi hn
  go_wp2_with fail
  go_ret
  exact ⟨.slice A l.length c, rfl, by rw [HN.out]; exact HOWN.out.ext RVer.monoE hx1, grown_ext hx1, rfl⟩
 ·rcases (HOWN.out.ext RVer.monoE hx1).at_ with ⟨_, rfl⟩ | ⟨g, c', hv, _⟩
  ·simp at hk0
  injection hv with hA _ hcc
  subst hA hcc
  obtain ⟨hbg, hrow, hat⟩ := (HOWN.out.ext RVer.monoE hx1).rowAt
  have HAT := hid hat
  have HL := hid hl
  have HFirst := hid (filter_first hn)
  have HP0 := hid hp0
  have HK0 := hid hk0
  have HGB := hid hbg
  rw [hi]
  have k00 : (0 : Int) ≤ (k0 : Int) := by omega
  have ei : ((k0 : Int) == -1) = false := by rw [beq_eq_false_iff_ne]; omega
  have ew : IntKind.i64.wrap ((k0 : Int) + 1) = ((k0 + 1 : Nat) : Int) := by rw [IntKind.wrap_i64]; omega
  clear hi hn hat
  go_wp2_with fail
  go_loopw [5, 6] (fun i j wr => ∃ k : Nat, k ≤ l.length ∧ j = .int .i64 k ∧ i = .int .i64 ((l.take k).filter fun x => !p x).length ∧ k0 < k ∧ RowOwn wr g 151 (c * 8) ∧ (∀ q x, ((l.take k).filter fun x => !p x)[q]? = some x → At (RVer B) 8 wr g q x) ∧ (∀ q x, k ≤ q → l[q]? = some x → At (RVer B) 8 wr g q x) ∧ (∀ q x, l[q]? = some x → ∃ y, At (RVer B) 8 wr g q y) ∧ w.grownBy wr (some g)) (fun _ j _ => l.length - (intOf j).toNat)
  case atStart =>
   refine ⟨k0 + 1, HK0.out, by go_num, ?_, by omega, hrow, ?_, fun q x _ hq => HAT.out q x hq, fun q x hq => ⟨x, HAT.out q x hq⟩, grown_ext hx1⟩
   ·rw [filter_take _ l k0 HK0.out, HFirst.out, HP0.out]
    simp only [List.append_nil, List.length_take, Bool.not_true, Bool.false_eq_true, if_false]
    rw [Nat.min_eq_left (by have := HK0.out; omega)]
   ·intro q x hq
    rw [filter_take _ l k0 HK0.out, HFirst.out, HP0.out] at hq
    simp only [List.append_nil, Bool.not_true, Bool.false_eq_true, if_false] at hq
    rw [List.getElem?_take] at hq
    split at hq
    ·exact HAT.out q x hq
    ·cases hq
  case round =>
   clear hrow hx1
   obtain ⟨k, hk, rfl, rfl, hkk, hrow, hlow, hhigh, hall, hgr⟩ := hrel
   have hfl := filter_len (fun x => !p x) l k
   obtain ⟨i, hi⟩ : ∃ i, i = ((l.take k).filter fun x => !p x).length := ⟨_, rfl⟩
   rw [← hi] at hfl
   rw [← hi]
   have HI := hid hi
   have HLow := hid hlow
   have HHigh := hid hhigh
   have HAll := hid hall
   have HRow := hid hrow
   have HKK := hid hkk
   clear hi hlow hhigh hall hrow hkk
   have i0 : (0 : Int) ≤ i := by omega
   have il : (i : Int) ≤ l.length := by omega
   by_cases hlt : k < l.length
   ·have k1 : (0 : Int) ≤ k := by omega
    have k2 : (k : Int) < l.length := by omega
    have i2 : (i : Int) < l.length := by omega
    obtain ⟨cs, hcl, hr, hR⟩ := HHigh.out k l[k] (Nat.le_refl _) (List.getElem?_eq_getElem hlt)
    have ewk : IntKind.i64.wrap ((k : Int) + 1) = ((k + 1 : Nat) : Int) := by have := HL.out; rw [IntKind.wrap_i64]; omega
    have ewi : IntKind.i64.wrap ((i : Int) + 1) = ((i + 1 : Nat) : Int) := by have := HL.out; rw [IntKind.wrap_i64]; omega
    have HLt := hid hlt
    have hsz3 : cs.toArray.size = 8 := by simp [hcl]
    have hone : ∀ u ∈ cs, u.oneCell' = true := RVer.oneC _ _ _ hR
    have hall1 := all_oneCell_toArray hone
    have HFL := hid hfl
    clear hfl hk
    go_wp2_with (first
     | ((with_reducible refine wpList_loadL (o := ⟨some 25, _, _, _, _, _⟩) ri_ver _ rfl rfl rfl hr hcl ?_))
     | ((with_reducible refine wpList_allocArr (o := ⟨some 7, _, _, _, _, _⟩) zi_ver rfl rfl ?_); intro w2 hx2 hb2 hs2)
     | ((with_reducible refine wpList_storeRow (o := ⟨none, _, _, _, _, _⟩) ri_ver _ _ rfl rfl rfl rfl hb2 hsz3 zs_ver hall1 ?_); intro w3 hx3 hb3 hs3 ho3)
     | ((with_reducible refine wpList_loadMid (o := ⟨some 27, _, _, _, _, _⟩) ri_ver _ rfl rfl rfl (hb3.whole) hsz3 ?_)))
    have hxa : Ext wr w3 := hx2.below hx3 (Nat.le_refl _)
    refine (HF.out k HLt.out cs w3 (grown_trans hgr hxa) hcl (RVer.monoE _ _ _ _ (.of_ext hxa) hR)).mono ?_
    rintro e w4 ⟨rfl, hx4⟩
    have hxb := hxa.trans hx4
    have hb4 := hb3.ext hx4
    have hrow4 := HRow.out.ext hxb
    have HF1 := hid (filter_take (fun x => !p x) l k HLt.out)
    have HG4 := hid (grown_trans hgr hxb)
    have HX := hid hxb
    have hgb : g ≠ wr.heap.size := by have := HRow.out.lt; omega
    clear hx2 hx3 hb3 hx4 hxa hxb hgr hs2 hs3 ho3
    cases hp : p l[k]
    ·have HP := hid hp
     clear hp
     obtain ⟨y, hy⟩ := HAll.out i _ (List.getElem?_eq_getElem (show i < l.length by omega))
     have hth := (hy.ext RVer.monoE HX.out).there hrow4
     have hR4 := RVer.monoE _ _ _ _ (.of_ext HX.out) hR
     go_wp2_with (first
      | ((with_reducible refine wpList_loadMid (o := ⟨some 32, _, _, _, _, _⟩) ri_ver _ rfl rfl rfl (hb4.whole) hsz3 ?_))
      | (with_reducible refine wpList_storeL (o := ⟨none, _, _, _, _, _⟩) ri_ver _ _ rfl rfl rfl rfl hth hcl hone ?_))
     have hBg : B ≤ g := Nat.le_trans HB.out HGB.out
     have hF2 : (l.take (k + 1)).filter (fun x => !p x) = (l.take k).filter (fun x => !p x) ++ [l[k]'HLt.out] := by
      have e : p (l[k]'HLt.out) = false := HP.out
      rw [HF1.out, e]; rfl
     have hsz : (l.take k).length = k := by rw [List.length_take]; have := HLt.out; omega
     go_roundw
     case rel =>
      refine ⟨k + 1, HLt.out, by go_num, ?_, by have := HKK.out; omega, hrow4.setCells _ _, ?_, ?_, ?_, grown_setCells HG4.out _ _⟩
      ·rw [hF2, List.length_append, ← HI.out]; go_num
      ·intro q x hq
       rw [hF2] at hq
       by_cases hqi : q < i
       ·rw [List.getElem?_append_left (by rw [← HI.out]; exact hqi)] at hq
        exact ((HLow.out q x hq).ext RVer.monoE HX.out).setCells (RVer.mono (by decide) (by decide)) hrow4.ty hBg _ _ (.inl (by omega))
       ·have hqe : q = i := by
         have := (List.getElem?_eq_some_iff.1 hq).1
         rw [List.length_append, ← HI.out] at this
         simp at this; omega
        subst hqe
        rw [List.getElem?_append_right (by rw [← HI.out]; exact Nat.le_refl _), ← HI.out, Nat.sub_self] at hq
        simp at hq
        subst hq
        exact At.put (RVer.mono (by decide) (by decide)) hcl hR4 hth hrow4.ty hBg
      ·intro q x hq hx
       exact ((HHigh.out q x (by omega) hx).ext RVer.monoE HX.out).setCells (RVer.mono (by decide) (by decide)) hrow4.ty hBg _ _ (.inr (by rw [hcl]; have := HFL.out; omega))
      ·intro q x hx
       by_cases hqi : q = i
       ·subst hqi
        exact ⟨_, At.put (RVer.mono (by decide) (by decide)) hcl hR4 hth hrow4.ty hBg⟩
       ·obtain ⟨y', hy'⟩ := HAll.out q x hx
        refine ⟨y', (hy'.ext RVer.monoE HX.out).setCells (RVer.mono (by decide) (by decide)) hrow4.ty hBg _ _ ?_⟩
        rw [hcl]
        rcases Nat.lt_or_gt_of_ne hqi with h | h
        ·left; omega
        ·right; omega
     case measure => simp [intOf]; omega
    ·have HP := hid hp
     clear hp
     have hF2 : (l.take (k + 1)).filter (fun x => !p x) = (l.take k).filter (fun x => !p x) := by
      have e : p (l[k]'HLt.out) = true := HP.out
      rw [HF1.out, e]; simp
     go_wp2_with fail
     go_roundw
     case rel =>
      refine ⟨k + 1, HLt.out, by go_num, ?_, by have := HKK.out; omega, hrow4, ?_, ?_, ?_, HG4.out⟩
      ·rw [hF2, ← HI.out]
      ·intro q x hq
       rw [hF2] at hq
       exact (HLow.out q x hq).ext RVer.monoE HX.out
      ·intro q x hq hx
       exact (HHigh.out q x (by omega) hx).ext RVer.monoE HX.out
      ·intro q x hx
       obtain ⟨y', hy'⟩ := HAll.out q x hx
       exact ⟨y', hy'.ext RVer.monoE HX.out⟩
     case measure => simp [intOf]; omega
   ·obtain rfl : k = l.length := by omega
    have HTk := hid (show l.take l.length = l from List.take_length)
    have lc : (l.length : Int) ≤ c := by omega
    have hBg : B ≤ g := Nat.le_trans HB.out HGB.out
    have HEnd := hid (show ∀ q x, (l.filter fun x => !p x)[q]? = some x → At (RVer B) 8 wr g q x by rw [← HTk.out]; exact HLow.out)
    have HIl := hid (show (l.filter fun x => !p x).length = i by rw [HI.out, HTk.out])
    have hth : ∀ q, q < l.length → wr.there g (q * 8) 8 := fun q hq => by
     obtain ⟨y, hy⟩ := HAll.out q _ (List.getElem?_eq_getElem hq)
     exact hy.there HRow.out
    have hthr : wr.there g (i * 8) ((l.length - i) * 8) := by
     intro j hj
     have hq : i + j / 8 < l.length := by omega
     have := hth _ hq (j % 8) (Nat.mod_lt _ (by omega))
     rwa [show (i + j / 8) * 8 + j % 8 = i * 8 + j by omega] at this
    have hthz : wr.there g 0 (0 * (#[.string ⟨#[]⟩, .int .i64 0, .int .i64 0, .int .i64 0, .int .i64 0, .int .i64 0, .slice none 0 0, .slice none 0 0] : Array Value).size) := by intro j hj; omega
    have hthr' : wr.there g (i * 8) ((l.length - i) * (#[.string ⟨#[]⟩, .int .i64 0, .int .i64 0, .int .i64 0, .int .i64 0, .int .i64 0, .slice none 0 0, .slice none 0 0] : Array Value).size) := hthr
    by_cases hic : c = i
    ·subst hic
     obtain rfl : c = l.length := by omega
     go_wp2_with ((with_reducible refine wpList_clear (o := ⟨none, _, _, _, _, _⟩) Tryz.underlying48 zi_ver za_ver _ rfl rfl rfl hthz ?_); intro zs hzs)
     go_ret
     have ho := Own.ofAt (base := base) (l := l.filter fun x => !p x) (by omega) (HRow.out.setCells _ _) HGB.out (by rw [HIl.out]; exact Nat.le_refl _) hcm fun q x hq => (HEnd.out q x hq).setCells (RVer.mono (by decide) (by decide)) HRow.out.ty hBg 0 zs (.inr (by rw [hzs]; simp))
     rw [HIl.out] at ho
     exact ⟨.slice (some ⟨g, 0, none⟩) l.length l.length, rfl, ho, grown_setCells hgr _ _, rfl⟩
    ·have hic1 : ¬ (c : Int) = i := by omega
     go_wp2_with ((with_reducible refine wpList_clear (o := ⟨none, _, _, _, _, _⟩) Tryz.underlying48 zi_ver za_ver _ rfl rfl rfl hthr' ?_); intro zs hzs)
     go_ret
     have ho := Own.ofAt (base := base) (l := l.filter fun x => !p x) (by omega) (HRow.out.setCells _ _) HGB.out (by rw [HIl.out]; omega) hcm fun q x hq => (HEnd.out q x hq).setCells (RVer.mono (by decide) (by decide)) HRow.out.ty hBg (i * 8) zs (.inl (by have := (List.getElem?_eq_some_iff.1 hq).1; rw [HIl.out] at this; omega))
     rw [HIl.out] at ho
     exact ⟨.slice (some ⟨g, 0, none⟩) i c, rfl, ho, grown_setCells hgr _ _, rfl⟩
set_option maxRecDepth 100000 in
theorem clone_vers (B : Nat) (A : Option Addr) (c : Nat) (l : List Version) (w : World) (hB : B ≤ w.heap.size) (hl : l.length ≤ 1000000) (h : Sl B 151 (RVer B) 8 w A l) :
  Calls Tryz.prog 156 #[.slice A l.length c] w fun e w' => ∃ v, e = .returned v ∧ Own (RVer B) 8 151 w' w.heap.size v l ∧ Ext w w' := by
 cases A with
 | none =>
  obtain rfl : l = [] := Sl.none_nil h
  have he : ∀ w : World, (binOp .eql 48 (.slice none 0 c) (.slice none 0 0)).run Tryz.prog w = .ok (.bool true) w := fun _ => rfl
  go_enter Tryz.func156, Tryz.ntmps156
  go_wp2_with fail
  go_ret
  exact ⟨_, rfl, Own.nil, Ext.refl _⟩
 | some a =>
  have he : ∀ w : World, (binOp .eql 48 (.slice (some a) l.length c) (.slice none 0 0)).run Tryz.prog w = .ok (.bool false) w := fun _ => rfl
  have hx0 := (Ext.refl w).alloc (.cells #[] 151)
  go_enter Tryz.func156, Tryz.ntmps156
  go_wp2_with (at_builtin; refine wpList_app (ys := l) (B := B) rfl _ _ rfl ei_ver rfl (Own.empty (Nat.le_refl _)) hB hx0.size rfl (h.ext RVer.monoE hx0) RVer.oneC (RVer.mono (by decide) (by decide)) ?_ ?_ ?_)
  ·simp [maxLen]; omega
  ·simp; omega
  ·intro v w2 ho hc hb _
   have hx := hx0.below hb (Nat.le_refl _)
   clear hc hb
   go_wp2_with fail
   go_ret
   exact ⟨_, rfl, ho, hx⟩
end Go.Proofs.YtngbfdogiciahaaGreat
