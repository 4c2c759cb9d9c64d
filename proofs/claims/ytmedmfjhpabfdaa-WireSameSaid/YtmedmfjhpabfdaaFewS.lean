/- The walk of the reference's Few. -/
import Derived.Test.YtmedmfjhpabfdaaJoinFilM
import Derived.Test.YtmedmfjhpabfdaaFewB
namespace Go.Proofs.Ytmedmfjhpabfdaa
open Go Go.RowKit

def fewRStep (out : List RP) (p : RP) : List RP := if (noneR p || out.any (fun q => underR p q)) = true then out else (out.filter fun q => !underR q p) ++ [p]
def fewR (l : List RP) : List RP := l.foldl fewRStep []
theorem fewR_step (l : List RP) (k : Nat) (hk : k < l.length) : fewR (l.take (k + 1)) = fewRStep (fewR (l.take k)) l[k] := by
  unfold fewR
  rw [List.take_succ_eq_append_getElem hk, List.foldl_append]
  simp only [List.foldl_cons, List.foldl_nil]
theorem fewRFold_len : ∀ (l out : List RP), (l.foldl fewRStep out).length ≤ out.length + l.length
  | [], _ => by simp
  | p :: r, out => by
    have h := fewRFold_len r (fewRStep out p)
    have h2 : (fewRStep out p).length ≤ out.length + 1 := by
      unfold fewRStep
      split
      · omega
      · rw [List.length_append]
        have := List.length_filter_le (fun q => !underR q p) out
        simp; omega
    simp only [List.foldl_cons, List.length_cons]
    omega
theorem fewR_len (l : List RP) : (fewR l).length ≤ l.length := by have := fewRFold_len l []; simpa [fewR] using this
theorem b0_points : ∀ w, (Instr.build 79 #[]).run Try.prog w = .ok (.agg (rowB 512 fun _ => false)) w := fun w => by kernel_rfl
theorem zc_dots : Try.zeroCells83 = rowD fun _ _ => false := by kernel_rfl
theorem b0_dots : ∀ w, (Instr.build 83 #[]).run Try.prog w = .ok (.agg (rowD fun _ _ => false)) w := fun w => by kernel_rfl
theorem any_orT (q : RP → Bool) (c : Bool) (l : List RP) (j : Nat) (hj : j < l.length) : (c || (l.take (j + 1)).any q) = ((c || (l.take j).any q) || q l[j]) := by
  rw [any_takeR q l j hj, Bool.or_assoc]

/-- a slice literal of one part of the reference's. -/
theorem wpList_refRow {ops : Array Oper} {rest : List Oper} {o : Oper} {a : Act} {w : World} {Q : Exit → Act → World → Prop} {y : RP} (x : Operand) (ho : o.op = .buildSlice 73 1 #[(0, x)]) (hg : o.guard = none) (hx : a.eval x = .agg (rowB 512 y.P ++ rowD y.K))
    (h : ∀ w', Ext w w' → SlRefs 0 w' (some ⟨w.heap.size, 0, none⟩) [y] → wpList Try.prog ops Q rest (a.put o.dst (.slice (some ⟨w.heap.size, 0, none⟩) 1 1)) w') : wpList Try.prog ops Q (o :: rest) a w :=
  wpList_plain hg fun _ hK => wp_buildRow Try.underlying73 info_refs ⟨by omega, by omega⟩ x ho hx (refRow_size y) (hK _ _ (h _ ((Ext.refl w).alloc _) (Sl.one (cs := (rowB 512 y.P ++ rowD y.K).toList) (by rw [Array.toArray_toList]) (by rw [Array.length_toList]; exact refRow_size y) rfl)))

set_option maxRecDepth 100000 in
set_option maxHeartbeats 4000000 in
theorem ref_Few (B : Nat) (A : Option Addr) (c : Nat) (l : List RP) (w : World) (hl : l.length ≤ 1000) (h : SlRefs B w A l) :
    Calls Try.prog 51 #[.slice A l.length c] w fun e w' => ∃ v, e = .returned v ∧ Own RRef 592 85 w' w.heap.size v (fewR l) ∧ Ext w w' := by
  go_enter Try.func51, Try.ntmps51
  go_wp2_with fail
  go_loopw [14, 3] (fun i v wr => ∃ k : Nat, k ≤ l.length ∧ i = .int .i64 k ∧ Own RRef 592 85 wr w.heap.size v (fewR (l.take k)) ∧ Ext w wr) (fun i _ _ => l.length - (intOf i).toNat)
  case atStart => exact ⟨0, Nat.zero_le _, rfl, Own.nil, Ext.refl _⟩
  case round =>
    obtain ⟨k, hk, rfl, hov, hx⟩ := hrel
    by_cases hlt : k < l.length
    · obtain ⟨b, off, rfl, hb, hr⟩ := (h.ext RRef.mono hx).ref hlt
      have HSS := hid (fewR_step l k hlt)
      have HLen := hid (show (fewR (l.take k)).length ≤ 1000 by have := fewR_len (l.take k); rw [List.length_take] at this; omega)
      obtain ⟨OUT, hOUT⟩ : ∃ o, o = fewR (l.take k) := ⟨_, rfl⟩
      obtain ⟨X, hX⟩ : ∃ X, X = l[k] := ⟨_, rfl⟩
      rw [← hX] at hr HSS
      rw [← hOUT] at hov HSS HLen
      obtain ⟨Ao, co, rfl, ho1, ho2⟩ := hov.len
      have HSl := hid (hov.sl B)
      obtain ⟨N1, hN1⟩ : ∃ N : Bool, N = allTo (fun i => X.P i == false) 512 := ⟨_, rfl⟩
      obtain ⟨N2, hN2⟩ : ∃ N : Bool, N = eqD X.K (fun _ _ => false) := ⟨_, rfl⟩
      have HN := hid (show noneR X = (N1 || N2) by rw [hN1, hN2, noneR])
      have HN1 := hid hN1
      have HN2 := hid hN2
      have heq1 : ∀ w, (Op.equalIn 10000 79 (.agg (rowB 512 X.P)) (.agg (rowB 512 fun _ => false))).run Try.prog w = .ok N1 w := fun w => by rw [HN1.out, eq_points]
      have heq2 : ∀ w, (Op.equalIn 10000 83 (.agg (rowD X.K)) (.agg (rowD fun _ _ => false))).run Try.prog w = .ok N2 w := fun w => by rw [HN2.out]; exact eq_dotsets _ _ w
      clear hOUT hX hN1 hN2
      cases N1
      · have HNv := hid (show noneR X = N2 by rw [HN.out]; rfl)
        go_wp2_with (first
          | ((with_reducible refine wpList_loadMid (o := ⟨some 17, _, _, _, _, _⟩) ri_ref _ rfl rfl rfl hr (refRow_size _) ?_))
          | ((with_reducible refine wpList_allocArr (o := ⟨some 5, _, _, _, _, _⟩) zi_ref rfl rfl ?_); intro w1 hx1 hb1 hs1)
          | ((with_reducible refine wpList_storeRow (o := ⟨none, _, _, _, _, _⟩) ri_ref _ _ rfl rfl rfl rfl hb1 (refRow_size _) (refRow_size ⟨fun _ => false, fun _ _ => false⟩) (refRow_all _) ?_); intro w2 hx2 hb2 hs2 ho2; have hxl := hx1.below hx2 (Nat.le_refl _); clear hx1 hx2 hr)
          | ((with_reducible refine wpList_loadMid (o := ⟨some 19, _, _, _, _, _⟩) ri_points _ rfl rfl rfl (ref_P hb2) (rowB_size _ _) ?_))
          | ((with_reducible refine wpList_build0 (o := ⟨some 20, _, _, _, _, _⟩) b0_points rfl rfl ?_)))
        refine wp_loadMid (o := ⟨some 24, _, _, _, _, _⟩) ri_dots _ rfl rfl (ref_K hb2) (rowD_size _) ?_
        have hz83 : Try.zeroCells83 = rowD fun _ _ => false := zc_dots
        go_wp2_with fail
        clear hz83
        have HXW := hid hx
        have HOV := hid hov
        have L0 := HLen.out
        clear hx hov
        have hxb : Ext wr w2 := hxl
        have hbX := hb2
        obtain ⟨r, hr⟩ : ∃ r, r = wr.heap.size := ⟨_, rfl⟩
        rw [← hr] at hbX ⊢
        obtain ⟨wo, hwo⟩ : ∃ wo, wo = wr := ⟨_, rfl⟩
        rw [← hwo] at hxb HSl HXW HOV
        clear hxl hb2 hs2 ho2 hb1 hs1 hr hwo
        go_loopw [30, 6] (fun j lf ws => ∃ q : Nat, q ≤ OUT.length ∧ j = .int .i64 q ∧ lf = .bool (N2 || (OUT.take q).any (fun y => underR X y)) ∧ Blk ws r 85 (rowB 512 X.P ++ rowD X.K) ∧ Ext wo ws) (fun j _ _ => OUT.length - (intOf j).toNat)
        case atStart => exact ⟨0, Nat.zero_le _, rfl, by simp, hbX, hxb⟩
        case round =>
          clear hbX hxb
          obtain ⟨q, hq, rfl, rfl, hbX, hxb⟩ := hrel
          by_cases hlq : q < OUT.length
          · obtain ⟨b2, off2, hA2, hbb2, hr⟩ := (HSl.out.ext RRef.mono hxb).ref hlq
            subst hA2
            have HAn := hid (any_orT (fun y => underR X y) N2 OUT q hlq)
            obtain ⟨Y, hY⟩ : ∃ Y, Y = OUT[q] := ⟨_, rfl⟩
            rw [← hY] at hr HAn
            clear hY
            have hrl := hbX.lt
            cases hLf : (N2 || (OUT.take q).any (fun y => underR X y))
            · rw [hLf] at HAn
              clear hLf
              go_wp2_with (first
                | ((with_reducible refine wpList_loadMid (o := ⟨some 33, _, _, _, _, _⟩) ri_ref _ rfl rfl rfl hr (refRow_size _) ?_))
                | ((with_reducible refine wpList_allocArr (o := ⟨some 8, _, _, _, _, _⟩) zi_ref rfl rfl ?_); intro w1 hx1 hb1 hs1)
                | ((with_reducible refine wpList_storeRow (o := ⟨none, _, _, _, _, _⟩) ri_ref _ _ rfl rfl rfl rfl hb1 (refRow_size _) (refRow_size ⟨fun _ => false, fun _ _ => false⟩) (refRow_all _) ?_); intro w2 hx2 hb2 hs2 ho2; have hxl := hx1.below hx2 (Nat.le_refl _); have hbx2 := hbX.ext hxl; clear hx1 hx2 hr))
              refine wp_loadMid (o := ⟨some 36, _, _, _, _, _⟩) ri_ref _ rfl rfl (hbx2.whole) (refRow_size _) ?_
              go_wp2_with fail
              refine wp_loadMid (o := ⟨some 37, _, _, _, _, _⟩) ri_ref _ rfl rfl (hb2.whole) (refRow_size _) ?_
              go_wp2_with fail
              refine (ref_under X Y _).mono ?_
              rintro e w3 ⟨rfl, hx3⟩
              go_wp2_with fail
              go_roundw
              case rel => exact ⟨q + 1, hlq, by go_num, by rw [HAn.out]; simp, hbx2.ext hx3, (hxb.trans hxl).trans hx3⟩
              case measure => simp [intOf]; omega
            · rw [hLf] at HAn
              clear hLf
              go_wp2_with (first
                | ((with_reducible refine wpList_loadMid (o := ⟨some 33, _, _, _, _, _⟩) ri_ref _ rfl rfl rfl hr (refRow_size _) ?_))
                | ((with_reducible refine wpList_allocArr (o := ⟨some 8, _, _, _, _, _⟩) zi_ref rfl rfl ?_); intro w1 hx1 hb1 hs1)
                | ((with_reducible refine wpList_storeRow (o := ⟨none, _, _, _, _, _⟩) ri_ref _ _ rfl rfl rfl rfl hb1 (refRow_size _) (refRow_size ⟨fun _ => false, fun _ _ => false⟩) (refRow_all _) ?_); intro w2 hx2 hb2 hs2 ho2; have hxl := hx1.below hx2 (Nat.le_refl _); have hbx2 := hbX.ext hxl; clear hx1 hx2 hr))
              go_roundw
              case rel => exact ⟨q + 1, hlq, by go_num, by rw [HAn.out]; simp, hbx2, hxb.trans hxl⟩
              case measure => simp [intOf]; omega
          · obtain rfl : q = OUT.length := by omega
            rw [List.take_length]
            have hN0 := HNv.out
            cases hLft : (N2 || OUT.any (fun y => underR X y))
            · have HLF := hid (show (noneR X || OUT.any (fun y => underR X y)) = false by rw [hN0]; exact hLft)
              clear hN0 hLft
              have HSt := hid (show fewR (l.take (k + 1)) = (OUT.filter fun y => !underR y X) ++ [X] by rw [HSS.out, fewRStep, HLF.out]; rfl)
              have HLen2 := hid (show ∀ q, ((OUT.take q).filter fun y => !underR y X).length ≤ 1000 from fun q => by
                have h1 := List.length_filter_le (fun y => !underR y X) (OUT.take q)
                have h2 : (OUT.take q).length ≤ OUT.length := by rw [List.length_take]; omega
                have := HLen.out
                omega)
              go_wp2_with fail
              have HXB := hid hxb
              have HBX := hid hbX
              obtain ⟨wb, hwb⟩ : ∃ wb, wb = wr := ⟨_, rfl⟩
              subst hwb
              clear hxb hbX
              go_loopw [44, 9] (fun j kv ws => ∃ q : Nat, q ≤ OUT.length ∧ j = .int .i64 q ∧ Own RRef 592 85 ws wb.heap.size kv ((OUT.take q).filter fun y => !underR y X) ∧ Ext wb ws) (fun j _ _ => OUT.length - (intOf j).toNat)
              case atStart => exact ⟨0, Nat.zero_le _, rfl, Own.nil, Ext.refl _⟩
              case round =>
                obtain ⟨q, hq, rfl, hkv, hxk⟩ := hrel
                by_cases hlq : q < OUT.length
                · obtain ⟨b2, off2, hA2, hbb2, hr⟩ := (HSl.out.ext RRef.mono (HXB.out.trans hxk)).ref hlq
                  subst hA2
                  have HFl := hid (filter_take (fun y => !underR y X) OUT q hlq)
                  obtain ⟨Y, hY⟩ : ∃ Y, Y = OUT[q] := ⟨_, rfl⟩
                  rw [← hY] at hr HFl
                  clear hY
                  have hbx := HBX.out.ext hxk
                  have hrl := hbx.lt
                  go_wp2_with (first
                    | ((with_reducible refine wpList_loadMid (o := ⟨some 47, _, _, _, _, _⟩) ri_ref _ rfl rfl rfl hr (refRow_size _) ?_))
                    | ((with_reducible refine wpList_allocArr (o := ⟨some 11, _, _, _, _, _⟩) zi_ref rfl rfl ?_); intro w1 hx1 hb1 hs1)
                    | ((with_reducible refine wpList_storeRow (o := ⟨none, _, _, _, _, _⟩) ri_ref _ _ rfl rfl rfl rfl hb1 (refRow_size _) (refRow_size ⟨fun _ => false, fun _ _ => false⟩) (refRow_all _) ?_); intro w2 hx2 hb2 hs2 ho2; have hxl := hx1.below hx2 (Nat.le_refl _); have hbx2 := hbx.ext hxl; clear hx1 hx2 hr)
                    | ((with_reducible refine wpList_loadMid (o := ⟨some 48, _, _, _, _, _⟩) ri_ref _ rfl rfl rfl (hb2.whole) (refRow_size _) ?_))
                    | ((with_reducible refine wpList_loadMid (o := ⟨some 49, _, _, _, _, _⟩) ri_ref _ rfl rfl rfl (hbx2.whole) (refRow_size _) ?_)))
                  refine (ref_under Y X _).mono ?_
                  rintro e w3 ⟨rfl, hx3⟩
                  have hxx := hxl.trans hx3
                  have hb3 := hb2.ext hx3
                  replace hkv := hkv.ext (RRef.mono (B := 0)) hxx
                  replace hxk := hxk.trans hxx
                  clear hxl hx3 hxx hb2 hbx2 hbx
                  cases hU : underR Y X
                  · have HF2 := hid (show (OUT.take (q + 1)).filter (fun y => !underR y X) = (OUT.take q).filter (fun y => !underR y X) ++ [Y] by rw [HFl.out, hU]; rfl)
                    clear hU
                    go_wp2_with (first
                      | ((with_reducible refine wpList_loadMid (o := ⟨some 53, _, _, _, _, _⟩) ri_ref _ rfl rfl rfl (hb3.whole) (refRow_size _) ?_))
                      | ((with_reducible refine wpList_refRow (o := ⟨some 54, _, _, _, _, _⟩) _ rfl rfl rfl ?_); intro w6 hx6 hL6; replace hkv := hkv.ext (RRef.mono (B := 0)) hx6; replace hxk := hxk.trans hx6)
                      | (at_builtin; refine wpList_app (ys := [Y]) (c := 1) (B := 0) rfl _ _ rfl ei_rp rfl hkv (Nat.zero_le _) hxk.size rfl hL6 RRef.oneC RRef.mono (by have := HLen2.out q; simp [maxLen]; omega) (by have := HLen2.out q; simp; omega) ?_; intro v7 w7 ho7 _ hb7 _))
                    go_roundw
                    case rel =>
                      refine ⟨q + 1, hlq, by go_num, ?_, hxk.below hb7 (Nat.le_refl _)⟩
                      rw [HF2.out]
                      exact ho7
                    case measure => simp [intOf]; omega
                  · have HF2 := hid (show (OUT.take (q + 1)).filter (fun y => !underR y X) = (OUT.take q).filter (fun y => !underR y X) by rw [HFl.out, hU]; simp)
                    clear hU
                    go_wp2_with fail
                    go_roundw
                    case rel =>
                      refine ⟨q + 1, hlq, by go_num, ?_, hxk⟩
                      rw [HF2.out]
                      exact hkv
                    case measure => simp [intOf]; omega
                · obtain rfl : q = OUT.length := by omega
                  rw [List.take_length] at hkv
                  have hbx := HBX.out.ext hxk
                  have HFn := hid (show (OUT.filter fun y => !underR y X).length ≤ 1000 by have := HLen2.out OUT.length; rwa [List.take_length] at this)
                  obtain ⟨FL, hFL⟩ : ∃ f, f = OUT.filter fun y => !underR y X := ⟨_, rfl⟩
                  rw [← hFL] at hkv HSt HFn
                  clear hFL
                  go_wp2_with (first
                    | ((with_reducible refine wpList_loadMid (o := ⟨some 58, _, _, _, _, _⟩) ri_ref _ rfl rfl rfl (hbx.whole) (refRow_size _) ?_))
                    | ((with_reducible refine wpList_refRow (o := ⟨some 59, _, _, _, _, _⟩) _ rfl rfl rfl ?_); intro w6 hx6 hL6; replace hkv := hkv.ext (RRef.mono (B := 0)) hx6; replace hxk := hxk.trans hx6)
                    | (at_builtin; refine wpList_app (ys := [X]) (c := 1) (B := 0) rfl _ _ rfl ei_rp rfl hkv (Nat.zero_le _) hxk.size rfl hL6 RRef.oneC RRef.mono (by have := HFn.out; simp [maxLen]; omega) (by have := HFn.out; simp; omega) ?_; intro v7 w7 ho7 _ hb7 _))
                  have hxw := (HXW.out.trans HXB.out).trans (hxk.below hb7 (Nat.le_refl _))
                  have hbs : w.heap.size ≤ wb.heap.size := (HXW.out.trans HXB.out).size
                  go_roundw
                  case rel =>
                    refine ⟨k + 1, hlt, by go_num, ?_, hxw⟩
                    rw [HSt.out]
                    exact ho7.weaken hbs
                  case measure => simp [intOf]; omega
            · have HLF := hid (show (noneR X || OUT.any (fun y => underR X y)) = true by rw [hN0]; exact hLft)
              have HSt := hid (show fewR (l.take (k + 1)) = OUT by rw [HSS.out, fewRStep, HLF.out]; rfl)
              clear hN0 hLft
              go_wp2_with fail
              go_roundw
              case rel =>
                refine ⟨k + 1, hlt, by go_num, ?_, HXW.out.trans hxb⟩
                rw [HSt.out]
                exact HOV.out.ext (RRef.mono (B := 0)) hxb
              case measure => simp [intOf]; omega
      · have HNv := hid (show noneR X = true by rw [HN.out]; rfl)
        go_wp2_with (first
          | ((with_reducible refine wpList_loadMid (o := ⟨some 17, _, _, _, _, _⟩) ri_ref _ rfl rfl rfl hr (refRow_size _) ?_))
          | ((with_reducible refine wpList_allocArr (o := ⟨some 5, _, _, _, _, _⟩) zi_ref rfl rfl ?_); intro w1 hx1 hb1 hs1)
          | ((with_reducible refine wpList_storeRow (o := ⟨none, _, _, _, _, _⟩) ri_ref _ _ rfl rfl rfl rfl hb1 (refRow_size _) (refRow_size ⟨fun _ => false, fun _ _ => false⟩) (refRow_all _) ?_); intro w2 hx2 hb2 hs2 ho2; have hxl := hx1.below hx2 (Nat.le_refl _); clear hx1 hx2 hr)
          | ((with_reducible refine wpList_loadMid (o := ⟨some 19, _, _, _, _, _⟩) ri_points _ rfl rfl rfl (ref_P hb2) (rowB_size _ _) ?_))
          | ((with_reducible refine wpList_build0 (o := ⟨some 20, _, _, _, _, _⟩) b0_points rfl rfl ?_)))
        have HXW := hid hx
        have HOV := hid hov
        have L0 := HLen.out
        clear hx hov
        have hxb : Ext wr w2 := hxl
        have hbX := hb2
        obtain ⟨r, hr⟩ : ∃ r, r = wr.heap.size := ⟨_, rfl⟩
        rw [← hr] at hbX ⊢
        obtain ⟨wo, hwo⟩ : ∃ wo, wo = wr := ⟨_, rfl⟩
        rw [← hwo] at hxb HSl HXW HOV
        clear hxl hb2 hs2 ho2 hb1 hs1 hr hwo
        go_loopw [30, 6] (fun j lf ws => ∃ q : Nat, q ≤ OUT.length ∧ j = .int .i64 q ∧ lf = .bool (true || (OUT.take q).any (fun y => underR X y)) ∧ Blk ws r 85 (rowB 512 X.P ++ rowD X.K) ∧ Ext wo ws) (fun j _ _ => OUT.length - (intOf j).toNat)
        case atStart => exact ⟨0, Nat.zero_le _, rfl, by simp, hbX, hxb⟩
        case round =>
          clear hbX hxb
          obtain ⟨q, hq, rfl, rfl, hbX, hxb⟩ := hrel
          by_cases hlq : q < OUT.length
          · obtain ⟨b2, off2, hA2, hbb2, hr⟩ := (HSl.out.ext RRef.mono hxb).ref hlq
            subst hA2
            have HAn := hid (any_orT (fun y => underR X y) true OUT q hlq)
            obtain ⟨Y, hY⟩ : ∃ Y, Y = OUT[q] := ⟨_, rfl⟩
            rw [← hY] at hr HAn
            clear hY
            have hrl := hbX.lt
            cases hLf : (true || (OUT.take q).any (fun y => underR X y))
            · rw [hLf] at HAn
              clear hLf
              go_wp2_with (first
                | ((with_reducible refine wpList_loadMid (o := ⟨some 33, _, _, _, _, _⟩) ri_ref _ rfl rfl rfl hr (refRow_size _) ?_))
                | ((with_reducible refine wpList_allocArr (o := ⟨some 8, _, _, _, _, _⟩) zi_ref rfl rfl ?_); intro w1 hx1 hb1 hs1)
                | ((with_reducible refine wpList_storeRow (o := ⟨none, _, _, _, _, _⟩) ri_ref _ _ rfl rfl rfl rfl hb1 (refRow_size _) (refRow_size ⟨fun _ => false, fun _ _ => false⟩) (refRow_all _) ?_); intro w2 hx2 hb2 hs2 ho2; have hxl := hx1.below hx2 (Nat.le_refl _); have hbx2 := hbX.ext hxl; clear hx1 hx2 hr))
              refine wp_loadMid (o := ⟨some 36, _, _, _, _, _⟩) ri_ref _ rfl rfl (hbx2.whole) (refRow_size _) ?_
              go_wp2_with fail
              refine wp_loadMid (o := ⟨some 37, _, _, _, _, _⟩) ri_ref _ rfl rfl (hb2.whole) (refRow_size _) ?_
              go_wp2_with fail
              refine (ref_under X Y _).mono ?_
              rintro e w3 ⟨rfl, hx3⟩
              go_wp2_with fail
              go_roundw
              case rel => exact ⟨q + 1, hlq, by go_num, by rw [HAn.out]; simp, hbx2.ext hx3, (hxb.trans hxl).trans hx3⟩
              case measure => simp [intOf]; omega
            · rw [hLf] at HAn
              clear hLf
              go_wp2_with (first
                | ((with_reducible refine wpList_loadMid (o := ⟨some 33, _, _, _, _, _⟩) ri_ref _ rfl rfl rfl hr (refRow_size _) ?_))
                | ((with_reducible refine wpList_allocArr (o := ⟨some 8, _, _, _, _, _⟩) zi_ref rfl rfl ?_); intro w1 hx1 hb1 hs1)
                | ((with_reducible refine wpList_storeRow (o := ⟨none, _, _, _, _, _⟩) ri_ref _ _ rfl rfl rfl rfl hb1 (refRow_size _) (refRow_size ⟨fun _ => false, fun _ _ => false⟩) (refRow_all _) ?_); intro w2 hx2 hb2 hs2 ho2; have hxl := hx1.below hx2 (Nat.le_refl _); have hbx2 := hbX.ext hxl; clear hx1 hx2 hr))
              go_roundw
              case rel => exact ⟨q + 1, hlq, by go_num, by rw [HAn.out]; simp, hbx2, hxb.trans hxl⟩
              case measure => simp [intOf]; omega
          · obtain rfl : q = OUT.length := by omega
            rw [List.take_length]
            have hN0 := HNv.out
            cases hLft : (true || OUT.any (fun y => underR X y))
            · have HLF := hid (show (noneR X || OUT.any (fun y => underR X y)) = false by rw [hN0]; exact hLft)
              clear hN0 hLft
              have HSt := hid (show fewR (l.take (k + 1)) = (OUT.filter fun y => !underR y X) ++ [X] by rw [HSS.out, fewRStep, HLF.out]; rfl)
              have HLen2 := hid (show ∀ q, ((OUT.take q).filter fun y => !underR y X).length ≤ 1000 from fun q => by
                have h1 := List.length_filter_le (fun y => !underR y X) (OUT.take q)
                have h2 : (OUT.take q).length ≤ OUT.length := by rw [List.length_take]; omega
                have := HLen.out
                omega)
              go_wp2_with fail
              have HXB := hid hxb
              have HBX := hid hbX
              obtain ⟨wb, hwb⟩ : ∃ wb, wb = wr := ⟨_, rfl⟩
              subst hwb
              clear hxb hbX
              go_loopw [44, 9] (fun j kv ws => ∃ q : Nat, q ≤ OUT.length ∧ j = .int .i64 q ∧ Own RRef 592 85 ws wb.heap.size kv ((OUT.take q).filter fun y => !underR y X) ∧ Ext wb ws) (fun j _ _ => OUT.length - (intOf j).toNat)
              case atStart => exact ⟨0, Nat.zero_le _, rfl, Own.nil, Ext.refl _⟩
              case round =>
                obtain ⟨q, hq, rfl, hkv, hxk⟩ := hrel
                by_cases hlq : q < OUT.length
                · obtain ⟨b2, off2, hA2, hbb2, hr⟩ := (HSl.out.ext RRef.mono (HXB.out.trans hxk)).ref hlq
                  subst hA2
                  have HFl := hid (filter_take (fun y => !underR y X) OUT q hlq)
                  obtain ⟨Y, hY⟩ : ∃ Y, Y = OUT[q] := ⟨_, rfl⟩
                  rw [← hY] at hr HFl
                  clear hY
                  have hbx := HBX.out.ext hxk
                  have hrl := hbx.lt
                  go_wp2_with (first
                    | ((with_reducible refine wpList_loadMid (o := ⟨some 47, _, _, _, _, _⟩) ri_ref _ rfl rfl rfl hr (refRow_size _) ?_))
                    | ((with_reducible refine wpList_allocArr (o := ⟨some 11, _, _, _, _, _⟩) zi_ref rfl rfl ?_); intro w1 hx1 hb1 hs1)
                    | ((with_reducible refine wpList_storeRow (o := ⟨none, _, _, _, _, _⟩) ri_ref _ _ rfl rfl rfl rfl hb1 (refRow_size _) (refRow_size ⟨fun _ => false, fun _ _ => false⟩) (refRow_all _) ?_); intro w2 hx2 hb2 hs2 ho2; have hxl := hx1.below hx2 (Nat.le_refl _); have hbx2 := hbx.ext hxl; clear hx1 hx2 hr)
                    | ((with_reducible refine wpList_loadMid (o := ⟨some 48, _, _, _, _, _⟩) ri_ref _ rfl rfl rfl (hb2.whole) (refRow_size _) ?_))
                    | ((with_reducible refine wpList_loadMid (o := ⟨some 49, _, _, _, _, _⟩) ri_ref _ rfl rfl rfl (hbx2.whole) (refRow_size _) ?_)))
                  refine (ref_under Y X _).mono ?_
                  rintro e w3 ⟨rfl, hx3⟩
                  have hxx := hxl.trans hx3
                  have hb3 := hb2.ext hx3
                  replace hkv := hkv.ext (RRef.mono (B := 0)) hxx
                  replace hxk := hxk.trans hxx
                  clear hxl hx3 hxx hb2 hbx2 hbx
                  cases hU : underR Y X
                  · have HF2 := hid (show (OUT.take (q + 1)).filter (fun y => !underR y X) = (OUT.take q).filter (fun y => !underR y X) ++ [Y] by rw [HFl.out, hU]; rfl)
                    clear hU
                    go_wp2_with (first
                      | ((with_reducible refine wpList_loadMid (o := ⟨some 53, _, _, _, _, _⟩) ri_ref _ rfl rfl rfl (hb3.whole) (refRow_size _) ?_))
                      | ((with_reducible refine wpList_refRow (o := ⟨some 54, _, _, _, _, _⟩) _ rfl rfl rfl ?_); intro w6 hx6 hL6; replace hkv := hkv.ext (RRef.mono (B := 0)) hx6; replace hxk := hxk.trans hx6)
                      | (at_builtin; refine wpList_app (ys := [Y]) (c := 1) (B := 0) rfl _ _ rfl ei_rp rfl hkv (Nat.zero_le _) hxk.size rfl hL6 RRef.oneC RRef.mono (by have := HLen2.out q; simp [maxLen]; omega) (by have := HLen2.out q; simp; omega) ?_; intro v7 w7 ho7 _ hb7 _))
                    go_roundw
                    case rel =>
                      refine ⟨q + 1, hlq, by go_num, ?_, hxk.below hb7 (Nat.le_refl _)⟩
                      rw [HF2.out]
                      exact ho7
                    case measure => simp [intOf]; omega
                  · have HF2 := hid (show (OUT.take (q + 1)).filter (fun y => !underR y X) = (OUT.take q).filter (fun y => !underR y X) by rw [HFl.out, hU]; simp)
                    clear hU
                    go_wp2_with fail
                    go_roundw
                    case rel =>
                      refine ⟨q + 1, hlq, by go_num, ?_, hxk⟩
                      rw [HF2.out]
                      exact hkv
                    case measure => simp [intOf]; omega
                · obtain rfl : q = OUT.length := by omega
                  rw [List.take_length] at hkv
                  have hbx := HBX.out.ext hxk
                  have HFn := hid (show (OUT.filter fun y => !underR y X).length ≤ 1000 by have := HLen2.out OUT.length; rwa [List.take_length] at this)
                  obtain ⟨FL, hFL⟩ : ∃ f, f = OUT.filter fun y => !underR y X := ⟨_, rfl⟩
                  rw [← hFL] at hkv HSt HFn
                  clear hFL
                  go_wp2_with (first
                    | ((with_reducible refine wpList_loadMid (o := ⟨some 58, _, _, _, _, _⟩) ri_ref _ rfl rfl rfl (hbx.whole) (refRow_size _) ?_))
                    | ((with_reducible refine wpList_refRow (o := ⟨some 59, _, _, _, _, _⟩) _ rfl rfl rfl ?_); intro w6 hx6 hL6; replace hkv := hkv.ext (RRef.mono (B := 0)) hx6; replace hxk := hxk.trans hx6)
                    | (at_builtin; refine wpList_app (ys := [X]) (c := 1) (B := 0) rfl _ _ rfl ei_rp rfl hkv (Nat.zero_le _) hxk.size rfl hL6 RRef.oneC RRef.mono (by have := HFn.out; simp [maxLen]; omega) (by have := HFn.out; simp; omega) ?_; intro v7 w7 ho7 _ hb7 _))
                  have hxw := (HXW.out.trans HXB.out).trans (hxk.below hb7 (Nat.le_refl _))
                  have hbs : w.heap.size ≤ wb.heap.size := (HXW.out.trans HXB.out).size
                  go_roundw
                  case rel =>
                    refine ⟨k + 1, hlt, by go_num, ?_, hxw⟩
                    rw [HSt.out]
                    exact ho7.weaken hbs
                  case measure => simp [intOf]; omega
            · have HLF := hid (show (noneR X || OUT.any (fun y => underR X y)) = true by rw [hN0]; exact hLft)
              have HSt := hid (show fewR (l.take (k + 1)) = OUT by rw [HSS.out, fewRStep, HLF.out]; rfl)
              clear hN0 hLft
              go_wp2_with fail
              go_roundw
              case rel =>
                refine ⟨k + 1, hlt, by go_num, ?_, HXW.out.trans hxb⟩
                rw [HSt.out]
                exact HOV.out.ext (RRef.mono (B := 0)) hxb
              case measure => simp [intOf]; omega
    · obtain rfl : k = l.length := by omega
      rw [List.take_length] at hov
      go_wp2_with fail
      go_ret
      exact ⟨_, rfl, hov, hx⟩

end Go.Proofs.Ytmedmfjhpabfdaa
