/- The walk of span.Make. -/
import Derived.Test.YtiigbcnnapnceaaSpanW
namespace Go.Proofs.Ytiigbcnnapnceaa
open Go Go.RowKit

theorem ei_span : ElemInfo Try.prog 97 101 2 16 := ElemInfo.mk_ (z := .agg #[.int .i64 0, .int .i64 0]) Try.underlying97 (by kernel_rfl) rfl (by decide)

set_option maxHeartbeats 1000000 in
theorem span_Make (B : Nat) (f : FuncId) (cap : Array Value) (p : Int → Bool) (w : World) (hB : B ≤ w.heap.size)
    (hc : ∀ (args : Array Value) (wn : World), (callFunc f args).run Try.prog wn = .ok (.enter f args) wn)
    (hf : ∀ (n : Nat) (wn : World), n < 32 → Ext w wn → Calls Try.prog f (#[.int .i64 n] ++ cap) wn fun e w' => e = .returned (.bool (p n)) ∧ Ext wn w') :
    Calls Try.prog 107 #[.func (.func f) #[] cap] w fun e w' => ∃ v, e = .returned v ∧ IsSpans B w' v (mkSpans p 32) ∧ Ext w w' := by
  have HF := hid hf
  clear hf
  go_enter Try.func107, Try.ntmps107
  go_wp2
  go_loopw [3, 4] (fun v i wr => ∃ k : Nat, k ≤ 32 ∧ i = .int .i64 k ∧ Own RSpan 2 101 wr w.heap.size v (mkSpans p k) ∧ Ext w wr) (fun _ i _ => 32 - (intOf i).toNat)
  case atStart => exact ⟨0, by omega, rfl, Own.nil, Ext.refl _⟩
  case round =>
    obtain ⟨k, hk, rfl, ho, hx⟩ := hrel
    by_cases hlt : k < 32
    · obtain ⟨L, hL⟩ : ∃ L, L = mkSpans p k := ⟨_, rfl⟩
      have hlen := mkSpans_len p k
      rw [← hL] at ho hlen
      have HE := hid (show mkSpans p (k + 1) = mkStep p L k by rw [mkSpans, hL])
      clear hL
      go_wp2_with fail
      refine (HF.out k _ hlt hx).mono ?_
      rintro e w1 ⟨rfl, hx1⟩
      have ho1 := ho.ext (B := B) RPair.mono hx1
      have hx2 := hx.trans hx1
      clear ho hx1 hx
      by_cases hp : p k = true
      · rw [hp]
        have HP := hid hp
        clear hp
        rcases ho1.at_ with ⟨rfl, rfl⟩ | ⟨g, c, rfl, hbg, hgw, hty, hfz, hcell⟩
        · go_wp2_with (at_builtin; refine wpList_app (ys := [(⟨k, k + 1⟩ : Span)]) rfl _ _ rfl ei_span rfl (ho1.ext (B := B) RPair.mono ((Ext.refl _).alloc _)) hB (hx2.alloc _).size rfl (Sl.one (B := B) rfl rfl rfl) RPair.oneC RPair.mono ?_ ?_ ?_)
          · simp [maxLen]
          · simp
          · intro v2 w3 ho2 hc2 hb2 _
            have hx3 := (hx2.alloc (.cells #[.int .i64 k, .int .i64 (k + 1)] 101)).below hb2 (Nat.le_refl _)
            clear hc2 hb2 hx2
            go_wp2_with fail
            go_roundw
            case rel => exact ⟨k + 1, by omega, by go_num, by rw [HE.out]; simpa [mkStep, HP.out] using ho2, hx3⟩
            case measure => simp [intOf]; omega
        · by_cases hne : 0 < L.length
          · have hg := List.getLast?_eq_getElem? (l := L)
            have hg2 : L[L.length - 1]? = some L[L.length - 1] := List.getElem?_eq_getElem (by omega)
            obtain ⟨cs, _, hcs, rfl⟩ := hcell (L.length - 1) _ hg2
            have h1 := hcs 1 _ rfl
            have hfz1 := hfz ((L.length - 1) * 2 + 1)
            have hw3 : 0 ≤ (L.length : Int) - 1 := by omega
            have HG := hid (hg.trans hg2)
            clear hg hg2 hcs hcell hfz
            by_cases hto : L[L.length - 1].to = k
            · have HT := hid hto
              rw [hto] at h1
              clear hto
              go_wp2_with fail
              obtain ⟨ho2, _, hb2⟩ := ho1.set (B := B) RPair.mono hB (i := L.length - 1) (j := 1) (by omega) (by omega) (.int .i64 (k + 1)) (⟨L[L.length - 1].fr, k + 1⟩ : Span) (by rintro cs _ rfl; rfl)
              have hx3 := hx2.below hb2 (Nat.le_refl _)
              go_roundw
              case rel => exact ⟨k + 1, by omega, by go_num, by rw [HE.out, mkStep, if_pos HP.out, HG.out]; simp only [HT.out, if_true]; exact ho2, hx3⟩
              case measure => simp [intOf]; omega
            · have hto2 : ((L[L.length - 1].to : Int) == (k : Int)) = false := by simpa using hto
              have HT := hid hto
              clear hto
              go_wp2_with (at_builtin; refine wpList_app (ys := [(⟨k, k + 1⟩ : Span)]) rfl _ _ rfl ei_span rfl (ho1.ext (B := B) RPair.mono ((Ext.refl _).alloc _)) hB (hx2.alloc _).size rfl (Sl.one (B := B) rfl rfl rfl) RPair.oneC RPair.mono ?_ ?_ ?_)
              · simp [maxLen]; omega
              · simp; omega
              · intro v2 w3 ho2 hc2 hb2 _
                have hx3 := (hx2.alloc (.cells #[.int .i64 k, .int .i64 (k + 1)] 101)).below hb2 (Nat.le_refl _)
                clear hc2 hb2 hx2
                go_wp2_with fail
                go_roundw
                case rel => exact ⟨k + 1, by omega, by go_num, by rw [HE.out, mkStep, if_pos HP.out, HG.out]; simp only [HT.out, if_false]; exact ho2, hx3⟩
                case measure => simp [intOf]; omega
          · obtain rfl : L = [] := List.eq_nil_of_length_eq_zero (by omega)
            go_wp2_with (at_builtin; refine wpList_app (ys := [(⟨k, k + 1⟩ : Span)]) rfl _ _ rfl ei_span rfl (ho1.ext (B := B) RPair.mono ((Ext.refl _).alloc _)) hB (hx2.alloc _).size rfl (Sl.one (B := B) rfl rfl rfl) RPair.oneC RPair.mono ?_ ?_ ?_)
            · simp [maxLen]
            · simp
            · intro v2 w3 ho2 hc2 hb2 _
              have hx3 := (hx2.alloc (.cells #[.int .i64 k, .int .i64 (k + 1)] 101)).below hb2 (Nat.le_refl _)
              clear hc2 hb2 hx2
              go_wp2_with fail
              go_roundw
              case rel => exact ⟨k + 1, by omega, by go_num, by rw [HE.out]; simpa [mkStep, HP.out] using ho2, hx3⟩
              case measure => simp [intOf]; omega
      · rw [show p k = false by simpa using hp]
        have HP := hid hp
        clear hp
        go_wp2_with fail
        go_roundw
        case rel => exact ⟨k + 1, by omega, by go_num, by rw [HE.out, mkStep, if_neg HP.out]; exact ho1, hx2⟩
        case measure => simp [intOf]; omega
    · go_wp2
      go_ret
      obtain rfl : k = 32 := by omega
      exact ⟨_, rfl, ho.isSl B, hx⟩

end Go.Proofs.Ytiigbcnnapnceaa
