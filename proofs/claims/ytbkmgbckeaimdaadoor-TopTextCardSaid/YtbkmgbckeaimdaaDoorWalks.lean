/- Walks: CubeW, CubeW2, SpanW, SpanM, FilW, CubeL in one text: data, readings, plain laws, small walks. No condition. -/
import Derived.Test.YtbkmgbckeaimdaaDoorBase
import Derived.BigQuiet
import Derived.Deep.QuietTactic
import Derived.Outline
import Derived.Test.YtbkmgbckeaimdaaDoorProg
import Derived.WalkKit
namespace Go.Proofs.YtbkmgbckeaimdaaDoor
open Go Go.RowKit

set_option maxHeartbeats 400000 in
theorem cube_Tags (n : Int) (w : World) : Calls Tryd.prog 39 #[.int .i64 n] w fun e w' => e = .returned (.bool (tagsOk n)) ∧ w = w' := by
  go_enter Tryd.func39, Tryd.ntmps39
  go_wp2_with fail
  all_goals
    go_ret
    refine ⟨ret_bool ?_, rfl⟩
    simp only [tagsOk]
    first
      | (rw [eq_comm, decide_eq_true_eq]; omega)
      | (rw [eq_comm, decide_eq_false_iff_not]; omega)
      | (by_cases h : 0 ≤ n ∧ n ≤ 15 <;> simp [h] <;> omega)

set_option maxHeartbeats 400000 in
theorem cube_Check (c : Cube) (w : World) : Calls Tryd.prog 19 #[.agg #[.int .i64 c.yes, .int .i64 c.no]] w fun e w' => e = .returned (.int .i64 (cubeCheck c)) ∧ Ext w w' := by
  by_cases h1 : tagsOk c.yes = true
  · by_cases h2 : tagsOk c.no = true
    · have a := tagsOk_iff.1 h1
      have b := tagsOk_iff.1 h2
      obtain ⟨y, hy⟩ := Int.eq_ofNat_of_zero_le a.1
      obtain ⟨m, hm⟩ := Int.eq_ofNat_of_zero_le b.1
      have hk := and16 y (by omega) m (by omega)
      have HC := hid (show cubeCheck c = if y &&& m = 0 then 0 else 3 by rw [cubeCheck, if_pos ⟨h1, h2⟩, hy, hm, Int.toNat_natCast, Int.toNat_natCast])
      rw [hy, hm]
      rw [hy] at h1
      rw [hm] at h2
      clear hy hm a b
      by_cases h0 : y &&& m = 0
      · rw [h0] at hk
        have H0 := hid h0
        clear h0
        go_enter Tryd.func19, Tryd.ntmps19
        go_wp2_with fail
        refine (cube_Tags _ _).mono ?_
        rintro e w1 ⟨rfl, rfl⟩
        rw [h1]
        go_wp2_with fail
        refine (cube_Tags _ _).mono ?_
        rintro e w1 ⟨rfl, rfl⟩
        rw [h2]
        go_wp2_with fail
        go_ret
        exact ⟨ret_int (by rw [HC.out, if_pos H0.out]), (Ext.refl w).alloc _⟩
      · have hb : (((y &&& m : Nat) : Int) != 0) = true := by simp; omega
        have H0 := hid h0
        clear h0
        go_enter Tryd.func19, Tryd.ntmps19
        go_wp2_with fail
        refine (cube_Tags _ _).mono ?_
        rintro e w1 ⟨rfl, rfl⟩
        rw [h1]
        go_wp2_with fail
        refine (cube_Tags _ _).mono ?_
        rintro e w1 ⟨rfl, rfl⟩
        rw [h2]
        go_wp2_with fail
        go_ret
        exact ⟨ret_int (by rw [HC.out, if_neg H0.out]), (Ext.refl w).alloc _⟩
    · have HC := hid (show cubeCheck c = 1 by rw [cubeCheck, if_neg (fun h => h2 h.2)])
      have h2' : tagsOk c.no = false := by simpa using h2
      clear h2
      go_enter Tryd.func19, Tryd.ntmps19
      go_wp2_with fail
      refine (cube_Tags _ _).mono ?_
      rintro e w1 ⟨rfl, rfl⟩
      rw [h1]
      go_wp2_with fail
      refine (cube_Tags _ _).mono ?_
      rintro e w1 ⟨rfl, rfl⟩
      rw [h2']
      go_wp2_with fail
      go_ret
      exact ⟨ret_int HC.out.symm, (Ext.refl w).alloc _⟩
  · have HC := hid (show cubeCheck c = 1 by rw [cubeCheck, if_neg (fun h => h1 h.1)])
    have h1' : tagsOk c.yes = false := by simpa using h1
    clear h1
    go_enter Tryd.func19, Tryd.ntmps19
    go_wp2_with fail
    refine (cube_Tags _ _).mono ?_
    rintro e w1 ⟨rfl, rfl⟩
    rw [h1']
    go_wp2_with fail
    go_ret
    exact ⟨ret_int HC.out.symm, (Ext.refl w).alloc _⟩

set_option maxHeartbeats 400000 in
theorem cube_In (c : Cube) (y n t : Nat) (hc : CubeOk c y n) (ht : t < 16) (w : World) : Calls Tryd.prog 53 #[.agg #[.int .i64 c.yes, .int .i64 c.no], .int .i64 t] w fun e w' => e = .returned (.bool (cubeIn y n t)) ∧ Ext w w' := by
  obtain ⟨h1, h2, hy, hn, _⟩ := hc
  rw [h1, h2]
  clear h1 h2
  have k1 := and16 t ht y hy
  have k2 := and16 t ht n hn
  by_cases ha : t &&& y = y
  · rw [ha] at k1
    have HA := hid ha
    clear ha
    go_enter Tryd.func53, Tryd.ntmps53
    go_wp2_with fail
    go_ret
    refine ⟨ret_bool ?_, (Ext.refl w).alloc _⟩
    rw [cubeIn, HA.out]
    rw [cast_beq0]; simp
  · have hb : (((t &&& y : Nat) : Int) == (y : Int)) = false := by simp; omega
    have HA := hid ha
    clear ha
    go_enter Tryd.func53, Tryd.ntmps53
    go_wp2_with fail
    go_ret
    refine ⟨ret_bool ?_, (Ext.refl w).alloc _⟩
    simp [cubeIn, HA.out]

end Go.Proofs.YtbkmgbckeaimdaaDoor

namespace Go.Proofs.YtbkmgbckeaimdaaDoor
open Go Go.RowKit

theorem Blk2.first {w : World} {b : Nat} {x y u v : Value} (h0 : w.cell? ⟨b, 0, none⟩ = some x) (_h1 : w.cell? ⟨b, 1, none⟩ = some y) : ((w.setCell ⟨b, 0, none⟩ u).setCell ⟨b, 1, none⟩ v).cell? ⟨b, 0, none⟩ = some u :=
  (World.cell?_setCell_other _ _ _ _ (by intro e; injection e with _ e; cases e)).trans (World.cell?_setCell_same _ _ _ h0)
theorem Blk2.second {w : World} {b : Nat} {x y u v : Value} (_h0 : w.cell? ⟨b, 0, none⟩ = some x) (h1 : w.cell? ⟨b, 1, none⟩ = some y) : ((w.setCell ⟨b, 0, none⟩ u).setCell ⟨b, 1, none⟩ v).cell? ⟨b, 1, none⟩ = some v :=
  World.cell?_setCell_same _ _ _ ((World.cell?_setCell_other _ _ _ _ (by intro e; injection e with _ e; cases e)).trans h1)

end Go.Proofs.YtbkmgbckeaimdaaDoor

namespace Go.Proofs.YtbkmgbckeaimdaaDoor
open Go Go.RowKit

set_option maxHeartbeats 1000000 in
theorem span_Check (B : Nat) (A : Option Addr) (c : Nat) (l : List Span) (w : World) (hl : l.length ≤ maxLen) (h : SlSpans B w A l) :
    Calls Tryd.prog 20 #[.slice A l.length c] w fun e w' => e = .returned (.int .i64 (spanCheck l)) ∧ Ext w w' := by
  unfold maxLen at hl
  by_cases h16 : 16 < l.length
  · go_enter Tryd.func20, Tryd.ntmps20
    go_wp2
    go_ret
    exact ⟨ret_int (by simp [spanCheck, h16]), Ext.refl _⟩
  go_enter Tryd.func20, Tryd.ntmps20
  go_wp2
  go_loopw [10] (fun i wr => ∃ k : Nat, k ≤ l.length ∧ i = .int .i64 k ∧ spanGo (lastTo l k) (l.drop k) = spanGo (-1) l ∧ Ext w wr) (fun i _ => l.length - (intOf i).toNat)
  case atStart => exact ⟨0, Nat.zero_le _, rfl, rfl, Ext.refl _⟩
  case round =>
    obtain ⟨k, hk, rfl, hG, hx⟩ := hrel
    have HG : Hid (spanGo (lastTo l k) (l.drop k) = spanGo (-1) l) := hG
    clear hG
    by_cases hlt : k < l.length
    · obtain ⟨b, off, rfl, hb, h1, h2⟩ := (h.ext RPair.mono hx).pair hlt
      have hs := spanGo_drop l k hlt
      have HS := hid hs
      clear hs
      by_cases hk0 : 0 < k
      · obtain ⟨b', off', e, _, _, h3⟩ := (h.ext RPair.mono hx).pair (show k - 1 < l.length by omega)
        obtain ⟨rfl, rfl⟩ : b = b' ∧ off = off' := by simpa using e
        have hw := IntWalk.i64_in ((k : Int) - 1) (by omega)
        have hw2 : ((k : Int) - 1).toNat = k - 1 := by omega
        have hw3 : 0 ≤ (k : Int) - 1 := by omega
        have hw4 : (0 : Int) < k := by omega
        have HL := hid (show lastTo l k = l[k - 1].to by simp [lastTo, show k ≠ 0 by omega, show k - 1 < l.length by omega])
        go_wp2
        all_goals first | (go_ret; exact ⟨ret_int (by rw [spanCheck, if_neg h16, ← HG.out, HS.out, if_pos (by omega)]), hx.alloc _⟩) | skip
        go_quiet (fail)
        go_wp2
        · go_ret
          exact ⟨ret_int (by rw [spanCheck, if_neg h16, ← HG.out, HS.out, if_neg (by omega), HL.out, if_pos (by omega)]), (hx.alloc _).drewN _⟩
        · go_roundw
          case rel => exact ⟨k + 1, hlt, by go_num, by rw [← HG.out, HS.out, if_neg (by omega), HL.out, if_neg (by omega)], (hx.alloc _).drewN _⟩
          case measure => simp [intOf]; omega
      · have hw4 : decide ((0 : Int) < (k : Int)) = false := by simp; omega
        have HL := hid (show lastTo l k = -1 by simp [lastTo, show k = 0 by omega])
        go_wp2
        all_goals first | (go_ret; exact ⟨ret_int (by rw [spanCheck, if_neg h16, ← HG.out, HS.out, if_pos (by omega)]), hx.alloc _⟩) | skip
        go_quiet (fail)
        go_wp2
        go_roundw
        case rel => exact ⟨k + 1, hlt, by go_num, by rw [← HG.out, HS.out, if_neg (by omega), HL.out, if_neg (by omega)], (hx.alloc _).drewN _⟩
        case measure => simp [intOf]; omega
    · go_wp2
      go_ret
      have : k = l.length := by omega
      exact ⟨ret_int (by rw [spanCheck, if_neg h16, ← HG.out, this]; simp [spanGo]), hx⟩
end Go.Proofs.YtbkmgbckeaimdaaDoor

namespace Go.Proofs.YtbkmgbckeaimdaaDoor
open Go Go.RowKit

theorem ei_span : ElemInfo Tryd.prog 49 56 2 16 := ElemInfo.mk_ (z := .agg #[.int .i64 0, .int .i64 0]) Tryd.underlying49 (by kernel_rfl) rfl (by decide)

set_option maxHeartbeats 1000000 in
theorem span_Make (B : Nat) (f : FuncId) (cap : Array Value) (p : Int → Bool) (w : World) (hB : B ≤ w.heap.size)
    (hc : ∀ (args : Array Value) (wn : World), (callFunc f args).run Tryd.prog wn = .ok (.enter f args) wn)
    (hf : ∀ (n : Nat) (wn : World), n < 32 → Ext w wn → Calls Tryd.prog f (#[.int .i64 n] ++ cap) wn fun e w' => e = .returned (.bool (p n)) ∧ Ext wn w') :
    Calls Tryd.prog 57 #[.func (.func f) #[] cap] w fun e w' => ∃ v, e = .returned v ∧ IsSpans B w' v (mkSpans p 32) ∧ Ext w w' := by
  have HF := hid hf
  clear hf
  go_enter Tryd.func57, Tryd.ntmps57
  go_wp2
  go_loopw [3, 4] (fun v i wr => ∃ k : Nat, k ≤ 32 ∧ i = .int .i64 k ∧ Own RSpan 2 56 wr w.heap.size v (mkSpans p k) ∧ Ext w wr) (fun _ i _ => 32 - (intOf i).toNat)
  case atStart => exact ⟨0, by omega, rfl, Own.nil, Ext.refl _⟩
  case round =>
    obtain ⟨k, hk, rfl, ho, hx⟩ := hrel
    by_cases hlt : k < 32
    · obtain ⟨L, hL⟩ : ∃ L, L = mkSpans p k := ⟨_, rfl⟩
      have hlen := mkSpans_len p k
      rw [← hL] at ho hlen
      have HE := hid (show mkSpans p (k + 1) = mkStep p L k by rw [mkSpans, hL])
      clear hL
      go_wp2_with fail
      refine (HF.out k _ hlt hx).mono ?_
      rintro e w1 ⟨rfl, hx1⟩
      have ho1 := ho.ext (B := B) RPair.mono hx1
      have hx2 := hx.trans hx1
      clear ho hx1 hx
      by_cases hp : p k = true
      · rw [hp]
        have HP := hid hp
        clear hp
        rcases ho1.at_ with ⟨rfl, rfl⟩ | ⟨g, c, rfl, hbg, hgw, hty, hfz, hcell⟩
        · go_wp2_with (at_builtin; refine wpList_app (ys := [(⟨k, k + 1⟩ : Span)]) rfl _ _ rfl ei_span rfl (ho1.ext (B := B) RPair.mono ((Ext.refl _).alloc _)) hB (hx2.alloc _).size rfl (Sl.one (B := B) rfl rfl rfl) RPair.oneC RPair.mono ?_ ?_ ?_)
          · simp [maxLen]
          · simp
          · intro v2 w3 ho2 hc2 hb2 _
            have hx3 := (hx2.alloc (.cells #[.int .i64 k, .int .i64 (k + 1)] 56)).below hb2 (Nat.le_refl _)
            clear hc2 hb2 hx2
            go_wp2_with fail
            go_roundw
            case rel => exact ⟨k + 1, by omega, by go_num, by rw [HE.out]; simpa [mkStep, HP.out] using ho2, hx3⟩
            case measure => simp [intOf]; omega
        · by_cases hne : 0 < L.length
          · have hg := List.getLast?_eq_getElem? (l := L)
            have hg2 : L[L.length - 1]? = some L[L.length - 1] := List.getElem?_eq_getElem (by omega)
            obtain ⟨cs, _, hcs, rfl⟩ := hcell (L.length - 1) _ hg2
            have h1 := hcs 1 _ rfl
            have hfz1 := hfz ((L.length - 1) * 2 + 1)
            have hw3 : 0 ≤ (L.length : Int) - 1 := by omega
            have HG := hid (hg.trans hg2)
            clear hg hg2 hcs hcell hfz
            by_cases hto : L[L.length - 1].to = k
            · have HT := hid hto
              rw [hto] at h1
              clear hto
              go_wp2_with fail
              obtain ⟨ho2, _, hb2⟩ := ho1.set (B := B) RPair.mono hB (i := L.length - 1) (j := 1) (by omega) (by omega) (.int .i64 (k + 1)) (⟨L[L.length - 1].fr, k + 1⟩ : Span) (by rintro cs _ rfl; rfl)
              have hx3 := hx2.below hb2 (Nat.le_refl _)
              go_roundw
              case rel => exact ⟨k + 1, by omega, by go_num, by rw [HE.out, mkStep, if_pos HP.out, HG.out]; simp only [HT.out, if_true]; exact ho2, hx3⟩
              case measure => simp [intOf]; omega
            · have hto2 : ((L[L.length - 1].to : Int) == (k : Int)) = false := by simpa using hto
              have HT := hid hto
              clear hto
              go_wp2_with (at_builtin; refine wpList_app (ys := [(⟨k, k + 1⟩ : Span)]) rfl _ _ rfl ei_span rfl (ho1.ext (B := B) RPair.mono ((Ext.refl _).alloc _)) hB (hx2.alloc _).size rfl (Sl.one (B := B) rfl rfl rfl) RPair.oneC RPair.mono ?_ ?_ ?_)
              · simp [maxLen]; omega
              · simp; omega
              · intro v2 w3 ho2 hc2 hb2 _
                have hx3 := (hx2.alloc (.cells #[.int .i64 k, .int .i64 (k + 1)] 56)).below hb2 (Nat.le_refl _)
                clear hc2 hb2 hx2
                go_wp2_with fail
                go_roundw
                case rel => exact ⟨k + 1, by omega, by go_num, by rw [HE.out, mkStep, if_pos HP.out, HG.out]; simp only [HT.out, if_false]; exact ho2, hx3⟩
                case measure => simp [intOf]; omega
          · obtain rfl : L = [] := List.eq_nil_of_length_eq_zero (by omega)
            go_wp2_with (at_builtin; refine wpList_app (ys := [(⟨k, k + 1⟩ : Span)]) rfl _ _ rfl ei_span rfl (ho1.ext (B := B) RPair.mono ((Ext.refl _).alloc _)) hB (hx2.alloc _).size rfl (Sl.one (B := B) rfl rfl rfl) RPair.oneC RPair.mono ?_ ?_ ?_)
            · simp [maxLen]
            · simp
            · intro v2 w3 ho2 hc2 hb2 _
              have hx3 := (hx2.alloc (.cells #[.int .i64 k, .int .i64 (k + 1)] 56)).below hb2 (Nat.le_refl _)
              clear hc2 hb2 hx2
              go_wp2_with fail
              go_roundw
              case rel => exact ⟨k + 1, by omega, by go_num, by rw [HE.out]; simpa [mkStep, HP.out] using ho2, hx3⟩
              case measure => simp [intOf]; omega
      · rw [show p k = false by simpa using hp]
        have HP := hid hp
        clear hp
        go_wp2_with fail
        go_roundw
        case rel => exact ⟨k + 1, by omega, by go_num, by rw [HE.out, mkStep, if_neg HP.out]; exact ho1, hx2⟩
        case measure => simp [intOf]; omega
    · go_wp2
      go_ret
      obtain rfl : k = 32 := by omega
      exact ⟨_, rfl, ho.isSl B, hx⟩

end Go.Proofs.YtbkmgbckeaimdaaDoor

namespace Go.Proofs.YtbkmgbckeaimdaaDoor
open Go Go.RowKit

set_option maxHeartbeats 1000000 in
theorem filter_Check (B : Nat) (A : Option Addr) (c : Nat) (f : List Box) (w : World) (hl : f.length ≤ maxLen) (h : SlBoxes B w A f) :
    Calls Tryd.prog 6 #[.slice A f.length c] w fun e w' => e = .returned (.int .i64 (filterCheck f)) ∧ Ext w w' := by
  unfold maxLen at hl
  by_cases h40 : 40 < f.length
  · go_enter Tryd.func6, Tryd.ntmps6
    go_wp2_with fail
    go_ret
    exact ⟨ret_int (by simp [filterCheck, h40]), Ext.refl _⟩
  have HE := hid (show filterCheck f = filterGo f by simp [filterCheck, h40])
  go_enter Tryd.func6, Tryd.ntmps6
  go_wp2_with fail
  go_loopw [12] (fun i wr => ∃ k : Nat, k ≤ f.length ∧ i = .int .i64 k ∧ filterGo (f.drop k) = filterGo f ∧ Ext w wr) (fun i _ => f.length - (intOf i).toNat)
  case atStart => exact ⟨0, Nat.zero_le _, rfl, rfl, Ext.refl _⟩
  case round =>
    obtain ⟨k, hk, rfl, hG, hx⟩ := hrel
    have HG := hid hG
    clear hG
    by_cases hlt : k < f.length
    · obtain ⟨b, off, A', c', rfl, hb, g0, g1, g2, hsl, hs⟩ := (h.ext RBox.monoE hx).box hlt
      have HS := hid (filterGo_drop f k hlt)
      go_wp2_with fail
      refine (cube_Check f[k].cube _).mono ?_
      rintro e w1 ⟨rfl, hx1⟩
      have q2 : w1.cell? ⟨wr.heap.size, 2, none⟩ = some (.slice A' f[k].spans.length c') := hx1.cell (by go_simp)
      have hxr : Ext wr w1 := ((Ext.refl wr).alloc _).trans hx1
      have hs1 := hs.ext RPair.mono hxr
      replace hx := hx.trans hxr
      clear hx1 hxr hs
      by_cases hc : cubeCheck f[k].cube = 0
      · rw [hc]
        have HC := hid hc
        clear hc
        go_wp2_with fail
        refine (span_Check B A' c' f[k].spans _ hsl hs1).mono ?_
        rintro e w2 ⟨rfl, hx2⟩
        replace hx := hx.trans hx2
        by_cases hd : spanCheck f[k].spans = 0
        · rw [hd]
          have HD := hid hd
          clear hd
          go_wp2_with fail
          go_roundw
          case rel => exact ⟨k + 1, hlt, by go_num, by rw [← HG.out, HS.out, if_pos HC.out, if_pos HD.out], hx⟩
          case measure => simp [intOf]; omega
        · have hne : (spanCheck f[k].spans != 0) = true := by simpa using hd
          have HD := hid hd
          clear hd
          go_wp2_with fail
          go_ret
          exact ⟨ret_int (by rw [HE.out, ← HG.out, HS.out, if_pos HC.out, if_neg HD.out]), hx⟩
      · have hne : (cubeCheck f[k].cube != 0) = true := by simpa using hc
        have HC := hid hc
        clear hc
        go_wp2_with fail
        go_ret
        exact ⟨ret_int (by rw [HE.out, ← HG.out, HS.out, if_neg HC.out]), hx⟩
    · obtain rfl : k = f.length := by omega
      go_wp2_with fail
      go_ret
      exact ⟨ret_int (by rw [HE.out, ← HG.out]; simp [filterGo]), hx⟩

end Go.Proofs.YtbkmgbckeaimdaaDoor

namespace Go.Proofs.YtbkmgbckeaimdaaDoor
open Go Go.RowKit

theorem Own.setBelow {α : Type} {R : World → List Value → α → Prop} {sz : Nat} {e : TypeId} {w : World} {base : Nat} {v : Value} {l : List α} (h : Own R sz e w base v l) {a : Addr} (ha : a.block < base) (u : Value) (m : ∀ cs x, R w cs x → R (w.setCell a u) cs x) :
    Own R sz e (w.setCell a u) base v l := by
  obtain ⟨xs, hx, hR, ho⟩ := h
  exact ⟨xs, hx, fun i cs y h1 h2 => ⟨(hR i cs y h1 h2).1, m _ _ (hR i cs y h1 h2).2⟩, ownsRow_setCell_below ho ha u⟩

theorem shl_bit : ∀ k, k < 4 → wrap64 ((2 : Int) ^ k) = ((2 ^ k : Nat) : Int) := by decide +kernel

end Go.Proofs.YtbkmgbckeaimdaaDoor
