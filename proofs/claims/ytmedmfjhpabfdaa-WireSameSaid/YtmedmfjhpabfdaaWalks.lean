/- Walks: KnA, KnO, SpanW, SpanM, SpanF, SpanR, SpanE, CubeW, CubeW2, CubeR, CubeR2, FilW, CubeL in one text: data, readings, plain laws, small walks. No condition. -/
import Derived.Test.YtmedmfjhpabfdaaBase
import Derived.BigQuiet
import Derived.Deep.QuietTactic
import Derived.Lib.SmallJoins
import Derived.Outline
import Derived.Test.YtmedmfjhpabfdaaProg
import Derived.WalkKit
namespace Go.Proofs.Ytmedmfjhpabfdaa
open Go Go.RowKit

set_option maxHeartbeats 2000000 in
theorem know_Dot (d : Dot) (w : World) : Calls Try.prog 92 #[.agg #[.int .i64 d.site, .int .i64 d.count]] w fun e w' => e = .returned (.bool (dotOk d)) ∧ Ext w w' := by
  have hx := (Ext.refl w).alloc (.cells #[.int .i64 d.site, .int .i64 d.count] 38)
  rcases Int.lt_or_le d.site 0 with h0 | h0
  · have HD := hid (show dotOk d = false by rw [← Bool.not_eq_true, dotOk_iff]; omega)
    go_enter Try.func92, Try.ntmps92
    go_wp2_with fail
    go_ret
    exact ⟨ret_bool HD.out.symm, hx⟩
  · rcases Int.lt_or_le d.site 5 with h1 | h1
    · rcases Int.lt_or_le d.count 1 with h2 | h2
      · have HD := hid (show dotOk d = false by rw [← Bool.not_eq_true, dotOk_iff]; omega)
        go_enter Try.func92, Try.ntmps92
        go_wp2_with fail
        go_ret
        exact ⟨ret_bool HD.out.symm, hx⟩
      · rcases Int.lt_or_le 1000 d.count with h3 | h3
        · have HD := hid (show dotOk d = false by rw [← Bool.not_eq_true, dotOk_iff]; omega)
          go_enter Try.func92, Try.ntmps92
          go_wp2_with fail
          go_ret
          exact ⟨ret_bool (by rw [HD.out]; simp; omega), hx⟩
        · have HD := hid (show dotOk d = true by rw [dotOk_iff]; omega)
          go_enter Try.func92, Try.ntmps92
          go_wp2_with fail
          go_ret
          exact ⟨ret_bool HD.out.symm, hx⟩
    · have HD := hid (show dotOk d = false by rw [← Bool.not_eq_true, dotOk_iff]; omega)
      go_enter Try.func92, Try.ntmps92
      go_wp2_with fail
      go_ret
      exact ⟨ret_bool HD.out.symm, hx⟩

theorem know_vec (B : Nat) (k : Know) (Av : Option Addr) (cv : Nat) (Am : Option Addr) (cm : Nat) (s : Nat) (w : World) (h : InK B w Av Am k) :
    Calls Try.prog 122 #[.agg #[.slice Av k.vec.length cv, .slice Am k.more.length cm], .int .i64 (s : Int)] w fun e w' => e = .returned (.int .i64 (vecAt k.vec s)) ∧ Ext w w' := by
  have hx := (Ext.refl w).alloc (.cells #[.slice Av k.vec.length cv, .slice Am k.more.length cm] 44)
  have s0 : (0 : Int) ≤ s := by omega
  by_cases hs : s < k.vec.length
  · have HV := hid (vecAt_in hs)
    have hs' : (s : Int) < k.vec.length := by omega
    obtain ⟨b, off, rfl, hb, g0⟩ := (h.sv.ext RInt.mono hx).int hs
    go_enter Try.func122, Try.ntmps122
    go_wp2_with fail
    go_ret
    exact ⟨ret_int HV.out.symm, hx⟩
  · have HV := hid (vecAt_out (v := k.vec) (s := s) (by omega))
    have hs' : decide ((s : Int) < k.vec.length) = false := by simp; omega
    go_enter Try.func122, Try.ntmps122
    go_wp2_with fail
    go_ret
    exact ⟨ret_int HV.out.symm, hx⟩

theorem know_cmp (a b : Dot) (w : World) (ha : dotOk a = true) (hb : dotOk b = true) :
    Calls Try.prog 123 #[.agg #[.int .i64 a.site, .int .i64 a.count], .agg #[.int .i64 b.site, .int .i64 b.count]] w fun e w' => e = .returned (.int .i64 (cmpD a b)) ∧ Ext w w' := by
  have ha' := dotOk_iff.1 ha
  have hb' := dotOk_iff.1 hb
  have hx := ((Ext.refl w).alloc (.cells #[.int .i64 a.site, .int .i64 a.count] 38)).alloc (.cells #[.int .i64 b.site, .int .i64 b.count] 38)
  by_cases hs : a.site = b.site
  · have HV := hid (show cmpD a b = a.count - b.count by rw [cmpD, if_pos hs])
    have e1 : wrap64 (a.count - b.count) = a.count - b.count := by unfold wrap64; omega
    have e2 : (a.site != b.site) = false := by simp [hs]
    clear hs ha hb ha' hb'
    go_enter Try.func123, Try.ntmps123
    go_wp2_with fail
    go_ret
    exact ⟨ret_int (e1.trans HV.out.symm), hx⟩
  · have HV := hid (show cmpD a b = a.site - b.site by rw [cmpD, if_neg hs])
    have e1 : wrap64 (a.site - b.site) = a.site - b.site := by unfold wrap64; omega
    have e2 : (a.site != b.site) = true := by simp [hs]
    clear hs ha hb ha' hb'
    go_enter Try.func123, Try.ntmps123
    go_wp2_with fail
    go_ret
    exact ⟨ret_int (e1.trans HV.out.symm), hx⟩

end Go.Proofs.Ytmedmfjhpabfdaa

namespace Go.Proofs.Ytmedmfjhpabfdaa
open Go Go.RowKit Go.ChangeShapes Go.WideShapes Go.Deep Go.Joins

section
variable {H : Type} {enc : TypeId × Value → H} {w : World} {spare : Nat → Bool} {held : Bool}
theorem cells_know : Try.prog.cellsOf 44 = 2 := by kernel_rfl
theorem dot_elem (n : Nat) (cs : List Value) (y : DataW H × List MemPlace) (hl : cs.length = 2) (h : DataW.trod enc Try.prog w 0 spare held n 38 cs = some y) : ∃ z : Dot, RDot w cs z ∧ True := by
  obtain ⟨a, b, h1, _, _⟩ := pair_elem (P := Try.prog) Try.underlying38 Try.underlying3 (And.intro rfl rfl) (And.intro rfl rfl) cells_int hl h
  exact ⟨⟨a, b⟩, h1, trivial⟩
/-- a set of dots by value, for any caller. -/
def KArg (w : World) (v : Value) (k : Know) : Prop := ∃ Av cv Am cm, v = .agg #[.slice Av k.vec.length cv, .slice Am k.more.length cm] ∧ k.vec.length ≤ cv ∧ cv ≤ maxLen ∧ k.more.length ≤ cm ∧ cm ≤ maxLen ∧ InK w.heap.size w Av Am k
set_option maxRecDepth 100000 in
theorem open_know {base : Nat} {v : Value} {d : DataW H} {p : List MemPlace} (hv : Value.okWide Try.prog w .any base 44 v) (h : DataW.Trod enc Try.prog w 0 spare held 44 v d p) : ∃ k, KArg w v k := by
  obtain ⟨v0, v1, y0, y1, n, rfl, _, _, g0, g1⟩ := open_agg2 Try.underlying44 (by kernel_rfl) cells_know hv h
  obtain ⟨a, l, h1, ⟨Av, cv, rfl, b1, b2, b3⟩, _⟩ := isSl_of_trod (R := RInt) (Q := fun _ => True) Try.underlying41 cells_int Nat.one_pos (fun _ _ _ _ h => by obtain ⟨z, hz, _⟩ := int_cell Try.underlying3 h; exact ⟨z, hz, trivial⟩) g0
  obtain ⟨a2, m, h2, ⟨Am, cm, rfl, c1, c2, c3⟩, _⟩ := isSl_of_trod (R := RDot) (Q := fun _ => True) Try.underlying42 cells_dot Nat.two_pos dot_elem g1
  injection h1 with h1 _
  injection h2 with h2 _
  subst h1 h2
  exact ⟨⟨l, m⟩, Av, cv, Am, cm, rfl, b1, b2, c1, c2, ⟨by show l.length ≤ _; omega, by show m.length ≤ _; omega, b3, c3⟩⟩
end
end Go.Proofs.Ytmedmfjhpabfdaa

namespace Go.Proofs.Ytmedmfjhpabfdaa
open Go Go.RowKit

set_option maxHeartbeats 400000 in
theorem span_In (B : Nat) (A : Option Addr) (c : Nat) (l : List Span) (n : Int) (w : World) (hl : l.length ≤ maxLen) (h : SlSpans B w A l) :
    Calls Try.prog 179 #[.slice A l.length c, .int .i64 n] w fun e w' => e = .returned (.bool (spanIn l n)) ∧ Ext w w' := by
  unfold maxLen at hl
  go_enter Try.func179, Try.ntmps179
  go_wp2
  go_loopw [9] (fun i wr => ∃ k : Nat, k ≤ l.length ∧ i = .int .i64 k ∧ spanIn (l.drop k) n = spanIn l n ∧ Ext w wr) (fun i _ => l.length - (intOf i).toNat)
  case atStart => exact ⟨0, Nat.zero_le _, rfl, rfl, Ext.refl _⟩
  case round =>
    obtain ⟨k, hk, rfl, hG, hx⟩ := hrel
    have HG : Hid (spanIn (l.drop k) n = spanIn l n) := hG
    clear hG
    by_cases hlt : k < l.length
    · obtain ⟨b, off, rfl, hb, h1, h2⟩ := (h.ext RPair.mono hx).pair hlt
      have hs := spanIn_drop l n k hlt
      have HS := hid hs
      clear hs
      go_wp2
      · go_ret
        exact ⟨ret_bool (by rw [← HG.out, HS.out, if_pos (by omega)]), hx.alloc _⟩
      all_goals
        go_roundw
        case rel => exact ⟨k + 1, hlt, by go_num, by rw [← HG.out, HS.out, if_neg (by omega)], hx.alloc _⟩
        case measure => simp [intOf]; omega
    · go_wp2
      go_ret
      have : k = l.length := by omega
      exact ⟨ret_bool (by rw [← HG.out, this]; simp [spanIn]), hx⟩


set_option maxHeartbeats 1000000 in
theorem span_Check (B : Nat) (A : Option Addr) (c : Nat) (l : List Span) (w : World) (hl : l.length ≤ maxLen) (h : SlSpans B w A l) :
    Calls Try.prog 146 #[.slice A l.length c] w fun e w' => e = .returned (.int .i64 (spanCheck l)) ∧ Ext w w' := by
  unfold maxLen at hl
  by_cases h16 : 16 < l.length
  · go_enter Try.func146, Try.ntmps146
    go_wp2
    go_ret
    exact ⟨ret_int (by simp [spanCheck, h16]), Ext.refl _⟩
  go_enter Try.func146, Try.ntmps146
  go_wp2
  go_loopw [10] (fun i wr => ∃ k : Nat, k ≤ l.length ∧ i = .int .i64 k ∧ spanGo (lastTo l k) (l.drop k) = spanGo (-1) l ∧ Ext w wr) (fun i _ => l.length - (intOf i).toNat)
  case atStart => exact ⟨0, Nat.zero_le _, rfl, rfl, Ext.refl _⟩
  case round =>
    obtain ⟨k, hk, rfl, hG, hx⟩ := hrel
    have HG : Hid (spanGo (lastTo l k) (l.drop k) = spanGo (-1) l) := hG
    clear hG
    by_cases hlt : k < l.length
    · obtain ⟨b, off, rfl, hb, h1, h2⟩ := (h.ext RPair.mono hx).pair hlt
      have hs := spanGo_drop l k hlt
      have HS := hid hs
      clear hs
      by_cases hk0 : 0 < k
      · obtain ⟨b', off', e, _, _, h3⟩ := (h.ext RPair.mono hx).pair (show k - 1 < l.length by omega)
        obtain ⟨rfl, rfl⟩ : b = b' ∧ off = off' := by simpa using e
        have hw := IntWalk.i64_in ((k : Int) - 1) (by omega)
        have hw2 : ((k : Int) - 1).toNat = k - 1 := by omega
        have hw3 : 0 ≤ (k : Int) - 1 := by omega
        have hw4 : (0 : Int) < k := by omega
        have HL := hid (show lastTo l k = l[k - 1].to by simp [lastTo, show k ≠ 0 by omega, show k - 1 < l.length by omega])
        go_wp2
        all_goals first | (go_ret; exact ⟨ret_int (by rw [spanCheck, if_neg h16, ← HG.out, HS.out, if_pos (by omega)]), hx.alloc _⟩) | skip
        go_quiet (fail)
        go_wp2
        · go_ret
          exact ⟨ret_int (by rw [spanCheck, if_neg h16, ← HG.out, HS.out, if_neg (by omega), HL.out, if_pos (by omega)]), (hx.alloc _).drewN _⟩
        · go_roundw
          case rel => exact ⟨k + 1, hlt, by go_num, by rw [← HG.out, HS.out, if_neg (by omega), HL.out, if_neg (by omega)], (hx.alloc _).drewN _⟩
          case measure => simp [intOf]; omega
      · have hw4 : decide ((0 : Int) < (k : Int)) = false := by simp; omega
        have HL := hid (show lastTo l k = -1 by simp [lastTo, show k = 0 by omega])
        go_wp2
        all_goals first | (go_ret; exact ⟨ret_int (by rw [spanCheck, if_neg h16, ← HG.out, HS.out, if_pos (by omega)]), hx.alloc _⟩) | skip
        go_quiet (fail)
        go_wp2
        go_roundw
        case rel => exact ⟨k + 1, hlt, by go_num, by rw [← HG.out, HS.out, if_neg (by omega), HL.out, if_neg (by omega)], (hx.alloc _).drewN _⟩
        case measure => simp [intOf]; omega
    · go_wp2
      go_ret
      have : k = l.length := by omega
      exact ⟨ret_int (by rw [spanCheck, if_neg h16, ← HG.out, this]; simp [spanGo]), hx⟩
end Go.Proofs.Ytmedmfjhpabfdaa

namespace Go.Proofs.Ytmedmfjhpabfdaa
open Go Go.RowKit

theorem ei_span : ElemInfo Try.prog 106 110 2 16 := ElemInfo.mk_ (z := .agg #[.int .i64 0, .int .i64 0]) Try.underlying106 (by kernel_rfl) rfl (by decide)

set_option maxHeartbeats 1000000 in
theorem span_Make (B : Nat) (f : FuncId) (cap : Array Value) (p : Int → Bool) (w : World) (hB : B ≤ w.heap.size)
    (hc : ∀ (args : Array Value) (wn : World), (callFunc f args).run Try.prog wn = .ok (.enter f args) wn)
    (hf : ∀ (n : Nat) (wn : World), n < 32 → Ext w wn → Calls Try.prog f (#[.int .i64 n] ++ cap) wn fun e w' => e = .returned (.bool (p n)) ∧ Ext wn w') :
    Calls Try.prog 203 #[.func (.func f) #[] cap] w fun e w' => ∃ v, e = .returned v ∧ IsSpans B w' v (mkSpans p 32) ∧ Ext w w' := by
  have HF := hid hf
  clear hf
  go_enter Try.func203, Try.ntmps203
  go_wp2
  go_loopw [3, 4] (fun v i wr => ∃ k : Nat, k ≤ 32 ∧ i = .int .i64 k ∧ Own RSpan 2 110 wr w.heap.size v (mkSpans p k) ∧ Ext w wr) (fun _ i _ => 32 - (intOf i).toNat)
  case atStart => exact ⟨0, by omega, rfl, Own.nil, Ext.refl _⟩
  case round =>
    obtain ⟨k, hk, rfl, ho, hx⟩ := hrel
    by_cases hlt : k < 32
    · obtain ⟨L, hL⟩ : ∃ L, L = mkSpans p k := ⟨_, rfl⟩
      have hlen := mkSpans_len p k
      rw [← hL] at ho hlen
      have HE := hid (show mkSpans p (k + 1) = mkStep p L k by rw [mkSpans, hL])
      clear hL
      go_wp2_with fail
      refine (HF.out k _ hlt hx).mono ?_
      rintro e w1 ⟨rfl, hx1⟩
      have ho1 := ho.ext (B := B) RPair.mono hx1
      have hx2 := hx.trans hx1
      clear ho hx1 hx
      by_cases hp : p k = true
      · rw [hp]
        have HP := hid hp
        clear hp
        rcases ho1.at_ with ⟨rfl, rfl⟩ | ⟨g, c, rfl, hbg, hgw, hty, hfz, hcell⟩
        · go_wp2_with (at_builtin; refine wpList_app (ys := [(⟨k, k + 1⟩ : Span)]) rfl _ _ rfl ei_span rfl (ho1.ext (B := B) RPair.mono ((Ext.refl _).alloc _)) hB (hx2.alloc _).size rfl (Sl.one (B := B) rfl rfl rfl) RPair.oneC RPair.mono ?_ ?_ ?_)
          · simp [maxLen]
          · simp
          · intro v2 w3 ho2 hc2 hb2 _
            have hx3 := (hx2.alloc (.cells #[.int .i64 k, .int .i64 (k + 1)] 110)).below hb2 (Nat.le_refl _)
            clear hc2 hb2 hx2
            go_wp2_with fail
            go_roundw
            case rel => exact ⟨k + 1, by omega, by go_num, by rw [HE.out]; simpa [mkStep, HP.out] using ho2, hx3⟩
            case measure => simp [intOf]; omega
        · by_cases hne : 0 < L.length
          · have hg := List.getLast?_eq_getElem? (l := L)
            have hg2 : L[L.length - 1]? = some L[L.length - 1] := List.getElem?_eq_getElem (by omega)
            obtain ⟨cs, _, hcs, rfl⟩ := hcell (L.length - 1) _ hg2
            have h1 := hcs 1 _ rfl
            have hfz1 := hfz ((L.length - 1) * 2 + 1)
            have hw3 : 0 ≤ (L.length : Int) - 1 := by omega
            have HG := hid (hg.trans hg2)
            clear hg hg2 hcs hcell hfz
            by_cases hto : L[L.length - 1].to = k
            · have HT := hid hto
              rw [hto] at h1
              clear hto
              go_wp2_with fail
              obtain ⟨ho2, _, hb2⟩ := ho1.set (B := B) RPair.mono hB (i := L.length - 1) (j := 1) (by omega) (by omega) (.int .i64 (k + 1)) (⟨L[L.length - 1].fr, k + 1⟩ : Span) (by rintro cs _ rfl; rfl)
              have hx3 := hx2.below hb2 (Nat.le_refl _)
              go_roundw
              case rel => exact ⟨k + 1, by omega, by go_num, by rw [HE.out, mkStep, if_pos HP.out, HG.out]; simp only [HT.out, if_true]; exact ho2, hx3⟩
              case measure => simp [intOf]; omega
            · have hto2 : ((L[L.length - 1].to : Int) == (k : Int)) = false := by simpa using hto
              have HT := hid hto
              clear hto
              go_wp2_with (at_builtin; refine wpList_app (ys := [(⟨k, k + 1⟩ : Span)]) rfl _ _ rfl ei_span rfl (ho1.ext (B := B) RPair.mono ((Ext.refl _).alloc _)) hB (hx2.alloc _).size rfl (Sl.one (B := B) rfl rfl rfl) RPair.oneC RPair.mono ?_ ?_ ?_)
              · simp [maxLen]; omega
              · simp; omega
              · intro v2 w3 ho2 hc2 hb2 _
                have hx3 := (hx2.alloc (.cells #[.int .i64 k, .int .i64 (k + 1)] 110)).below hb2 (Nat.le_refl _)
                clear hc2 hb2 hx2
                go_wp2_with fail
                go_roundw
                case rel => exact ⟨k + 1, by omega, by go_num, by rw [HE.out, mkStep, if_pos HP.out, HG.out]; simp only [HT.out, if_false]; exact ho2, hx3⟩
                case measure => simp [intOf]; omega
          · obtain rfl : L = [] := List.eq_nil_of_length_eq_zero (by omega)
            go_wp2_with (at_builtin; refine wpList_app (ys := [(⟨k, k + 1⟩ : Span)]) rfl _ _ rfl ei_span rfl (ho1.ext (B := B) RPair.mono ((Ext.refl _).alloc _)) hB (hx2.alloc _).size rfl (Sl.one (B := B) rfl rfl rfl) RPair.oneC RPair.mono ?_ ?_ ?_)
            · simp [maxLen]
            · simp
            · intro v2 w3 ho2 hc2 hb2 _
              have hx3 := (hx2.alloc (.cells #[.int .i64 k, .int .i64 (k + 1)] 110)).below hb2 (Nat.le_refl _)
              clear hc2 hb2 hx2
              go_wp2_with fail
              go_roundw
              case rel => exact ⟨k + 1, by omega, by go_num, by rw [HE.out]; simpa [mkStep, HP.out] using ho2, hx3⟩
              case measure => simp [intOf]; omega
      · rw [show p k = false by simpa using hp]
        have HP := hid hp
        clear hp
        go_wp2_with fail
        go_roundw
        case rel => exact ⟨k + 1, by omega, by go_num, by rw [HE.out, mkStep, if_neg HP.out]; exact ho1, hx2⟩
        case measure => simp [intOf]; omega
    · go_wp2
      go_ret
      obtain rfl : k = 32 := by omega
      exact ⟨_, rfl, ho.isSl B, hx⟩

end Go.Proofs.Ytmedmfjhpabfdaa

namespace Go.Proofs.Ytmedmfjhpabfdaa
open Go Go.RowKit

end Go.Proofs.Ytmedmfjhpabfdaa

namespace Go.Proofs.Ytmedmfjhpabfdaa
open Go Go.RowKit

theorem ai_nums : ArrInfo Try.prog 164 32 := ⟨⟨_, _, Try.underlying164⟩, by kernel_rfl⟩
theorem zi_nums : ZeroInfo Try.prog 164 (rowB 32 fun _ => false) := fun w => by kernel_rfl

set_option maxHeartbeats 1000000 in
theorem ref_Spans (B : Nat) (A : Option Addr) (c : Nat) (l : List Span) (w : World) (hl : l.length ≤ maxLen) (h : SlSpans B w A l) :
    Calls Try.prog 113 #[.slice A l.length c] w fun e w' => e = .returned (.int .i64 (spanCheck l)) ∧ Ext w w' := by
  unfold maxLen at hl
  by_cases h16 : 16 < l.length
  · go_enter Try.func113, Try.ntmps113
    go_wp2
    go_ret
    exact ⟨ret_int (by simp [spanCheck, h16]), Ext.refl _⟩
  go_enter Try.func113, Try.ntmps113
  go_wp2
  go_loopw [3, 11] (fun u i wr => ∃ k : Nat, k ≤ l.length ∧ i = .int .i64 k ∧ u = .int .i64 (lastTo l k) ∧ spanGo (lastTo l k) (l.drop k) = spanGo (-1) l ∧ Ext w wr) (fun _ i _ => l.length - (intOf i).toNat)
  case atStart => exact ⟨0, Nat.zero_le _, rfl, rfl, rfl, Ext.refl _⟩
  case round =>
    obtain ⟨k, hk, rfl, rfl, hG, hx⟩ := hrel
    have HG := hid hG
    clear hG
    by_cases hlt : k < l.length
    · obtain ⟨b, off, rfl, hb, h1, h2⟩ := (h.ext RPair.mono hx).pair hlt
      have HS := hid (spanGo_drop l k hlt)
      have HL := hid (show lastTo l (k + 1) = l[k].to by simp [lastTo, hlt])
      go_wp2
      all_goals first
        | (go_ret; exact ⟨ret_int (by rw [spanCheck, if_neg h16, ← HG.out, HS.out, if_pos (by omega)]), hx.alloc _⟩)
        | (go_ret; exact ⟨ret_int (by rw [spanCheck, if_neg h16, ← HG.out, HS.out, if_neg (by omega), if_pos (by omega)]), hx.alloc _⟩)
        | skip
      go_roundw
      case rel => exact ⟨k + 1, hlt, by go_num, by rw [HL.out], by rw [← HG.out, HS.out, if_neg (by omega), if_neg (by omega)], hx.alloc _⟩
      case measure => simp [intOf]; omega
    · go_wp2
      go_ret
      have : k = l.length := by omega
      exact ⟨ret_int (by rw [spanCheck, if_neg h16, ← HG.out, this]; simp [spanGo]), hx⟩

set_option maxHeartbeats 1000000 in
theorem ref_Set (B : Nat) (A : Option Addr) (c : Nat) (l : List Span) (w : World) (hl : l.length ≤ maxLen) (hok : SpansOk l) (h : SlSpans B w A l) :
    Calls Try.prog 118 #[.slice A l.length c] w fun e w' => e = .returned (.agg (rowB 32 fun i => spanIn l i)) ∧ Ext w w' := by
  unfold maxLen at hl
  go_enter Try.func118, Try.ntmps118
  go_wp2_with (first
    | ((with_reducible refine wpList_allocArr (o := ⟨some 2, _, _, _, _, _⟩) zi_nums rfl rfl ?_); intro w1 hx1 hb1 hs1)
    | ((with_reducible refine wpList_allocArr (o := ⟨some 3, _, _, _, _, _⟩) zi_nums rfl rfl ?_); intro w2 hx2 hb2 hs2))
  have hx2' := hx1.trans hx2
  have hb3 : Blk w2 (w.heap.size + 1) 164 (rowB 32 fun _ => false) := by rw [← hs1]; exact hb2
  have hb1' := hb1.ext hx2
  go_loopw [9] (fun i wr => ∃ k : Nat, k ≤ l.length ∧ i = .int .i64 k ∧ Blk wr (w.heap.size + 1) 164 (rowB 32 fun i => spanIn (l.take k) i) ∧ Blk wr w.heap.size 164 (rowB 32 fun _ => false) ∧ Ext w wr) (fun i _ => l.length - (intOf i).toNat)
  case atStart => exact ⟨0, Nat.zero_le _, rfl, hb3, hb1', hx2'⟩
  case round =>
    obtain ⟨k, hk, rfl, hb, hbr, hx⟩ := hrel
    by_cases hlt : k < l.length
    · obtain ⟨b, off, rfl, hbl, h1, h2⟩ := (h.ext RPair.mono hx).pair hlt
      have hok1 := hok _ (List.getElem_mem hlt)
      obtain ⟨f0, f1, f2⟩ := hok1
      obtain ⟨f, hf⟩ := Int.eq_ofNat_of_zero_le f0
      obtain ⟨t, ht⟩ := Int.eq_ofNat_of_zero_le (show 0 ≤ l[k].to by omega)
      rw [hf] at h1 f1
      rw [ht] at h2 f1 f2
      have HF := hid hf
      have HT := hid ht
      clear hf ht f0
      have f1' : f < t := by omega
      have f2' : t ≤ 32 := by omega
      clear f1 f2
      go_wp2
      go_loopw [6] (fun i ws => ∃ n : Nat, f ≤ n ∧ n ≤ t ∧ i = .int .i64 n ∧ Blk ws (w.heap.size + 1) 164 (rowB 32 fun i => spanIn (l.take k) i || decide (l[k].fr ≤ i ∧ (i : Int) < n)) ∧ Blk ws w.heap.size 164 (rowB 32 fun _ => false) ∧
          ws.cell? ⟨wr.heap.size, 1, none⟩ = some (.int .i64 t) ∧ Ext w ws) (fun i _ => 32 - (intOf i).toNat)
      case atStart =>
        refine ⟨f, Nat.le_refl _, by omega, rfl, ?_, hbr.alloc _, by go_simp, hx.alloc _⟩
        have := hb.alloc (.cells #[.int .i64 f, .int .i64 t] 110)
        rwa [rowB_congr (q := fun i => spanIn (l.take k) i || decide (l[k].fr ≤ i ∧ (i : Int) < f)) (fun i _ => by
          rw [HF.out]
          have : decide ((f : Int) ≤ i ∧ (i : Int) < f) = false := by simp
          rw [this, Bool.or_false])] at this
      case round =>
        obtain ⟨n, hn1, hn2, rfl, hb', hbr', h2', hx'⟩ := hrel
        by_cases hlt2 : n < t
        · have hc := hb'.cell (i := n) (rowB_get _ (by omega))
          have hz := hb'.frozen n
          go_wp2
          have hs := hb'.setB n true
          go_roundw
          case rel =>
            refine ⟨n + 1, by omega, by omega, by go_num, ?_, hbr'.far (by simp) _, ?_, hx'.setCell (by simp) _⟩
            · rwa [rowB_congr (q := fun i => spanIn (l.take k) i || decide (l[k].fr ≤ i ∧ (i : Int) < (n + 1 : Nat))) (fun i _ => by
                by_cases hin : i = n
                · subst hin
                  have : decide (l[k].fr ≤ (i : Int) ∧ (i : Int) < (i + 1 : Nat)) = true := by rw [HF.out]; simp; omega
                  rw [this]; simp
                · rw [if_neg hin]
                  congr 2
                  rw [eq_iff_iff]
                  omega)] at hs
            · rw [World.cell?_setCell_other]
              · exact h2'
              · intro e
                injection e with e
                have := hb.lt
                omega
          case measure => simp [intOf]; omega
        · obtain rfl : n = t := by omega
          go_wp2
          go_roundw
          case rel =>
            refine ⟨k + 1, hlt, by go_num, ?_, hbr', hx'⟩
            rwa [rowB_congr (q := fun i => spanIn (l.take (k + 1)) i) (fun i _ => by rw [spanIn_take l i k hlt, HT.out])] at hb'
          case measure => simp [intOf]; omega
    · obtain rfl : k = l.length := by omega
      rw [List.take_length] at hb
      go_wp2_with (first
        | ((with_reducible refine wpList_loadArr (o := ⟨some 24, _, _, _, _, _⟩) ai_nums _ rfl rfl rfl hb (rowB_size _ _) ?_))
        | ((with_reducible refine wpList_storeArr (o := ⟨none, _, _, _, _, _⟩) ai_nums _ _ rfl rfl rfl rfl hbr (rowB_size _ _) (rowB_size _ _) (rowB_all _ _) ?_); intro w3 hx3 hb3' hs3 ho3))
      exact ret_arr rfl ai_nums rfl hb3' (rowB_size _ _) rfl ⟨rfl, hx.below hx3 (Nat.le_refl _)⟩

end Go.Proofs.Ytmedmfjhpabfdaa

namespace Go.Proofs.Ytmedmfjhpabfdaa
open Go Go.RowKit

theorem eq_of_take {α : Type} {a b : List α} (hl : a.length = b.length) (h : a.take a.length = b.take a.length) : a = b := by
  rw [List.take_length, hl, List.take_length] at h; exact h
theorem take_eq_succ {α : Type} {a b : List α} {k : Nat} (ha : k < a.length) (hb : k < b.length) (h : a.take k = b.take k) (e : a[k] = b[k]) : a.take (k + 1) = b.take (k + 1) := by
  rw [List.take_succ_eq_append_getElem ha, List.take_succ_eq_append_getElem hb, h, e]
theorem ne_of_get {α : Type} {a b : List α} {k : Nat} (ha : k < a.length) (hb : k < b.length) (e : a[k] ≠ b[k]) : a ≠ b := by
  rintro rfl; exact e rfl

theorem run_ne_span (s t : Span) (b : Bool) (h : decide (s = t) = !b) (w : World) : (binOp .neq 110 (.agg #[.int .i64 s.fr, .int .i64 s.to]) (.agg #[.int .i64 t.fr, .int .i64 t.to])).run Try.prog w = .ok (.bool b) w := by
  obtain ⟨x1, y1⟩ := s
  obtain ⟨x2, y2⟩ := t
  go_simp
  simp only [Span.mk.injEq] at h
  by_cases h1 : x1 = x2 <;> by_cases h2 : y1 = y2 <;> simp [h1, h2] at h ⊢ <;> simp [h]

set_option maxHeartbeats 1000000 in
theorem eq_spans (B B' : Nat) (A A' : Option Addr) (c c' : Nat) (a b : List Span) (w : World) (hla : a.length ≤ maxLen) (hlb : b.length ≤ maxLen) (ha : SlSpans B w A a) (hb : SlSpans B' w A' b) :
    Calls Try.prog 126 #[.slice A a.length c, .slice A' b.length c'] w fun e w' => e = .returned (.bool (decide (a = b))) ∧ Ext w w' := by
  unfold maxLen at hla hlb
  by_cases hl : a.length = b.length
  · have hlne : ((a.length : Int) != (b.length : Int)) = false := by simp [hl]
    have HL := hid hl
    clear hl
    go_enter Try.func126, Try.ntmps126
    go_wp2_with fail
    go_loopw [13] (fun i wr => ∃ k : Nat, k ≤ a.length ∧ i = .int .i64 k ∧ a.take k = b.take k ∧ Ext w wr) (fun i _ => a.length - (intOf i).toNat)
    case atStart => exact ⟨0, Nat.zero_le _, rfl, rfl, Ext.refl _⟩
    case round =>
      obtain ⟨k, hk, rfl, hG, hx⟩ := hrel
      have HG := hid hG
      clear hG
      by_cases hlt : k < a.length
      · have hltb : k < b.length := by have := HL.out; omega
        obtain ⟨b1, o1, rfl, hb1, h1, h2⟩ := (ha.ext RPair.mono hx).pair hlt
        obtain ⟨b2, o2, rfl, hb2, h3, h4⟩ := (hb.ext RPair.mono hx).pair hltb
        have q1 : (k : Int) < a.length := by omega
        have q2 : (k : Int) < b.length := by omega
        by_cases hst : a[k] = b[k]
        · have he := run_ne_span a[k] b[k] false (by simp [hst])
          have HT := hid hst
          clear hst
          go_wp2_with fail
          go_quiet (fail)
          go_wp2_with fail
          go_roundw
          case rel => exact ⟨k + 1, by omega, by go_num, take_eq_succ hlt hltb HG.out HT.out, hx.drewN _⟩
          case measure => simp [intOf]; omega
        · have he := run_ne_span a[k] b[k] true (by simp [hst])
          have HT := hid hst
          clear hst
          go_wp2_with fail
          go_quiet (fail)
          go_wp2_with fail
          go_ret
          exact ⟨ret_bool (by simp [ne_of_get hlt hltb HT.out]), hx.drewN _⟩
      · go_wp2_with fail
        go_ret
        obtain rfl : k = a.length := by omega
        have : a = b := eq_of_take HL.out HG.out
        exact ⟨ret_bool (by simp [this]), hx⟩
  · have hlne : ((a.length : Int) != (b.length : Int)) = true := by simp; omega
    go_enter Try.func126, Try.ntmps126
    go_wp2_with fail
    go_ret
    have : a ≠ b := by rintro rfl; exact hl rfl
    exact ⟨ret_bool (by simp [this]), Ext.refl _⟩

theorem zi_32b : ZeroInfo Try.prog 163 (rowB 32 fun _ => false) := fun w => by kernel_rfl

end Go.Proofs.Ytmedmfjhpabfdaa

namespace Go.Proofs.Ytmedmfjhpabfdaa
open Go Go.RowKit

set_option maxHeartbeats 400000 in
theorem cube_Tags (n : Int) (w : World) : Calls Try.prog 140 #[.int .i64 n] w fun e w' => e = .returned (.bool (tagsOk n)) ∧ w = w' := by
  go_enter Try.func140, Try.ntmps140
  go_wp2_with fail
  all_goals
    go_ret
    refine ⟨ret_bool ?_, rfl⟩
    simp only [tagsOk]
    first
      | (rw [eq_comm, decide_eq_true_eq]; omega)
      | (rw [eq_comm, decide_eq_false_iff_not]; omega)
      | (by_cases h : 0 ≤ n ∧ n ≤ 15 <;> simp [h] <;> omega)

set_option maxHeartbeats 400000 in
theorem cube_Check (c : Cube) (w : World) : Calls Try.prog 145 #[.agg #[.int .i64 c.yes, .int .i64 c.no]] w fun e w' => e = .returned (.int .i64 (cubeCheck c)) ∧ Ext w w' := by
  by_cases h1 : tagsOk c.yes = true
  · by_cases h2 : tagsOk c.no = true
    · have a := tagsOk_iff.1 h1
      have b := tagsOk_iff.1 h2
      obtain ⟨y, hy⟩ := Int.eq_ofNat_of_zero_le a.1
      obtain ⟨m, hm⟩ := Int.eq_ofNat_of_zero_le b.1
      have hk := and16 y (by omega) m (by omega)
      have HC := hid (show cubeCheck c = if y &&& m = 0 then 0 else 3 by rw [cubeCheck, if_pos ⟨h1, h2⟩, hy, hm, Int.toNat_natCast, Int.toNat_natCast])
      rw [hy, hm]
      rw [hy] at h1
      rw [hm] at h2
      clear hy hm a b
      by_cases h0 : y &&& m = 0
      · rw [h0] at hk
        have H0 := hid h0
        clear h0
        go_enter Try.func145, Try.ntmps145
        go_wp2_with fail
        refine (cube_Tags _ _).mono ?_
        rintro e w1 ⟨rfl, rfl⟩
        rw [h1]
        go_wp2_with fail
        refine (cube_Tags _ _).mono ?_
        rintro e w1 ⟨rfl, rfl⟩
        rw [h2]
        go_wp2_with fail
        go_ret
        exact ⟨ret_int (by rw [HC.out, if_pos H0.out]), (Ext.refl w).alloc _⟩
      · have hb : (((y &&& m : Nat) : Int) != 0) = true := by simp; omega
        have H0 := hid h0
        clear h0
        go_enter Try.func145, Try.ntmps145
        go_wp2_with fail
        refine (cube_Tags _ _).mono ?_
        rintro e w1 ⟨rfl, rfl⟩
        rw [h1]
        go_wp2_with fail
        refine (cube_Tags _ _).mono ?_
        rintro e w1 ⟨rfl, rfl⟩
        rw [h2]
        go_wp2_with fail
        go_ret
        exact ⟨ret_int (by rw [HC.out, if_neg H0.out]), (Ext.refl w).alloc _⟩
    · have HC := hid (show cubeCheck c = 1 by rw [cubeCheck, if_neg (fun h => h2 h.2)])
      have h2' : tagsOk c.no = false := by simpa using h2
      clear h2
      go_enter Try.func145, Try.ntmps145
      go_wp2_with fail
      refine (cube_Tags _ _).mono ?_
      rintro e w1 ⟨rfl, rfl⟩
      rw [h1]
      go_wp2_with fail
      refine (cube_Tags _ _).mono ?_
      rintro e w1 ⟨rfl, rfl⟩
      rw [h2']
      go_wp2_with fail
      go_ret
      exact ⟨ret_int HC.out.symm, (Ext.refl w).alloc _⟩
  · have HC := hid (show cubeCheck c = 1 by rw [cubeCheck, if_neg (fun h => h1 h.1)])
    have h1' : tagsOk c.yes = false := by simpa using h1
    clear h1
    go_enter Try.func145, Try.ntmps145
    go_wp2_with fail
    refine (cube_Tags _ _).mono ?_
    rintro e w1 ⟨rfl, rfl⟩
    rw [h1']
    go_wp2_with fail
    go_ret
    exact ⟨ret_int HC.out.symm, (Ext.refl w).alloc _⟩

set_option maxHeartbeats 400000 in
theorem cube_In (c : Cube) (y n t : Nat) (hc : CubeOk c y n) (ht : t < 16) (w : World) : Calls Try.prog 178 #[.agg #[.int .i64 c.yes, .int .i64 c.no], .int .i64 t] w fun e w' => e = .returned (.bool (cubeIn y n t)) ∧ Ext w w' := by
  obtain ⟨h1, h2, hy, hn, _⟩ := hc
  rw [h1, h2]
  clear h1 h2
  have k1 := and16 t ht y hy
  have k2 := and16 t ht n hn
  by_cases ha : t &&& y = y
  · rw [ha] at k1
    have HA := hid ha
    clear ha
    go_enter Try.func178, Try.ntmps178
    go_wp2_with fail
    go_ret
    refine ⟨ret_bool ?_, (Ext.refl w).alloc _⟩
    rw [cubeIn, HA.out]
    rw [cast_beq0]; simp
  · have hb : (((t &&& y : Nat) : Int) == (y : Int)) = false := by simp; omega
    have HA := hid ha
    clear ha
    go_enter Try.func178, Try.ntmps178
    go_wp2_with fail
    go_ret
    refine ⟨ret_bool ?_, (Ext.refl w).alloc _⟩
    simp [cubeIn, HA.out]

end Go.Proofs.Ytmedmfjhpabfdaa

namespace Go.Proofs.Ytmedmfjhpabfdaa
open Go Go.RowKit

theorem ai_cube_size : (Try.prog.info? 105).map (·.size) = some 2 := by kernel_rfl

theorem Blk2.first {w : World} {b : Nat} {x y u v : Value} (h0 : w.cell? ⟨b, 0, none⟩ = some x) (_h1 : w.cell? ⟨b, 1, none⟩ = some y) : ((w.setCell ⟨b, 0, none⟩ u).setCell ⟨b, 1, none⟩ v).cell? ⟨b, 0, none⟩ = some u :=
  (World.cell?_setCell_other _ _ _ _ (by intro e; injection e with _ e; cases e)).trans (World.cell?_setCell_same _ _ _ h0)
theorem Blk2.second {w : World} {b : Nat} {x y u v : Value} (_h0 : w.cell? ⟨b, 0, none⟩ = some x) (h1 : w.cell? ⟨b, 1, none⟩ = some y) : ((w.setCell ⟨b, 0, none⟩ u).setCell ⟨b, 1, none⟩ v).cell? ⟨b, 1, none⟩ = some v :=
  World.cell?_setCell_same _ _ _ ((World.cell?_setCell_other _ _ _ _ (by intro e; injection e with _ e; cases e)).trans h1)

end Go.Proofs.Ytmedmfjhpabfdaa

namespace Go.Proofs.Ytmedmfjhpabfdaa
open Go Go.RowKit

/-- in between. -/
def betw (x a b : Int) : Bool := decide (a ≤ x ∧ x ≤ b)

set_option maxHeartbeats 400000 in
theorem ref_within (x a b : Int) (w : World) : Calls Try.prog 60 #[.int .i64 x, .int .i64 a, .int .i64 b] w fun e w' => e = .returned (.bool (betw x a b)) ∧ w = w' := by
  by_cases h1 : a ≤ x
  · have HB := hid (show betw x a b = decide (x ≤ b) by simp [betw, h1])
    go_enter Try.func60, Try.ntmps60
    go_wp2_with fail
    go_ret
    exact ⟨ret_bool HB.out.symm, rfl⟩
  · have HB := hid (show betw x a b = false by simp [betw, h1])
    have h1' : x < a := by omega
    go_enter Try.func60, Try.ntmps60
    go_wp2_with fail
    go_ret
    exact ⟨ret_bool HB.out.symm, rfl⟩

theorem betw_tags (n : Int) : betw n 0 15 = tagsOk n := rfl

set_option maxHeartbeats 400000 in
theorem ref_Cube (c : Cube) (w : World) : Calls Try.prog 112 #[.agg #[.int .i64 c.yes, .int .i64 c.no]] w fun e w' => e = .returned (.int .i64 (cubeCheck c)) ∧ Ext w w' := by
  by_cases h1 : tagsOk c.yes = true
  · by_cases h2 : tagsOk c.no = true
    · have a := tagsOk_iff.1 h1
      have b := tagsOk_iff.1 h2
      obtain ⟨y, hy⟩ := Int.eq_ofNat_of_zero_le a.1
      obtain ⟨m, hm⟩ := Int.eq_ofNat_of_zero_le b.1
      have hk := and16 y (by omega) m (by omega)
      have HC := hid (show cubeCheck c = if y &&& m = 0 then 0 else 3 by rw [cubeCheck, if_pos ⟨h1, h2⟩, hy, hm, Int.toNat_natCast, Int.toNat_natCast])
      rw [hy, hm]
      rw [hy] at h1
      rw [hm] at h2
      clear hy hm a b
      by_cases h0 : y &&& m = 0
      all_goals
        first
          | (rw [h0] at hk)
          | (have hb : (0 : Int) < ((y &&& m : Nat) : Int) := by omega)
        have H0 := hid h0
        clear h0
        go_enter Try.func112, Try.ntmps112
        go_wp2_with fail
        refine (ref_within _ _ _ _).mono ?_
        rintro e w1 ⟨rfl, rfl⟩
        rw [betw_tags, h1]
        go_wp2_with fail
        refine (ref_within _ _ _ _).mono ?_
        rintro e w1 ⟨rfl, rfl⟩
        rw [betw_tags, h2]
        go_wp2_with fail
        go_ret
        refine ⟨ret_int ?_, (Ext.refl w).alloc _⟩
        first
          | (rw [HC.out, if_pos H0.out])
          | (rw [HC.out, if_neg H0.out])
    · have HC := hid (show cubeCheck c = 1 by rw [cubeCheck, if_neg (fun h => h2 h.2)])
      have h2' : tagsOk c.no = false := by simpa using h2
      clear h2
      go_enter Try.func112, Try.ntmps112
      go_wp2_with fail
      refine (ref_within _ _ _ _).mono ?_
      rintro e w1 ⟨rfl, rfl⟩
      rw [betw_tags, h1]
      go_wp2_with fail
      refine (ref_within _ _ _ _).mono ?_
      rintro e w1 ⟨rfl, rfl⟩
      rw [betw_tags, h2']
      go_wp2_with fail
      go_ret
      exact ⟨ret_int HC.out.symm, (Ext.refl w).alloc _⟩
  · have HC := hid (show cubeCheck c = 1 by rw [cubeCheck, if_neg (fun h => h1 h.1)])
    have h1' : tagsOk c.yes = false := by simpa using h1
    clear h1
    go_enter Try.func112, Try.ntmps112
    go_wp2_with fail
    refine (ref_within _ _ _ _).mono ?_
    rintro e w1 ⟨rfl, rfl⟩
    rw [betw_tags, h1']
    go_wp2_with fail
    go_ret
    exact ⟨ret_int HC.out.symm, (Ext.refl w).alloc _⟩

end Go.Proofs.Ytmedmfjhpabfdaa

namespace Go.Proofs.Ytmedmfjhpabfdaa
open Go Go.RowKit

set_option maxHeartbeats 4000000 in
theorem ref_In (c : Cube) (y n t : Nat) (hc : CubeOk c y n) (ht : t < 16) (w : World) : Calls Try.prog 119 #[.agg #[.int .i64 c.yes, .int .i64 c.no], .int .i64 t] w fun e w' => e = .returned (.bool (cubeIn y n t)) ∧ Ext w w' := by
  obtain ⟨h1, h2, hy, hn, _⟩ := hc
  rw [h1, h2]
  clear h1 h2
  have HB := hid (cubeIn_bits y hy n hn t ht)
  go_enter Try.func119, Try.ntmps119
  go_wp2_with fail
  go_loopw [7] (fun i wr => ∃ k : Nat, k ≤ 4 ∧ i = .int .i64 k ∧ allTo (goodb y n t) k = true ∧ Ext (w.alloc (.cells #[.int .i64 y, .int .i64 n] 105)) wr) (fun i _ => 4 - (intOf i).toNat)
  case atStart => exact ⟨0, by omega, rfl, rfl, Ext.refl _⟩
  case round =>
    obtain ⟨k, hk, rfl, hg, hx⟩ := hrel
    have HG := hid hg
    clear hg
    have q1 : wr.cell? ⟨w.heap.size, 0, none⟩ = some (.int .i64 y) := hx.cell (by go_simp)
    have q2 : wr.cell? ⟨w.heap.size, 1, none⟩ = some (.int .i64 n) := hx.cell (by go_simp)
    have hxw := ((Ext.refl w).alloc _).trans hx
    by_cases hlt : k < 4
    · have k0 : (0 : Int) ≤ k := by omega
      have k4 : (k : Int) < 4 := by omega
      have e1 := bit_int y k
      have e2 := bit_int n k
      have e3 := bit_int t k
      have HD := hid (show goodb y n t k = !(bitb y k && !bitb t k || bitb n k && bitb t k) from rfl)
      generalize bitb y k = b1 at *
      generalize bitb n k = b2 at *
      generalize bitb t k = b3 at *
      cases b1 <;> cases b2 <;> cases b3
      all_goals
        simp only [Bool.false_eq_true, if_true, if_false] at e1 e2 e3
        go_wp2_with fail
        first
          | (go_ret
             refine ⟨ret_bool ?_, hxw⟩
             rw [HB.out, eq_comm, ← Bool.not_eq_true]
             intro h
             have := (allTo_iff _ 4).1 h k hlt
             rw [HD.out] at this
             exact absurd this (by decide))
          | (go_roundw
             case rel => exact ⟨k + 1, by omega, by go_num, by rw [allTo, HG.out, HD.out]; rfl, hx⟩
             case measure => simp [intOf]; omega)
    · obtain rfl : k = 4 := by omega
      go_wp2_with fail
      go_ret
      exact ⟨ret_bool (by rw [HB.out, HG.out]), hxw⟩

end Go.Proofs.Ytmedmfjhpabfdaa

namespace Go.Proofs.Ytmedmfjhpabfdaa
open Go Go.RowKit

set_option maxHeartbeats 1000000 in
theorem filter_Check (B : Nat) (A : Option Addr) (c : Nat) (f : List Box) (w : World) (hl : f.length ≤ maxLen) (h : SlBoxes B w A f) :
    Calls Try.prog 103 #[.slice A f.length c] w fun e w' => e = .returned (.int .i64 (filterCheck f)) ∧ Ext w w' := by
  unfold maxLen at hl
  by_cases h40 : 40 < f.length
  · go_enter Try.func103, Try.ntmps103
    go_wp2_with fail
    go_ret
    exact ⟨ret_int (by simp [filterCheck, h40]), Ext.refl _⟩
  have HE := hid (show filterCheck f = filterGo f by simp [filterCheck, h40])
  go_enter Try.func103, Try.ntmps103
  go_wp2_with fail
  go_loopw [12] (fun i wr => ∃ k : Nat, k ≤ f.length ∧ i = .int .i64 k ∧ filterGo (f.drop k) = filterGo f ∧ Ext w wr) (fun i _ => f.length - (intOf i).toNat)
  case atStart => exact ⟨0, Nat.zero_le _, rfl, rfl, Ext.refl _⟩
  case round =>
    obtain ⟨k, hk, rfl, hG, hx⟩ := hrel
    have HG := hid hG
    clear hG
    by_cases hlt : k < f.length
    · obtain ⟨b, off, A', c', rfl, hb, g0, g1, g2, hsl, hs⟩ := (h.ext RBox.monoE hx).box hlt
      have HS := hid (filterGo_drop f k hlt)
      go_wp2_with fail
      refine (cube_Check f[k].cube _).mono ?_
      rintro e w1 ⟨rfl, hx1⟩
      have q2 : w1.cell? ⟨wr.heap.size, 2, none⟩ = some (.slice A' f[k].spans.length c') := hx1.cell (by go_simp)
      have hxr : Ext wr w1 := ((Ext.refl wr).alloc _).trans hx1
      have hs1 := hs.ext RPair.mono hxr
      replace hx := hx.trans hxr
      clear hx1 hxr hs
      by_cases hc : cubeCheck f[k].cube = 0
      · rw [hc]
        have HC := hid hc
        clear hc
        go_wp2_with fail
        refine (span_Check B A' c' f[k].spans _ hsl hs1).mono ?_
        rintro e w2 ⟨rfl, hx2⟩
        replace hx := hx.trans hx2
        by_cases hd : spanCheck f[k].spans = 0
        · rw [hd]
          have HD := hid hd
          clear hd
          go_wp2_with fail
          go_roundw
          case rel => exact ⟨k + 1, hlt, by go_num, by rw [← HG.out, HS.out, if_pos HC.out, if_pos HD.out], hx⟩
          case measure => simp [intOf]; omega
        · have hne : (spanCheck f[k].spans != 0) = true := by simpa using hd
          have HD := hid hd
          clear hd
          go_wp2_with fail
          go_ret
          exact ⟨ret_int (by rw [HE.out, ← HG.out, HS.out, if_pos HC.out, if_neg HD.out]), hx⟩
      · have hne : (cubeCheck f[k].cube != 0) = true := by simpa using hc
        have HC := hid hc
        clear hc
        go_wp2_with fail
        go_ret
        exact ⟨ret_int (by rw [HE.out, ← HG.out, HS.out, if_neg HC.out]), hx⟩
    · obtain rfl : k = f.length := by omega
      go_wp2_with fail
      go_ret
      exact ⟨ret_int (by rw [HE.out, ← HG.out]; simp [filterGo]), hx⟩

set_option maxHeartbeats 1000000 in
theorem ref_Filter (B : Nat) (A : Option Addr) (c : Nat) (f : List Box) (w : World) (hl : f.length ≤ maxLen) (h : SlBoxes B w A f) :
    Calls Try.prog 47 #[.slice A f.length c] w fun e w' => e = .returned (.int .i64 (filterCheck f)) ∧ Ext w w' := by
  unfold maxLen at hl
  by_cases h40 : 40 < f.length
  · go_enter Try.func47, Try.ntmps47
    go_wp2_with fail
    go_ret
    exact ⟨ret_int (by simp [filterCheck, h40]), Ext.refl _⟩
  have HE := hid (show filterCheck f = filterGo f by simp [filterCheck, h40])
  go_enter Try.func47, Try.ntmps47
  go_wp2_with fail
  go_loopw [12] (fun i wr => ∃ k : Nat, k ≤ f.length ∧ i = .int .i64 k ∧ filterGo (f.drop k) = filterGo f ∧ Ext w wr) (fun i _ => f.length - (intOf i).toNat)
  case atStart => exact ⟨0, Nat.zero_le _, rfl, rfl, Ext.refl _⟩
  case round =>
    obtain ⟨k, hk, rfl, hG, hx⟩ := hrel
    have HG := hid hG
    clear hG
    by_cases hlt : k < f.length
    · obtain ⟨b, off, A', c', rfl, hb, g0, g1, g2, hsl, hs⟩ := (h.ext RBox.monoE hx).box hlt
      have HS := hid (filterGo_drop f k hlt)
      go_wp2_with fail
      refine (ref_Cube f[k].cube _).mono ?_
      rintro e w1 ⟨rfl, hx1⟩
      have q2 : w1.cell? ⟨wr.heap.size, 2, none⟩ = some (.slice A' f[k].spans.length c') := hx1.cell (by go_simp)
      have hxr : Ext wr w1 := ((Ext.refl wr).alloc _).trans hx1
      have hs1 := hs.ext RPair.mono hxr
      replace hx := hx.trans hxr
      clear hx1 hxr hs
      by_cases hc : cubeCheck f[k].cube = 0
      · rw [hc]
        have HC := hid hc
        clear hc
        go_wp2_with fail
        refine (ref_Spans B A' c' f[k].spans _ hsl hs1).mono ?_
        rintro e w2 ⟨rfl, hx2⟩
        replace hx := hx.trans hx2
        by_cases hd : spanCheck f[k].spans = 0
        · rw [hd]
          have HD := hid hd
          clear hd
          go_wp2_with fail
          go_roundw
          case rel => exact ⟨k + 1, hlt, by go_num, by rw [← HG.out, HS.out, if_pos HC.out, if_pos HD.out], hx⟩
          case measure => simp [intOf]; omega
        · have hne : (spanCheck f[k].spans != 0) = true := by simpa using hd
          have HD := hid hd
          clear hd
          go_wp2_with fail
          go_ret
          exact ⟨ret_int (by rw [HE.out, ← HG.out, HS.out, if_pos HC.out, if_neg HD.out]), hx⟩
      · have hne : (cubeCheck f[k].cube != 0) = true := by simpa using hc
        have HC := hid hc
        clear hc
        go_wp2_with fail
        go_ret
        exact ⟨ret_int (by rw [HE.out, ← HG.out, HS.out, if_neg HC.out]), hx⟩
    · obtain rfl : k = f.length := by omega
      go_wp2_with fail
      go_ret
      exact ⟨ret_int (by rw [HE.out, ← HG.out]; simp [filterGo]), hx⟩

end Go.Proofs.Ytmedmfjhpabfdaa

namespace Go.Proofs.Ytmedmfjhpabfdaa
open Go Go.RowKit

abbrev RCube : World → List Value → Cube → Prop := RPair Cube.yes Cube.no
theorem Own.setBelow {α : Type} {R : World → List Value → α → Prop} {sz : Nat} {e : TypeId} {w : World} {base : Nat} {v : Value} {l : List α} (h : Own R sz e w base v l) {a : Addr} (ha : a.block < base) (u : Value) (m : ∀ cs x, R w cs x → R (w.setCell a u) cs x) :
    Own R sz e (w.setCell a u) base v l := by
  obtain ⟨xs, hx, hR, ho⟩ := h
  exact ⟨xs, hx, fun i cs y h1 h2 => ⟨(hR i cs y h1 h2).1, m _ _ (hR i cs y h1 h2).2⟩, ownsRow_setCell_below ho ha u⟩

theorem shl_bit : ∀ k, k < 4 → wrap64 ((2 : Int) ^ k) = ((2 ^ k : Nat) : Int) := by decide +kernel

end Go.Proofs.Ytmedmfjhpabfdaa
