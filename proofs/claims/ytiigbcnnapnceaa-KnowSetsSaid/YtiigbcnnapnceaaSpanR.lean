/- The walks of the reference's spans, and of what the laws on spans call besides. -/
import Derived.Test.YtiigbcnnapnceaaSpanF
import Derived.Test.YtiigbcnnapnceaaArr
namespace Go.Proofs.Ytiigbcnnapnceaa
open Go Go.RowKit

theorem ai_nums : ArrInfo Try.prog 108 32 := ⟨⟨_, _, Try.underlying108⟩, by kernel_rfl⟩
theorem zi_nums : ZeroInfo Try.prog 108 (rowB 32 fun _ => false) := fun w => by kernel_rfl

set_option maxHeartbeats 1000000 in
theorem ref_Spans (B : Nat) (A : Option Addr) (c : Nat) (l : List Span) (w : World) (hl : l.length ≤ maxLen) (h : SlSpans B w A l) :
    Calls Try.prog 66 #[.slice A l.length c] w fun e w' => e = .returned (.int .i64 (spanCheck l)) ∧ Ext w w' := by
  unfold maxLen at hl
  by_cases h16 : 16 < l.length
  · go_enter Try.func66, Try.ntmps66
    go_wp2
    go_ret
    exact ⟨ret_int (by simp [spanCheck, h16]), Ext.refl _⟩
  go_enter Try.func66, Try.ntmps66
  go_wp2
  go_loopw [3, 11] (fun u i wr => ∃ k : Nat, k ≤ l.length ∧ i = .int .i64 k ∧ u = .int .i64 (lastTo l k) ∧ spanGo (lastTo l k) (l.drop k) = spanGo (-1) l ∧ Ext w wr) (fun _ i _ => l.length - (intOf i).toNat)
  case atStart => exact ⟨0, Nat.zero_le _, rfl, rfl, rfl, Ext.refl _⟩
  case round =>
    obtain ⟨k, hk, rfl, rfl, hG, hx⟩ := hrel
    have HG := hid hG
    clear hG
    by_cases hlt : k < l.length
    · obtain ⟨b, off, rfl, hb, h1, h2⟩ := (h.ext RPair.mono hx).pair hlt
      have HS := hid (spanGo_drop l k hlt)
      have HL := hid (show lastTo l (k + 1) = l[k].to by simp [lastTo, hlt])
      go_wp2
      all_goals first
        | (go_ret; exact ⟨ret_int (by rw [spanCheck, if_neg h16, ← HG.out, HS.out, if_pos (by omega)]), hx.alloc _⟩)
        | (go_ret; exact ⟨ret_int (by rw [spanCheck, if_neg h16, ← HG.out, HS.out, if_neg (by omega), if_pos (by omega)]), hx.alloc _⟩)
        | skip
      go_roundw
      case rel => exact ⟨k + 1, hlt, by go_num, by rw [HL.out], by rw [← HG.out, HS.out, if_neg (by omega), if_neg (by omega)], hx.alloc _⟩
      case measure => simp [intOf]; omega
    · go_wp2
      go_ret
      have : k = l.length := by omega
      exact ⟨ret_int (by rw [spanCheck, if_neg h16, ← HG.out, this]; simp [spanGo]), hx⟩

set_option maxHeartbeats 1000000 in
theorem ref_Set (B : Nat) (A : Option Addr) (c : Nat) (l : List Span) (w : World) (hl : l.length ≤ maxLen) (hok : SpansOk l) (h : SlSpans B w A l) :
    Calls Try.prog 71 #[.slice A l.length c] w fun e w' => e = .returned (.agg (rowB 32 fun i => spanIn l i)) ∧ Ext w w' := by
  unfold maxLen at hl
  go_enter Try.func71, Try.ntmps71
  go_wp2_with (first
    | ((with_reducible refine wpList_allocArr (o := ⟨some 2, _, _, _, _, _⟩) zi_nums rfl rfl ?_); intro w1 hx1 hb1 hs1)
    | ((with_reducible refine wpList_allocArr (o := ⟨some 3, _, _, _, _, _⟩) zi_nums rfl rfl ?_); intro w2 hx2 hb2 hs2))
  have hx2' := hx1.trans hx2
  have hb3 : Blk w2 (w.heap.size + 1) 108 (rowB 32 fun _ => false) := by rw [← hs1]; exact hb2
  have hb1' := hb1.ext hx2
  go_loopw [9] (fun i wr => ∃ k : Nat, k ≤ l.length ∧ i = .int .i64 k ∧ Blk wr (w.heap.size + 1) 108 (rowB 32 fun i => spanIn (l.take k) i) ∧ Blk wr w.heap.size 108 (rowB 32 fun _ => false) ∧ Ext w wr) (fun i _ => l.length - (intOf i).toNat)
  case atStart => exact ⟨0, Nat.zero_le _, rfl, hb3, hb1', hx2'⟩
  case round =>
    obtain ⟨k, hk, rfl, hb, hbr, hx⟩ := hrel
    by_cases hlt : k < l.length
    · obtain ⟨b, off, rfl, hbl, h1, h2⟩ := (h.ext RPair.mono hx).pair hlt
      have hok1 := hok _ (List.getElem_mem hlt)
      obtain ⟨f0, f1, f2⟩ := hok1
      obtain ⟨f, hf⟩ := Int.eq_ofNat_of_zero_le f0
      obtain ⟨t, ht⟩ := Int.eq_ofNat_of_zero_le (show 0 ≤ l[k].to by omega)
      rw [hf] at h1 f1
      rw [ht] at h2 f1 f2
      have HF := hid hf
      have HT := hid ht
      clear hf ht f0
      have f1' : f < t := by omega
      have f2' : t ≤ 32 := by omega
      clear f1 f2
      go_wp2
      go_loopw [6] (fun i ws => ∃ n : Nat, f ≤ n ∧ n ≤ t ∧ i = .int .i64 n ∧ Blk ws (w.heap.size + 1) 108 (rowB 32 fun i => spanIn (l.take k) i || decide (l[k].fr ≤ i ∧ (i : Int) < n)) ∧ Blk ws w.heap.size 108 (rowB 32 fun _ => false) ∧
          ws.cell? ⟨wr.heap.size, 1, none⟩ = some (.int .i64 t) ∧ Ext w ws) (fun i _ => 32 - (intOf i).toNat)
      case atStart =>
        refine ⟨f, Nat.le_refl _, by omega, rfl, ?_, hbr.alloc _, by go_simp, hx.alloc _⟩
        have := hb.alloc (.cells #[.int .i64 f, .int .i64 t] 101)
        rwa [rowB_congr (q := fun i => spanIn (l.take k) i || decide (l[k].fr ≤ i ∧ (i : Int) < f)) (fun i _ => by
          rw [HF.out]
          have : decide ((f : Int) ≤ i ∧ (i : Int) < f) = false := by simp
          rw [this, Bool.or_false])] at this
      case round =>
        obtain ⟨n, hn1, hn2, rfl, hb', hbr', h2', hx'⟩ := hrel
        by_cases hlt2 : n < t
        · have hc := hb'.cell (i := n) (rowB_get _ (by omega))
          have hz := hb'.frozen n
          go_wp2
          have hs := hb'.setB n true
          go_roundw
          case rel =>
            refine ⟨n + 1, by omega, by omega, by go_num, ?_, hbr'.far (by simp) _, ?_, hx'.setCell (by simp) _⟩
            · rwa [rowB_congr (q := fun i => spanIn (l.take k) i || decide (l[k].fr ≤ i ∧ (i : Int) < (n + 1 : Nat))) (fun i _ => by
                by_cases hin : i = n
                · subst hin
                  have : decide (l[k].fr ≤ (i : Int) ∧ (i : Int) < (i + 1 : Nat)) = true := by rw [HF.out]; simp; omega
                  rw [this]; simp
                · rw [if_neg hin]
                  congr 2
                  rw [eq_iff_iff]
                  omega)] at hs
            · rw [World.cell?_setCell_other]
              · exact h2'
              · intro e
                injection e with e
                have := hb.lt
                omega
          case measure => simp [intOf]; omega
        · obtain rfl : n = t := by omega
          go_wp2
          go_roundw
          case rel =>
            refine ⟨k + 1, hlt, by go_num, ?_, hbr', hx'⟩
            rwa [rowB_congr (q := fun i => spanIn (l.take (k + 1)) i) (fun i _ => by rw [spanIn_take l i k hlt, HT.out])] at hb'
          case measure => simp [intOf]; omega
    · obtain rfl : k = l.length := by omega
      rw [List.take_length] at hb
      go_wp2_with (first
        | ((with_reducible refine wpList_loadArr (o := ⟨some 24, _, _, _, _, _⟩) ai_nums _ rfl rfl rfl hb (rowB_size _ _) ?_))
        | ((with_reducible refine wpList_storeArr (o := ⟨none, _, _, _, _, _⟩) ai_nums _ _ rfl rfl rfl rfl hbr (rowB_size _ _) (rowB_size _ _) (rowB_all _ _) ?_); intro w3 hx3 hb3' hs3 ho3))
      exact ret_arr rfl ai_nums rfl hb3' (rowB_size _ _) rfl ⟨rfl, hx.below hx3 (Nat.le_refl _)⟩

end Go.Proofs.Ytiigbcnnapnceaa
