/- The walks of filter.tabled and filter.boxes. -/
import Derived.Test.YtbkmgbckeaimdaaDoorWalks
import Derived.Test.YtbkmgbckeaimdaaDoorCubeQ
import Derived.Deep.RegionWith
import Derived.Deep.DeepCutAuto
namespace Go.Proofs.YtbkmgbckeaimdaaDoor
open Go Go.RowKit

/-- an array of 32-bit words, by value. -/
def rowU (n : Nat) (T : Nat → Nat) : Array Value := rowF n fun i => .int .u32 (T i)
theorem rowU_size (n : Nat) (T : Nat → Nat) : (rowU n T).size = n := rowF_size _ _
theorem rowU_get {n : Nat} (T : Nat → Nat) {i : Nat} (h : i < n) : (rowU n T)[i]? = some (.int .u32 (T i)) := rowF_get _ h
theorem rowU_congr {n : Nat} {T U : Nat → Nat} (h : ∀ i, i < n → T i = U i) : rowU n T = rowU n U := rowF_congr fun i hi => by rw [h i hi]
theorem rowU_all (n : Nat) (T : Nat → Nat) : (rowU n T).all (·.oneCell') = true := rowF_all fun _ => rfl
theorem rowU_set (n : Nat) (T : Nat → Nat) (i v : Nat) : (rowU n T).setIfInBounds i (.int .u32 (v : Int)) = rowU n (fun j => if j = i then v else T j) := by
  unfold rowU
  rw [rowF_set]
  congr 1
  funext j
  by_cases h : j = i <;> simp [h]
theorem Blk.setU {w : World} {b : Nat} {e : TypeId} {n : Nat} {T : Nat → Nat} (h : Blk w b e (rowU n T)) (i v : Nat) : Blk (w.setCell ⟨b, i, none⟩ (.int .u32 (v : Int))) b e (rowU n fun j => if j = i then v else T j) := by
  rw [← rowU_set]; exact h.set i _
theorem ai_table : ArrInfo Tryd.prog 79 16 := ⟨⟨_, _, Tryd.underlying79⟩, by kernel_rfl⟩
theorem zi_table : ZeroInfo Tryd.prog 79 (rowU 16 fun _ => 0) := fun w => by kernel_rfl

theorem sub32 : ∀ t, t ≤ 32 → ∀ f, f < t → ((2 : Int) ^ t - 2 ^ f) % 4294967296 = ((2 ^ t - 2 ^ f : Nat) : Int) := by decide +kernel

theorem cube_InC (c : Cube) (h : cubeCheck c = 0) (t : Nat) (ht : t < 16) (w : World) : Calls Tryd.prog 53 #[.agg #[.int .i64 c.yes, .int .i64 c.no], .int .i64 t] w fun e w' => e = .returned (.bool (inC c t)) ∧ Ext w w' := by
  obtain ⟨y, n, hc⟩ := cubeOk_of h
  rw [hc.inC]
  exact cube_In c y n t hc ht w

set_option maxHeartbeats 4000000 in
theorem filter_tabled (B : Nat) (A : Option Addr) (c : Nat) (f : List Box) (w : World) (hl : f.length ≤ maxLen) (hok : ∀ b ∈ f, BoxOk b) (h : SlBoxes B w A f) :
    Calls Tryd.prog 38 #[.slice A f.length c] w fun e w' => e = .returned (.agg (rowU 16 (tab f))) ∧ Ext w w' := by
  unfold maxLen at hl
  have HOK := hid hok
  clear hok
  go_enter Tryd.func38, Tryd.ntmps38
  go_wp2_with (first
    | ((with_reducible refine wpList_allocArr (o := ⟨some 2, _, _, _, _, _⟩) zi_table rfl rfl ?_); intro w1 hx1 hb1 hs1)
    | ((with_reducible refine wpList_allocArr (o := ⟨some 3, _, _, _, _, _⟩) zi_table rfl rfl ?_); intro w2 hx2 hb2 hs2))
  have hx2' := hx1.trans hx2
  have hb3 : Blk w2 (w.heap.size + 1) 79 (rowU 16 fun _ => 0) := by rw [← hs1]; exact hb2
  have hb1' := hb1.ext hx2
  go_loopw [12] (fun i wr => ∃ k : Nat, k ≤ f.length ∧ i = .int .i64 k ∧ Blk wr (w.heap.size + 1) 79 (rowU 16 (tab (f.take k))) ∧ Blk wr w.heap.size 79 (rowU 16 fun _ => 0) ∧ Ext w wr) (fun i _ => f.length - (intOf i).toNat)
  case atStart => exact ⟨0, Nat.zero_le _, rfl, hb3, hb1', hx2'⟩
  case round =>
    obtain ⟨k, hk, rfl, hb, hbr, hx⟩ := hrel
    by_cases hlt : k < f.length
    · obtain ⟨b, off, A', c', rfl, hbl, g0, g1, g2, hsl, hs⟩ := (h.ext RBox.monoE hx).box hlt
      have hbok := HOK.out _ (List.getElem_mem hlt)
      obtain ⟨hso, hsn⟩ := spanCheck_ok hbok.2
      have HBC := hid hbok.1
      have HSO := hid hso
      clear hbok hso
      go_wp2_with fail
      obtain ⟨wo, rfl⟩ : ∃ wo, wo = wr := ⟨_, rfl⟩
      go_loopw [6, 19] (fun n i ws => ∃ j : Nat, j ≤ f[k].spans.length ∧ i = .int .i64 j ∧ n = .int .u32 (spanBits (f[k].spans.take j) : Nat) ∧ Ext (wo.alloc (.cells #[.int .i64 f[k].cube.yes, .int .i64 f[k].cube.no, .slice A' f[k].spans.length c'] 51)) ws) (fun _ i _ => f[k].spans.length - (intOf i).toNat)
      case atStart => exact ⟨0, Nat.zero_le _, rfl, rfl, Ext.refl _⟩
      case round =>
        obtain ⟨j, hj, rfl, rfl, hx3⟩ := hrel
        have hxo : Ext wo wr := ((Ext.refl wo).alloc _).trans hx3
        by_cases hjl : j < f[k].spans.length
        · obtain ⟨b1, off1, rfl, hb1l, h1, h2⟩ := (hs.ext RPair.mono hxo).pair hjl
          obtain ⟨f0, f1, f2⟩ := HSO.out _ (List.getElem_mem hjl)
          have HT := hid (spanBits_take f[k].spans j hjl)
          have HL1 := hid (spanBits_lt (HSO.out.take j))
          obtain ⟨fr, hf⟩ := Int.eq_ofNat_of_zero_le f0
          obtain ⟨tt, ht⟩ := Int.eq_ofNat_of_zero_le (show 0 ≤ f[k].spans[j].to by omega)
          rw [hf] at h1 f1
          rw [ht] at h2 f1 f2
          have f1' : fr < tt := by omega
          have f2' : tt ≤ 32 := by omega
          have HT2 := hid (show spanBits (f[k].spans.take (j + 1)) = spanBits (f[k].spans.take j) ||| (2 ^ tt - 2 ^ fr) by rw [HT.out, hf, ht, Int.toNat_natCast, Int.toNat_natCast])
          clear hf ht f0 f1 f2 HT
          generalize spanBits (f[k].spans.take j) = acc at *
          have e3 := sub32 tt f2' fr f1'
          have e4 := u32_or_nat acc (2 ^ tt - 2 ^ fr) HL1.out (run32_lt f1' f2')
          generalize 2 ^ tt - 2 ^ fr = mm at *
          go_wp2_with fail
          go_quiet (fail)
          go_wp2_with fail
          go_roundw
          case rel => exact ⟨j + 1, by omega, by go_num, by rw [HT2.out], (hx3.alloc _).drewN _⟩
          case measure => simp [intOf]; omega
        · obtain rfl : j = f[k].spans.length := by omega
          rw [List.take_length]
          have HNL := hid (spanBits_lt HSO.out)
          have HTT := hid (tab_take f k hlt)
          have HTL := hid (fun t => tab_lt (f := f.take k) (fun b hb => HOK.out b (List.mem_of_mem_take hb)) t)
          generalize spanBits f[k].spans = acc at *
          obtain ⟨T, hT⟩ : ∃ T, T = tab (f.take k) := ⟨_, rfl⟩
          rw [← hT] at hb HTT HTL
          clear hT
          have hwo : w.heap.size + 1 < wo.heap.size := hb.lt
          have hb := hb.ext hxo
          have hbr := hbr.ext hxo
          have hx := hx.trans hxo
          have p0 : wr.cell? ⟨wo.heap.size, 0, none⟩ = some (.int .i64 f[k].cube.yes) := hx3.cell (by go_simp)
          have p1 : wr.cell? ⟨wo.heap.size, 1, none⟩ = some (.int .i64 f[k].cube.no) := hx3.cell (by go_simp)
          have hwr : wo.heap.size < wr.heap.size := by have := hx3.size; simp at this; omega
          clear hx3 hxo hj hjl
          go_wp2_with fail
          obtain ⟨wp, rfl⟩ : ∃ wp, wp = wr := ⟨_, rfl⟩
          go_loopw [33] (fun i ws => ∃ q : Nat, q ≤ 16 ∧ i = .int .i64 q ∧ Blk ws (w.heap.size + 1) 79 (rowU 16 fun i => if decide (i < q) && boxIn f[k] i then T i ||| acc else T i) ∧ Blk ws w.heap.size 79 (rowU 16 fun _ => 0) ∧
              ws.cell? ⟨wo.heap.size, 0, none⟩ = some (.int .i64 f[k].cube.yes) ∧ ws.cell? ⟨wo.heap.size, 1, none⟩ = some (.int .i64 f[k].cube.no) ∧ Ext w ws) (fun i _ => 16 - (intOf i).toNat)
          case atStart =>
            refine ⟨0, by omega, rfl, ?_, hbr, p0, p1, hx⟩
            rwa [rowU_congr (U := fun i => if decide (i < 0) && boxIn f[k] i then T i ||| acc else T i) (fun i _ => by simp)] at hb
          case round =>
            obtain ⟨q, hq, rfl, hb, hbr, p0, p1, hx⟩ := hrel
            by_cases hlq : q < 16
            · have q0 : (0 : Int) ≤ q := by omega
              have q4 : (q : Int) < 16 := by omega
              go_wp2_with fail
              refine (cube_InC f[k].cube HBC.out q hlq _).mono ?_
              rintro e w2 ⟨rfl, hx2⟩
              replace hb := hb.ext hx2
              replace hbr := hbr.ext hx2
              replace p0 := hx2.cell p0
              replace p1 := hx2.cell p1
              replace hx := hx.trans hx2
              have HB := hid (show boxIn f[k] q = inC f[k].cube q from rfl)
              by_cases hp : inC f[k].cube q = true
              · rw [hp]
                rw [hp] at HB
                clear hp
                have hc := hb.cell (rowU_get _ hlq)
                have hz := hb.frozen q
                rw [if_neg (by simp)] at hc
                have e4 := u32_or_nat (T q) acc (HTL.out q) HNL.out
                go_wp2_with fail
                have hs' := hb.setU q (T q ||| acc)
                go_roundw
                case rel =>
                  refine ⟨q + 1, by omega, by go_num, ?_, hbr.far (by simp) _, ?_, ?_, hx.setCell (by simp) _⟩
                  · rwa [rowU_congr (U := fun i => if decide (i < q + 1) && boxIn f[k] i then T i ||| acc else T i) (fun i _ => by
                      by_cases hi : i = q
                      · subst hi; simp [HB.out]
                      · rw [if_neg hi]
                        have : (decide (i < q) : Bool) = decide (i < q + 1) := by rw [decide_eq_decide]; omega
                        rw [this])] at hs'
                  · exact (World.cell?_setCell_other _ _ _ _ (by intro e; injection e with e; omega)).trans p0
                  · exact (World.cell?_setCell_other _ _ _ _ (by intro e; injection e with e; omega)).trans p1
                case measure => simp [intOf]; omega
              · rw [show inC f[k].cube q = false by simpa using hp]
                rw [show inC f[k].cube q = false by simpa using hp] at HB
                clear hp
                go_wp2_with fail
                go_roundw
                case rel =>
                  refine ⟨q + 1, by omega, by go_num, ?_, hbr, p0, p1, hx⟩
                  rwa [rowU_congr (U := fun i => if decide (i < q + 1) && boxIn f[k] i then T i ||| acc else T i) (fun i _ => by
                    by_cases hi : i = q
                    · subst hi; simp [HB.out]
                    · have : (decide (i < q) : Bool) = decide (i < q + 1) := by rw [decide_eq_decide]; omega
                      rw [this])] at hb
                case measure => simp [intOf]; omega
            · obtain rfl : q = 16 := by omega
              go_wp2_with fail
              go_roundw
              case rel =>
                refine ⟨k + 1, hlt, by go_num, ?_, hbr, hx⟩
                rwa [rowU_congr (U := tab (f.take (k + 1))) (fun i hi => by rw [HTT.out]; simp [hi])] at hb
              case measure => simp [intOf]; omega
    · obtain rfl : k = f.length := by omega
      rw [List.take_length] at hb
      go_wp2_with (first
        | ((with_reducible refine wpList_loadArr (o := ⟨some 48, _, _, _, _, _⟩) ai_table _ rfl rfl rfl hb (rowU_size _ _) ?_))
        | ((with_reducible refine wpList_storeArr (o := ⟨none, _, _, _, _, _⟩) ai_table _ _ rfl rfl rfl rfl hbr (rowU_size _ _) (rowU_size _ _) (rowU_all _ _) ?_); intro w3 hx3 hb3' hs3 ho3))
      exact ret_arr rfl ai_table rfl hb3' (rowU_size _ _) rfl ⟨rfl, hx.below hx3 (Nat.le_refl _)⟩

end Go.Proofs.YtbkmgbckeaimdaaDoor
