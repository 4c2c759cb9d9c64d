/- The walk of formula.Of. -/
import Derived.Test.YtbkmgbckeaimdaaDoorFormO
import Derived.Test.YtbkmgbckeaimdaaDoorFormN
namespace Go.Proofs.YtbkmgbckeaimdaaDoor
open Go Go.RowKit

theorem Nodes.ext {base bL : Nat} {w w' : World} {L : List Node} (h : Nodes base bL w L) (x : Ext w w') : Nodes base bL w' L := by
  obtain ⟨⟨v, hc, ho⟩, hty, hfz, hlo⟩ := h
  have hz : bL < w.heap.size := World.block_lt_of_cell? _ _ hc
  exact ⟨⟨v, x.cell hc, ho.ext (B := base) RTrip.mono x⟩, (tyAt_of (x.blockAt hz)).trans hty, (x.frozenAt hz).trans hfz, hlo⟩
theorem lit2 {w : World} : Own RNode 3 39 (w.alloc (.cells #[.int .i64 1, .int .i64 0, .int .i64 0, .int .i64 4, .int .i64 0, .int .i64 0] 39)) w.heap.size (.slice (some ⟨w.heap.size, 0, none⟩) 2 2) [⟨1, 0, 0⟩, ⟨4, 0, 0⟩] := by
  refine ⟨[[.int .i64 1, .int .i64 0, .int .i64 0], [.int .i64 4, .int .i64 0, .int .i64 0]], rfl, ?_, rfl, .inr ⟨w.heap.size, 2, #[.int .i64 1, .int .i64 0, .int .i64 0, .int .i64 4, .int .i64 0, .int .i64 0], rfl, Nat.le_refl _, heap_alloc_new w _, Nat.le_refl _, by simp [maxLen], rfl, ?_⟩⟩
  · intro i c x h1 h2
    match i, h1, h2 with
    | 0, h1, h2 => simp at h1 h2; subst h1 h2; exact ⟨rfl, rfl⟩
    | 1, h1, h2 => simp at h1 h2; subst h1 h2; exact ⟨rfl, rfl⟩
  · simp
theorem bit_and : ∀ v, v < 16 → ∀ t, t < 4 → bits .and .i64 (((v : Nat) : Int) / 2 ^ t) 1 = if bitb v t then 1 else 0 := by decide +kernel
theorem tagsK_len (y n : Nat) (l : List Node) : ∀ t, (tagsK y n l t).1.length ≤ l.length + 3 * t
  | 0 => by simp [tagsK]
  | t + 1 => by
    have h := tagsK_len y n l t
    rw [tagsK]
    unfold tagStep
    split
    · split <;> simp <;> omega
    · omega
theorem formF_take (f : List Box) (k : Nat) (hk : k < f.length) : formF (f.take (k + 1)) = boxStep (formF (f.take k)) f[k] := by
  rw [List.take_succ_eq_append_getElem hk, formF, List.foldl_append]
  rfl
theorem spansF_take (l : List Node) (ss : List Span) (k : Nat) (hk : k < ss.length) : spansF l (ss.take (k + 1)) = spanStep (spansF l (ss.take k)) ss[k] := by
  rw [List.take_succ_eq_append_getElem hk, spansF, List.foldl_append]
  rfl
theorem spansF_len (l : List Node) (ss : List Span) : ∀ k, k ≤ ss.length → (spansF l (ss.take k)).1.length = l.length + 2 * k
  | 0, _ => by simp [spansF]
  | k + 1, h => by
    have := spansF_len l ss k (by omega)
    rw [spansF_take l ss k (by omega)]
    simp [spanStep]
    omega
theorem Chg.low {B B' : Nat} {ts : List TypeId} {w w' : World} (h : Chg B ts w w') (hB : B' ≤ B) : Chg B' ts w w' := ⟨h.os, h.tape, h.output, h.size, fun k hk hc => h.block k hk (hc.imp (fun g => by omega) id)⟩

def formErr (f : List Box) : Int := if 30 < (formF f).1.length then 2 else 0
def formRes (f : List Box) : List Node := if 30 < (formF f).1.length then [] else (formF f).1

set_option maxRecDepth 100000 in
set_option maxHeartbeats 8000000 in
theorem formula_Of (B : Nat) (A : Option Addr) (c : Nat) (f : List Box) (w : World) (hB : B ≤ w.heap.size) (hl : f.length ≤ maxLen) (h0 : filterCheck f = 0) (h : SlBoxes B w A f) :
    Calls Tryd.prog 7 #[.slice A f.length c] w fun e w' => ∃ v, e = .returned (.tuple #[v, .int .i64 (formErr f)]) ∧ IsSl B 39 RNode 3 w' v (formRes f) ∧ Ext w w' := by
  have hok := filterCheck_ok h0
  have HOK := hid hok.2
  have h40 := hok.1
  clear hok
  go_enter Tryd.func7, Tryd.ntmps7
  go_wp2_with fail
  refine (filter_Check B A c f _ hl h).mono ?_
  rintro e w1 ⟨rfl, hx1⟩
  go_wp2_with fail
  obtain ⟨w2, hw2⟩ : ∃ w2, w2 = (w1.alloc (.cells #[.int .i64 1, .int .i64 0, .int .i64 0, .int .i64 4, .int .i64 0, .int .i64 0] 39)).alloc (.cells #[.slice (some ⟨w1.heap.size, 0, none⟩) 2 2] 26) := ⟨_, rfl⟩
  have hN : Nodes w1.heap.size (w1.heap.size + 1) w2 [⟨1, 0, 0⟩, ⟨4, 0, 0⟩] := by
    rw [hw2]
    refine ⟨⟨_, by go_simp, lit2.ext (B := w1.heap.size) RTrip.mono ((Ext.refl _).alloc _)⟩, ?_, by go_simp, by omega⟩
    have hb := Blk.new (w1.alloc (.cells #[.int .i64 1, .int .i64 0, .int .i64 0, .int .i64 4, .int .i64 0, .int .i64 0] 39)) 26 #[.slice (some ⟨w1.heap.size, 0, none⟩) 2 2]
    rw [show (w1.alloc (.cells #[.int .i64 1, .int .i64 0, .int .i64 0, .int .i64 4, .int .i64 0, .int .i64 0] 39)).heap.size = w1.heap.size + 1 by simp] at hb
    exact hb.ty
  have hx2 : Ext w w2 := by rw [hw2]; exact (hx1.alloc _).alloc _
  have hbs : w.heap.size ≤ w1.heap.size := hx1.size
  rw [← hw2]
  clear hw2 hx1
  generalize w1.heap.size = base at *
  go_loopw [7, 28] (fun s i wr => ∃ k : Nat, k ≤ f.length ∧ i = .int .i64 k ∧ s = .int .i64 (formF (f.take k)).2 ∧ Nodes base (base + 1) wr (formF (f.take k)).1 ∧ Ext w wr) (fun _ i _ => f.length - (intOf i).toNat)
  case atStart => exact ⟨0, Nat.zero_le _, rfl, rfl, hN, hx2⟩
  case round =>
    clear hN hx2
    obtain ⟨k, hk, rfl, rfl, hN, hx⟩ := hrel
    by_cases hlt : k < f.length
    · obtain ⟨b, off, A', c', rfl, hbl, g0, g1, g2, hsl, hs⟩ := (h.ext RBox.monoE hx).box hlt
      have hbok := HOK.out _ (List.getElem_mem hlt)
      have HF := hid (formF_take f k hlt)
      have hlen0 : (formF (f.take k)).1.length ≤ 2 + 54 * 40 := by
        have h1 := (form_says (fun b hb => HOK.out b (List.mem_of_mem_take hb)) : FormInv (formF (f.take k)) _ _).len
        have h2 := filterNodes_bd (f.take k) 2 (fun b hb => HOK.out b (List.mem_of_mem_take hb))
        have h3 : (f.take k).length ≤ 40 := by rw [List.length_take]; omega
        unfold filterNodes at h1
        omega
      have hl16 : f[k].spans.length ≤ 16 := by
        have h := hbok.2
        unfold spanCheck at h
        by_cases hl : 16 < f[k].spans.length
        · rw [if_pos hl] at h; cases h
        · omega
      obtain ⟨y, n, hc⟩ := cubeOk_of hbok.1
      have HY := hid (show f[k].cube.yes.toNat = y ∧ f[k].cube.no.toNat = n by rw [hc.yes, hc.no]; simp)
      rw [hc.yes] at g0
      rw [hc.no] at g1
      have hy := hc.hy
      have hn := hc.hn
      clear hbok hc
      generalize hst : formF (f.take k) = st at *
      obtain ⟨L0, s0⟩ := st
      simp only at hN hlen0
      go_wp2_with fail
      obtain ⟨wq, rfl⟩ : ∃ wq, wq = wr := ⟨_, rfl⟩
      obtain ⟨wo, hwo⟩ : ∃ wo, wo = wq.alloc (.cells #[.int .i64 y, .int .i64 n, .slice A' f[k].spans.length c'] 51) := ⟨_, rfl⟩
      have hxo : Ext wq wo := by rw [hwo]; exact (Ext.refl wq).alloc _
      have p0 : wo.cell? ⟨wq.heap.size, 0, none⟩ = some (.int .i64 y) := by rw [hwo]; go_simp
      have p1 : wo.cell? ⟨wq.heap.size, 1, none⟩ = some (.int .i64 n) := by rw [hwo]; go_simp
      have p2 : wo.cell? ⟨wq.heap.size, 2, none⟩ = some (.slice A' f[k].spans.length c') := by rw [hwo]; go_simp
      have pt : ∀ t ∈ [39, 26], tyAt wo wq.heap.size ≠ some t := by
        intro t ht
        rw [hwo, (Blk.new wq 51 _).ty]
        simp at ht
        rcases ht with rfl | rfl <;> decide
      replace hN := hN.ext hxo
      have hxw := hx.trans hxo
      replace hs := hs.ext RPair.mono hxo
      rw [← hwo]
      clear hwo
      go_loopw [10, 32] (fun a i ws => ∃ t : Nat, t ≤ 4 ∧ i = .int .i64 t ∧ a = .int .i64 (tagsK y n L0 t).2 ∧ Nodes base (base + 1) ws (tagsK y n L0 t).1 ∧ Chg base [39, 26] wo ws) (fun _ i _ => 4 - (intOf i).toNat)
      case atStart => exact ⟨0, by omega, rfl, rfl, hN, Chg.refl _⟩
      case round =>
        clear hN
        obtain ⟨t, ht, rfl, rfl, hN, hcg⟩ := hrel
        have c0 : wr.cell? ⟨wq.heap.size, 0, none⟩ = some (.int .i64 y) := hcg.cell (.inr pt) p0
        have c1 : wr.cell? ⟨wq.heap.size, 1, none⟩ = some (.int .i64 n) := hcg.cell (.inr pt) p1
        by_cases hlt4 : t < 4
        · have t0 : (0 : Int) ≤ t := by omega
          have t4 : (t : Int) < 4 := by omega
          have HS := hid (show tagsK y n L0 (t + 1) = tagStep y n (tagsK y n L0 t) t from rfl)
          have hlen1 := tagsK_len y n L0 t
          generalize tagsK y n L0 t = st at *
          obtain ⟨L, a⟩ := st
          simp only at hN hlen1
          have e1 := or16 y hy n hn
          have e2 := bit_and (y ||| n) (or16_lt y hy n hn) t hlt4
          have e3 := bit_and n hn t hlt4
          cases hb : bitb (y ||| n) t
          · have HB := hid hb
            rw [hb] at e2
            simp only [Bool.false_eq_true, if_false] at e2
            clear hb
            go_wp2_with fail
            go_roundw
            case rel => exact ⟨t + 1, by omega, by go_num, by rw [HS.out]; simp only [tagStep, HB.out, Bool.false_eq_true, if_false], by rw [HS.out]; simp only [tagStep, HB.out, Bool.false_eq_true, if_false]; exact hN, hcg⟩
            case measure => simp [intOf]; omega
          · have HB := hid hb
            rw [hb] at e2
            simp only [if_true] at e2
            clear hb
            go_wp2_with fail
            refine (formula_Of1 base (base + 1) L ⟨2, t, 0⟩ _ (by omega) hN).mono ?_
            rintro e w5 ⟨rfl, hN5, hc5⟩
            have d1 : w5.cell? ⟨wq.heap.size, 1, none⟩ = some (.int .i64 n) := (hcg.trans hc5).cell (.inr pt) p1
            replace hcg := hcg.trans hc5
            obtain ⟨L1, hL1⟩ : ∃ L1, L1 = L ++ [(⟨2, t, 0⟩ : Node)] := ⟨_, rfl⟩
            rw [← hL1] at hN5
            have hl1 : L1.length = L.length + 1 := by rw [hL1]; simp
            clear hN hc5 c0 c1
            cases hb2 : bitb n t
            · have HB2 := hid hb2
              rw [hb2] at e3
              simp only [Bool.false_eq_true, if_false] at e3
              clear hb2
              have HL1 := hid hL1
              have HL1l := hid hl1
              clear hL1 hl1
              go_wp2_with fail
              refine (formula_Of1 base (base + 1) L1 ⟨5, a, L.length⟩ _ (by have := HL1l.out; omega) hN5).mono ?_
              rintro e w6 ⟨rfl, hN6, hc6⟩
              go_wp2_with fail
              go_roundw
              case rel => exact ⟨t + 1, by omega, by go_num, by rw [HS.out]; simp only [tagStep, HB.out, HB2.out, Bool.false_eq_true, if_true, if_false]; rw [HL1.out], by rw [HS.out]; simp only [tagStep, HB.out, HB2.out, Bool.false_eq_true, if_true, if_false]; rw [HL1.out] at hN6; exact hN6, hcg.trans hc6⟩
              case measure => simp [intOf]; omega
            · have HB2 := hid hb2
              rw [hb2] at e3
              simp only [if_true] at e3
              clear hb2
              have HL1 := hid hL1
              have HL1l := hid hl1
              clear hL1 hl1
              go_wp2_with fail
              refine (formula_Of1 base (base + 1) L1 ⟨4, L.length, 0⟩ _ (by have := HL1l.out; omega) hN5).mono ?_
              rintro e w6 ⟨rfl, hN6, hc6⟩
              replace hcg := hcg.trans hc6
              obtain ⟨L2, hL2⟩ : ∃ L2, L2 = L1 ++ [(⟨4, L.length, 0⟩ : Node)] := ⟨_, rfl⟩
              rw [← hL2] at hN6
              have HL2 := hid hL2
              have HL2l := hid (show L2.length = L.length + 2 by rw [hL2]; simp [HL1l.out])
              clear hL2
              go_wp2_with fail
              refine (formula_Of1 base (base + 1) L2 ⟨5, a, L1.length⟩ _ (by have := HL2l.out; omega) hN6).mono ?_
              rintro e w7 ⟨rfl, hN7, hc7⟩
              go_wp2_with fail
              go_roundw
              case rel => exact ⟨t + 1, by omega, by go_num, by rw [HS.out]; simp only [tagStep, HB.out, HB2.out, if_true]; rw [HL2.out, HL1.out], by rw [HS.out]; simp only [tagStep, HB.out, HB2.out, if_true]; rw [HL2.out, HL1.out] at hN7; exact hN7, hcg.trans hc7⟩
              case measure => simp [intOf]; omega
        · obtain rfl : t = 4 := by omega
          rw [show ((4 : Nat) : Int) = 4 from rfl]
          have hlen1 := tagsK_len y n L0 4
          have c2 : wr.cell? ⟨wq.heap.size, 2, none⟩ = some (.slice A' f[k].spans.length c') := hcg.cell (.inr pt) p2
          generalize hta : tagsK y n L0 4 = sa at *
          obtain ⟨La, ia⟩ := sa
          simp only at hN hlen1
          have HTA := hid hta
          clear hta
          go_wp2_with fail
          go_loopw [13, 70] (fun q i ws => ∃ j : Nat, j ≤ f[k].spans.length ∧ i = .int .i64 j ∧ q = .int .i64 (spansF La (f[k].spans.take j)).2 ∧ Nodes base (base + 1) ws (spansF La (f[k].spans.take j)).1 ∧ Chg base [39, 26] wo ws) (fun _ i _ => f[k].spans.length - (intOf i).toNat)
          case atStart => exact ⟨0, Nat.zero_le _, rfl, rfl, hN, hcg⟩
          case round =>
            clear hN hcg c0 c1 c2
            obtain ⟨j, hj, rfl, rfl, hN, hcg⟩ := hrel
            have hlen2 : (spansF La (f[k].spans.take j)).1.length ≤ La.length + 32 := by rw [spansF_len La f[k].spans j hj]; omega
            by_cases hlj : j < f[k].spans.length
            · obtain ⟨b1, off1, rfl, hb1l, x1, x2⟩ := (hs.chg (ts := [39, 26]) RPair.mono (by decide) (hcg.low (Nat.le_trans hB hbs))).pair hlj
              have HS := hid (spansF_take La f[k].spans j hlj)
              generalize spansF La (f[k].spans.take j) = sp at *
              obtain ⟨L, q⟩ := sp
              simp only at hN hlen2
              go_wp2_with fail
              have hxs := (Ext.refl wr).alloc (.cells #[.int .i64 f[k].spans[j].fr, .int .i64 f[k].spans[j].to] 56)
              refine (formula_Of1 base (base + 1) L ⟨3, f[k].spans[j].fr, f[k].spans[j].to⟩ _ (by omega) (hN.ext hxs)).mono ?_
              rintro e w5 ⟨rfl, hN5, hc5⟩
              replace hcg := (hcg.trans (.of_ext hxs)).trans hc5
              obtain ⟨L1, hL1⟩ : ∃ L1, L1 = L ++ [(⟨3, f[k].spans[j].fr, f[k].spans[j].to⟩ : Node)] := ⟨_, rfl⟩
              rw [← hL1] at hN5
              have HL1 := hid hL1
              have HL1l := hid (show L1.length = L.length + 1 by rw [hL1]; simp)
              clear hN hc5 hL1
              go_wp2_with fail
              refine (formula_Of1 base (base + 1) L1 ⟨6, q, L.length⟩ _ (by have := HL1l.out; omega) hN5).mono ?_
              rintro e w6 ⟨rfl, hN6, hc6⟩
              go_wp2_with fail
              go_roundw
              case rel => exact ⟨j + 1, by omega, by go_num, by rw [HS.out]; simp only [spanStep]; rw [HL1l.out], by rw [HS.out]; simp only [spanStep]; rw [HL1.out] at hN6; exact hN6, hcg.trans hc6⟩
              case measure => simp [intOf]; omega
            · obtain rfl : j = f[k].spans.length := by omega
              rw [List.take_length] at *
              generalize hsp : spansF La f[k].spans = sp at *
              obtain ⟨Ls, is⟩ := sp
              simp only at hN hlen2
              have HSP := hid hsp
              have HST := hid hst
              clear hsp hst hlj hj
              go_wp2_with fail
              refine (formula_Of1 base (base + 1) Ls ⟨5, ia, is⟩ _ (by omega) hN).mono ?_
              rintro e w5 ⟨rfl, hN5, hc5⟩
              replace hcg := hcg.trans hc5
              obtain ⟨L1, hL1⟩ : ∃ L1, L1 = Ls ++ [(⟨5, ia, is⟩ : Node)] := ⟨_, rfl⟩
              rw [← hL1] at hN5
              have HL1 := hid hL1
              have HL1l := hid (show L1.length = Ls.length + 1 by rw [hL1]; simp)
              clear hN hc5 hL1
              go_wp2_with fail
              refine (formula_Of1 base (base + 1) L1 ⟨6, s0, Ls.length⟩ _ (by have := HL1l.out; omega) hN5).mono ?_
              rintro e w6 ⟨rfl, hN6, hc6⟩
              replace hcg := hcg.trans hc6
              have hxe : Ext w w6 := ((Chg.of_ext hxw).trans hcg).ext hbs
              have HBS := hid (show boxStep (L0, s0) f[k] = (L1 ++ [(⟨6, s0, Ls.length⟩ : Node)], L1.length) by
                rw [boxStep, HY.out.1, HY.out.2, HTA.out]
                simp only [HSP.out]
                rw [HL1l.out, HL1.out])
              go_wp2_with fail
              go_roundw
              case rel => exact ⟨k + 1, hlt, by go_num, by rw [HF.out, HBS.out], by rw [HF.out, HBS.out]; exact hN6, hxe⟩
              case measure => simp [intOf]; omega
    · obtain rfl : k = f.length := by omega
      rw [List.take_length] at hN ⊢
      obtain ⟨⟨v, hc, ho⟩, _, _, _⟩ := hN
      obtain ⟨A2, c2, rfl, k2, m2⟩ := ho.len
      have hz := World.block_lt_of_cell? _ _ hc
      by_cases h30 : 30 < (formF f).1.length
      · have hE := hid (show formErr f = 2 by rw [formErr, if_pos h30])
        have hR := hid (show formRes f = [] by rw [formRes, if_pos h30])
        have h30' : decide ((30 : Int) < (formF f).1.length) = true := by simp; omega
        clear h30
        go_wp2_with fail
        go_ret2
        exact ⟨_, by rw [hE.out]; rfl, by rw [hR.out]; exact IsSl.nil, hx⟩
      · have hE := hid (show formErr f = 0 by rw [formErr, if_neg h30])
        have hR := hid (show formRes f = (formF f).1 by rw [formRes, if_neg h30])
        have h30' : decide ((30 : Int) < (formF f).1.length) = false := by simp; omega
        clear h30
        go_wp2_with fail
        go_ret2
        exact ⟨_, by rw [hE.out]; rfl, by rw [hR.out]; exact ho.isSl B, hx⟩

end Go.Proofs.YtbkmgbckeaimdaaDoor
