/- The walk of the reference's Know. -/
import Derived.Test.YtmedmfjhpabfdaaKnV
import Derived.Test.YtmedmfjhpabfdaaKnM
namespace Go.Proofs.Ytmedmfjhpabfdaa
open Go Go.RowKit

/-- the first j entries, then zeros. -/
def Lead (v : List Int) (j : Nat) (u : List Int) : Prop := u.length = 5 ∧ ∀ s : Nat, s < 5 → vecAt u s = vecAt (v.take j) s
theorem Lead.start (v : List Int) : Lead v 0 [0, 0, 0, 0, 0] := by
  refine ⟨rfl, fun s hs => ?_⟩
  rw [List.take_zero, vecAt_nil]
  match s, hs with
  | 0, _ => rfl
  | 1, _ => rfl
  | 2, _ => rfl
  | 3, _ => rfl
  | 4, _ => rfl
theorem Lead.step {v u : List Int} {j : Nat} (h : Lead v j u) (hj : j < v.length) (h5 : j < 5) : Lead v (j + 1) (u.set j v[j]) := by
  refine ⟨by simp [h.1], fun s hs => ?_⟩
  have e1 := vecAt_set u j s v[j] (by omega) (by omega) (by simp [h.1]; omega)
  rw [Int.toNat_natCast] at e1
  rw [e1, vecAt_take]
  by_cases e : s = j
  · subst e
    rw [if_pos rfl, if_pos (by omega), vecAt_in hj]
  · rw [if_neg (by omega), h.2 s hs, vecAt_take]
    by_cases g : s < j
    · rw [if_pos g, if_pos (by omega)]
    · rw [if_neg g, if_neg (by omega)]
theorem Lead.full {v u : List Int} (h : Lead v v.length u) : u.length = 5 ∧ ∀ s : Nat, s < 5 → vecAt u s = vecAt v s := ⟨h.1, fun s hs => by rw [h.2 s hs, List.take_length]⟩

set_option maxRecDepth 100000 in
set_option maxHeartbeats 4000000 in
theorem ref_Know (B : Nat) (k : Know) (Av : Option Addr) (cv : Nat) (Am : Option Addr) (cm : Nat) (w : World) (h : InK B w Av Am k) :
    Calls Try.prog 61 #[.agg #[.slice Av k.vec.length cv, .slice Am k.more.length cm]] w fun e w' => e = .returned (.int .i64 (knowCheck k)) ∧ Ext w w' := by
  have hx0 := (Ext.refl w).alloc (.cells #[.slice Av k.vec.length cv, .slice Am k.more.length cm] 44)
  by_cases hb1 : 5 < k.vec.length
  · have HE := hid (knowCheck_big (.inl hb1))
    go_enter Try.func61, Try.ntmps61
    go_wp2_with fail
    go_ret
    exact ⟨ret_int HE.out.symm, hx0⟩
  by_cases hb2 : 60 < k.more.length
  · have HE := hid (knowCheck_big (.inr hb2))
    have hb1' : decide ((5 : Int) < k.vec.length) = false := by simp; omega
    go_enter Try.func61, Try.ntmps61
    go_wp2_with fail
    go_ret
    exact ⟨ret_int HE.out.symm, hx0⟩
  have HE := hid (knowCheck_go (k := k) (by omega))
  have hb1' : decide ((5 : Int) < k.vec.length) = false := by simp; omega
  have hb2' : decide ((60 : Int) < k.more.length) = false := by simp; omega
  have hv5 : k.vec.length ≤ 5 := by omega
  have hm60 : k.more.length ≤ 60 := by omega
  clear hb1 hb2
  have hbz := Blk.new (w.alloc (.cells #[.slice Av k.vec.length cv, .slice Am k.more.length cm] 44)) 170 (rowI [0, 0, 0, 0, 0])
  have hxz := hx0.alloc (.cells (rowI [0, 0, 0, 0, 0]) 170)
  simp only [World.size_alloc] at hbz
  go_enter Try.func61, Try.ntmps61
  go_wp2_with fail
  go_loopw [24] (fun i wr => ∃ j : Nat, j ≤ k.vec.length ∧ i = .int .i64 j ∧ vecGo (k.vec.drop j) = vecGo k.vec ∧ (∃ u, Lead k.vec j u ∧ Blk wr (w.heap.size + 1) 170 (rowI u)) ∧ Ext w wr ∧ wr.cell? ⟨w.heap.size, 0, none⟩ = some (.slice Av k.vec.length cv) ∧ wr.cell? ⟨w.heap.size, 1, none⟩ = some (.slice Am k.more.length cm)) (fun i _ => k.vec.length - (intOf i).toNat)
  case atStart => exact ⟨0, Nat.zero_le _, rfl, rfl, ⟨_, Lead.start _, hbz⟩, hxz, by go_simp, by go_simp⟩
  case round =>
    clear hx0 hbz hxz
    obtain ⟨j, hj, rfl, hG, ⟨u, hu, hb3⟩, hx, q0, q1⟩ := hrel
    have HG := hid hG
    have HU := hid hu
    clear hG hu
    by_cases hlt : j < k.vec.length
    · obtain ⟨b, off, rfl, hb, g0⟩ := (h.sv.ext RInt.mono hx).int hlt
      have HS := hid (vecGo_drop k.vec j hlt)
      have HB := hid (show betw k.vec[j] 0 1000 = decide (0 ≤ k.vec[j] ∧ k.vec[j] ≤ 1000) from rfl)
      by_cases hin : 0 ≤ k.vec[j] ∧ k.vec[j] ≤ 1000
      · have HF := hid (show vecGo (k.vec.drop (j + 1)) = vecGo k.vec by rw [← HG.out, HS.out, if_pos hin])
        have HBt := hid (show betw k.vec[j] 0 1000 = true by rw [HB.out]; exact decide_eq_true hin)
        have j0 : (0 : Int) ≤ j := by omega
        have j5 : (j : Int) < 5 := by omega
        have hck := hb3.cell (rowI_get (show j < u.length by rw [HU.out.1]; omega))
        have hz := hb3.frozen j
        clear hin
        go_wp2_with fail
        refine (ref_within _ _ _ _).mono ?_
        rintro e w1 ⟨rfl, rfl⟩
        rw [HBt.out]
        go_wp2_with fail
        go_roundw
        case rel => exact ⟨j + 1, hlt, by go_num, HF.out, ⟨_, HU.out.step hlt (by omega), by rw [← rowI_set]; exact hb3.set j _⟩, hx.setCell (by show _ ≤ w.heap.size + 1; omega) _, cell_ne (by omega) q0, cell_ne (by omega) q1⟩
        case measure => simp [intOf]; omega
      · have HF := hid (show vecGo k.vec = 1 by rw [← HG.out, HS.out, if_neg hin])
        have HBt := hid (show betw k.vec[j] 0 1000 = false by rw [HB.out]; exact decide_eq_false hin)
        clear hin
        go_wp2_with fail
        refine (ref_within _ _ _ _).mono ?_
        rintro e w1 ⟨rfl, rfl⟩
        rw [HBt.out]
        go_wp2_with fail
        go_ret
        exact ⟨ret_int (by rw [HE.out, HF.out]; rfl), hx⟩
    · obtain rfl : j = k.vec.length := by omega
      have HV0 := hid (show vecGo k.vec = 0 by rw [← HG.out]; simp [vecGo])
      replace HU := hid HU.out.full
      clear HG hlt hj
      by_cases hlast : k.vec.getLast? = some 0
      · have hpos : 0 < k.vec.length := by
          rcases Nat.eq_zero_or_pos k.vec.length with h0 | h0
          · rw [List.eq_nil_of_length_eq_zero h0] at hlast; cases hlast
          · exact h0
        obtain ⟨b, off, rfl, hb, g0⟩ := (h.sv.ext RInt.mono hx).int (i := k.vec.length - 1) (by omega)
        have hl0 : k.vec[k.vec.length - 1] = 0 := by rw [getLast_at hpos] at hlast; exact Option.some.inj hlast
        rw [hl0] at g0
        have HF := hid (show knowCheck k = 3 by rw [HE.out, if_pos HV0.out, if_pos hlast])
        have en : ((k.vec.length : Int) - 1) = ((k.vec.length - 1 : Nat) : Int) := by omega
        have ez : (0 : Int) ≤ (k.vec.length : Int) - 1 := by omega
        have ep : (0 : Int) < k.vec.length := by omega
        clear hlast hl0
        go_wp2_with fail
        go_ret
        exact ⟨ret_int HF.out.symm, hx⟩
      · have HF := hid (show knowCheck k = moreGo k.vec ⟨-1, 0⟩ k.more by rw [HE.out, if_pos HV0.out, if_neg hlast])
        clear HE
        have HVB := hid (vecAt_bd ((vecGo_ok _).1 HV0.out))
        clear HV0
        by_cases hpos : 0 < k.vec.length
        · obtain ⟨b, off, rfl, hb, g0⟩ := (h.sv.ext RInt.mono hx).int (i := k.vec.length - 1) (by omega)
          have hl0 : (k.vec[k.vec.length - 1] == 0) = false := by
            rw [getLast_at hpos] at hlast
            exact beq_eq_false_iff_ne.2 fun e => hlast (by rw [e])
          have en : ((k.vec.length : Int) - 1) = ((k.vec.length - 1 : Nat) : Int) := by omega
          have ez : (0 : Int) ≤ (k.vec.length : Int) - 1 := by omega
          have ep : (0 : Int) < k.vec.length := by omega
          clear hlast
          generalize k.vec[k.vec.length - 1] = lv at *
          have hw0 : w.heap.size < wr.heap.size := by have := hb3.lt; omega
          go_wp2_with fail
          clear g0 en ez ep hl0
          have hb7 : w.heap.size + 1 < wr.heap.size := hb3.lt
          obtain ⟨b7, hb7e⟩ : ∃ b, b = wr.heap.size := ⟨_, rfl⟩
          have hxa := (Ext.refl wr).alloc (.cells #[.int .i64 (-1), .int .i64 0] 38)
          have l0 : (wr.alloc (.cells #[.int .i64 (-1), .int .i64 0] 38)).cell? ⟨wr.heap.size, 0, none⟩ = some (.int .i64 (-1)) := by go_simp
          have l1 : (wr.alloc (.cells #[.int .i64 (-1), .int .i64 0] 38)).cell? ⟨wr.heap.size, 1, none⟩ = some (.int .i64 0) := by go_simp
          have z0 : (wr.alloc (.cells #[.int .i64 (-1), .int .i64 0] 38)).frozen? ⟨wr.heap.size, 0, none⟩ = false := by go_simp
          have z1 : (wr.alloc (.cells #[.int .i64 (-1), .int .i64 0] 38)).frozen? ⟨wr.heap.size, 1, none⟩ = false := by go_simp
          rw [← hb7e] at hb7 l0 l1 z0 z1
          rw [← hb7e]
          clear hb7e
          go_loopw [54] (fun i wr => ∃ j : Nat, j ≤ k.more.length ∧ i = .int .i64 j ∧ moreGo k.vec (lastDot k.more j) (k.more.drop j) = moreGo k.vec ⟨-1, 0⟩ k.more ∧ Blk wr (w.heap.size + 1) 170 (rowI u) ∧ wr.cell? ⟨b7, 0, none⟩ = some (.int .i64 (lastDot k.more j).site) ∧ wr.cell? ⟨b7, 1, none⟩ = some (.int .i64 (lastDot k.more j).count) ∧ wr.frozen? ⟨b7, 0, none⟩ = false ∧ wr.frozen? ⟨b7, 1, none⟩ = false ∧ Ext w wr) (fun i _ => k.more.length - (intOf i).toNat)
          case atStart => exact ⟨0, Nat.zero_le _, rfl, rfl, hb3.ext hxa, l0, l1, z0, z1, hx.trans hxa⟩
          case round =>
            clear hx hb3 l0 l1 z0 z1 hxa
            obtain ⟨j, hj, rfl, hG, hb3, l0, l1, z0, z1, hx⟩ := hrel
            have HG := hid hG
            clear hG
            by_cases hlt : j < k.more.length
            · obtain ⟨b, off, rfl, hb, g0, g1⟩ := (h.sm.ext RPair.mono hx).pair hlt
              have HS := hid (moreGo_drop k.vec k.more j hlt)
              cases hok : dotOk k.more[j]
              · have HF2 := hid (show moreGo k.vec ⟨-1, 0⟩ k.more = 1 by rw [← HG.out, HS.out, if_neg (by rw [hok]; simp)])
                go_wp2_with fail
                refine (ref_Dot k.more[j] _).mono ?_
                rintro e w1 ⟨rfl, hx1⟩
                rw [hok]
                clear hok
                go_wp2_with fail
                go_ret
                exact ⟨ret_int (by rw [HF.out, HF2.out]), (hx.alloc _).trans hx1⟩
              · have HO := hid hok
                obtain ⟨o1, o2, o3, o4⟩ := dotOk_iff.1 hok
                obtain ⟨s, hs⟩ := Int.eq_ofNat_of_zero_le o1
                have HSI := hid hs
                have hsl : s < 5 := by omega
                have s0 : (0 : Int) ≤ s := by omega
                have s5 : (s : Int) < 5 := by omega
                have hD := ref_Dot k.more[j]
                rw [hs] at hD g0
                have HVS := hid (show vecAt k.vec k.more[j].site = vecAt k.vec s by rw [hs])
                have hvb := HVB.out s
                have HLast := hid (rfl : lastDot k.more j = lastDot k.more j)
                go_wp2_with fail
                refine (hD _).mono ?_
                rintro e w1 ⟨rfl, hx1⟩
                rw [hok]
                clear hok hD
                have hyn := ((Ext.refl wr).alloc (.cells #[.int .i64 (s : Int), .int .i64 k.more[j].count] 38)).trans hx1
                have d0 : w1.cell? ⟨wr.heap.size, 0, none⟩ = some (.int .i64 (s : Int)) := hx1.cell (by go_simp)
                have d1 : w1.cell? ⟨wr.heap.size, 1, none⟩ = some (.int .i64 k.more[j].count) := hx1.cell (by go_simp)
                replace z0 := (hyn.frozenAt (World.block_lt_of_cell? _ _ l0)).trans z0
                replace z1 := (hyn.frozenAt (World.block_lt_of_cell? _ _ l0)).trans z1
                replace l0 := hyn.cell l0
                replace l1 := hyn.cell l1
                have l0' := l0
                replace hb3 := hb3.ext hyn
                have q := hb3.cell (rowI_get (show s < u.length by rw [HU.out.1]; exact hsl))
                have HUV := hid (show u[s]'(by rw [HU.out.1]; exact hsl) = vecAt k.vec s by
                  have h1 := HU.out.2 s hsl
                  rwa [vecAt_in (by rw [HU.out.1]; exact hsl)] at h1)
                rw [HUV.out] at q
                obtain ⟨V, hV⟩ : ∃ V, V = vecAt k.vec s := ⟨_, rfl⟩
                have HVV := hid hV
                rw [← hV] at hvb q
                clear hV hx1
                obtain ⟨v0, v1⟩ := hvb
                have eV : IntKind.i64.wrap (V + 2) = V + 2 := by rw [IntKind.wrap_i64]; omega
                obtain ⟨ls, hls⟩ : ∃ x, x = (lastDot k.more j).site := ⟨_, rfl⟩
                obtain ⟨lc, hlc⟩ : ∃ x, x = (lastDot k.more j).count := ⟨_, rfl⟩
                have HLS := hid hls
                have HLC := hid hlc
                rw [← hls] at l0 l0'
                rw [← hlc] at l1
                clear hls hlc
                have hbw := hb3.lt
                by_cases hcv : k.more[j].count < V + 2
                · have HP := hid (show k.more[j].count ≤ vecAt k.vec k.more[j].site + 1 ∨ dlt (lastDot k.more j) k.more[j] = false from .inl (by rw [HVS.out, ← HVV.out]; omega))
                  have hcv' : decide (k.more[j].count < V + 2) = true := decide_eq_true hcv
                  clear hcv
                  go_upto_region 20 with fail
                  go_quiet (fail)
                  go_wp2_with fail
                  go_ret
                  exact ⟨ret_int (by rw [HF.out, ← HG.out, HS.out, if_pos HO.out, if_pos HP.out]), (hx.trans hyn).drewN _⟩
                · have hcv' : decide (k.more[j].count < V + 2) = false := decide_eq_false hcv
                  by_cases hsl2 : (s : Int) < ls
                  · have HP := hid (show k.more[j].count ≤ vecAt k.vec k.more[j].site + 1 ∨ dlt (lastDot k.more j) k.more[j] = false from .inr (by rw [← Bool.not_eq_true, dlt_iff, ← HLS.out, HSI.out]; omega))
                    have hs1 : decide ((s : Int) < ls) = true := decide_eq_true hsl2
                    clear hcv hsl2
                    go_upto_region 20 with fail
                    go_quiet (fail)
                    go_wp2_with fail
                    go_ret
                    exact ⟨ret_int (by rw [HF.out, ← HG.out, HS.out, if_pos HO.out, if_pos HP.out]), (hx.trans hyn).drewN _⟩
                  · have hs1 : decide ((s : Int) < ls) = false := decide_eq_false hsl2
                    by_cases hse : (s : Int) = ls
                    · have hs2 : ((s : Int) == ls) = true := by simpa using hse
                      by_cases hcl : k.more[j].count ≤ lc
                      · have HP := hid (show k.more[j].count ≤ vecAt k.vec k.more[j].site + 1 ∨ dlt (lastDot k.more j) k.more[j] = false from .inr (by rw [← Bool.not_eq_true, dlt_iff, ← HLS.out, HSI.out, ← HLC.out]; omega))
                        have hc2 : decide (k.more[j].count ≤ lc) = true := decide_eq_true hcl
                        clear hcv hsl2 hse hcl
                        go_upto_region 20 with fail
                        go_quiet (fail)
                        go_wp2_with fail
                        go_ret
                        exact ⟨ret_int (by rw [HF.out, ← HG.out, HS.out, if_pos HO.out, if_pos HP.out]), (hx.trans hyn).drewN _⟩
                      · have HN := hid (show ¬ (k.more[j].count ≤ vecAt k.vec k.more[j].site + 1 ∨ dlt (lastDot k.more j) k.more[j] = false) by
                          rw [← Bool.not_eq_true, dlt_iff, ← HLS.out, HSI.out, ← HLC.out, ← HVV.out]; omega)
                        have hc2 : decide (k.more[j].count ≤ lc) = false := decide_eq_false hcl
                        clear hcv hsl2 hse hcl
                        go_upto_region 20 with fail
                        go_quiet (fail)
                        obtain ⟨w6, hw6⟩ : ∃ w6, w6 = w1.drewN nq := ⟨_, rfl⟩
                        rw [← hw6]
                        have hx6 : Ext w1 w6 := by rw [hw6]; exact (Ext.refl _).drewN _
                        replace hb3 := hb3.ext hx6
                        replace d0 := hx6.cell d0
                        replace d1 := hx6.cell d1
                        replace l0 := hx6.cell l0
                        replace l1 := hx6.cell l1
                        replace z0 := (hx6.frozenAt (World.block_lt_of_cell? _ _ l0')).trans z0
                        replace z1 := (hx6.frozenAt (World.block_lt_of_cell? _ _ l0')).trans z1
                        have HX6 := hid ((hx.trans hyn).trans hx6)
                        clear hw6 hx6 hx hyn q l0'
                        go_wp2_with fail
                        go_roundw
                        case rel => exact ⟨j + 1, hlt, by go_num, by rw [← HG.out, HS.out, if_pos HO.out, if_neg HN.out], (hb3.far (by show _ ≠ b7; omega) _).far (by show _ ≠ b7; omega) _, by rw [lastDot_succ _ _ hlt, HSI.out]; go_simp, by rw [lastDot_succ _ _ hlt]; go_simp, by go_simp, by go_simp, (HX6.out.setCell (by show _ ≤ b7; omega) _).setCell (by show _ ≤ b7; omega) _⟩
                        case measure => simp [intOf]; omega
                    · have HN := hid (show ¬ (k.more[j].count ≤ vecAt k.vec k.more[j].site + 1 ∨ dlt (lastDot k.more j) k.more[j] = false) by
                        rw [← Bool.not_eq_true, dlt_iff, ← HLS.out, HSI.out, ← HLC.out, ← HVV.out]; omega)
                      have hs2 : ((s : Int) == ls) = false := by simpa using hse
                      clear hcv hsl2 hse
                      go_upto_region 20 with fail
                      go_quiet (fail)
                      obtain ⟨w6, hw6⟩ : ∃ w6, w6 = w1.drewN nq := ⟨_, rfl⟩
                      rw [← hw6]
                      have hx6 : Ext w1 w6 := by rw [hw6]; exact (Ext.refl _).drewN _
                      replace hb3 := hb3.ext hx6
                      replace d0 := hx6.cell d0
                      replace d1 := hx6.cell d1
                      replace l0 := hx6.cell l0
                      replace l1 := hx6.cell l1
                      replace z0 := (hx6.frozenAt (World.block_lt_of_cell? _ _ l0')).trans z0
                      replace z1 := (hx6.frozenAt (World.block_lt_of_cell? _ _ l0')).trans z1
                      have HX6 := hid ((hx.trans hyn).trans hx6)
                      clear hw6 hx6 hx hyn q l0'
                      go_wp2_with fail
                      go_roundw
                      case rel => exact ⟨j + 1, hlt, by go_num, by rw [← HG.out, HS.out, if_pos HO.out, if_neg HN.out], (hb3.far (by show _ ≠ b7; omega) _).far (by show _ ≠ b7; omega) _, by rw [lastDot_succ _ _ hlt, HSI.out]; go_simp, by rw [lastDot_succ _ _ hlt]; go_simp, by go_simp, by go_simp, (HX6.out.setCell (by show _ ≤ b7; omega) _).setCell (by show _ ≤ b7; omega) _⟩
                      case measure => simp [intOf]; omega
            · obtain rfl : j = k.more.length := by omega
              have HF2 := hid (show moreGo k.vec ⟨-1, 0⟩ k.more = 0 by rw [← HG.out]; simp [moreGo])
              go_wp2_with fail
              go_ret
              exact ⟨ret_int (by rw [HF.out, HF2.out]), hx⟩
        · have ep : decide ((0 : Int) < k.vec.length) = false := decide_eq_false (by omega)
          clear hlast
          have hw0 : w.heap.size < wr.heap.size := by have := hb3.lt; omega
          go_wp2_with fail
          clear ep
          have hb7 : w.heap.size + 1 < wr.heap.size := hb3.lt
          obtain ⟨b7, hb7e⟩ : ∃ b, b = wr.heap.size := ⟨_, rfl⟩
          have hxa := (Ext.refl wr).alloc (.cells #[.int .i64 (-1), .int .i64 0] 38)
          have l0 : (wr.alloc (.cells #[.int .i64 (-1), .int .i64 0] 38)).cell? ⟨wr.heap.size, 0, none⟩ = some (.int .i64 (-1)) := by go_simp
          have l1 : (wr.alloc (.cells #[.int .i64 (-1), .int .i64 0] 38)).cell? ⟨wr.heap.size, 1, none⟩ = some (.int .i64 0) := by go_simp
          have z0 : (wr.alloc (.cells #[.int .i64 (-1), .int .i64 0] 38)).frozen? ⟨wr.heap.size, 0, none⟩ = false := by go_simp
          have z1 : (wr.alloc (.cells #[.int .i64 (-1), .int .i64 0] 38)).frozen? ⟨wr.heap.size, 1, none⟩ = false := by go_simp
          rw [← hb7e] at hb7 l0 l1 z0 z1
          rw [← hb7e]
          clear hb7e
          go_loopw [54] (fun i wr => ∃ j : Nat, j ≤ k.more.length ∧ i = .int .i64 j ∧ moreGo k.vec (lastDot k.more j) (k.more.drop j) = moreGo k.vec ⟨-1, 0⟩ k.more ∧ Blk wr (w.heap.size + 1) 170 (rowI u) ∧ wr.cell? ⟨b7, 0, none⟩ = some (.int .i64 (lastDot k.more j).site) ∧ wr.cell? ⟨b7, 1, none⟩ = some (.int .i64 (lastDot k.more j).count) ∧ wr.frozen? ⟨b7, 0, none⟩ = false ∧ wr.frozen? ⟨b7, 1, none⟩ = false ∧ Ext w wr) (fun i _ => k.more.length - (intOf i).toNat)
          case atStart => exact ⟨0, Nat.zero_le _, rfl, rfl, hb3.ext hxa, l0, l1, z0, z1, hx.trans hxa⟩
          case round =>
            clear hx hb3 l0 l1 z0 z1 hxa
            obtain ⟨j, hj, rfl, hG, hb3, l0, l1, z0, z1, hx⟩ := hrel
            have HG := hid hG
            clear hG
            by_cases hlt : j < k.more.length
            · obtain ⟨b, off, rfl, hb, g0, g1⟩ := (h.sm.ext RPair.mono hx).pair hlt
              have HS := hid (moreGo_drop k.vec k.more j hlt)
              cases hok : dotOk k.more[j]
              · have HF2 := hid (show moreGo k.vec ⟨-1, 0⟩ k.more = 1 by rw [← HG.out, HS.out, if_neg (by rw [hok]; simp)])
                go_wp2_with fail
                refine (ref_Dot k.more[j] _).mono ?_
                rintro e w1 ⟨rfl, hx1⟩
                rw [hok]
                clear hok
                go_wp2_with fail
                go_ret
                exact ⟨ret_int (by rw [HF.out, HF2.out]), (hx.alloc _).trans hx1⟩
              · have HO := hid hok
                obtain ⟨o1, o2, o3, o4⟩ := dotOk_iff.1 hok
                obtain ⟨s, hs⟩ := Int.eq_ofNat_of_zero_le o1
                have HSI := hid hs
                have hsl : s < 5 := by omega
                have s0 : (0 : Int) ≤ s := by omega
                have s5 : (s : Int) < 5 := by omega
                have hD := ref_Dot k.more[j]
                rw [hs] at hD g0
                have HVS := hid (show vecAt k.vec k.more[j].site = vecAt k.vec s by rw [hs])
                have hvb := HVB.out s
                have HLast := hid (rfl : lastDot k.more j = lastDot k.more j)
                go_wp2_with fail
                refine (hD _).mono ?_
                rintro e w1 ⟨rfl, hx1⟩
                rw [hok]
                clear hok hD
                have hyn := ((Ext.refl wr).alloc (.cells #[.int .i64 (s : Int), .int .i64 k.more[j].count] 38)).trans hx1
                have d0 : w1.cell? ⟨wr.heap.size, 0, none⟩ = some (.int .i64 (s : Int)) := hx1.cell (by go_simp)
                have d1 : w1.cell? ⟨wr.heap.size, 1, none⟩ = some (.int .i64 k.more[j].count) := hx1.cell (by go_simp)
                replace z0 := (hyn.frozenAt (World.block_lt_of_cell? _ _ l0)).trans z0
                replace z1 := (hyn.frozenAt (World.block_lt_of_cell? _ _ l0)).trans z1
                replace l0 := hyn.cell l0
                replace l1 := hyn.cell l1
                have l0' := l0
                replace hb3 := hb3.ext hyn
                have q := hb3.cell (rowI_get (show s < u.length by rw [HU.out.1]; exact hsl))
                have HUV := hid (show u[s]'(by rw [HU.out.1]; exact hsl) = vecAt k.vec s by
                  have h1 := HU.out.2 s hsl
                  rwa [vecAt_in (by rw [HU.out.1]; exact hsl)] at h1)
                rw [HUV.out] at q
                obtain ⟨V, hV⟩ : ∃ V, V = vecAt k.vec s := ⟨_, rfl⟩
                have HVV := hid hV
                rw [← hV] at hvb q
                clear hV hx1
                obtain ⟨v0, v1⟩ := hvb
                have eV : IntKind.i64.wrap (V + 2) = V + 2 := by rw [IntKind.wrap_i64]; omega
                obtain ⟨ls, hls⟩ : ∃ x, x = (lastDot k.more j).site := ⟨_, rfl⟩
                obtain ⟨lc, hlc⟩ : ∃ x, x = (lastDot k.more j).count := ⟨_, rfl⟩
                have HLS := hid hls
                have HLC := hid hlc
                rw [← hls] at l0 l0'
                rw [← hlc] at l1
                clear hls hlc
                have hbw := hb3.lt
                by_cases hcv : k.more[j].count < V + 2
                · have HP := hid (show k.more[j].count ≤ vecAt k.vec k.more[j].site + 1 ∨ dlt (lastDot k.more j) k.more[j] = false from .inl (by rw [HVS.out, ← HVV.out]; omega))
                  have hcv' : decide (k.more[j].count < V + 2) = true := decide_eq_true hcv
                  clear hcv
                  go_upto_region 20 with fail
                  go_quiet (fail)
                  go_wp2_with fail
                  go_ret
                  exact ⟨ret_int (by rw [HF.out, ← HG.out, HS.out, if_pos HO.out, if_pos HP.out]), (hx.trans hyn).drewN _⟩
                · have hcv' : decide (k.more[j].count < V + 2) = false := decide_eq_false hcv
                  by_cases hsl2 : (s : Int) < ls
                  · have HP := hid (show k.more[j].count ≤ vecAt k.vec k.more[j].site + 1 ∨ dlt (lastDot k.more j) k.more[j] = false from .inr (by rw [← Bool.not_eq_true, dlt_iff, ← HLS.out, HSI.out]; omega))
                    have hs1 : decide ((s : Int) < ls) = true := decide_eq_true hsl2
                    clear hcv hsl2
                    go_upto_region 20 with fail
                    go_quiet (fail)
                    go_wp2_with fail
                    go_ret
                    exact ⟨ret_int (by rw [HF.out, ← HG.out, HS.out, if_pos HO.out, if_pos HP.out]), (hx.trans hyn).drewN _⟩
                  · have hs1 : decide ((s : Int) < ls) = false := decide_eq_false hsl2
                    by_cases hse : (s : Int) = ls
                    · have hs2 : ((s : Int) == ls) = true := by simpa using hse
                      by_cases hcl : k.more[j].count ≤ lc
                      · have HP := hid (show k.more[j].count ≤ vecAt k.vec k.more[j].site + 1 ∨ dlt (lastDot k.more j) k.more[j] = false from .inr (by rw [← Bool.not_eq_true, dlt_iff, ← HLS.out, HSI.out, ← HLC.out]; omega))
                        have hc2 : decide (k.more[j].count ≤ lc) = true := decide_eq_true hcl
                        clear hcv hsl2 hse hcl
                        go_upto_region 20 with fail
                        go_quiet (fail)
                        go_wp2_with fail
                        go_ret
                        exact ⟨ret_int (by rw [HF.out, ← HG.out, HS.out, if_pos HO.out, if_pos HP.out]), (hx.trans hyn).drewN _⟩
                      · have HN := hid (show ¬ (k.more[j].count ≤ vecAt k.vec k.more[j].site + 1 ∨ dlt (lastDot k.more j) k.more[j] = false) by
                          rw [← Bool.not_eq_true, dlt_iff, ← HLS.out, HSI.out, ← HLC.out, ← HVV.out]; omega)
                        have hc2 : decide (k.more[j].count ≤ lc) = false := decide_eq_false hcl
                        clear hcv hsl2 hse hcl
                        go_upto_region 20 with fail
                        go_quiet (fail)
                        obtain ⟨w6, hw6⟩ : ∃ w6, w6 = w1.drewN nq := ⟨_, rfl⟩
                        rw [← hw6]
                        have hx6 : Ext w1 w6 := by rw [hw6]; exact (Ext.refl _).drewN _
                        replace hb3 := hb3.ext hx6
                        replace d0 := hx6.cell d0
                        replace d1 := hx6.cell d1
                        replace l0 := hx6.cell l0
                        replace l1 := hx6.cell l1
                        replace z0 := (hx6.frozenAt (World.block_lt_of_cell? _ _ l0')).trans z0
                        replace z1 := (hx6.frozenAt (World.block_lt_of_cell? _ _ l0')).trans z1
                        have HX6 := hid ((hx.trans hyn).trans hx6)
                        clear hw6 hx6 hx hyn q l0'
                        go_wp2_with fail
                        go_roundw
                        case rel => exact ⟨j + 1, hlt, by go_num, by rw [← HG.out, HS.out, if_pos HO.out, if_neg HN.out], (hb3.far (by show _ ≠ b7; omega) _).far (by show _ ≠ b7; omega) _, by rw [lastDot_succ _ _ hlt, HSI.out]; go_simp, by rw [lastDot_succ _ _ hlt]; go_simp, by go_simp, by go_simp, (HX6.out.setCell (by show _ ≤ b7; omega) _).setCell (by show _ ≤ b7; omega) _⟩
                        case measure => simp [intOf]; omega
                    · have HN := hid (show ¬ (k.more[j].count ≤ vecAt k.vec k.more[j].site + 1 ∨ dlt (lastDot k.more j) k.more[j] = false) by
                        rw [← Bool.not_eq_true, dlt_iff, ← HLS.out, HSI.out, ← HLC.out, ← HVV.out]; omega)
                      have hs2 : ((s : Int) == ls) = false := by simpa using hse
                      clear hcv hsl2 hse
                      go_upto_region 20 with fail
                      go_quiet (fail)
                      obtain ⟨w6, hw6⟩ : ∃ w6, w6 = w1.drewN nq := ⟨_, rfl⟩
                      rw [← hw6]
                      have hx6 : Ext w1 w6 := by rw [hw6]; exact (Ext.refl _).drewN _
                      replace hb3 := hb3.ext hx6
                      replace d0 := hx6.cell d0
                      replace d1 := hx6.cell d1
                      replace l0 := hx6.cell l0
                      replace l1 := hx6.cell l1
                      replace z0 := (hx6.frozenAt (World.block_lt_of_cell? _ _ l0')).trans z0
                      replace z1 := (hx6.frozenAt (World.block_lt_of_cell? _ _ l0')).trans z1
                      have HX6 := hid ((hx.trans hyn).trans hx6)
                      clear hw6 hx6 hx hyn q l0'
                      go_wp2_with fail
                      go_roundw
                      case rel => exact ⟨j + 1, hlt, by go_num, by rw [← HG.out, HS.out, if_pos HO.out, if_neg HN.out], (hb3.far (by show _ ≠ b7; omega) _).far (by show _ ≠ b7; omega) _, by rw [lastDot_succ _ _ hlt, HSI.out]; go_simp, by rw [lastDot_succ _ _ hlt]; go_simp, by go_simp, by go_simp, (HX6.out.setCell (by show _ ≤ b7; omega) _).setCell (by show _ ≤ b7; omega) _⟩
                      case measure => simp [intOf]; omega
            · obtain rfl : j = k.more.length := by omega
              have HF2 := hid (show moreGo k.vec ⟨-1, 0⟩ k.more = 0 by rw [← HG.out]; simp [moreGo])
              go_wp2_with fail
              go_ret
              exact ⟨ret_int (by rw [HF.out, HF2.out]), hx⟩

end Go.Proofs.Ytmedmfjhpabfdaa
