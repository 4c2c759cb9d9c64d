/- The law WireSays where the stamp and more is amiss. -/
import Derived.Test.YtmedmfjhpabfdaaWsayA
namespace Go.Proofs.Ytmedmfjhpabfdaa
open Go Go.RowKit

set_option maxRecDepth 100000 in
set_option maxHeartbeats 4000000 in
theorem law_WireSays_b2 (B : Nat) (b : Batch) (Ax : Option Addr) (cx : Nat) (Ag : Option Addr) (cg : Nat) (Ap : Option Addr) (cp : Nat) (l : List UInt8) (w : World) (hBw : B ≤ w.heap.size) (ha : InB B w Ax cx Ag cg Ap cp b) (hl : l.length ≤ 140737488355328) (h0 : wireErr b ≠ 0) (hs : ¬(1000000 < b.stamp ∧ 0 ≤ b.site ∧ b.site < 5)) (g1 : 1000000 < b.stamp) :
    Calls Try.prog 3 #[.agg #[.int .i64 b.site, .int .i64 b.stamp, .slice Ax b.vers.length cx, .slice Ag b.gone.length cg, .slice Ap b.parts.length cp], .string (bstr l)] w fun e w' => e = .returned (.bool true) ∧ Ext w w' := by
  have HA := hid ha
  have HS := hid (show (bstr l).size ≤ 140737488355328 by rw [bstr_size]; exact hl)
  have HL := hid hl
  have hx := (Ext.refl w).alloc (.cells #[.int .i64 b.site, .int .i64 b.stamp, .slice Ax b.vers.length cx, .slice Ag b.gone.length cg, .slice Ap b.parts.length cp] 26)
  have hba := Blk.new w 26 #[.int .i64 b.site, .int .i64 b.stamp, .slice Ax b.vers.length cx, .slice Ag b.gone.length cg, .slice Ap b.parts.length cp]
  clear ha hl
  go_enter Try.func3, Try.ntmps3
  go_wp2_with fail
  refine (wire_Pack B b Ax cx Ag cg Ap cp _ (Nat.le_trans hBw hx.size) (HA.out.ext hx)).mono ?_
  rintro e w1 ⟨rfl, hx1⟩
  replace hba := hba.ext hx1
  replace hx := hx.trans hx1
  obtain ⟨PO, hPO⟩ : ∃ x, x = packOut b := ⟨_, rfl⟩
  obtain ⟨PE, hPE⟩ : ∃ x, x = packErr b := ⟨_, rfl⟩
  rw [← hPO, ← hPE]
  have HPO := hid hPO
  have HPE := hid hPE
  clear hPO hPE hx1
  obtain ⟨r0, hr0⟩ : ∃ r, r = w.heap.size := ⟨_, rfl⟩
  rw [← hr0] at hba ⊢
  clear hr0
  go_wp2_with fail
  refine (wire_Unpack l HL.out _).mono ?_
  rintro e w2 ⟨v2, rfl, ⟨⟨Cx, ex, Cg, eg, Cp, ep, rfl, hC⟩, hcz⟩, hx2⟩
  replace hba := hba.ext hx2
  replace hx := hx.trans hx2
  obtain ⟨U, hU⟩ : ∃ x, x = unpackErr l := ⟨_, rfl⟩
  obtain ⟨c, hc⟩ : ∃ x, x = unpackOf l := ⟨_, rfl⟩
  rw [← hc] at hC hcz ⊢
  rw [← hU] at hcz ⊢
  have HU0 := hid hU
  have HC := hid hC
  have HCOK := hid (show U = 0 → wireErr c = 0 ∧ packB c = l from fun h => by
    rw [hc]
    exact unpack_sound (hU.symm.trans h))
  have HCZ := hid (show U ≠ 0 → ∀ W r, Blk W r 26 #[.int .i64 c.site, .int .i64 c.stamp, .slice Cx c.vers.length ex, .slice Cg c.gone.length eg, .slice Cp c.parts.length ep] → Blk W r 26 #[.int .i64 0, .int .i64 0, .slice none 0 0, .slice none 0 0, .slice none 0 0] from fun h W r hb => by
    have e := hcz h
    injection e with e
    rw [← e]
    exact hb)
  clear hU hc hC hcz hx2
  have hx3 := (Ext.refl w2).alloc (.cells #[.int .i64 c.site, .int .i64 c.stamp, .slice Cx c.vers.length ex, .slice Cg c.gone.length eg, .slice Cp c.parts.length ep] 26)
  have hbc := Blk.new w2 26 #[.int .i64 c.site, .int .i64 c.stamp, .slice Cx c.vers.length ex, .slice Cg c.gone.length eg, .slice Cp c.parts.length ep]
  have y0 := (hba.ext hx3).cell (i := 0) (u := .int .i64 b.site) rfl
  have y1 := (hba.ext hx3).cell (i := 1) (u := .int .i64 b.stamp) rfl
  have y2 := (hba.ext hx3).cell (i := 2) (u := .slice Ax b.vers.length cx) rfl
  have y3 := (hba.ext hx3).cell (i := 3) (u := .slice Ag b.gone.length cg) rfl
  have y4 := (hba.ext hx3).cell (i := 4) (u := .slice Ap b.parts.length cp) rfl
  go_wp2_with fail
  clear y0 y1 y2 y3 y4
  obtain ⟨w3, hw3⟩ : ∃ x, x = w2.alloc (.cells #[.int .i64 c.site, .int .i64 c.stamp, .slice Cx c.vers.length ex, .slice Cg c.gone.length eg, .slice Cp c.parts.length ep] 26) := ⟨_, rfl⟩
  obtain ⟨r7, hr7⟩ : ∃ r, r = w2.heap.size := ⟨_, rfl⟩
  rw [← hw3] at hx3
  rw [← hw3, ← hr7] at hbc
  rw [← hw3, ← hr7]
  clear hw3 hr7
  have hxc := hx3
  replace hba := hba.ext hx3
  replace hx := hx.trans hx3
  clear hx3
  refine (ref_Batch B b Ax cx Ag cg Ap cp _ (HA.out.ext hx)).mono ?_
  rintro e w4 ⟨rfl, hx4⟩
  replace hba := hba.ext hx4
  replace hx := hx.trans hx4
  replace hbc := hbc.ext hx4
  replace hxc := hxc.trans hx4
  clear hx4
  have y0 := hba.cell (i := 0) (u := .int .i64 b.site) rfl
  have y1 := hba.cell (i := 1) (u := .int .i64 b.stamp) rfl
  have y2 := hba.cell (i := 2) (u := .slice Ax b.vers.length cx) rfl
  have y3 := hba.cell (i := 3) (u := .slice Ag b.gone.length cg) rfl
  have y4 := hba.cell (i := 4) (u := .slice Ap b.parts.length cp) rfl
  have hn : PE ≠ 0 := by rw [HPE.out, packErr, if_neg h0]; exact h0
  have HEB := hid (show wireErr b = PE by rw [HPE.out, packErr, if_neg h0])
  obtain rfl : PO = ⟨#[]⟩ := by rw [HPO.out, packOut, if_neg (by rw [← HPE.out]; exact hn)]
  have hne : (PE != 0) = true := by simpa using hn
  have hze : (PE == 0) = false := by simpa using hn
  have hee : (PE != PE) = false := by simp
  clear h0 hn
  have hq : batchErr b = PE := by rw [← HEB.out, ← want_wire, wantErr, if_neg hs]
  rw [hq]
  clear hq
  have e1 : decide ((1000000 : Int) < b.stamp) = true := decide_eq_true g1
  by_cases g2 : 0 ≤ b.site
  · have e2 : decide ((0 : Int) ≤ b.site) = true := decide_eq_true g2
    have e3 : decide (b.site < (5 : Int)) = false := decide_eq_false (by omega)
    clear hs g1 g2
    go_wp2_with fail
    all_goals
      clear e1 e2 e3
      refine (wire_Check B b Ax cx Ag cg Ap cp _ (HA.out.ext hx)).mono ?_
      rintro e w6 ⟨rfl, hx6⟩
      clear y0 y1 y2 y3 y4
      replace hba := hba.ext hx6
      replace hx := hx.trans hx6
      replace hbc := hbc.ext hx6
      replace hxc := hxc.trans hx6
      rw [HEB.out]
      have y0 := hba.cell (i := 0) (u := .int .i64 b.site) rfl
      have y1 := hba.cell (i := 1) (u := .int .i64 b.stamp) rfl
      have y2 := hba.cell (i := 2) (u := .slice Ax b.vers.length cx) rfl
      have y3 := hba.cell (i := 3) (u := .slice Ag b.gone.length cg) rfl
      have y4 := hba.cell (i := 4) (u := .slice Ap b.parts.length cp) rfl
      go_wp2_with fail
      refine (wire_Sum (bstr l) HS.out _).mono ?_
      rintro e wa ⟨rfl, rfl⟩
      rw [bstr_data]
      go_wp2_with fail
      refine (ref_Sum (bstr l) HS.out _).mono ?_
      rintro e wb ⟨rfl, rfl⟩
      rw [bstr_data]
      have hsum : (sumB l != sumB l) = false := by simp
      go_wp2_with fail
      refine (wire_Sum _ (by decide) _).mono ?_
      rintro e wd ⟨rfl, rfl⟩
      rw [show ∀ s : ByteArray, s = ⟨#[98]⟩ → sumB s.data.toList = 98 from fun s h => by rw [h]; rfl] <;> try rfl
      by_cases q1 : 20000 < l.length
      · have d1 : decide ((20000 : Int) < ((bstr l).size : Int)) = true := decide_eq_true (by rw [bstr_size]; omega)
        obtain rfl : U = 2 := by rw [HU0.out, unpackErr, if_pos q1]
        have hbz := HCZ.out (by decide) _ _ hbc
        have v0 := hbz.cell (i := 0) (u := .int .i64 0) rfl
        have v1 := hbz.cell (i := 1) (u := .int .i64 0) rfl
        have v2 := hbz.cell (i := 2) (u := .slice none 0 0) rfl
        have v3 := hbz.cell (i := 3) (u := .slice none 0 0) rfl
        have v4 := hbz.cell (i := 4) (u := .slice none 0 0) rfl
        clear q1 hbc hbz
        go_wp2_with fail
        refine (ref_SameBatch 0 0 noBatch noBatch none 0 none 0 none 0 none 0 _ InB.empty InB.empty rfl rfl).mono ?_
        rintro e wz ⟨rfl, hxz⟩
        rw [same_none]
        go_wp2_with fail
        go_ret
        exact ⟨rfl, hx.trans hxz⟩
      · by_cases q2 : l.length < 3
        · have d1 : decide ((20000 : Int) < ((bstr l).size : Int)) = false := decide_eq_false (by rw [bstr_size]; omega)
          have d2 : (((bstr l).size : Nat) : Int) < 3 := by rw [bstr_size]; omega
          obtain rfl : U = 7 := by rw [HU0.out, unpackErr, if_neg q1, if_pos q2]
          have hbz := HCZ.out (by decide) _ _ hbc
          have v0 := hbz.cell (i := 0) (u := .int .i64 0) rfl
          have v1 := hbz.cell (i := 1) (u := .int .i64 0) rfl
          have v2 := hbz.cell (i := 2) (u := .slice none 0 0) rfl
          have v3 := hbz.cell (i := 3) (u := .slice none 0 0) rfl
          have v4 := hbz.cell (i := 4) (u := .slice none 0 0) rfl
          clear q1 q2 hbc hbz
          go_wp2_with fail
          refine (ref_SameBatch 0 0 noBatch noBatch none 0 none 0 none 0 none 0 _ InB.empty InB.empty rfl rfl).mono ?_
          rintro e wz ⟨rfl, hxz⟩
          rw [same_none]
          go_wp2_with fail
          go_ret
          exact ⟨rfl, hx.trans hxz⟩
        · obtain ⟨T, x, y, z, rfl⟩ := tail_split l (by omega)
          have hlen : T.length ≤ 19997 := by rw [List.length_append] at q1; simp at q1; omega
          have hsz3 : (bstr (T ++ [x, y, z])).size = T.length + 3 := by rw [bstr_size, List.length_append]; rfl
          have HBY := hid (byte_app T x y z)
          have HU1 := hid (show U = if sumB T = num3 x y z then (if readOk (rbatch (T, false)) = true then 0 else 3) else 8 by
            rw [HU0.out, unpackErr, if_neg q1, if_neg q2, body_app, tail_app])
          clear q1 q2
          obtain ⟨wq, hwq⟩ : ∃ q, q = wd := ⟨_, rfl⟩
          go_wp2_with fail
          rw [← hwq]
          rw [← hwq] at hx hxc hbc
          clear hwq
          refine wp_region_class (fun w' => Ext wq w') (by kernel_rfl) (by kernel_rfl) (Ext.refl wq).drew ?_
          refine wpQuiet_read (v := ?_) (by rfl) (fun w' hSw => ?_) ?_
          rotate_left
          · try dsimp only at hSw
            first
              | (go_simp; done)
              | (go_simp; with_reducible rfl)
          try simp only [Act.put, List.setIfInBounds_toArray, List.set_cons_zero, List.set_cons_succ]
          refine wpQuiet_read (v := ?_) (by rfl) (fun w' hSw => ?_) ?_
          rotate_left
          · try dsimp only at hSw
            first
              | (go_simp; done)
              | (go_simp; with_reducible rfl)
          try simp only [Act.put, List.setIfInBounds_toArray, List.set_cons_zero, List.set_cons_succ]
          refine wpQuiet_read (v := .string (bstr T)) (by rfl) (fun w' hSw => ?_) ?_
          · go_simp
            rw [if_pos (by omega), bstr_take, List.take_left]
          try simp only [Act.put, List.setIfInBounds_toArray, List.set_cons_zero, List.set_cons_succ]
          refine wpQuiet_call (args := #[.string (bstr T)]) Try.call14 (by rfl) (by rfl) (fun w' h => (ref_Sum (bstr T) (by rw [bstr_size]; omega) w').mono fun e w'' q => (show e = .returned (.int .i64 (sumB T)) ∧ Ext wq w'' from ⟨by rw [q.1, bstr_data], by rw [q.2]; exact h⟩)) ?_
          try simp only [Act.put, List.setIfInBounds_toArray, List.set_cons_zero, List.set_cons_succ]
          refine wpQuiet_read (v := ?_) (by rfl) (fun w' hSw => ?_) ?_
          rotate_left
          · try dsimp only at hSw
            first
              | (go_simp; done)
              | (go_simp; with_reducible rfl)
          try simp only [Act.put, List.setIfInBounds_toArray, List.set_cons_zero, List.set_cons_succ]
          refine wpQuiet_read (v := ?_) (by rfl) (fun w' hSw => ?_) ?_
          rotate_left
          · try dsimp only at hSw
            first
              | (go_simp; done)
              | (go_simp; with_reducible rfl)
          try simp only [Act.put, List.setIfInBounds_toArray, List.set_cons_zero, List.set_cons_succ]
          refine wpQuiet_read (v := .int .u8 x.toNat) (by rfl) (fun w' hSw => ?_) ?_
          · go_simp
            rw [dif_pos (by omega)]
            first | rfl | (rw [HBY.out.1]; rfl) | (simp only [HBY.out.1]; rfl)
          try simp only [Act.put, List.setIfInBounds_toArray, List.set_cons_zero, List.set_cons_succ]
          refine wpQuiet_read (v := .int .i64 (x.toNat : Int)) (by rfl) (fun w' hSw => ?_) ?_
          · go_simp
            have := x.toNat_lt
            first | done | (first | rw [IntKind.wrap_i64] | unfold wrap64); omega
          try simp only [Act.put, List.setIfInBounds_toArray, List.set_cons_zero, List.set_cons_succ]
          refine wpQuiet_read (v := .int .i64 ((x.toNat : Int) * 65536)) (by rfl) (fun w' hSw => ?_) ?_
          · go_simp
            have := x.toNat_lt
            first | done | (first | rw [IntKind.wrap_i64] | unfold wrap64); omega
          try simp only [Act.put, List.setIfInBounds_toArray, List.set_cons_zero, List.set_cons_succ]
          refine wpQuiet_read (v := ?_) (by rfl) (fun w' hSw => ?_) ?_
          rotate_left
          · try dsimp only at hSw
            first
              | (go_simp; done)
              | (go_simp; with_reducible rfl)
          try simp only [Act.put, List.setIfInBounds_toArray, List.set_cons_zero, List.set_cons_succ]
          refine wpQuiet_read (v := ?_) (by rfl) (fun w' hSw => ?_) ?_
          rotate_left
          · try dsimp only at hSw
            first
              | (go_simp; done)
              | (go_simp; with_reducible rfl)
          try simp only [Act.put, List.setIfInBounds_toArray, List.set_cons_zero, List.set_cons_succ]
          refine wpQuiet_read (v := .int .i64 ((T.length + 1 : Nat) : Int)) (by rfl) (fun w' hSw => ?_) ?_
          · go_simp
            first | (rw [IntKind.wrap_i64]; omega) | skip
          try simp only [Act.put, List.setIfInBounds_toArray, List.set_cons_zero, List.set_cons_succ]
          refine wpQuiet_read (v := .int .u8 y.toNat) (by rfl) (fun w' hSw => ?_) ?_
          · go_simp
            rw [dif_pos (by omega)]
            first | rfl | (rw [HBY.out.2.1]; rfl) | (simp only [HBY.out.2.1]; rfl)
          try simp only [Act.put, List.setIfInBounds_toArray, List.set_cons_zero, List.set_cons_succ]
          refine wpQuiet_read (v := .int .i64 (y.toNat : Int)) (by rfl) (fun w' hSw => ?_) ?_
          · go_simp
            have := y.toNat_lt
            first | done | (first | rw [IntKind.wrap_i64] | unfold wrap64); omega
          try simp only [Act.put, List.setIfInBounds_toArray, List.set_cons_zero, List.set_cons_succ]
          refine wpQuiet_read (v := .int .i64 ((y.toNat : Int) * 256)) (by rfl) (fun w' hSw => ?_) ?_
          · go_simp
            have := y.toNat_lt
            first | done | (first | rw [IntKind.wrap_i64] | unfold wrap64); omega
          try simp only [Act.put, List.setIfInBounds_toArray, List.set_cons_zero, List.set_cons_succ]
          refine wpQuiet_read (v := .int .i64 ((x.toNat : Int) * 65536 + (y.toNat : Int) * 256)) (by rfl) (fun w' hSw => ?_) ?_
          · go_simp
            have := x.toNat_lt
            have := y.toNat_lt
            first | done | (first | rw [IntKind.wrap_i64] | unfold wrap64); omega
          try simp only [Act.put, List.setIfInBounds_toArray, List.set_cons_zero, List.set_cons_succ]
          refine wpQuiet_read (v := ?_) (by rfl) (fun w' hSw => ?_) ?_
          rotate_left
          · try dsimp only at hSw
            first
              | (go_simp; done)
              | (go_simp; with_reducible rfl)
          try simp only [Act.put, List.setIfInBounds_toArray, List.set_cons_zero, List.set_cons_succ]
          refine wpQuiet_read (v := ?_) (by rfl) (fun w' hSw => ?_) ?_
          rotate_left
          · try dsimp only at hSw
            first
              | (go_simp; done)
              | (go_simp; with_reducible rfl)
          try simp only [Act.put, List.setIfInBounds_toArray, List.set_cons_zero, List.set_cons_succ]
          refine wpQuiet_read (v := .int .i64 ((T.length + 2 : Nat) : Int)) (by rfl) (fun w' hSw => ?_) ?_
          · go_simp
            first | (rw [IntKind.wrap_i64]; omega) | skip
          try simp only [Act.put, List.setIfInBounds_toArray, List.set_cons_zero, List.set_cons_succ]
          refine wpQuiet_read (v := .int .u8 z.toNat) (by rfl) (fun w' hSw => ?_) ?_
          · go_simp
            rw [dif_pos (by omega)]
            first | rfl | (rw [HBY.out.2.2]; rfl) | (simp only [HBY.out.2.2]; rfl)
          try simp only [Act.put, List.setIfInBounds_toArray, List.set_cons_zero, List.set_cons_succ]
          refine wpQuiet_read (v := .int .i64 (z.toNat : Int)) (by rfl) (fun w' hSw => ?_) ?_
          · go_simp
            have := z.toNat_lt
            first | done | (first | rw [IntKind.wrap_i64] | unfold wrap64); omega
          try simp only [Act.put, List.setIfInBounds_toArray, List.set_cons_zero, List.set_cons_succ]
          refine wpQuiet_read (v := .int .i64 (num3 x y z)) (by rfl) (fun w' hSw => ?_) ?_
          · go_simp
            have := x.toNat_lt
            have := y.toNat_lt
            have := z.toNat_lt
            unfold num3
            first | done | (first | rw [IntKind.wrap_i64] | unfold wrap64); omega
          try simp only [Act.put, List.setIfInBounds_toArray, List.set_cons_zero, List.set_cons_succ]
          refine wpQuiet_read (v := ?_) (by rfl) (fun w' hSw => ?_) ?_
          rotate_left
          · try dsimp only at hSw
            first
              | (go_simp; done)
              | (go_simp; with_reducible rfl)
          try simp only [Act.put, List.setIfInBounds_toArray, List.set_cons_zero, List.set_cons_succ]
          refine wpQuiet_read (v := ?_) (by rfl) (fun w' hSw => ?_) ?_
          rotate_left
          · try dsimp only at hSw
            first
              | (go_simp; done)
              | (go_simp; with_reducible rfl)
          try simp only [Act.put, List.setIfInBounds_toArray, List.set_cons_zero, List.set_cons_succ]
          refine wpQuiet_nil ?_
          intro wr hxr
          replace hbc := hbc.ext hxr
          replace hx := hx.trans hxr
          replace hxc := hxc.trans hxr
          clear hxr HBY hsz3 hlen
          by_cases q3 : sumB T = num3 x y z
          · have hne : (sumB T != num3 x y z) = false := by simpa using q3
            rw [if_pos q3] at HU1
            by_cases q4 : readOk (rbatch (T, false)) = true
            · rw [if_pos q4] at HU1
              obtain rfl : U = 0 := HU1.out
              have HOC := hid (wireErr_ok (HCOK.out rfl).1)
              have HPC := hid (HCOK.out rfl).2
              have hbe : batchErr c = 0 := by rw [← (HCOK.out rfl).1, ← want_wire, wantErr, if_neg (by have := HOC.out.t1; omega)]
              have e9 : decide (c.stamp ≤ (1000000 : Int)) = true := decide_eq_true HOC.out.t1
              have y0 := hbc.cell (i := 0) (u := .int .i64 c.site) rfl
              have y1 := hbc.cell (i := 1) (u := .int .i64 c.stamp) rfl
              have y2 := hbc.cell (i := 2) (u := .slice Cx c.vers.length ex) rfl
              have y3 := hbc.cell (i := 3) (u := .slice Cg c.gone.length eg) rfl
              have y4 := hbc.cell (i := 4) (u := .slice Cp c.parts.length ep) rfl
              clear q3 q4
              go_wp2_with fail
              refine (ref_Batch 0 c Cx ex Cg eg Cp ep _ (HC.out.ext hxc)).mono ?_
              rintro e ws ⟨rfl, hxs⟩
              rw [hbe]
              clear hne hbe y0 y1 y2 y3 y4
              replace hbc := hbc.ext hxs
              replace hx := hx.trans hxs
              replace hxc := hxc.trans hxs
              have y0 := hbc.cell (i := 0) (u := .int .i64 c.site) rfl
              have y1 := hbc.cell (i := 1) (u := .int .i64 c.stamp) rfl
              have y2 := hbc.cell (i := 2) (u := .slice Cx c.vers.length ex) rfl
              have y3 := hbc.cell (i := 3) (u := .slice Cg c.gone.length eg) rfl
              have y4 := hbc.cell (i := 4) (u := .slice Cp c.parts.length ep) rfl
              go_wp2_with fail
              refine (ref_Pack 0 c Cx ex Cg eg Cp ep _ (HC.out.ext hxc) HOC.out).mono ?_
              rintro e wt ⟨rfl, hxt⟩
              rw [HPC.out]
              have hee : ((bstr (T ++ [x, y, z])).toList == (bstr (T ++ [x, y, z])).toList) = true := by simp
              clear e9 y0 y1 y2 y3 y4
              go_wp2_with fail
              go_ret
              exact ⟨rfl, hx.trans hxt⟩
            · rw [if_neg q4] at HU1
              obtain rfl : U = 3 := HU1.out
              have hbz := HCZ.out (by decide) _ _ hbc
              have v0 := hbz.cell (i := 0) (u := .int .i64 0) rfl
              have v1 := hbz.cell (i := 1) (u := .int .i64 0) rfl
              have v2 := hbz.cell (i := 2) (u := .slice none 0 0) rfl
              have v3 := hbz.cell (i := 3) (u := .slice none 0 0) rfl
              have v4 := hbz.cell (i := 4) (u := .slice none 0 0) rfl
              clear q3 q4 hbc hbz
              go_wp2_with fail
              refine (ref_SameBatch 0 0 noBatch noBatch none 0 none 0 none 0 none 0 _ InB.empty InB.empty rfl rfl).mono ?_
              rintro e wz ⟨rfl, hxz⟩
              rw [same_none]
              go_wp2_with fail
              go_ret
              exact ⟨rfl, hx.trans hxz⟩
          · have hne : (sumB T != num3 x y z) = true := by simpa using q3
            rw [if_neg q3] at HU1
            obtain rfl : U = 8 := HU1.out
            have hbz := HCZ.out (by decide) _ _ hbc
            have v0 := hbz.cell (i := 0) (u := .int .i64 0) rfl
            have v1 := hbz.cell (i := 1) (u := .int .i64 0) rfl
            have v2 := hbz.cell (i := 2) (u := .slice none 0 0) rfl
            have v3 := hbz.cell (i := 3) (u := .slice none 0 0) rfl
            have v4 := hbz.cell (i := 4) (u := .slice none 0 0) rfl
            clear q3 hbc hbz
            go_wp2_with fail
            refine (ref_SameBatch 0 0 noBatch noBatch none 0 none 0 none 0 none 0 _ InB.empty InB.empty rfl rfl).mono ?_
            rintro e wz ⟨rfl, hxz⟩
            rw [same_none]
            go_wp2_with fail
            go_ret
            exact ⟨rfl, hx.trans hxz⟩
  · have e2 : decide ((0 : Int) ≤ b.site) = false := decide_eq_false g2
    clear hs g1 g2
    go_wp2_with fail
    all_goals
      clear e1 e2
      refine (wire_Check B b Ax cx Ag cg Ap cp _ (HA.out.ext hx)).mono ?_
      rintro e w6 ⟨rfl, hx6⟩
      clear y0 y1 y2 y3 y4
      replace hba := hba.ext hx6
      replace hx := hx.trans hx6
      replace hbc := hbc.ext hx6
      replace hxc := hxc.trans hx6
      rw [HEB.out]
      have y0 := hba.cell (i := 0) (u := .int .i64 b.site) rfl
      have y1 := hba.cell (i := 1) (u := .int .i64 b.stamp) rfl
      have y2 := hba.cell (i := 2) (u := .slice Ax b.vers.length cx) rfl
      have y3 := hba.cell (i := 3) (u := .slice Ag b.gone.length cg) rfl
      have y4 := hba.cell (i := 4) (u := .slice Ap b.parts.length cp) rfl
      go_wp2_with fail
      refine (wire_Sum (bstr l) HS.out _).mono ?_
      rintro e wa ⟨rfl, rfl⟩
      rw [bstr_data]
      go_wp2_with fail
      refine (ref_Sum (bstr l) HS.out _).mono ?_
      rintro e wb ⟨rfl, rfl⟩
      rw [bstr_data]
      have hsum : (sumB l != sumB l) = false := by simp
      go_wp2_with fail
      refine (wire_Sum _ (by decide) _).mono ?_
      rintro e wd ⟨rfl, rfl⟩
      rw [show ∀ s : ByteArray, s = ⟨#[98]⟩ → sumB s.data.toList = 98 from fun s h => by rw [h]; rfl] <;> try rfl
      by_cases q1 : 20000 < l.length
      · have d1 : decide ((20000 : Int) < ((bstr l).size : Int)) = true := decide_eq_true (by rw [bstr_size]; omega)
        obtain rfl : U = 2 := by rw [HU0.out, unpackErr, if_pos q1]
        have hbz := HCZ.out (by decide) _ _ hbc
        have v0 := hbz.cell (i := 0) (u := .int .i64 0) rfl
        have v1 := hbz.cell (i := 1) (u := .int .i64 0) rfl
        have v2 := hbz.cell (i := 2) (u := .slice none 0 0) rfl
        have v3 := hbz.cell (i := 3) (u := .slice none 0 0) rfl
        have v4 := hbz.cell (i := 4) (u := .slice none 0 0) rfl
        clear q1 hbc hbz
        go_wp2_with fail
        refine (ref_SameBatch 0 0 noBatch noBatch none 0 none 0 none 0 none 0 _ InB.empty InB.empty rfl rfl).mono ?_
        rintro e wz ⟨rfl, hxz⟩
        rw [same_none]
        go_wp2_with fail
        go_ret
        exact ⟨rfl, hx.trans hxz⟩
      · by_cases q2 : l.length < 3
        · have d1 : decide ((20000 : Int) < ((bstr l).size : Int)) = false := decide_eq_false (by rw [bstr_size]; omega)
          have d2 : (((bstr l).size : Nat) : Int) < 3 := by rw [bstr_size]; omega
          obtain rfl : U = 7 := by rw [HU0.out, unpackErr, if_neg q1, if_pos q2]
          have hbz := HCZ.out (by decide) _ _ hbc
          have v0 := hbz.cell (i := 0) (u := .int .i64 0) rfl
          have v1 := hbz.cell (i := 1) (u := .int .i64 0) rfl
          have v2 := hbz.cell (i := 2) (u := .slice none 0 0) rfl
          have v3 := hbz.cell (i := 3) (u := .slice none 0 0) rfl
          have v4 := hbz.cell (i := 4) (u := .slice none 0 0) rfl
          clear q1 q2 hbc hbz
          go_wp2_with fail
          refine (ref_SameBatch 0 0 noBatch noBatch none 0 none 0 none 0 none 0 _ InB.empty InB.empty rfl rfl).mono ?_
          rintro e wz ⟨rfl, hxz⟩
          rw [same_none]
          go_wp2_with fail
          go_ret
          exact ⟨rfl, hx.trans hxz⟩
        · obtain ⟨T, x, y, z, rfl⟩ := tail_split l (by omega)
          have hlen : T.length ≤ 19997 := by rw [List.length_append] at q1; simp at q1; omega
          have hsz3 : (bstr (T ++ [x, y, z])).size = T.length + 3 := by rw [bstr_size, List.length_append]; rfl
          have HBY := hid (byte_app T x y z)
          have HU1 := hid (show U = if sumB T = num3 x y z then (if readOk (rbatch (T, false)) = true then 0 else 3) else 8 by
            rw [HU0.out, unpackErr, if_neg q1, if_neg q2, body_app, tail_app])
          clear q1 q2
          obtain ⟨wq, hwq⟩ : ∃ q, q = wd := ⟨_, rfl⟩
          go_wp2_with fail
          rw [← hwq]
          rw [← hwq] at hx hxc hbc
          clear hwq
          refine wp_region_class (fun w' => Ext wq w') (by kernel_rfl) (by kernel_rfl) (Ext.refl wq).drew ?_
          refine wpQuiet_read (v := ?_) (by rfl) (fun w' hSw => ?_) ?_
          rotate_left
          · try dsimp only at hSw
            first
              | (go_simp; done)
              | (go_simp; with_reducible rfl)
          try simp only [Act.put, List.setIfInBounds_toArray, List.set_cons_zero, List.set_cons_succ]
          refine wpQuiet_read (v := ?_) (by rfl) (fun w' hSw => ?_) ?_
          rotate_left
          · try dsimp only at hSw
            first
              | (go_simp; done)
              | (go_simp; with_reducible rfl)
          try simp only [Act.put, List.setIfInBounds_toArray, List.set_cons_zero, List.set_cons_succ]
          refine wpQuiet_read (v := .string (bstr T)) (by rfl) (fun w' hSw => ?_) ?_
          · go_simp
            rw [if_pos (by omega), bstr_take, List.take_left]
          try simp only [Act.put, List.setIfInBounds_toArray, List.set_cons_zero, List.set_cons_succ]
          refine wpQuiet_call (args := #[.string (bstr T)]) Try.call14 (by rfl) (by rfl) (fun w' h => (ref_Sum (bstr T) (by rw [bstr_size]; omega) w').mono fun e w'' q => (show e = .returned (.int .i64 (sumB T)) ∧ Ext wq w'' from ⟨by rw [q.1, bstr_data], by rw [q.2]; exact h⟩)) ?_
          try simp only [Act.put, List.setIfInBounds_toArray, List.set_cons_zero, List.set_cons_succ]
          refine wpQuiet_read (v := ?_) (by rfl) (fun w' hSw => ?_) ?_
          rotate_left
          · try dsimp only at hSw
            first
              | (go_simp; done)
              | (go_simp; with_reducible rfl)
          try simp only [Act.put, List.setIfInBounds_toArray, List.set_cons_zero, List.set_cons_succ]
          refine wpQuiet_read (v := ?_) (by rfl) (fun w' hSw => ?_) ?_
          rotate_left
          · try dsimp only at hSw
            first
              | (go_simp; done)
              | (go_simp; with_reducible rfl)
          try simp only [Act.put, List.setIfInBounds_toArray, List.set_cons_zero, List.set_cons_succ]
          refine wpQuiet_read (v := .int .u8 x.toNat) (by rfl) (fun w' hSw => ?_) ?_
          · go_simp
            rw [dif_pos (by omega)]
            first | rfl | (rw [HBY.out.1]; rfl) | (simp only [HBY.out.1]; rfl)
          try simp only [Act.put, List.setIfInBounds_toArray, List.set_cons_zero, List.set_cons_succ]
          refine wpQuiet_read (v := .int .i64 (x.toNat : Int)) (by rfl) (fun w' hSw => ?_) ?_
          · go_simp
            have := x.toNat_lt
            first | done | (first | rw [IntKind.wrap_i64] | unfold wrap64); omega
          try simp only [Act.put, List.setIfInBounds_toArray, List.set_cons_zero, List.set_cons_succ]
          refine wpQuiet_read (v := .int .i64 ((x.toNat : Int) * 65536)) (by rfl) (fun w' hSw => ?_) ?_
          · go_simp
            have := x.toNat_lt
            first | done | (first | rw [IntKind.wrap_i64] | unfold wrap64); omega
          try simp only [Act.put, List.setIfInBounds_toArray, List.set_cons_zero, List.set_cons_succ]
          refine wpQuiet_read (v := ?_) (by rfl) (fun w' hSw => ?_) ?_
          rotate_left
          · try dsimp only at hSw
            first
              | (go_simp; done)
              | (go_simp; with_reducible rfl)
          try simp only [Act.put, List.setIfInBounds_toArray, List.set_cons_zero, List.set_cons_succ]
          refine wpQuiet_read (v := ?_) (by rfl) (fun w' hSw => ?_) ?_
          rotate_left
          · try dsimp only at hSw
            first
              | (go_simp; done)
              | (go_simp; with_reducible rfl)
          try simp only [Act.put, List.setIfInBounds_toArray, List.set_cons_zero, List.set_cons_succ]
          refine wpQuiet_read (v := .int .i64 ((T.length + 1 : Nat) : Int)) (by rfl) (fun w' hSw => ?_) ?_
          · go_simp
            first | (rw [IntKind.wrap_i64]; omega) | skip
          try simp only [Act.put, List.setIfInBounds_toArray, List.set_cons_zero, List.set_cons_succ]
          refine wpQuiet_read (v := .int .u8 y.toNat) (by rfl) (fun w' hSw => ?_) ?_
          · go_simp
            rw [dif_pos (by omega)]
            first | rfl | (rw [HBY.out.2.1]; rfl) | (simp only [HBY.out.2.1]; rfl)
          try simp only [Act.put, List.setIfInBounds_toArray, List.set_cons_zero, List.set_cons_succ]
          refine wpQuiet_read (v := .int .i64 (y.toNat : Int)) (by rfl) (fun w' hSw => ?_) ?_
          · go_simp
            have := y.toNat_lt
            first | done | (first | rw [IntKind.wrap_i64] | unfold wrap64); omega
          try simp only [Act.put, List.setIfInBounds_toArray, List.set_cons_zero, List.set_cons_succ]
          refine wpQuiet_read (v := .int .i64 ((y.toNat : Int) * 256)) (by rfl) (fun w' hSw => ?_) ?_
          · go_simp
            have := y.toNat_lt
            first | done | (first | rw [IntKind.wrap_i64] | unfold wrap64); omega
          try simp only [Act.put, List.setIfInBounds_toArray, List.set_cons_zero, List.set_cons_succ]
          refine wpQuiet_read (v := .int .i64 ((x.toNat : Int) * 65536 + (y.toNat : Int) * 256)) (by rfl) (fun w' hSw => ?_) ?_
          · go_simp
            have := x.toNat_lt
            have := y.toNat_lt
            first | done | (first | rw [IntKind.wrap_i64] | unfold wrap64); omega
          try simp only [Act.put, List.setIfInBounds_toArray, List.set_cons_zero, List.set_cons_succ]
          refine wpQuiet_read (v := ?_) (by rfl) (fun w' hSw => ?_) ?_
          rotate_left
          · try dsimp only at hSw
            first
              | (go_simp; done)
              | (go_simp; with_reducible rfl)
          try simp only [Act.put, List.setIfInBounds_toArray, List.set_cons_zero, List.set_cons_succ]
          refine wpQuiet_read (v := ?_) (by rfl) (fun w' hSw => ?_) ?_
          rotate_left
          · try dsimp only at hSw
            first
              | (go_simp; done)
              | (go_simp; with_reducible rfl)
          try simp only [Act.put, List.setIfInBounds_toArray, List.set_cons_zero, List.set_cons_succ]
          refine wpQuiet_read (v := .int .i64 ((T.length + 2 : Nat) : Int)) (by rfl) (fun w' hSw => ?_) ?_
          · go_simp
            first | (rw [IntKind.wrap_i64]; omega) | skip
          try simp only [Act.put, List.setIfInBounds_toArray, List.set_cons_zero, List.set_cons_succ]
          refine wpQuiet_read (v := .int .u8 z.toNat) (by rfl) (fun w' hSw => ?_) ?_
          · go_simp
            rw [dif_pos (by omega)]
            first | rfl | (rw [HBY.out.2.2]; rfl) | (simp only [HBY.out.2.2]; rfl)
          try simp only [Act.put, List.setIfInBounds_toArray, List.set_cons_zero, List.set_cons_succ]
          refine wpQuiet_read (v := .int .i64 (z.toNat : Int)) (by rfl) (fun w' hSw => ?_) ?_
          · go_simp
            have := z.toNat_lt
            first | done | (first | rw [IntKind.wrap_i64] | unfold wrap64); omega
          try simp only [Act.put, List.setIfInBounds_toArray, List.set_cons_zero, List.set_cons_succ]
          refine wpQuiet_read (v := .int .i64 (num3 x y z)) (by rfl) (fun w' hSw => ?_) ?_
          · go_simp
            have := x.toNat_lt
            have := y.toNat_lt
            have := z.toNat_lt
            unfold num3
            first | done | (first | rw [IntKind.wrap_i64] | unfold wrap64); omega
          try simp only [Act.put, List.setIfInBounds_toArray, List.set_cons_zero, List.set_cons_succ]
          refine wpQuiet_read (v := ?_) (by rfl) (fun w' hSw => ?_) ?_
          rotate_left
          · try dsimp only at hSw
            first
              | (go_simp; done)
              | (go_simp; with_reducible rfl)
          try simp only [Act.put, List.setIfInBounds_toArray, List.set_cons_zero, List.set_cons_succ]
          refine wpQuiet_read (v := ?_) (by rfl) (fun w' hSw => ?_) ?_
          rotate_left
          · try dsimp only at hSw
            first
              | (go_simp; done)
              | (go_simp; with_reducible rfl)
          try simp only [Act.put, List.setIfInBounds_toArray, List.set_cons_zero, List.set_cons_succ]
          refine wpQuiet_nil ?_
          intro wr hxr
          replace hbc := hbc.ext hxr
          replace hx := hx.trans hxr
          replace hxc := hxc.trans hxr
          clear hxr HBY hsz3 hlen
          by_cases q3 : sumB T = num3 x y z
          · have hne : (sumB T != num3 x y z) = false := by simpa using q3
            rw [if_pos q3] at HU1
            by_cases q4 : readOk (rbatch (T, false)) = true
            · rw [if_pos q4] at HU1
              obtain rfl : U = 0 := HU1.out
              have HOC := hid (wireErr_ok (HCOK.out rfl).1)
              have HPC := hid (HCOK.out rfl).2
              have hbe : batchErr c = 0 := by rw [← (HCOK.out rfl).1, ← want_wire, wantErr, if_neg (by have := HOC.out.t1; omega)]
              have e9 : decide (c.stamp ≤ (1000000 : Int)) = true := decide_eq_true HOC.out.t1
              have y0 := hbc.cell (i := 0) (u := .int .i64 c.site) rfl
              have y1 := hbc.cell (i := 1) (u := .int .i64 c.stamp) rfl
              have y2 := hbc.cell (i := 2) (u := .slice Cx c.vers.length ex) rfl
              have y3 := hbc.cell (i := 3) (u := .slice Cg c.gone.length eg) rfl
              have y4 := hbc.cell (i := 4) (u := .slice Cp c.parts.length ep) rfl
              clear q3 q4
              go_wp2_with fail
              refine (ref_Batch 0 c Cx ex Cg eg Cp ep _ (HC.out.ext hxc)).mono ?_
              rintro e ws ⟨rfl, hxs⟩
              rw [hbe]
              clear hne hbe y0 y1 y2 y3 y4
              replace hbc := hbc.ext hxs
              replace hx := hx.trans hxs
              replace hxc := hxc.trans hxs
              have y0 := hbc.cell (i := 0) (u := .int .i64 c.site) rfl
              have y1 := hbc.cell (i := 1) (u := .int .i64 c.stamp) rfl
              have y2 := hbc.cell (i := 2) (u := .slice Cx c.vers.length ex) rfl
              have y3 := hbc.cell (i := 3) (u := .slice Cg c.gone.length eg) rfl
              have y4 := hbc.cell (i := 4) (u := .slice Cp c.parts.length ep) rfl
              go_wp2_with fail
              refine (ref_Pack 0 c Cx ex Cg eg Cp ep _ (HC.out.ext hxc) HOC.out).mono ?_
              rintro e wt ⟨rfl, hxt⟩
              rw [HPC.out]
              have hee : ((bstr (T ++ [x, y, z])).toList == (bstr (T ++ [x, y, z])).toList) = true := by simp
              clear e9 y0 y1 y2 y3 y4
              go_wp2_with fail
              go_ret
              exact ⟨rfl, hx.trans hxt⟩
            · rw [if_neg q4] at HU1
              obtain rfl : U = 3 := HU1.out
              have hbz := HCZ.out (by decide) _ _ hbc
              have v0 := hbz.cell (i := 0) (u := .int .i64 0) rfl
              have v1 := hbz.cell (i := 1) (u := .int .i64 0) rfl
              have v2 := hbz.cell (i := 2) (u := .slice none 0 0) rfl
              have v3 := hbz.cell (i := 3) (u := .slice none 0 0) rfl
              have v4 := hbz.cell (i := 4) (u := .slice none 0 0) rfl
              clear q3 q4 hbc hbz
              go_wp2_with fail
              refine (ref_SameBatch 0 0 noBatch noBatch none 0 none 0 none 0 none 0 _ InB.empty InB.empty rfl rfl).mono ?_
              rintro e wz ⟨rfl, hxz⟩
              rw [same_none]
              go_wp2_with fail
              go_ret
              exact ⟨rfl, hx.trans hxz⟩
          · have hne : (sumB T != num3 x y z) = true := by simpa using q3
            rw [if_neg q3] at HU1
            obtain rfl : U = 8 := HU1.out
            have hbz := HCZ.out (by decide) _ _ hbc
            have v0 := hbz.cell (i := 0) (u := .int .i64 0) rfl
            have v1 := hbz.cell (i := 1) (u := .int .i64 0) rfl
            have v2 := hbz.cell (i := 2) (u := .slice none 0 0) rfl
            have v3 := hbz.cell (i := 3) (u := .slice none 0 0) rfl
            have v4 := hbz.cell (i := 4) (u := .slice none 0 0) rfl
            clear q3 hbc hbz
            go_wp2_with fail
            refine (ref_SameBatch 0 0 noBatch noBatch none 0 none 0 none 0 none 0 _ InB.empty InB.empty rfl rfl).mono ?_
            rintro e wz ⟨rfl, hxz⟩
            rw [same_none]
            go_wp2_with fail
            go_ret
            exact ⟨rfl, hx.trans hxz⟩

end Go.Proofs.Ytmedmfjhpabfdaa
