/- The walks of the document's knows and Pack. -/
import Derived.Test.YtmedmfjhpabfdaaWireI
import Derived.Test.YtmedmfjhpabfdaaWireB
namespace Go.Proofs.Ytmedmfjhpabfdaa
open Go Go.RowKit

theorem ref_threeI (n : Int) (hn : 0 ≤ n ∧ n < 16777216) (w : World) :
    Calls Try.prog 63 #[.int .i64 n] w fun e w' => e = .returned (.string (bstr (three n))) ∧ Ext w w' := by
  obtain ⟨m, rfl⟩ := Int.eq_ofNat_of_zero_le hn.1
  exact ref_three m (by omega) w
theorem three_class (C : World → Prop) (hC : ∀ w w', C w → Ext w w' → C w') : ∀ n : Int, 0 ≤ n ∧ n < 16777216 → ∀ w, C w → Calls Try.prog 63 #[.int .i64 n] w fun e w' => e = .returned (.string (bstr (three n))) ∧ C w' :=
  fun n hn w h => (ref_threeI n hn w).mono fun _ _ x => ⟨x.1, hC _ _ h x.2⟩
theorem cat_ok (a b : List UInt8) (h : a.length + b.length ≤ 1000000000) : (9223372036854775807 < (bstr a).size + (bstr b).size) = False := by
  rw [bstr_size, bstr_size]
  exact eq_false (by omega)
theorem nums_two' (a b : Int) : nums [a, b] = three a ++ three b := by simp [nums]
set_option maxRecDepth 100000 in
set_option maxHeartbeats 2000000 in
theorem ref_knows (B : Nat) (k : Know) (Av : Option Addr) (cv : Nat) (Am : Option Addr) (cm : Nat) (w : World) (hi : InK B w Av Am k) (hk : KnowOk k) :
    Calls Try.prog 64 #[.agg #[.slice Av k.vec.length cv, .slice Am k.more.length cm]] w fun e w' => e = .returned (.string (bstr (knowB k))) ∧ Ext w w' := by
  have HK := hid hk
  have HI := hid hi
  clear hk hi
  have hx := (Ext.refl w).alloc (.cells #[.slice Av k.vec.length cv, .slice Am k.more.length cm] 44)
  have hbk := Blk.new w 44 #[.slice Av k.vec.length cv, .slice Am k.more.length cm]
  have y0 := hbk.cell (i := 0) (u := .slice Av k.vec.length cv) rfl
  go_enter Try.func64, Try.ntmps64
  go_wp2_with fail
  refine (ref_three k.vec.length (by have := HK.out.vlen; omega) _).mono ?_
  rintro e w1 ⟨rfl, hx1⟩
  replace hbk := hbk.ext hx1
  replace hx := hx.trans hx1
  clear y0 hx1
  have y0 := hbk.cell (i := 0) (u := .slice Av k.vec.length cv) rfl
  have hl5 : k.vec.length ≤ 5 := HK.out.vlen
  have hl60 : k.more.length ≤ 60 := HK.out.mlen
  go_wp2_with fail
  clear y0
  go_loopw [15, 3] (fun i s wr => ∃ j : Nat, j ≤ k.vec.length ∧ i = .int .i64 j ∧ s = .string (bstr (three k.vec.length ++ nums (k.vec.take j))) ∧ Ext w wr ∧ Blk wr w.heap.size 44 #[.slice Av k.vec.length cv, .slice Am k.more.length cm]) (fun i _ _ => k.vec.length - (intOf i).toNat)
  case atStart => exact ⟨0, Nat.zero_le _, rfl, by simp [nums], hx, hbk⟩
  case round =>
    clear hx hbk
    obtain ⟨j, hj, rfl, rfl, hx, hbk⟩ := hrel
    by_cases hlt : j < k.vec.length
    · obtain ⟨b, off, hA, hlb, hc⟩ := (HI.out.sv.ext RInt.mono hx).int hlt
      subst hA
      have HN := hid (HK.out.vec _ (List.getElem_mem hlt))
      have HS := hid (show nums (k.vec.take (j + 1)) = nums (k.vec.take j) ++ three k.vec[j] from nums_take _ _ hlt)
      obtain ⟨n, hn⟩ : ∃ n, n = k.vec[j] := ⟨_, rfl⟩
      rw [← hn] at hc HN HS
      clear hn
      have hcat := cat_ok (three k.vec.length ++ nums (k.vec.take j)) (three n) (by
        rw [List.length_append, nums_len, List.length_take, three_len, three_len]
        omega)
      go_wp2_with fail
      refine (ref_threeI n (by have := HN.out; omega) _).mono ?_
      rintro e w2 ⟨rfl, hx2⟩
      clear hc
      go_wp2_with fail
      go_roundw
      case rel => exact ⟨j + 1, hlt, by go_num, by rw [HS.out, bstr_append, List.append_assoc], hx.trans hx2, hbk.ext hx2⟩
      case measure => simp [intOf]; omega
    · obtain rfl : j = k.vec.length := by omega
      rw [List.take_length]
      have y1 := hbk.cell (i := 1) (u := .slice Am k.more.length cm) rfl
      go_wp2_with fail
      refine (ref_three k.more.length (by omega) _).mono ?_
      rintro e w2 ⟨rfl, hx2⟩
      replace hbk := hbk.ext hx2
      replace hx := hx.trans hx2
      clear y1 hx2
      have hcat := cat_ok (three k.vec.length ++ nums k.vec) (three k.more.length) (by
        rw [List.length_append, nums_len, three_len, three_len]
        omega)
      obtain ⟨O, hO⟩ : ∃ O, O = three k.vec.length ++ nums k.vec ++ three k.more.length := ⟨_, rfl⟩
      have HO := hid (show knowB k = O ++ dotsB k.more by rw [hO, knowB])
      have HLO := hid (show O.length ≤ 30 by rw [hO, List.length_append, List.length_append, nums_len, three_len, three_len]; omega)
      have HCO := hid (show bstr (three k.vec.length ++ nums k.vec) ++ bstr (three k.more.length) = bstr O by rw [hO, bstr_append])
      clear hO
      have y1 := hbk.cell (i := 1) (u := .slice Am k.more.length cm) rfl
      go_wp2_with fail
      rw [HCO.out]
      clear hcat HCO
      clear y1 hbk hlt
      go_loopw [33, 3] (fun i s wr => ∃ j : Nat, j ≤ k.more.length ∧ i = .int .i64 j ∧ s = .string (bstr (O ++ dotsB (k.more.take j))) ∧ Ext w wr) (fun i _ _ => k.more.length - (intOf i).toNat)
      case atStart => exact ⟨0, Nat.zero_le _, rfl, by simp [dotsB], hx⟩
      case round =>
        clear hx
        obtain ⟨j, hj, rfl, rfl, hx⟩ := hrel
        by_cases hlt : j < k.more.length
        · obtain ⟨b, off, hA, hlb, hc0, hc1⟩ := (HI.out.sm.ext RPair.mono hx).pair hlt
          subst hA
          have HN := hid (dotOk_iff.1 (HK.out.more _ (List.getElem_mem hlt)).1)
          have HS := hid (show dotsB (k.more.take (j + 1)) = dotsB (k.more.take j) ++ nums [k.more[j].site, k.more[j].count] from flat_take _ _ _ hlt)
          obtain ⟨d, hd⟩ : ∃ d, d = k.more[j] := ⟨_, rfl⟩
          rw [← hd] at hc0 hc1 HN HS
          clear hd
          have hxa := (Ext.refl wr).alloc (.cells #[.int .i64 d.site, .int .i64 d.count] 38)
          have hbd := Blk.new wr 38 #[.int .i64 d.site, .int .i64 d.count]
          go_wp2_with fail
          clear hc0 hc1
          obtain ⟨w3, hw3⟩ : ∃ x, x = wr.alloc (.cells #[.int .i64 d.site, .int .i64 d.count] 38) := ⟨_, rfl⟩
          rw [← hw3] at hxa hbd ⊢
          clear hw3
          obtain ⟨r, hr⟩ : ∃ x, x = wr.heap.size := ⟨_, rfl⟩
          rw [← hr] at hbd ⊢
          clear hr
          have HAll := hid (fun w' (x : Ext w3 w') => show w'.cell? ⟨r, 0, none⟩ = some (.int .i64 d.site) ∧ w'.cell? ⟨r, 1, none⟩ = some (.int .i64 d.count) from ⟨(hbd.ext x).cell rfl, (hbd.ext x).cell rfl⟩)
          have HT := hid (three_class (fun w' => Ext w3 w' ∧ w'.cell? ⟨r, 0, none⟩ = some (.int .i64 d.site) ∧ w'.cell? ⟨r, 1, none⟩ = some (.int .i64 d.count)) (fun w' w'' h x => ⟨h.1.trans x, HAll.out _ (h.1.trans x)⟩))
          refine wp_region_class (fun w' => Ext w3 w' ∧ w'.cell? ⟨r, 0, none⟩ = some (.int .i64 d.site) ∧ w'.cell? ⟨r, 1, none⟩ = some (.int .i64 d.count)) (by kernel_rfl) (by kernel_rfl) ⟨(Ext.refl _).drew, HAll.out _ (Ext.refl _).drew⟩ ?_
          refine wpQuiet_read (v := ?_) (by rfl) (fun w' hSw => ?_) ?_
          rotate_left
          · try dsimp only at hSw
            first
              | (go_simp; done)
              | (go_simp; with_reducible rfl)
          try simp only [Act.put, List.setIfInBounds_toArray, List.set_cons_zero, List.set_cons_succ]
          refine wpQuiet_read (v := ?_) (by rfl) (fun w' hSw => ?_) ?_
          rotate_left
          · try dsimp only at hSw
            first
              | (go_simp; done)
              | (go_simp; with_reducible rfl)
          try simp only [Act.put, List.setIfInBounds_toArray, List.set_cons_zero, List.set_cons_succ]
          refine wpQuiet_read (v := ?_) (by rfl) (fun w' hSw => ?_) ?_
          rotate_left
          · try dsimp only at hSw
            first
              | (go_simp; done)
              | (go_simp; with_reducible rfl)
          try simp only [Act.put, List.setIfInBounds_toArray, List.set_cons_zero, List.set_cons_succ]
          refine wpQuiet_call (args := #[.int .i64 (d.site)]) Try.call63 (by rfl) (by rfl) (HT.out (d.site) (by have := HN.out; omega)) ?_
          try simp only [Act.put, List.setIfInBounds_toArray, List.set_cons_zero, List.set_cons_succ]
          refine wpQuiet_read (v := ?_) (by rfl) (fun w' hSw => ?_) ?_
          rotate_left
          · try dsimp only at hSw
            first
              | (go_simp; done)
              | (go_simp; with_reducible rfl)
          try simp only [Act.put, List.setIfInBounds_toArray, List.set_cons_zero, List.set_cons_succ]
          refine wpQuiet_read (v := ?_) (by rfl) (fun w' hSw => ?_) ?_
          rotate_left
          · try dsimp only at hSw
            first
              | (go_simp; done)
              | (go_simp; with_reducible rfl)
          try simp only [Act.put, List.setIfInBounds_toArray, List.set_cons_zero, List.set_cons_succ]
          refine wpQuiet_call (args := #[.int .i64 (d.count)]) Try.call63 (by rfl) (by rfl) (HT.out (d.count) (by have := HN.out; omega)) ?_
          try simp only [Act.put, List.setIfInBounds_toArray, List.set_cons_zero, List.set_cons_succ]
          refine wpQuiet_read (v := .string (bstr (three d.site ++ three d.count))) (by rfl) (fun w' hSw => ?_) ?_
          · have hcat := cat_ok (three d.site) (three d.count) (by simp only [three_len]; omega)
            go_simp
            rw [bstr_append]
            try simp only [List.append_assoc]
          try simp only [Act.put, List.setIfInBounds_toArray, List.set_cons_zero, List.set_cons_succ]
          refine wpQuiet_read (v := .string (bstr ((O ++ dotsB (k.more.take j)) ++ (three d.site ++ three d.count)))) (by rfl) (fun w' hSw => ?_) ?_
          · have hcat := cat_ok ((O ++ dotsB (k.more.take j))) ((three d.site ++ three d.count)) (by have h1 := dotsB_len (k.more.take j); rw [List.length_take] at h1; have := HLO.out; simp only [List.length_append, three_len]; omega)
            go_simp
            rw [bstr_append]
            try simp only [List.append_assoc]
          try simp only [Act.put, List.setIfInBounds_toArray, List.set_cons_zero, List.set_cons_succ]
          refine wpQuiet_read (v := ?_) (by rfl) (fun w' hSw => ?_) ?_
          rotate_left
          · try dsimp only at hSw
            first
              | (go_simp; done)
              | (go_simp; with_reducible rfl)
          try simp only [Act.put, List.setIfInBounds_toArray, List.set_cons_zero, List.set_cons_succ]
          refine wpQuiet_nil ?_
          intro w4 hw4
          have hxn := hw4.1
          clear hw4
          go_wp2_with fail
          go_roundw
          case rel => exact ⟨j + 1, hlt, by go_num, by rw [HS.out, nums_two'], (hx.trans hxa).trans hxn⟩
          case measure => simp [intOf]; omega
        · obtain rfl : j = k.more.length := by omega
          rw [List.take_length, ← HO.out]
          go_wp2_with fail
          go_ret
          exact ⟨rfl, hx⟩
end Go.Proofs.Ytmedmfjhpabfdaa
