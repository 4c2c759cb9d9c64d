/- The walks of the reader: numbers, texts. -/
import Derived.Test.YtmedmfjhpabfdaaWireI
import Derived.Test.YtmedmfjhpabfdaaWireR
import Derived.Test.YtmedmfjhpabfdaaBase
import Derived.Laws.BitsLemmas
namespace Go.Proofs.Ytmedmfjhpabfdaa
open Go Go.RowKit

theorem num3_bits (a b c : UInt8) : bits .or .i64 (bits .or .i64 (IntKind.i64.wrap (IntKind.i64.wrap (a.toNat : Int) * 65536)) (IntKind.i64.wrap (IntKind.i64.wrap (b.toNat : Int) * 256))) (IntKind.i64.wrap (c.toNat : Int)) = num3 a b c := by
  have h1 := a.toNat_lt
  have h2 := b.toNat_lt
  have h3 := c.toNat_lt
  have w1 : IntKind.i64.wrap (IntKind.i64.wrap (a.toNat : Int) * 65536) = (a.toNat : Int) * 65536 := by
    rw [IntKind.wrap_i64, IntKind.wrap_i64]
    omega
  have w2 : IntKind.i64.wrap (IntKind.i64.wrap (b.toNat : Int) * 256) = (b.toNat : Int) * 256 := by
    rw [IntKind.wrap_i64, IntKind.wrap_i64]
    omega
  have w3 : IntKind.i64.wrap (c.toNat : Int) = (c.toNat : Int) := by
    rw [IntKind.wrap_i64]
    omega
  have hk : ∀ n : Int, 0 ≤ n → n < 2 ^ 60 → IntKind.i64.wrap n = n := fun n h h' => by
    rw [IntKind.wrap_i64]
    omega
  rw [w1, w2, w3, bits_join .i64 60 (by decide) hk 16 ((a.toNat : Int) * 65536) ((b.toNat : Int) * 256) (by omega) (by omega) (by omega) (by omega) (by omega) (by omega),
    bits_join .i64 60 (by decide) hk 8 ((a.toNat : Int) * 65536 + (b.toNat : Int) * 256) (c.toNat : Int) (by omega) (by omega) (by omega) (by omega) (by omega) (by omega)]
  unfold num3
  omega
theorem bstr_take (l : List UInt8) (k : Nat) : (bstr l).extract 0 k = bstr (l.take k) := by
  apply ByteArray.ext
  simp [bstr]
theorem bstr_drop (l : List UInt8) (k : Nat) : (bstr l).extract k (bstr l).size = bstr (l.drop k) := by
  apply ByteArray.ext
  simp [bstr, ByteArray.size, List.take_of_length_le]
theorem rnum_cons (most : Int) (a b c : UInt8) (r : List UInt8) (f : Bool) : rnum most (a :: b :: c :: r, f) = if most < num3 a b c then (0, (r, true)) else (num3 a b c, (r, f)) := rfl
theorem rnum_short (most : Int) (s : List UInt8) (f : Bool) (h : s.length < 3) : rnum most (s, f) = (0, (s, true)) := by
  match s, h with
  | [], _ => rfl
  | [_], _ => rfl
  | [_, _], _ => rfl
set_option maxRecDepth 100000 in
set_option maxHeartbeats 1000000 in
theorem rd_num (base p : Nat) (most : Int) (st : RS) (w : World) (hp : base ≤ p) (hb : Blk w p 114 #[.string (bstr st.1), .bool st.2]) :
    Calls Try.prog 56 #[.pointer (some ⟨p, 0, none⟩), .int .i64 most] w fun e w' => e = .returned (.int .i64 (rnum most st).1) ∧ Blk w' p 114 #[.string (bstr (rnum most st).2.1), .bool (rnum most st).2.2] ∧ Chg base [114] w w' := by
  obtain ⟨s, f⟩ := st
  simp only at hb
  have y0 := hb.cell (i := 0) (u := .string (bstr s)) rfl
  have y1 := hb.cell (i := 1) (u := .bool f) rfl
  have z0 := hb.frozen 0
  have z1 := hb.frozen 1
  have hsz := bstr_size s
  have HB := hid hb
  clear hb
  by_cases h3 : s.length < 3
  · have hd : decide (((bstr s).size : Int) < 3) = true := decide_eq_true (by omega)
    have HR := hid (rnum_short most s f h3)
    clear hsz h3
    go_enter Try.func56, Try.ntmps56
    go_wp2_with fail
    go_ret
    rw [HR.out]
    exact ⟨rfl, HB.out.set 1 _, (Chg.refl w).setCell (p := ⟨p, 1, none⟩) HB.out.ty (by simp) _ hp⟩
  · obtain ⟨a, b, c, r, rfl⟩ : ∃ a b c r, s = a :: b :: c :: r := by
      match s, h3 with
      | [], h => exact absurd (by simp) h
      | [_], h => exact absurd (by simp) h
      | [_, _], h => exact absurd (by simp) h
      | a :: b :: c :: r, _ => exact ⟨a, b, c, r, rfl⟩
    have hd : decide (((bstr (a :: b :: c :: r)).size : Int) < 3) = false := decide_eq_false (by omega)
    have HR := hid (rnum_cons most a b c r f)
    clear hsz h3
    go_enter Try.func56, Try.ntmps56
    go_wp2_with fail
    have hz0 : 0 < (bstr (a :: b :: c :: r)).size := by rw [bstr_size]; simp
    have hz1 : (1 : Int) < (bstr (a :: b :: c :: r)).size := by rw [bstr_size]; simp; omega
    have hz2 : (2 : Int) < (bstr (a :: b :: c :: r)).size := by rw [bstr_size]; simp; omega
    refine wp_region_class (fun w' => Ext w w' ∧ w'.cell? ⟨p, 0, none⟩ = some (.string (bstr (a :: b :: c :: r)))) (by kernel_rfl) (by kernel_rfl) ⟨(Ext.refl _).drew, (Ext.refl _).drew.cell y0⟩ ?_
    iterate 4
      refine wpQuiet_read (v := ?_) (by rfl) (fun w' hSw => ?_) ?_
      rotate_left
      · try dsimp only at hSw
        first
          | (go_simp; done)
          | (go_simp; with_reducible rfl)
      try simp only [Act.put, List.setIfInBounds_toArray, List.set_cons_zero, List.set_cons_succ]
    refine wpQuiet_read (v := .int .u8 a.toNat) (by rfl) (fun w' hSw => ?_) ?_
    · go_simp
      rfl
    try simp only [Act.put, List.setIfInBounds_toArray, List.set_cons_zero, List.set_cons_succ]
    iterate 6
      refine wpQuiet_read (v := ?_) (by rfl) (fun w' hSw => ?_) ?_
      rotate_left
      · try dsimp only at hSw
        first
          | (go_simp; done)
          | (go_simp; with_reducible rfl)
      try simp only [Act.put, List.setIfInBounds_toArray, List.set_cons_zero, List.set_cons_succ]
    refine wpQuiet_read (v := .int .u8 b.toNat) (by rfl) (fun w' hSw => ?_) ?_
    · go_simp
      rfl
    try simp only [Act.put, List.setIfInBounds_toArray, List.set_cons_zero, List.set_cons_succ]
    iterate 7
      refine wpQuiet_read (v := ?_) (by rfl) (fun w' hSw => ?_) ?_
      rotate_left
      · try dsimp only at hSw
        first
          | (go_simp; done)
          | (go_simp; with_reducible rfl)
      try simp only [Act.put, List.setIfInBounds_toArray, List.set_cons_zero, List.set_cons_succ]
    refine wpQuiet_read (v := .int .u8 c.toNat) (by rfl) (fun w' hSw => ?_) ?_
    · go_simp
      rfl
    try simp only [Act.put, List.setIfInBounds_toArray, List.set_cons_zero, List.set_cons_succ]
    iterate 3
      refine wpQuiet_read (v := ?_) (by rfl) (fun w' hSw => ?_) ?_
      rotate_left
      · try dsimp only at hSw
        first
          | (go_simp; done)
          | (go_simp; with_reducible rfl)
      try simp only [Act.put, List.setIfInBounds_toArray, List.set_cons_zero, List.set_cons_succ]
    refine wpQuiet_nil ?_
    intro w' hw'
    obtain ⟨hx, y0'⟩ := hw'
    rw [num3_bits]
    have hb := HB.out.ext hx
    clear y0 y1 z0 z1 hz0 hz1 hz2 HB
    have y1 := hb.cell (i := 1) (u := .bool f) rfl
    have z0 := hb.frozen 0
    have z1 := hb.frozen 1
    have HB := hid hb
    clear hb
    have HX := hid hx
    clear hx
    have hs3 : ((3 : Int) ≤ ((bstr (a :: b :: c :: r)).size : Int)) := by rw [bstr_size]; simp; omega
    by_cases hm : most < num3 a b c
    · have hd : decide (most < num3 a b c) = true := decide_eq_true hm
      rw [if_pos hm] at HR
      clear hm
      go_wp2_with fail
      go_ret
      rw [HR.out]
      refine ⟨rfl, ?_, ?_⟩
      · have := (HB.out.set 0 (.string ((bstr (a :: b :: c :: r)).extract 3 (bstr (a :: b :: c :: r)).size))).set 1 (.bool true)
        rw [bstr_drop] at this
        rw [bstr_drop]
        exact this
      · exact (((Chg.of_ext HX.out).setCell (p := ⟨p, 0, none⟩) HB.out.ty (by simp) _ hp).setCell (p := ⟨p, 1, none⟩) (HB.out.set 0 _).ty (by simp) _ hp)
    · have hd : decide (most < num3 a b c) = false := decide_eq_false hm
      rw [if_neg hm] at HR
      clear hm
      go_wp2_with fail
      go_ret
      rw [HR.out]
      refine ⟨rfl, ?_, ?_⟩
      · have := HB.out.set 0 (.string ((bstr (a :: b :: c :: r)).extract 3 (bstr (a :: b :: c :: r)).size))
        rw [bstr_drop] at this
        rw [bstr_drop]
        exact this
      · exact (Chg.of_ext HX.out).setCell (p := ⟨p, 0, none⟩) HB.out.ty (by simp) _ hp
set_option maxRecDepth 100000 in
set_option maxHeartbeats 1000000 in
theorem rd_text (base p : Nat) (st : RS) (w : World) (hp : base ≤ p) (hb : Blk w p 114 #[.string (bstr st.1), .bool st.2]) :
    Calls Try.prog 57 #[.pointer (some ⟨p, 0, none⟩)] w fun e w' => e = .returned (.string (rtext st).1) ∧ Blk w' p 114 #[.string (bstr (rtext st).2.1), .bool (rtext st).2.2] ∧ Chg base [114] w w' := by
  have HR := hid (show rtext st = if ((rnum 8 st).2.1.length : Int) < (rnum 8 st).1 then (⟨#[]⟩, ((rnum 8 st).2.1, true)) else (bstr ((rnum 8 st).2.1.take (rnum 8 st).1.toNat), ((rnum 8 st).2.1.drop (rnum 8 st).1.toNat, (rnum 8 st).2.2)) from rfl)
  have HN := hid (rnum_range (most := 8) (by omega) st)
  go_enter Try.func57, Try.ntmps57
  go_wp2_with fail
  refine (rd_num base p 8 st w hp hb).mono ?_
  rintro e w1 ⟨rfl, hb1, hc1⟩
  obtain ⟨n, hn⟩ : ∃ n : Nat, (rnum 8 st).1 = (n : Int) := ⟨(rnum 8 st).1.toNat, by have := HN.out; omega⟩
  obtain ⟨s, hs⟩ : ∃ s, s = (rnum 8 st).2.1 := ⟨_, rfl⟩
  obtain ⟨f, hf⟩ : ∃ s, s = (rnum 8 st).2.2 := ⟨_, rfl⟩
  rw [hn] at HN HR ⊢
  rw [← hs, ← hf, Int.toNat_natCast] at HR
  rw [← hs, ← hf] at hb1
  have hn8 : (n : Int) ≤ 8 := HN.out.2
  have y0 := hb1.cell (i := 0) (u := .string (bstr s)) rfl
  have y1 := hb1.cell (i := 1) (u := .bool f) rfl
  have z0 := hb1.frozen 0
  have z1 := hb1.frozen 1
  have HB := hid hb1
  have HC := hid hc1
  have hsz : (bstr s).size = s.length := bstr_size s
  clear hb hb1 hc1 hn hs hf HN
  by_cases hl : (s.length : Int) < (n : Int)
  · have hd : decide ((bstr s).size < n) = true := decide_eq_true (by omega)
    rw [if_pos hl] at HR
    clear hl hsz
    go_wp2_with fail
    go_ret
    rw [HR.out]
    exact ⟨rfl, HB.out.set 1 _, HC.out.setCell (p := ⟨p, 1, none⟩) HB.out.ty (by simp) _ hp⟩
  · have hd : decide ((bstr s).size < n) = false := decide_eq_false (by omega)
    have hle : n ≤ (bstr s).size := by omega
    rw [if_neg hl] at HR
    clear hl hsz
    go_wp2_with fail
    go_ret
    rw [HR.out]
    refine ⟨?_, ?_, ?_⟩
    · show _ = Ending.returned (Value.string (bstr (s.take n)))
      rw [← bstr_take]
      rfl
    · have := HB.out.set 0 (.string ((bstr s).extract n (bstr s).size))
      rw [bstr_drop] at this
      show Blk _ _ _ #[.string (bstr (s.drop n)), .bool f]
      rw [← bstr_drop]
      rw [← bstr_drop] at this
      exact this
    · exact HC.out.setCell (p := ⟨p, 0, none⟩) HB.out.ty (by simp) _ hp
end Go.Proofs.Ytmedmfjhpabfdaa
