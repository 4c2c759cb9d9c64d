/- The walk of text.Show. -/
import Derived.Test.YtbkmgbckeaimdaaDoorTextS
namespace Go.Proofs.YtbkmgbckeaimdaaDoor
open Go Go.RowKit

/-- behind the telling of a node: what the row holds, cut at 401 bytes. -/
theorem dec_size {n : Nat} (h : n < 100) : (⟨(Lib.decDigits n).toArray⟩ : ByteArray).size ≤ 2 := by
  have e : (⟨(Lib.decDigits n).toArray⟩ : ByteArray).size = (Lib.decDigits n).length := tstr_size _
  rw [e]
  by_cases h1 : n < 10
  · rw [dd1 n h1]; simp
  · rw [dd2 n h1 h]; simp
theorem cap_str {X : ByteArray} {t : List UInt8} (h : X = tstr t) (hx : X.size ≤ 400) : X = tstr (capT t) := by
  rw [h, tstr_size] at hx
  rw [h]
  unfold capT
  rw [if_neg (by omega)]
theorem cap_cut {X : ByteArray} {t : List UInt8} (h : X = tstr t) (hx : 400 < X.size) : X.extract 0 401 = tstr (capT t) := by
  rw [h, tstr_size] at hx
  rw [h]
  unfold capT
  rw [if_pos hx]
  apply ByteArray.ext
  simp [tstr]
theorem cat5 (p q r : UInt8) (s t : List UInt8) : (⟨#[p]⟩ ++ tstr s ++ ⟨#[q]⟩ ++ tstr t ++ ⟨#[r]⟩ : ByteArray) = tstr (p :: (s ++ q :: (t ++ [r]))) := by
  show tstr [p] ++ tstr s ++ tstr [q] ++ tstr t ++ tstr [r] = _
  rw [tstr_append, tstr_append, tstr_append, tstr_append]
  simp
theorem cell_new {w : World} {p : Addr} {u : Value} {e : TypeId} {cs : Array Value} {i n : Nat} {v : Value} (hn : n = w.heap.size) (hv : cs[i]? = some v) : ((w.setCell p u).alloc (.cells cs e)).drew.cell? ⟨n, i, none⟩ = some v := by
  have h := (Blk.new (w.setCell p u) e cs).cell hv
  rw [show (w.setCell p u).heap.size = n by rw [hn]; simp [World.setCell]] at h
  exact h
theorem cell_old {w : World} {b i k : Nat} {u v : Value} {o : Obj} (hne : k ≠ i) (hc : w.cell? ⟨b, i, none⟩ = some v) : ((w.setCell ⟨b, k, none⟩ u).alloc o).drew.cell? ⟨b, i, none⟩ = some v :=
  (((Ext.refl _).alloc o).drew).cell ((World.cell?_setCell_other _ _ _ _ (by intro e; injection e with _ e2 _; exact hne e2)).trans hc)
set_option maxRecDepth 100000 in
set_option maxHeartbeats 8000000 in
theorem text_Show (B : Nat) (A : Option Addr) (c : Nat) (l : List Node) (w : World) (hl : l.length ≤ maxLen) (h : Sl B 39 RNode 3 w A l) :
    Calls Tryd.prog 8 #[.slice A l.length c] w fun e w' => e = .returned (.tuple #[.string (showT l), .int .i64 (showErr l)]) ∧ Ext w w' := by
  by_cases h0 : formCheck l = 0
  case neg =>
    have hE : showErr l = formCheck l := by rw [showErr, if_neg h0]
    have hT : showT l = ByteArray.empty := by rw [showT, if_neg (by rw [hE]; exact h0)]
    have HE := hid (And.intro hE hT)
    have hne : (formCheck l != 0) = true := by simpa using h0
    clear h0 hE hT
    go_enter Tryd.func8, Tryd.ntmps8
    go_wp2_with fail
    refine (formula_Check B A c l _ hl h).mono ?_
    rintro e w1 ⟨rfl, hx1⟩
    go_wp2_with fail
    go_ret2
    exact ⟨by rw [HE.out.1, HE.out.2]; rfl, hx1⟩
  have hf := formCheck_iff.1 h0
  have hlo := hf.lo
  have hhi := hf.hi
  have HF := hid hf.node
  clear hf
  go_enter Tryd.func8, Tryd.ntmps8
  go_wp2_with fail
  refine (formula_Check B A c l _ hl h).mono ?_
  rintro e w1 ⟨rfl, hx⟩
  have H0 := hid h0
  rw [h0]
  clear h0
  go_wp2_with ((with_reducible refine at_op (some 16) (.makeSlice _ _ _) ?_); refine wpList_makeArr ei_strs z_strs rfl _ _ rfl rfl l.length rfl rfl (by omega) (by unfold maxLen; omega) ?_; intro bi w3 hbi hx3 hb3 hs3)
  have hbl : w.heap.size ≤ bi := by rw [← hbi]; exact hx.size
  replace hx := hx.trans hx3
  have hb0 : Blk w3 bi 9 (rowS l.length (capS l 0)) := by
    rw [rowS_congr (g := fun _ => ByteArray.empty) (fun i _ => by simp [capS])]; exact hb3
  clear hbi hx3 hs3 hb3
  go_wp2_with fail
  go_loopw [19] (fun i wr => ∃ k : Nat, k ≤ l.length ∧ i = .int .i64 k ∧ Blk wr bi 9 (rowS l.length (capS l k)) ∧ Ext w wr) (fun i _ => l.length - (intOf i).toNat)
  case atStart => exact ⟨0, Nat.zero_le _, rfl, hb0, hx⟩
  case round =>
    clear hb0 hx
    obtain ⟨k, hk, rfl, hb, hx⟩ := hrel
    by_cases hlt : k < l.length
    · obtain ⟨b, off, rfl, hbk, g0, g1, g2⟩ := (h.ext RTrip.mono hx).trip hlt
      have k0 : (0 : Int) ≤ k := by omega
      have kl : (k : Int) < l.length := by omega
      have hz := hb.frozen k
      have hck := hb.cell (rowS_get _ hlt)
      have hbw := hb.lt
      rcases cap_cases hlt (HF.out k hlt) with ⟨hq, ht⟩ | ⟨a, hq, ha, ha3, ht⟩ | ⟨a, d, hq, ha, hd, hd1, had, ht⟩ | ⟨a, hq, ha, hai, ht⟩ | ⟨a, d, hq, ha, hd, hai, hdi, ht⟩ | ⟨a, d, hq, ha, hd, hai, hdi, ht⟩
      · rw [hq] at g0
        have HT := hid ht
        clear hq ht
        go_wp2_with fail
        go_roundw
        case rel => exact ⟨k + 1, hlt, by go_num, by rw [← capS_step l k ⟨#[42]⟩ (by rw [HT.out]; rfl) (capS l k) (fun _ _ => rfl)]; exact (hb.setS k _).alloc _, (hx.setCell (by show _ ≤ bi; omega) _).alloc _⟩
        case measure => simp [intOf]; omega
      · rw [hq] at g0
        rw [ha] at g1
        have HT := hid ht
        have HA := hid ha3
        clear hq ht ha ha3
        go_wp2_with fail
        refine (Tryd.strconv_Itoa_small a (by have := HA.out; omega) _).mono ?_
        rintro e w5 ⟨rfl, rfl⟩
        obtain ⟨y, hy⟩ : ∃ y : ByteArray, y = ⟨(Lib.decDigits a).toArray⟩ := ⟨_, rfl⟩
        rw [← hy]
        have HY := hid hy
        have hys : y.size ≤ 2 := by rw [hy]; exact dec_size (by have := HA.out; omega)
        clear hy
        go_wp2_with fail
        go_roundw
        case rel => exact ⟨k + 1, hlt, by go_num, by rw [← capS_step l k (⟨#[35]⟩ ++ y) (by rw [HT.out]; exact cap_str ((congrArg (fun z => (⟨#[35]⟩ : ByteArray) ++ z) HY.out).trans (tstr_append [35] (Lib.decDigits a))) (by rw [ByteArray.size_append]; show 1 + y.size ≤ 400; omega)) (capS l k) (fun _ _ => rfl)]; exact (hb.setS k _).alloc _, (hx.setCell (by show _ ≤ bi; omega) _).alloc _⟩
        case measure => simp [intOf]; omega
      · rw [hq] at g0
        rw [ha] at g1
        rw [hd] at g2
        have HT := hid ht
        have hau : a < 100 := by omega
        have hdu : d < 100 := by omega
        obtain ⟨y, hy⟩ : ∃ y : ByteArray, y = ⟨(Lib.decDigits a).toArray⟩ := ⟨_, rfl⟩
        obtain ⟨z, hzz⟩ : ∃ y : ByteArray, y = ⟨(Lib.decDigits d).toArray⟩ := ⟨_, rfl⟩
        have HY := hid hy
        have HZ := hid hzz
        have hys : y.size ≤ 2 := by rw [hy]; exact dec_size hau
        have hzs : z.size ≤ 2 := by rw [hzz]; exact dec_size hdu
        have hc1 : (9223372036854775807 < 1 + y.size) = False := eq_false (by omega)
        have hc2 : (9223372036854775807 < 1 + y.size + 1) = False := eq_false (by omega)
        have hc3 : (9223372036854775807 < 1 + y.size + 1 + z.size) = False := eq_false (by omega)
        have hc4 : (9223372036854775807 < 1 + y.size + 1 + z.size + 1) = False := eq_false (by omega)
        have HS0 := hid (show ((wr.alloc (.cells #[.int .i64 3, .int .i64 a, .int .i64 d] 39)).drew.cell? ⟨wr.heap.size, 1, none⟩ = some (.int .i64 a) ∧ (wr.alloc (.cells #[.int .i64 3, .int .i64 a, .int .i64 d] 39)).drew.cell? ⟨wr.heap.size, 2, none⟩ = some (.int .i64 d)) from ⟨(Blk.new wr _ _).cell rfl, (Blk.new wr _ _).cell rfl⟩)
        have HIA := hid (show ∀ w, Calls Tryd.prog 23 #[.int .i64 a] w fun e w' => e = .returned (.string y) ∧ w' = w by intro w; rw [hy]; exact Tryd.strconv_Itoa_small a hau w)
        have HID := hid (show ∀ w, Calls Tryd.prog 23 #[.int .i64 d] w fun e w' => e = .returned (.string z) ∧ w' = w by intro w; rw [hzz]; exact Tryd.strconv_Itoa_small d hdu w)
        clear hq ht ha hd hd1 had hau hdu hy hzz
        go_wp2_with fail
        go_region_held3 (fun w' => w'.cell? ⟨wr.heap.size, 1, none⟩ = some (.int .i64 a) ∧ w'.cell? ⟨wr.heap.size, 2, none⟩ = some (.int .i64 d)) (first | exact HS0.out | exact ⟨cell_new rfl rfl, cell_new rfl rfl⟩) (first | ((with_reducible refine (HIA.out _).mono ?_); rintro e w7 ⟨rfl, rfl⟩) | ((with_reducible refine (HID.out _).mono ?_); rintro e w7 ⟨rfl, rfl⟩))
        have HXX := hid (show (⟨#[91]⟩ ++ y ++ ⟨#[44]⟩ ++ z ++ ⟨#[41]⟩ : ByteArray) = tstr (capAt l k) by rw [HT.out]; exact cap_str (by rw [HY.out, HZ.out]; exact cat5 91 44 41 (Lib.decDigits a) (Lib.decDigits d)) (by simp only [ByteArray.size_append]; show 1 + y.size + 1 + z.size + 1 ≤ 400; omega))
        all_goals
          go_wp2_with fail
          go_roundw
          case rel => exact ⟨k + 1, hlt, by go_num, by rw [← capS_step l k _ HXX.out (capS l k) (fun _ _ => rfl)]; exact ((hb.setS k _).alloc _).ext (Ext.refl _).drew, ((hx.setCell (by show _ ≤ bi; omega) _).alloc _).drew⟩
          case measure => simp [intOf]; omega
      · rw [hq] at g0
        rw [ha] at g1
        have HT := hid ht
        have hca := hb.cell (rowS_get (capS l k) (show a < l.length by omega))
        obtain ⟨y, hy⟩ : ∃ y : ByteArray, y = capS l k a := ⟨_, rfl⟩
        rw [← hy] at hca
        have HY := hid (show y = tstr (capAt l a) by rw [hy]; unfold capS; rw [if_pos hai])
        have hys : y.size ≤ 401 := by rw [HY.out, tstr_size]; exact capAt_len l a
        have al : (a : Int) < l.length := by omega
        have HX0 := hid (show (⟨#[33]⟩ ++ y : ByteArray) = tstr (33 :: capAt l a) by rw [HY.out]; exact tstr_append [33] _)
        clear hq ht ha hy
        by_cases h4 : y.size ≤ 399
        · have HXX := hid (show (⟨#[33]⟩ ++ y : ByteArray) = tstr (capAt l k) by rw [HT.out]; exact cap_str HX0.out (by rw [ByteArray.size_append]; show 1 + y.size ≤ 400; omega))
          clear hys
          go_wp2_with fail
          go_roundw
          case rel => exact ⟨k + 1, hlt, by go_num, by rw [← capS_step l k _ HXX.out (capS l k) (fun _ _ => rfl)]; exact (hb.setS k _).alloc _, (hx.setCell (by show _ ≤ bi; omega) _).alloc _⟩
          case measure => simp [intOf]; omega
        · have HXX := hid (show (⟨#[33]⟩ ++ y : ByteArray).extract 0 401 = tstr (capAt l k) by rw [HT.out]; exact cap_cut HX0.out (by rw [ByteArray.size_append]; show 400 < 1 + y.size; omega))
          go_wp2_with fail
          go_roundw
          case rel => exact ⟨k + 1, hlt, by go_num, by rw [← capS_step l k _ HXX.out (fun j => if j = k then ⟨#[33]⟩ ++ y else capS l k j) (fun j hj => if_neg hj)]; exact ((hb.setS k _).setS k _).alloc _, ((hx.setCell (by show _ ≤ bi; omega) _).setCell (by show _ ≤ bi; omega) _).alloc _⟩
          case measure => simp [intOf]; omega
      · rw [hq] at g0
        rw [ha] at g1
        rw [hd] at g2
        have HT := hid ht
        have hca := hb.cell (rowS_get (capS l k) (show a < l.length by omega))
        have hcd := hb.cell (rowS_get (capS l k) (show d < l.length by omega))
        obtain ⟨y, hy⟩ : ∃ y : ByteArray, y = capS l k a := ⟨_, rfl⟩
        obtain ⟨z, hzz⟩ : ∃ y : ByteArray, y = capS l k d := ⟨_, rfl⟩
        rw [← hy] at hca
        rw [← hzz] at hcd
        have HY := hid (show y = tstr (capAt l a) by rw [hy]; unfold capS; rw [if_pos hai])
        have HZ := hid (show z = tstr (capAt l d) by rw [hzz]; unfold capS; rw [if_pos hdi])
        have hys : y.size ≤ 401 := by rw [HY.out, tstr_size]; exact capAt_len l a
        have hzs : z.size ≤ 401 := by rw [HZ.out, tstr_size]; exact capAt_len l d
        have al : (a : Int) < l.length := by omega
        have dl : (d : Int) < l.length := by omega
        have HX0 := hid (show (⟨#[40]⟩ ++ y ++ ⟨#[38]⟩ ++ z ++ ⟨#[41]⟩ : ByteArray) = tstr (40 :: (capAt l a ++ 38 :: (capAt l d ++ [41]))) by rw [HY.out, HZ.out]; exact cat5 40 38 41 _ _)
        have hc1 : (9223372036854775807 < 1 + y.size) = False := eq_false (by omega)
        have hc2 : (9223372036854775807 < 1 + y.size + 1) = False := eq_false (by omega)
        have hc3 : (9223372036854775807 < 1 + y.size + 1 + z.size) = False := eq_false (by omega)
        have hc4 : (9223372036854775807 < 1 + y.size + 1 + z.size + 1) = False := eq_false (by omega)
        have HN := hid (And.intro hai hdi)
        have HS0 := hid (show ((wr.alloc (.cells #[.int .i64 5, .int .i64 a, .int .i64 d] 39)).drew.cell? ⟨wr.heap.size, 1, none⟩ = some (.int .i64 a) ∧ (wr.alloc (.cells #[.int .i64 5, .int .i64 a, .int .i64 d] 39)).drew.cell? ⟨wr.heap.size, 2, none⟩ = some (.int .i64 d) ∧ (wr.alloc (.cells #[.int .i64 5, .int .i64 a, .int .i64 d] 39)).drew.cell? ⟨bi, a, none⟩ = some (.string y) ∧ (wr.alloc (.cells #[.int .i64 5, .int .i64 a, .int .i64 d] 39)).drew.cell? ⟨bi, d, none⟩ = some (.string z)) from ⟨(Blk.new wr _ _).cell rfl, (Blk.new wr _ _).cell rfl, (((Ext.refl wr).alloc _).drew).cell hca, (((Ext.refl wr).alloc _).drew).cell hcd⟩)
        have HCA := hid hca
        have HCD := hid hcd
        clear hq ht ha hd hai hdi hy hzz
        by_cases h4 : y.size + z.size ≤ 397
        · have HXX := hid (show (⟨#[40]⟩ ++ y ++ ⟨#[38]⟩ ++ z ++ ⟨#[41]⟩ : ByteArray) = tstr (capAt l k) by rw [HT.out]; exact cap_str HX0.out (by simp only [ByteArray.size_append]; show 1 + y.size + 1 + z.size + 1 ≤ 400; omega))
          go_wp2_with fail
          go_region_held3 (fun w' => w'.cell? ⟨wr.heap.size, 1, none⟩ = some (.int .i64 a) ∧ w'.cell? ⟨wr.heap.size, 2, none⟩ = some (.int .i64 d) ∧ w'.cell? ⟨bi, a, none⟩ = some (.string y) ∧ w'.cell? ⟨bi, d, none⟩ = some (.string z)) (first | exact HS0.out | exact ⟨cell_new rfl rfl, cell_new rfl rfl, cell_old (Nat.ne_of_gt HN.out.1) HCA.out, cell_old (Nat.ne_of_gt HN.out.2) HCD.out⟩) (fail)
          all_goals
            go_wp2_with fail
            go_roundw
            case rel => exact ⟨k + 1, hlt, by go_num, by rw [← capS_step l k _ HXX.out (capS l k) (fun _ _ => rfl)]; exact ((hb.setS k _).alloc _).ext (Ext.refl _).drew, ((hx.setCell (by show _ ≤ bi; omega) _).alloc _).drew⟩
            case measure => simp [intOf]; omega
        · have HXX := hid (show (⟨#[40]⟩ ++ y ++ ⟨#[38]⟩ ++ z ++ ⟨#[41]⟩ : ByteArray).extract 0 401 = tstr (capAt l k) by rw [HT.out]; exact cap_cut HX0.out (by simp only [ByteArray.size_append]; show 400 < 1 + y.size + 1 + z.size + 1; omega))
          go_wp2_with fail
          go_region_held3 (fun w' => w'.cell? ⟨wr.heap.size, 1, none⟩ = some (.int .i64 a) ∧ w'.cell? ⟨wr.heap.size, 2, none⟩ = some (.int .i64 d) ∧ w'.cell? ⟨bi, a, none⟩ = some (.string y) ∧ w'.cell? ⟨bi, d, none⟩ = some (.string z)) (first | exact HS0.out | exact ⟨cell_new rfl rfl, cell_new rfl rfl, cell_old (Nat.ne_of_gt HN.out.1) HCA.out, cell_old (Nat.ne_of_gt HN.out.2) HCD.out⟩) (fail)
          all_goals
            go_wp2_with fail
            go_roundw
            case rel => exact ⟨k + 1, hlt, by go_num, by rw [← capS_step l k _ HXX.out (fun j => if j = k then ⟨#[40]⟩ ++ y ++ ⟨#[38]⟩ ++ z ++ ⟨#[41]⟩ else capS l k j) (fun j hj => if_neg hj)]; exact (((hb.setS k _).setS k _).alloc _).ext (Ext.refl _).drew, (((hx.setCell (by show _ ≤ bi; omega) _).setCell (by show _ ≤ bi; omega) _).alloc _).drew⟩
            case measure => simp [intOf]; omega
      · rw [hq] at g0
        rw [ha] at g1
        rw [hd] at g2
        have HT := hid ht
        have hca := hb.cell (rowS_get (capS l k) (show a < l.length by omega))
        have hcd := hb.cell (rowS_get (capS l k) (show d < l.length by omega))
        obtain ⟨y, hy⟩ : ∃ y : ByteArray, y = capS l k a := ⟨_, rfl⟩
        obtain ⟨z, hzz⟩ : ∃ y : ByteArray, y = capS l k d := ⟨_, rfl⟩
        rw [← hy] at hca
        rw [← hzz] at hcd
        have HY := hid (show y = tstr (capAt l a) by rw [hy]; unfold capS; rw [if_pos hai])
        have HZ := hid (show z = tstr (capAt l d) by rw [hzz]; unfold capS; rw [if_pos hdi])
        have hys : y.size ≤ 401 := by rw [HY.out, tstr_size]; exact capAt_len l a
        have hzs : z.size ≤ 401 := by rw [HZ.out, tstr_size]; exact capAt_len l d
        have al : (a : Int) < l.length := by omega
        have dl : (d : Int) < l.length := by omega
        have HX0 := hid (show (⟨#[40]⟩ ++ y ++ ⟨#[124]⟩ ++ z ++ ⟨#[41]⟩ : ByteArray) = tstr (40 :: (capAt l a ++ 124 :: (capAt l d ++ [41]))) by rw [HY.out, HZ.out]; exact cat5 40 124 41 _ _)
        have hc1 : (9223372036854775807 < 1 + y.size) = False := eq_false (by omega)
        have hc2 : (9223372036854775807 < 1 + y.size + 1) = False := eq_false (by omega)
        have hc3 : (9223372036854775807 < 1 + y.size + 1 + z.size) = False := eq_false (by omega)
        have hc4 : (9223372036854775807 < 1 + y.size + 1 + z.size + 1) = False := eq_false (by omega)
        have HN := hid (And.intro hai hdi)
        have HS0 := hid (show ((wr.alloc (.cells #[.int .i64 6, .int .i64 a, .int .i64 d] 39)).drew.cell? ⟨wr.heap.size, 1, none⟩ = some (.int .i64 a) ∧ (wr.alloc (.cells #[.int .i64 6, .int .i64 a, .int .i64 d] 39)).drew.cell? ⟨wr.heap.size, 2, none⟩ = some (.int .i64 d) ∧ (wr.alloc (.cells #[.int .i64 6, .int .i64 a, .int .i64 d] 39)).drew.cell? ⟨bi, a, none⟩ = some (.string y) ∧ (wr.alloc (.cells #[.int .i64 6, .int .i64 a, .int .i64 d] 39)).drew.cell? ⟨bi, d, none⟩ = some (.string z)) from ⟨(Blk.new wr _ _).cell rfl, (Blk.new wr _ _).cell rfl, (((Ext.refl wr).alloc _).drew).cell hca, (((Ext.refl wr).alloc _).drew).cell hcd⟩)
        have HCA := hid hca
        have HCD := hid hcd
        clear hq ht ha hd hai hdi hy hzz
        by_cases h4 : y.size + z.size ≤ 397
        · have HXX := hid (show (⟨#[40]⟩ ++ y ++ ⟨#[124]⟩ ++ z ++ ⟨#[41]⟩ : ByteArray) = tstr (capAt l k) by rw [HT.out]; exact cap_str HX0.out (by simp only [ByteArray.size_append]; show 1 + y.size + 1 + z.size + 1 ≤ 400; omega))
          go_wp2_with fail
          go_region_held3 (fun w' => w'.cell? ⟨wr.heap.size, 1, none⟩ = some (.int .i64 a) ∧ w'.cell? ⟨wr.heap.size, 2, none⟩ = some (.int .i64 d) ∧ w'.cell? ⟨bi, a, none⟩ = some (.string y) ∧ w'.cell? ⟨bi, d, none⟩ = some (.string z)) (first | exact HS0.out | exact ⟨cell_new rfl rfl, cell_new rfl rfl, cell_old (Nat.ne_of_gt HN.out.1) HCA.out, cell_old (Nat.ne_of_gt HN.out.2) HCD.out⟩) (fail)
          all_goals
            go_wp2_with fail
            go_roundw
            case rel => exact ⟨k + 1, hlt, by go_num, by rw [← capS_step l k _ HXX.out (capS l k) (fun _ _ => rfl)]; exact ((hb.setS k _).alloc _).ext (Ext.refl _).drew, ((hx.setCell (by show _ ≤ bi; omega) _).alloc _).drew⟩
            case measure => simp [intOf]; omega
        · have HXX := hid (show (⟨#[40]⟩ ++ y ++ ⟨#[124]⟩ ++ z ++ ⟨#[41]⟩ : ByteArray).extract 0 401 = tstr (capAt l k) by rw [HT.out]; exact cap_cut HX0.out (by simp only [ByteArray.size_append]; show 400 < 1 + y.size + 1 + z.size + 1; omega))
          go_wp2_with fail
          go_region_held3 (fun w' => w'.cell? ⟨wr.heap.size, 1, none⟩ = some (.int .i64 a) ∧ w'.cell? ⟨wr.heap.size, 2, none⟩ = some (.int .i64 d) ∧ w'.cell? ⟨bi, a, none⟩ = some (.string y) ∧ w'.cell? ⟨bi, d, none⟩ = some (.string z)) (first | exact HS0.out | exact ⟨cell_new rfl rfl, cell_new rfl rfl, cell_old (Nat.ne_of_gt HN.out.1) HCA.out, cell_old (Nat.ne_of_gt HN.out.2) HCD.out⟩) (fail)
          all_goals
            go_wp2_with fail
            go_roundw
            case rel => exact ⟨k + 1, hlt, by go_num, by rw [← capS_step l k _ HXX.out (fun j => if j = k then ⟨#[40]⟩ ++ y ++ ⟨#[124]⟩ ++ z ++ ⟨#[41]⟩ else capS l k j) (fun j hj => if_neg hj)]; exact (((hb.setS k _).setS k _).alloc _).ext (Ext.refl _).drew, (((hx.setCell (by show _ ≤ bi; omega) _).setCell (by show _ ≤ bi; omega) _).alloc _).drew⟩
            case measure => simp [intOf]; omega
    · obtain rfl : k = l.length := by omega
      have hll := hb.cell (rowS_get (capS l l.length) (show l.length - 1 < l.length by omega))
      obtain ⟨y, hy⟩ : ∃ y : ByteArray, y = capS l l.length (l.length - 1) := ⟨_, rfl⟩
      rw [← hy] at hll
      have hY : y = tstr (capAt l (l.length - 1)) := by rw [hy]; unfold capS; rw [if_pos (by omega)]
      have hK := cap_kept l (l.length - 1)
      have HX := hid hx
      have e1 : ((l.length : Int) - 1).toNat = l.length - 1 := by omega
      have l0 : (0 : Int) ≤ (l.length : Int) - 1 := by omega
      have l1 : (l.length : Int) - 1 < l.length := by omega
      have hll2 := hll
      rw [← e1] at hll2
      by_cases h4 : (textAt l (l.length - 1)).length ≤ 400
      · have hys : y.size ≤ 400 := by
          rw [hY, tstr_size]
          rcases hK with ⟨_, h5⟩ | ⟨h5, _⟩
          · unfold capAt; rw [h5]; exact h4
          · exact absurd h5 (by unfold textAt at h4; omega)
        have HE := hid (show showErr l = 0 ∧ showT l = y by
          have hE : showErr l = 0 := by rw [showErr, if_pos H0.out, if_neg (by omega)]
          refine ⟨hE, ?_⟩
          rw [showT, if_pos hE, hY]
          rcases hK with ⟨_, h5⟩ | ⟨h5, _⟩
          · unfold capAt textAt; rw [h5]
          · exact absurd h5 (by unfold textAt at h4; omega))
        clear hY hK hy hx e1 h4
        go_wp2_with fail
        go_ret2
        exact ⟨by rw [HE.out.1, HE.out.2]; rfl, HX.out⟩
      · have hys : 400 < y.size := by
          rw [hY, tstr_size]
          rcases hK with ⟨h5, _⟩ | ⟨_, h5⟩
          · exact absurd h5 (by unfold textAt at h4; omega)
          · unfold capAt; omega
        have HE := hid (show showErr l = 2 ∧ showT l = ByteArray.empty by
          have hE : showErr l = 2 := by rw [showErr, if_pos H0.out, if_pos (by omega)]
          exact ⟨hE, by rw [showT, if_neg (by rw [hE]; decide)]⟩)
        clear hY hK hy hx e1 h4
        go_wp2_with fail
        go_ret2
        exact ⟨by rw [HE.out.1, HE.out.2]; rfl, HX.out⟩

end Go.Proofs.YtbkmgbckeaimdaaDoor
