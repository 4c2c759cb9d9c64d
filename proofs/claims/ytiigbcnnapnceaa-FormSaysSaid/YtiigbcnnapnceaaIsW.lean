/- The walk of formula.Is. -/
import Derived.Test.YtiigbcnnapnceaaFormW
import Derived.Test.YtiigbcnnapnceaaSayW
import Derived.Test.YtiigbcnnapnceaaMake
import Derived.Test.YtiigbcnnapnceaaFilE
namespace Go.Proofs.Ytiigbcnnapnceaa
open Go Go.RowKit

def formIsErr (l : List Node) (p : Point) : Int := if formCheck l = 0 then (if pointOk p = true then 0 else 1) else formCheck l
def formIs (l : List Node) (p : Point) : Bool := decide (formIsErr l p = 0) && sayAt l (l.length - 1) (32 * p.tags + p.num).toNat

theorem isRow_set {l : List Node} {k n J : Nat} {v : Bool} (hv : sayAt l k J = v) :
    rowB n (fun j => if j = k then v else decide (j < k) && sayAt l j J) = rowB n (fun j => decide (j < k + 1) && sayAt l j J) := by
  refine rowB_congr fun i _ => ?_
  by_cases h : i = k
  · subst h; simp [hv]
  · have : decide (i < k) = decide (i < k + 1) := by rw [decide_eq_decide]; omega
    simp [h, this]

theorem ei_bools : ElemInfo Try.prog 121 4 1 1 := ElemInfo.mk_ (z := .bool false) Try.underlying121 (by kernel_rfl) rfl (by decide)
theorem z_bools : (Try.prog.info? 4).bind (·.zero) = some (.bool false) := by kernel_rfl

theorem bit_andI : ∀ v, v < 16 → ∀ t, t < 4 → bits .and .i64 (((v : Nat) : Int) / 2 ^ t) 1 = if bitb v t then 1 else 0 := by decide +kernel

theorem cell_as {wr : World} {bi k r o : Nat} {ob : Obj} {u v : Value} (hb : r < bi) (q : wr.cell? ⟨r, o, none⟩ = some u) : ((wr.setCell ⟨bi, k, none⟩ v).alloc ob).cell? ⟨r, o, none⟩ = some u :=
  ((Ext.refl _).alloc ob).cell ((World.cell?_setCell_other _ _ _ _ (by intro e; injection e with e; omega)).trans q)

set_option maxRecDepth 100000 in
set_option maxHeartbeats 4000000 in
theorem formula_Is (B : Nat) (A : Option Addr) (c : Nat) (l : List Node) (p : Point) (w : World) (hl : l.length ≤ maxLen) (h : SlNodes B w A l) :
    Calls Try.prog 43 #[.slice A l.length c, .agg #[.int .i64 p.tags, .int .i64 p.num]] w fun e w' => e = .returned (.tuple #[.bool (formIs l p), .int .i64 (formIsErr l p)]) ∧ Ext w w' := by
  have hx0 := (Ext.refl w).alloc (.cells #[.int .i64 p.tags, .int .i64 p.num] 59)
  by_cases h0 : formCheck l = 0
  case neg =>
    have hE : formIsErr l p = formCheck l := by rw [formIsErr, if_neg h0]
    have hH : formIs l p = false := by rw [formIs, hE]; simp [h0]
    have hne : (formCheck l != 0) = true := by simpa using h0
    go_enter Try.func43, Try.ntmps43
    go_wp2_with fail
    refine (formula_Check B A c l _ hl (h.ext RTrip.mono hx0)).mono ?_
    rintro e w1 ⟨rfl, hx1⟩
    go_wp2_with fail
    go_ret2
    exact ⟨by simp [hE, hH], hx0.trans hx1⟩
  have hf := formCheck_iff.1 h0
  cases hp : pointOk p
  · have hE : formIsErr l p = 1 := by rw [formIsErr, if_pos h0, hp]; rfl
    have hH : formIs l p = false := by rw [formIs, hE]; rfl
    go_enter Try.func43, Try.ntmps43
    go_wp2_with fail
    refine (formula_Check B A c l _ hl (h.ext RTrip.mono hx0)).mono ?_
    rintro e w1 ⟨rfl, hx1⟩
    have q1 : w1.cell? ⟨w.heap.size, 0, none⟩ = some (.int .i64 p.tags) := hx1.cell (by go_simp)
    have q2 : w1.cell? ⟨w.heap.size, 1, none⟩ = some (.int .i64 p.num) := hx1.cell (by go_simp)
    have hx := hx0.trans hx1
    clear hx1
    go_wp2_with fail
    refine (filter_Point p _).mono ?_
    rintro e w2 ⟨rfl, hx2⟩
    go_wp2_with fail
    go_ret2
    exact ⟨by simp [hE, hH], hx.trans hx2⟩
  have hlo := hf.lo
  have hhi := hf.hi
  have HF := hid hf.node
  have HP := hid hp
  obtain ⟨h1, h2, h3, h4⟩ := pointOk_iff.1 hp
  obtain ⟨tags, num⟩ := p
  simp only at h1 h2 h3 h4
  obtain ⟨t, rfl⟩ := Int.eq_ofNat_of_zero_le h1
  obtain ⟨m, rfl⟩ := Int.eq_ofNat_of_zero_le h3
  have ht : t < 16 := by omega
  have hm : m < 32 := by omega
  have hE := hid (show formIsErr l ⟨t, m⟩ = 0 by rw [formIsErr, if_pos h0, hp]; rfl)
  obtain ⟨J, hJ⟩ : ∃ J, J = 32 * t + m := ⟨_, rfl⟩
  have hH := hid (show formIs l ⟨t, m⟩ = sayAt l (l.length - 1) J by rw [formIs, hE.out, hJ]; simp; congr 1)
  have hJ1 := hid (show J / 32 = t by omega)
  have hJ2 := hid (show J % 32 = m by omega)
  clear hJ h1 h2 h3 h4 hf hp
  go_enter Try.func43, Try.ntmps43
  go_wp2_with fail
  refine (formula_Check B A c l _ hl (h.ext RTrip.mono hx0)).mono ?_
  rintro e w1 ⟨rfl, hx1⟩
  rw [h0]
  clear h0
  have q1 : w1.cell? ⟨w.heap.size, 0, none⟩ = some (.int .i64 t) := hx1.cell (by go_simp)
  have q2 : w1.cell? ⟨w.heap.size, 1, none⟩ = some (.int .i64 m) := hx1.cell (by go_simp)
  have hx := hx0.trans hx1
  clear hx1
  go_wp2_with fail
  refine (filter_Point ⟨t, m⟩ _).mono ?_
  rintro e w2 ⟨rfl, hx2⟩
  rw [HP.out]
  replace q1 := hx2.cell q1
  replace q2 := hx2.cell q2
  replace hx := hx.trans hx2
  clear hx2
  go_wp2_with ((with_reducible refine at_op (some 20) (.makeSlice _ _ _) ?_); refine wpList_makeArr ei_bools z_bools rfl _ _ rfl rfl l.length rfl rfl (by omega) (by unfold maxLen; omega) ?_; intro bi w3 hbi hx3 hb3 hs3)
  have hbl : w.heap.size < bi := by rw [← hbi]; exact World.block_lt_of_cell? _ _ q1
  replace q1 := hx3.cell q1
  replace q2 := hx3.cell q2
  replace hx := hx.trans hx3
  clear hbi hx3 hs3
  have hb0 : Blk w3 bi 4 (rowB l.length fun j => decide (j < 0) && sayAt l j J) := by
    rw [rowB_congr (q := fun _ => false) (fun i _ => by simp)]; exact hb3
  clear hb3
  go_wp2_with fail
  go_loopw [23] (fun i wr => ∃ k : Nat, k ≤ l.length ∧ i = .int .i64 k ∧ Blk wr bi 4 (rowB l.length fun j => decide (j < k) && sayAt l j J) ∧ wr.cell? ⟨w.heap.size, 0, none⟩ = some (.int .i64 t) ∧ wr.cell? ⟨w.heap.size, 1, none⟩ = some (.int .i64 m) ∧ Ext w wr) (fun i _ => l.length - (intOf i).toNat)
  case atStart => exact ⟨0, Nat.zero_le _, rfl, hb0, q1, q2, hx⟩
  case round =>
    clear hb0 q1 q2 hx
    obtain ⟨k, hk, rfl, hb, q1, q2, hx⟩ := hrel
    by_cases hlt : k < l.length
    · obtain ⟨b, off, rfl, hbk, g0, g1, g2⟩ := (h.ext RTrip.mono hx).trip hlt
      have HQ := hid (sayAt_node l k hlt)
      have k0 : (0 : Int) ≤ k := by omega
      have kl : (k : Int) < l.length := by omega
      have hz := hb.frozen k
      have hck := hb.cell (rowB_get _ hlt)
      rw [show decide (k < k) = false by simp, Bool.false_and] at hck
      have hbw := hb.lt
      have hwz : w.heap.size < wr.heap.size := Nat.lt_trans hbl hbw
      rcases nodeErr_cases (HF.out k hlt) with hq | ⟨hq, ha0, ha1⟩ | ⟨hq, ha0, ha1, ha2⟩ | ⟨hq, ha0, ha1⟩ | ⟨hq, ha0, ha1, hb0, hb1⟩
      · rw [hq] at g0
        have HV := hid (show sayAt l k J = true by rw [HQ.out]; simp [nodeSay, hq])
        clear hq
        go_wp2_with fail
        go_roundw
        case rel => exact ⟨k + 1, hlt, by go_num, by rw [← isRow_set HV.out]; exact (hb.setB k _).alloc _, cell_as hbl q1, cell_as hbl q2, (hx.setCell (by show _ ≤ bi; omega) _).alloc _⟩
        case measure => simp [intOf]; omega
      · rw [hq] at g0
        obtain ⟨a, ha⟩ := Int.eq_ofNat_of_zero_le ha0
        rw [ha] at g1 ha1
        have HV := hid (show sayAt l k J = bitb t a by rw [HQ.out, say_k2 _ _ a hq ha, hJ1.out])
        have e4 := bit_andI t ht a (by omega)
        clear hq ha ha0
        have a0 : (0 : Int) ≤ a := by omega
        cases hv : bitb t a
        · rw [hv] at HV e4
          clear hv
          go_wp2_with fail
          go_roundw
          case rel => exact ⟨k + 1, hlt, by go_num, by rw [← isRow_set HV.out]; exact (hb.setB k _).alloc _, cell_as hbl q1, cell_as hbl q2, (hx.setCell (by show _ ≤ bi; omega) _).alloc _⟩
          case measure => simp [intOf]; omega
        · rw [hv] at HV e4
          clear hv
          go_wp2_with fail
          go_roundw
          case rel => exact ⟨k + 1, hlt, by go_num, by rw [← isRow_set HV.out]; exact (hb.setB k _).alloc _, cell_as hbl q1, cell_as hbl q2, (hx.setCell (by show _ ≤ bi; omega) _).alloc _⟩
          case measure => simp [intOf]; omega
      · rw [hq] at g0
        have HV := hid (show sayAt l k J = (decide (l[k].a ≤ m) && decide ((m : Int) < l[k].b)) by rw [HQ.out]; simp [nodeSay, hq, hJ2.out])
        clear hq
        by_cases hv : l[k].a ≤ m
        · by_cases hu : (m : Int) < l[k].b
          · have HV := hid (show sayAt l k J = true by rw [HV.out]; simp [hv, hu])
            go_wp2_with fail
            go_roundw
            case rel => exact ⟨k + 1, hlt, by go_num, by rw [← isRow_set HV.out]; exact (hb.setB k _).alloc _, cell_as hbl q1, cell_as hbl q2, (hx.setCell (by show _ ≤ bi; omega) _).alloc _⟩
            case measure => simp [intOf]; omega
          · have HV := hid (show sayAt l k J = false by rw [HV.out]; simp [hv, hu])
            go_wp2_with fail
            go_roundw
            case rel => exact ⟨k + 1, hlt, by go_num, by rw [← isRow_set HV.out]; exact (hb.setB k _).alloc _, cell_as hbl q1, cell_as hbl q2, (hx.setCell (by show _ ≤ bi; omega) _).alloc _⟩
            case measure => simp [intOf]; omega
        · have HV := hid (show sayAt l k J = false by rw [HV.out]; simp [hv])
          go_wp2_with fail
          go_roundw
          case rel => exact ⟨k + 1, hlt, by go_num, by rw [← isRow_set HV.out]; exact (hb.setB k _).alloc _, cell_as hbl q1, cell_as hbl q2, (hx.setCell (by show _ ≤ bi; omega) _).alloc _⟩
          case measure => simp [intOf]; omega
      · rw [hq] at g0
        obtain ⟨a, ha⟩ := Int.eq_ofNat_of_zero_le ha0
        rw [ha] at g1 ha1
        have HV := hid (show sayAt l k J = !sayAt l a J by rw [HQ.out, say_k4 l k a _ hk (by omega) hq ha])
        clear hq ha ha0
        have a0 : (0 : Int) ≤ a := by omega
        have hc := hb.cell (rowB_get _ (show a < l.length by omega))
        rw [show decide (a < k) = true by simp; omega, Bool.true_and] at hc
        generalize sayAt l a J = v at *
        cases v
        · go_wp2_with fail
          go_roundw
          case rel => exact ⟨k + 1, hlt, by go_num, by rw [← isRow_set HV.out]; exact (hb.setB k _).alloc _, cell_as hbl q1, cell_as hbl q2, (hx.setCell (by show _ ≤ bi; omega) _).alloc _⟩
          case measure => simp [intOf]; omega
        · go_wp2_with fail
          go_roundw
          case rel => exact ⟨k + 1, hlt, by go_num, by rw [← isRow_set HV.out]; exact (hb.setB k _).alloc _, cell_as hbl q1, cell_as hbl q2, (hx.setCell (by show _ ≤ bi; omega) _).alloc _⟩
          case measure => simp [intOf]; omega
      · obtain ⟨a, ha⟩ := Int.eq_ofNat_of_zero_le ha0
        obtain ⟨a', ha'⟩ := Int.eq_ofNat_of_zero_le hb0
        rw [ha] at g1 ha1
        rw [ha'] at g2 hb1
        have a0 : (0 : Int) ≤ a := by omega
        have a0' : (0 : Int) ≤ a' := by omega
        have hc := hb.cell (rowB_get _ (show a < l.length by omega))
        rw [show decide (a < k) = true by simp; omega, Bool.true_and] at hc
        have hd := hb.cell (rowB_get _ (show a' < l.length by omega))
        rw [show decide (a' < k) = true by simp; omega, Bool.true_and] at hd
        rcases hq with hq | hq
        · rw [hq] at g0
          have HV := hid (show sayAt l k J = (sayAt l a J && sayAt l a' J) by rw [HQ.out, say_k5 l k a a' _ hk (by omega) (by omega) hq ha ha'])
          clear hq ha ha' ha0 hb0
          generalize sayAt l a J = v at *
          generalize sayAt l a' J = v' at *
          cases v
          · cases v'
            · go_wp2_with fail
              go_roundw
              case rel => exact ⟨k + 1, hlt, by go_num, by rw [← isRow_set HV.out]; exact (hb.setB k _).alloc _, cell_as hbl q1, cell_as hbl q2, (hx.setCell (by show _ ≤ bi; omega) _).alloc _⟩
              case measure => simp [intOf]; omega
            · go_wp2_with fail
              go_roundw
              case rel => exact ⟨k + 1, hlt, by go_num, by rw [← isRow_set HV.out]; exact (hb.setB k _).alloc _, cell_as hbl q1, cell_as hbl q2, (hx.setCell (by show _ ≤ bi; omega) _).alloc _⟩
              case measure => simp [intOf]; omega
          · cases v'
            · go_wp2_with fail
              go_roundw
              case rel => exact ⟨k + 1, hlt, by go_num, by rw [← isRow_set HV.out]; exact (hb.setB k _).alloc _, cell_as hbl q1, cell_as hbl q2, (hx.setCell (by show _ ≤ bi; omega) _).alloc _⟩
              case measure => simp [intOf]; omega
            · go_wp2_with fail
              go_roundw
              case rel => exact ⟨k + 1, hlt, by go_num, by rw [← isRow_set HV.out]; exact (hb.setB k _).alloc _, cell_as hbl q1, cell_as hbl q2, (hx.setCell (by show _ ≤ bi; omega) _).alloc _⟩
              case measure => simp [intOf]; omega
        · rw [hq] at g0
          have HV := hid (show sayAt l k J = (sayAt l a J || sayAt l a' J) by rw [HQ.out, say_k6 l k a a' _ hk (by omega) (by omega) hq ha ha'])
          clear hq ha ha' ha0 hb0
          generalize sayAt l a J = v at *
          generalize sayAt l a' J = v' at *
          cases v
          · cases v'
            · go_wp2_with fail
              go_roundw
              case rel => exact ⟨k + 1, hlt, by go_num, by rw [← isRow_set HV.out]; exact (hb.setB k _).alloc _, cell_as hbl q1, cell_as hbl q2, (hx.setCell (by show _ ≤ bi; omega) _).alloc _⟩
              case measure => simp [intOf]; omega
            · go_wp2_with fail
              go_roundw
              case rel => exact ⟨k + 1, hlt, by go_num, by rw [← isRow_set HV.out]; exact (hb.setB k _).alloc _, cell_as hbl q1, cell_as hbl q2, (hx.setCell (by show _ ≤ bi; omega) _).alloc _⟩
              case measure => simp [intOf]; omega
          · cases v'
            · go_wp2_with fail
              go_roundw
              case rel => exact ⟨k + 1, hlt, by go_num, by rw [← isRow_set HV.out]; exact (hb.setB k _).alloc _, cell_as hbl q1, cell_as hbl q2, (hx.setCell (by show _ ≤ bi; omega) _).alloc _⟩
              case measure => simp [intOf]; omega
            · go_wp2_with fail
              go_roundw
              case rel => exact ⟨k + 1, hlt, by go_num, by rw [← isRow_set HV.out]; exact (hb.setB k _).alloc _, cell_as hbl q1, cell_as hbl q2, (hx.setCell (by show _ ≤ bi; omega) _).alloc _⟩
              case measure => simp [intOf]; omega
    · obtain rfl : k = l.length := by omega
      have hc := hb.cell (rowB_get _ (show l.length - 1 < l.length by omega))
      have e1 : decide (l.length - 1 < l.length) = true := by simp; omega
      rw [e1, Bool.true_and] at hc
      have en : ((l.length : Int) - 1) = ((l.length - 1 : Nat) : Int) := by omega
      have ez : (0 : Int) ≤ (l.length : Int) - 1 := by omega
      go_wp2_with fail
      go_ret2
      exact ⟨by simp [hE.out, hH.out], hx⟩

end Go.Proofs.Ytiigbcnnapnceaa
