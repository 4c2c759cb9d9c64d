/- The walk of know.Check. -/
import Derived.Test.YtngbfdogiciahaaGreatShort
import Derived.Test.YtngbfdogiciahaaGreatWalks
namespace Go.Proofs.YtngbfdogiciahaaGreat
open Go Go.RowKit
set_option maxRecDepth 100000 in
set_option maxHeartbeats 4000000 in
theorem know_Check (B : Nat) (k : Know) (Av : Option Addr) (cv : Nat) (Am : Option Addr) (cm : Nat) (w : World) (h : InK B w Av Am k) :
  Calls Tryz.prog 166 #[.agg #[.slice Av k.vec.length cv, .slice Am k.more.length cm]] w fun e w' => e = .returned (.int .i64 (knowCheck k)) ∧ Ext w w' := by
 have hx0 := (Ext.refl w).alloc (.cells #[.slice Av k.vec.length cv, .slice Am k.more.length cm] 101)
 by_cases hb1 : 5 < k.vec.length
 ·have HE := hid (knowCheck_big (.inl hb1))
  go_enter Tryz.func166, Tryz.ntmps166
  go_wp2_with fail
  go_ret
  exact ⟨ret_int HE.out.symm, hx0⟩
 by_cases hb2 : 60 < k.more.length
 ·have HE := hid (knowCheck_big (.inr hb2))
  have hb1' : decide ((5 : Int) < k.vec.length) = false := by simp; omega
  go_enter Tryz.func166, Tryz.ntmps166
  go_wp2_with fail
  go_ret
  exact ⟨ret_int HE.out.symm, hx0⟩
 have HE := hid (knowCheck_go (k := k) (by omega))
 have hb1' : decide ((5 : Int) < k.vec.length) = false := by simp; omega
 have hb2' : decide ((60 : Int) < k.more.length) = false := by simp; omega
 have hv5 : k.vec.length ≤ 5 := by omega
 have hm60 : k.more.length ≤ 60 := by omega
 clear hb1 hb2
 go_enter Tryz.func166, Tryz.ntmps166
 go_wp2_with fail
 go_loopw [21] (fun i wr => ∃ j : Nat, j ≤ k.vec.length ∧ i = .int .i64 j ∧ vecGo (k.vec.drop j) = vecGo k.vec ∧ Ext w wr ∧ wr.cell? ⟨w.heap.size, 0, none⟩ = some (.slice Av k.vec.length cv) ∧ wr.cell? ⟨w.heap.size, 1, none⟩ = some (.slice Am k.more.length cm)) (fun i _ => k.vec.length - (intOf i).toNat)
 case atStart => exact ⟨0, Nat.zero_le _, rfl, rfl, hx0, by go_simp, by go_simp⟩
 case round =>
  clear hx0
  obtain ⟨j, hj, rfl, hG, hx, q0, q1⟩ := hrel
  have HG := hid hG
  clear hG
  by_cases hlt : j < k.vec.length
  ·obtain ⟨b, off, rfl, hb, g0⟩ := (h.sv.ext RInt.mono hx).int hlt
   have HS := hid (vecGo_drop k.vec j hlt)
   rcases Int.lt_or_le k.vec[j] 0 with h0 | h0
   ·have HF := hid (show vecGo k.vec = 1 by rw [← HG.out, HS.out, if_neg (by omega)])
    go_wp2_with fail
    go_ret
    exact ⟨ret_int (by rw [HE.out, HF.out]; rfl), hx⟩
   ·rcases Int.lt_or_le 1000 k.vec[j] with h1 | h1
    ·have HF := hid (show vecGo k.vec = 1 by rw [← HG.out, HS.out, if_neg (by omega)])
     go_wp2_with fail
     go_ret
     exact ⟨ret_int (by rw [HE.out, HF.out]; rfl), hx⟩
    ·have HF := hid (show vecGo (k.vec.drop (j + 1)) = vecGo k.vec by rw [← HG.out, HS.out, if_pos ⟨h0, h1⟩])
     go_wp2_with fail
     go_roundw
     case rel => exact ⟨j + 1, hlt, by go_num, HF.out, hx, q0, q1⟩
     case measure => simp [intOf]; omega
  ·obtain rfl : j = k.vec.length := by omega
   have HV0 := hid (show vecGo k.vec = 0 by rw [← HG.out]; simp [vecGo])
   clear HG hlt hj
   have key : ∀ (a : Act) (hlast : k.vec.getLast? ≠ some 0), True := fun _ _ => trivial
   clear key
   by_cases hlast : k.vec.getLast? = some 0
   ·have hpos : 0 < k.vec.length := by
     rcases Nat.eq_zero_or_pos k.vec.length with h0 | h0
     ·rw [List.eq_nil_of_length_eq_zero h0] at hlast; cases hlast
     ·exact h0
    obtain ⟨b, off, rfl, hb, g0⟩ := (h.sv.ext RInt.mono hx).int (i := k.vec.length - 1) (by omega)
    have hl0 : k.vec[k.vec.length - 1] = 0 := by rw [getLast_at hpos] at hlast; exact Option.some.inj hlast
    rw [hl0] at g0
    have HF := hid (show knowCheck k = 3 by rw [HE.out, if_pos HV0.out, if_pos hlast])
    have en : ((k.vec.length : Int) - 1) = ((k.vec.length - 1 : Nat) : Int) := by omega
    have ez : (0 : Int) ≤ (k.vec.length : Int) - 1 := by omega
    have ep : (0 : Int) < k.vec.length := by omega
    clear hlast hl0
    go_wp2_with fail
    go_ret
    exact ⟨ret_int HF.out.symm, hx⟩
   ·have HF := hid (show knowCheck k = moreGo k.vec ⟨-1, 0⟩ k.more by rw [HE.out, if_pos HV0.out, if_neg hlast])
    clear HE
    have HVB := hid (vecAt_bd ((vecGo_ok _).1 HV0.out))
    clear HV0
    by_cases hpos : 0 < k.vec.length
    ·obtain ⟨b, off, rfl, hb, g0⟩ := (h.sv.ext RInt.mono hx).int (i := k.vec.length - 1) (by omega)
     have hl0 : (k.vec[k.vec.length - 1] == 0) = false := by
      rw [getLast_at hpos] at hlast
      exact beq_eq_false_iff_ne.2 fun e => hlast (by rw [e])
     have en : ((k.vec.length : Int) - 1) = ((k.vec.length - 1 : Nat) : Int) := by omega
     have ez : (0 : Int) ≤ (k.vec.length : Int) - 1 := by omega
     have ep : (0 : Int) < k.vec.length := by omega
     clear hlast
     generalize k.vec[k.vec.length - 1] = lv at *
     obtain ⟨Av, hAv⟩ : ∃ A, A = some (⟨b, off, none⟩ : Addr) := ⟨_, rfl⟩
     go_wp2_with fail
     rw [← hAv] at h q0 ⊢
     clear hAv g0 en ez ep
     go_loopw [49] (fun i wr => ∃ j : Nat, j ≤ k.more.length ∧ i = .int .i64 j ∧ moreGo k.vec (lastDot k.more j) (k.more.drop j) = moreGo k.vec ⟨-1, 0⟩ k.more ∧ (∀ (i : Nat) (hi : i < k.more.length), i < j → dotOk k.more[i] = true) ∧ Ext w wr ∧ wr.cell? ⟨w.heap.size, 0, none⟩ = some (.slice Av k.vec.length cv) ∧ wr.cell? ⟨w.heap.size, 1, none⟩ = some (.slice Am k.more.length cm)) (fun i _ => k.more.length - (intOf i).toNat)
     case atStart => exact ⟨0, Nat.zero_le _, rfl, rfl, fun i _ h => absurd h (by omega), hx, q0, q1⟩
     case round =>
      clear hx q0 q1
      obtain ⟨j, hj, rfl, hG, hprev, hx, q0, q1⟩ := hrel
      have HG := hid hG
      have HPrev := hid hprev
      clear hG hprev
      by_cases hlt : j < k.more.length
      ·have hsm := h.sm
       obtain ⟨b, off, rfl, hb, g0, g1⟩ := (hsm.ext RPair.mono hx).pair hlt
       have HS := hid (moreGo_drop k.vec k.more j hlt)
       cases hok : dotOk k.more[j]
       ·have HF2 := hid (show moreGo k.vec ⟨-1, 0⟩ k.more = 1 by rw [← HG.out, HS.out, if_neg (by rw [hok]; simp)])
        go_wp2_with fail
        refine (know_Dot k.more[j] _).mono ?_
        rintro e w1 ⟨rfl, hx1⟩
        rw [hok]
        clear hok
        go_wp2_with fail
        go_ret
        exact ⟨ret_int (by rw [HF.out, HF2.out]), (hx.alloc _).trans hx1⟩
       ·have HO := hid hok
        obtain ⟨o1, o2, o3, o4⟩ := dotOk_iff.1 hok
        obtain ⟨s, hs⟩ := Int.eq_ofNat_of_zero_le o1
        have hsl : (s : Int) ≤ 4 := by omega
        have hD := know_Dot k.more[j]
        rw [hs] at hD g0
        have HVS := hid (show vecAt k.vec k.more[j].site = vecAt k.vec s by rw [hs])
        have hvb := HVB.out s
        go_wp2_with fail
        refine (hD _).mono ?_
        rintro e w1 ⟨rfl, hx1⟩
        rw [hok]
        clear hok hD
        have hyn := ((Ext.refl wr).alloc (.cells #[.int .i64 (s : Int), .int .i64 k.more[j].count] 35)).trans hx1
        have hd0 : w1.cell? ⟨wr.heap.size, 0, none⟩ = some (.int .i64 (s : Int)) := hx1.cell (by go_simp)
        have hd1 : w1.cell? ⟨wr.heap.size, 1, none⟩ = some (.int .i64 k.more[j].count) := hx1.cell (by go_simp)
        have HC0 := hid (fun w' (x : Ext wr w') => x.cell q0)
        have HC1 := hid (fun w' (x : Ext wr w') => x.cell q1)
        have HKn := hid (fun w' (x : Ext wr w') => h.ext (hx.trans x))
        have HVec := hid (fun w' (x : Ext w1 w') => know_vec B k Av cv (some ⟨b, off, none⟩) cm s w' (HKn.out _ (hyn.trans x)))
        have HD0 := hid (fun w' (x : Ext w1 w') => x.cell hd0)
        have HD1 := hid (fun w' (x : Ext w1 w') => x.cell hd1)
        replace HC0 := hid (fun w' (x : Ext w1 w') => HC0.out w' (hyn.trans x))
        replace HC1 := hid (fun w' (x : Ext w1 w') => HC1.out w' (hyn.trans x))
        replace hx := hx.trans hyn
        clear hd0 hd1 hx1 q0 q1
        obtain ⟨V, hV⟩ : ∃ V, V = vecAt k.vec s := ⟨_, rfl⟩
        have HVV := hid hV
        rw [← hV] at hvb HVec
        clear hV
        obtain ⟨v0, v1⟩ := hvb
        have eV : IntKind.i64.wrap (V + 1) = V + 1 := by rw [IntKind.wrap_i64]; omega
        clear hyn
        by_cases hcv : k.more[j].count ≤ V + 1
        ·have HP := hid (show k.more[j].count ≤ vecAt k.vec k.more[j].site + 1 ∨ dlt (lastDot k.more j) k.more[j] = false from .inl (by rw [HVS.out, ← HVV.out]; exact hcv))
         go_wp2_with fail
         have HAll := hid (fun w' (x : Ext w1 w') => show w'.cell? ⟨w.heap.size, 0, none⟩ = some (.slice Av k.vec.length cv) ∧ w'.cell? ⟨w.heap.size, 1, none⟩ = some (.slice (some ⟨b, off, none⟩) k.more.length cm) ∧ w'.cell? ⟨wr.heap.size, 0, none⟩ = some (.int .i64 (s : Int)) ∧ w'.cell? ⟨wr.heap.size, 1, none⟩ = some (.int .i64 k.more[j].count) from ⟨HC0.out _ x, HC1.out _ x, HD0.out _ x, HD1.out _ x⟩)
         refine wq_region (fun w' => Ext w1 w') (by kernel_rfl) (by kernel_rfl) (Ext.refl _).drew ?_
         refine wq_get (v := ?_) (fun w' hw' => ?_) ?_
         rotate_left
         ·have hA := HAll.out w' hw'; go_split_ands; go_simp <;> with_reducible rfl
         try simp only [pq]
         refine wq_get (v := ?_) (fun w' hw' => ?_) ?_
         rotate_left
         ·have hA := HAll.out w' hw'; go_split_ands; go_simp <;> with_reducible rfl
         try simp only [pq]
         refine wq_get (v := ?_) (fun w' hw' => ?_) ?_
         rotate_left
         ·have hA := HAll.out w' hw'; go_split_ands; go_simp <;> with_reducible rfl
         try simp only [pq]
         refine wq_get (v := ?_) (fun w' hw' => ?_) ?_
         rotate_left
         ·have hA := HAll.out w' hw'; go_split_ands; go_simp <;> with_reducible rfl
         try simp only [pq]
         refine wq_get (v := ?_) (fun w' hw' => ?_) ?_
         rotate_left
         ·have hA := HAll.out w' hw'; go_split_ands; go_simp <;> with_reducible rfl
         try simp only [pq]
         refine wq_call Tryz.call200 (by rfl) (fun w' x => (HVec.out w' x).mono fun _ _ h => ⟨h.1, x.trans h.2⟩) ?_
         try simp only [pq]
         refine wq_get (v := ?_) (fun w' hw' => ?_) ?_
         rotate_left
         ·have hA := HAll.out w' hw'; go_split_ands; go_simp <;> with_reducible rfl
         try simp only [pq]
         refine wq_get (v := ?_) (fun w' hw' => ?_) ?_
         rotate_left
         ·have hA := HAll.out w' hw'; go_split_ands; go_simp <;> with_reducible rfl
         try simp only [pq]
         refine wq_get (v := ?_) (fun w' hw' => ?_) ?_
         rotate_left
         ·have hA := HAll.out w' hw'; go_split_ands; go_simp <;> with_reducible rfl
         try simp only [pq]
         refine wq_skip (yields_at rfl rfl rfl) ?_
         try simp only [pq]
         refine wq_skip (yields_at rfl rfl rfl) ?_
         try simp only [pq]
         refine wq_skip (yields_at rfl rfl rfl) ?_
         try simp only [pq]
         refine wq_skipOff (yields_no rfl rfl rfl) ?_
         try simp only [pq]
         refine wq_skipOff (yields_no rfl rfl rfl) ?_
         try simp only [pq]
         refine wq_skipOff (yields_no rfl rfl rfl) ?_
         try simp only [pq]
         refine wq_skipOff (yields_no rfl rfl rfl) ?_
         try simp only [pq]
         refine wq_skipOff (yields_no rfl rfl rfl) ?_
         try simp only [pq]
         refine wq_skipOff (yields_no rfl rfl rfl) ?_
         try simp only [pq]
         refine wq_skipOff (yields_no rfl rfl rfl) ?_
         try simp only [pq]
         refine wq_skipOff (yields_no rfl rfl rfl) ?_
         try simp only [pq]
         refine wq_skipOff (yields_no rfl rfl rfl) ?_
         try simp only [pq]
         refine wq_skip (yields_at rfl rfl rfl) ?_
         try simp only [pq]
         refine wq_get (v := ?_) (fun w' hw' => ?_) ?_
         rotate_left
         ·have hA := HAll.out w' hw'; go_split_ands; go_simp <;> with_reducible rfl
         try simp only [pq]
         refine wq_nil ?_
         intro w25 hyn
         go_wp2_with fail
         go_ret
         exact ⟨ret_int (by rw [HF.out, ← HG.out, HS.out, if_pos HO.out, if_pos HP.out]), hx.trans hyn⟩
        ·have hcv' : decide (k.more[j].count ≤ V + 1) = false := by simp; omega
         by_cases hj0 : j = 0
         ·have HN := hid (show ¬ (k.more[j].count ≤ vecAt k.vec k.more[j].site + 1 ∨ dlt (lastDot k.more j) k.more[j] = false) by
           rw [HVS.out, ← HVV.out, show lastDot k.more j = ⟨-1, 0⟩ from by rw [hj0]; rfl, dotOk_first HO.out]; simp; omega)
          have hj0' : decide (0 < j) = false := by simp; omega
          have hj0i : decide ((0 : Int) < j) = false := by simp; omega
          clear hj0
          go_wp2_with fail
          have HAll := hid (fun w' (x : Ext w1 w') => show w'.cell? ⟨w.heap.size, 0, none⟩ = some (.slice Av k.vec.length cv) ∧ w'.cell? ⟨w.heap.size, 1, none⟩ = some (.slice (some ⟨b, off, none⟩) k.more.length cm) ∧ w'.cell? ⟨wr.heap.size, 0, none⟩ = some (.int .i64 (s : Int)) ∧ w'.cell? ⟨wr.heap.size, 1, none⟩ = some (.int .i64 k.more[j].count) from ⟨HC0.out _ x, HC1.out _ x, HD0.out _ x, HD1.out _ x⟩)
          refine wq_region (fun w' => Ext w1 w') (by kernel_rfl) (by kernel_rfl) (Ext.refl _).drew ?_
          refine wq_get (v := ?_) (fun w' hw' => ?_) ?_
          rotate_left
          ·have hA := HAll.out w' hw'; go_split_ands; go_simp <;> with_reducible rfl
          try simp only [pq]
          refine wq_get (v := ?_) (fun w' hw' => ?_) ?_
          rotate_left
          ·have hA := HAll.out w' hw'; go_split_ands; go_simp <;> with_reducible rfl
          try simp only [pq]
          refine wq_get (v := ?_) (fun w' hw' => ?_) ?_
          rotate_left
          ·have hA := HAll.out w' hw'; go_split_ands; go_simp <;> with_reducible rfl
          try simp only [pq]
          refine wq_get (v := ?_) (fun w' hw' => ?_) ?_
          rotate_left
          ·have hA := HAll.out w' hw'; go_split_ands; go_simp <;> with_reducible rfl
          try simp only [pq]
          refine wq_get (v := ?_) (fun w' hw' => ?_) ?_
          rotate_left
          ·have hA := HAll.out w' hw'; go_split_ands; go_simp <;> with_reducible rfl
          try simp only [pq]
          refine wq_call Tryz.call200 (by rfl) (fun w' x => (HVec.out w' x).mono fun _ _ h => ⟨h.1, x.trans h.2⟩) ?_
          try simp only [pq]
          refine wq_get (v := ?_) (fun w' hw' => ?_) ?_
          rotate_left
          ·have hA := HAll.out w' hw'; go_split_ands; go_simp <;> with_reducible rfl
          try simp only [pq]
          refine wq_get (v := ?_) (fun w' hw' => ?_) ?_
          rotate_left
          ·have hA := HAll.out w' hw'; go_split_ands; go_simp <;> with_reducible rfl
          try simp only [pq]
          try simp only [hcv']
          try simp only [hj0']
          try simp only [hj0i]
          refine wq_get (v := ?_) (fun w' hw' => ?_) ?_
          rotate_left
          ·have hA := HAll.out w' hw'; go_split_ands; go_simp <;> with_reducible rfl
          try simp only [pq]
          refine wq_getOn (v := ?_) (yields_at rfl rfl rfl) (fun w' hw' => ?_) ?_
          rotate_left
          ·have hA := HAll.out w' hw'; go_split_ands; go_simp <;> with_reducible rfl
          try simp only [pq]
          refine wq_getOn (v := ?_) (yields_at rfl rfl rfl) (fun w' hw' => ?_) ?_
          rotate_left
          ·have hA := HAll.out w' hw'; go_split_ands; go_simp <;> with_reducible rfl
          try simp only [pq]
          try simp only [hcv']
          try simp only [hj0']
          try simp only [hj0i]
          refine wq_getOn (v := ?_) (yields_at rfl rfl rfl) (fun w' hw' => ?_) ?_
          rotate_left
          ·have hA := HAll.out w' hw'; go_split_ands; go_simp <;> with_reducible rfl
          try simp only [pq]
          refine wq_skip (yields_at rfl rfl rfl) ?_
          try simp only [pq]
          refine wq_skip (yields_at rfl rfl rfl) ?_
          try simp only [pq]
          refine wq_skip (yields_at rfl rfl rfl) ?_
          try simp only [pq]
          refine wq_skip (yields_at rfl rfl rfl) ?_
          try simp only [pq]
          refine wq_skip (yields_at rfl rfl rfl) ?_
          try simp only [pq]
          refine wq_skip (yields_at rfl rfl rfl) ?_
          try simp only [pq]
          refine wq_skip (yields_at rfl rfl rfl) ?_
          try simp only [pq]
          refine wq_skip (yields_at rfl rfl rfl) ?_
          try simp only [pq]
          refine wq_skip (yields_at rfl rfl rfl) ?_
          try simp only [pq]
          refine wq_getOn (v := ?_) (yields_at rfl rfl rfl) (fun w' hw' => ?_) ?_
          rotate_left
          ·have hA := HAll.out w' hw'; go_split_ands; go_simp <;> with_reducible rfl
          try simp only [pq]
          refine wq_get (v := ?_) (fun w' hw' => ?_) ?_
          rotate_left
          ·have hA := HAll.out w' hw'; go_split_ands; go_simp <;> with_reducible rfl
          try simp only [pq]
          refine wq_nil ?_
          intro w25 hyn
          go_wp2_with fail
          go_roundw
          case rel => exact ⟨j + 1, hlt, by go_num, by rw [← HG.out, HS.out, if_pos HO.out, if_neg HN.out], fun i hi hij => by (by_cases h : i = j); (subst h; exact HO.out); exact HPrev.out i hi (by omega), hx.trans hyn, HC0.out _ hyn, HC1.out _ hyn⟩
          case measure => simp [intOf]; omega
         ·have hjp : decide ((0 : Int) < j) = true := by simp; omega
          have hjn : decide (0 < j) = true := by simp; omega
          have en : IntKind.i64.wrap ((j : Int) - 1) = ((j - 1 : Nat) : Int) := by rw [IntKind.wrap_i64]; omega
          have ez : (0 : Int) ≤ ((j - 1 : Nat) : Int) := by omega
          have el : ((j - 1 : Nat) : Int) < k.more.length := by omega
          obtain ⟨b', off', hbo, _, p0, p1⟩ := ((hsm.ext RPair.mono hx)).pair (i := j - 1) (by omega)
          simp only [Option.some.injEq, Addr.mk.injEq] at hbo
          obtain ⟨rfl, rfl, _⟩ := hbo
          have HP0 := hid (fun w' (x : Ext w1 w') => x.cell p0)
          have HP1 := hid (fun w' (x : Ext w1 w') => x.cell p1)
          have hpok : dotOk k.more[j - 1] = true := HPrev.out (j - 1) (by omega) (by omega)
          have HCmp := hid (fun w' => know_cmp k.more[j - 1] k.more[j] w' hpok HO.out)
          rw [hs] at HCmp
          obtain ⟨C, hC⟩ : ∃ C, C = cmpD k.more[j - 1] k.more[j] := ⟨_, rfl⟩
          have HCC := hid hC
          rw [← hC] at HCmp
          clear hC p0 p1 hpok
          by_cases hcp : 0 ≤ C
          ·have HP := hid (show k.more[j].count ≤ vecAt k.vec k.more[j].site + 1 ∨ dlt (lastDot k.more j) k.more[j] = false from .inr (by rw [lastDot_pos (by omega) (by omega), ← cmpD_ge, ← HCC.out]; exact hcp))
           go_wp2_with fail
           have HAll := hid (fun w' (x : Ext w1 w') => show w'.cell? ⟨w.heap.size, 0, none⟩ = some (.slice Av k.vec.length cv) ∧ w'.cell? ⟨w.heap.size, 1, none⟩ = some (.slice (some ⟨b, off, none⟩) k.more.length cm) ∧ w'.cell? ⟨wr.heap.size, 0, none⟩ = some (.int .i64 (s : Int)) ∧ w'.cell? ⟨wr.heap.size, 1, none⟩ = some (.int .i64 k.more[j].count) ∧ w'.cell? ⟨b, off + (j - 1) * 2, none⟩ = some (.int .i64 k.more[j - 1].site) ∧ w'.cell? ⟨b, off + (j - 1) * 2 + 1, none⟩ = some (.int .i64 k.more[j - 1].count) from ⟨HC0.out _ x, HC1.out _ x, HD0.out _ x, HD1.out _ x, HP0.out _ x, HP1.out _ x⟩)
           refine wq_region (fun w' => Ext w1 w') (by kernel_rfl) (by kernel_rfl) (Ext.refl _).drew ?_
           refine wq_get (v := ?_) (fun w' hw' => ?_) ?_
           rotate_left
           ·have hA := HAll.out w' hw'; go_split_ands; go_simp <;> with_reducible rfl
           try simp only [pq]
           refine wq_get (v := ?_) (fun w' hw' => ?_) ?_
           rotate_left
           ·have hA := HAll.out w' hw'; go_split_ands; go_simp <;> with_reducible rfl
           try simp only [pq]
           refine wq_get (v := ?_) (fun w' hw' => ?_) ?_
           rotate_left
           ·have hA := HAll.out w' hw'; go_split_ands; go_simp <;> with_reducible rfl
           try simp only [pq]
           refine wq_get (v := ?_) (fun w' hw' => ?_) ?_
           rotate_left
           ·have hA := HAll.out w' hw'; go_split_ands; go_simp <;> with_reducible rfl
           try simp only [pq]
           refine wq_get (v := ?_) (fun w' hw' => ?_) ?_
           rotate_left
           ·have hA := HAll.out w' hw'; go_split_ands; go_simp <;> with_reducible rfl
           try simp only [pq]
           refine wq_call Tryz.call200 (by rfl) (fun w' x => (HVec.out w' x).mono fun _ _ h => ⟨h.1, x.trans h.2⟩) ?_
           try simp only [pq]
           refine wq_get (v := ?_) (fun w' hw' => ?_) ?_
           rotate_left
           ·have hA := HAll.out w' hw'; go_split_ands; go_simp <;> with_reducible rfl
           try simp only [pq]
           refine wq_get (v := ?_) (fun w' hw' => ?_) ?_
           rotate_left
           ·have hA := HAll.out w' hw'; go_split_ands; go_simp <;> with_reducible rfl
           try simp only [pq]
           try simp only [hcv']
           try simp only [hjp]
           try simp only [hjn]
           refine wq_get (v := ?_) (fun w' hw' => ?_) ?_
           rotate_left
           ·have hA := HAll.out w' hw'; go_split_ands; go_simp <;> with_reducible rfl
           try simp only [pq]
           refine wq_getOn (v := ?_) (yields_at rfl rfl rfl) (fun w' hw' => ?_) ?_
           rotate_left
           ·have hA := HAll.out w' hw'; go_split_ands; go_simp <;> with_reducible rfl
           try simp only [pq]
           refine wq_getOn (v := ?_) (yields_at rfl rfl rfl) (fun w' hw' => ?_) ?_
           rotate_left
           ·have hA := HAll.out w' hw'; go_split_ands; go_simp <;> with_reducible rfl
           try simp only [pq]
           try simp only [hcv']
           try simp only [hjp]
           try simp only [hjn]
           refine wq_getOn (v := ?_) (yields_at rfl rfl rfl) (fun w' hw' => ?_) ?_
           rotate_left
           ·have hA := HAll.out w' hw'; go_split_ands; go_simp <;> with_reducible rfl
           try simp only [pq]
           refine wq_getOn (v := ?_) (yields_at rfl rfl rfl) (fun w' hw' => ?_) ?_
           rotate_left
           ·have hA := HAll.out w' hw'; go_split_ands; go_simp <;> with_reducible rfl
           try simp only [pq]
           refine wq_getOn (v := ?_) (yields_at rfl rfl rfl) (fun w' hw' => ?_) ?_
           rotate_left
           ·have hA := HAll.out w' hw'; go_split_ands; go_simp <;> with_reducible rfl
           try simp only [pq]
           refine wq_getOn (v := ?_) (yields_at rfl rfl rfl) (fun w' hw' => ?_) ?_
           rotate_left
           ·have hA := HAll.out w' hw'; go_split_ands; go_simp <;> with_reducible rfl
           try simp only [pq]
           refine wq_getOn (v := ?_) (yields_at rfl rfl rfl) (fun w' hw' => ?_) ?_
           rotate_left
           ·have hA := HAll.out w' hw'; go_split_ands; go_simp <;> with_reducible rfl
           try simp only [pq]
           refine wq_getOn (v := ?_) (yields_at rfl rfl rfl) (fun w' hw' => ?_) ?_
           rotate_left
           ·have hA := HAll.out w' hw'; go_split_ands; go_simp <;> with_reducible rfl
           try simp only [pq]
           refine wq_getOn (v := ?_) (yields_at rfl rfl rfl) (fun w' hw' => ?_) ?_
           rotate_left
           ·have hA := HAll.out w' hw'; go_split_ands; go_simp <;> with_reducible rfl
           try simp only [pq]
           refine wq_getOn (v := ?_) (yields_at rfl rfl rfl) (fun w' hw' => ?_) ?_
           rotate_left
           ·have hA := HAll.out w' hw'; go_split_ands; go_simp <;> with_reducible rfl
           try simp only [pq]
           refine wq_callOn Tryz.call192 (yields_at rfl rfl rfl) (by rfl) (fun w' x => (HCmp.out w').mono fun _ _ h => ⟨h.1, x.trans h.2⟩) ?_
           try simp only [pq]
           refine wq_getOn (v := ?_) (yields_at rfl rfl rfl) (fun w' hw' => ?_) ?_
           rotate_left
           ·have hA := HAll.out w' hw'; go_split_ands; go_simp <;> with_reducible rfl
           try simp only [pq]
           try simp only [hcv']
           try simp only [hjp]
           try simp only [hjn]
           refine wq_getOn (v := ?_) (yields_at rfl rfl rfl) (fun w' hw' => ?_) ?_
           rotate_left
           ·have hA := HAll.out w' hw'; go_split_ands; go_simp <;> with_reducible rfl
           try simp only [pq]
           refine wq_get (v := ?_) (fun w' hw' => ?_) ?_
           rotate_left
           ·have hA := HAll.out w' hw'; go_split_ands; go_simp <;> with_reducible rfl
           try simp only [pq]
           refine wq_nil ?_
           intro w25 hyn
           go_wp2_with fail
           go_ret
           exact ⟨ret_int (by rw [HF.out, ← HG.out, HS.out, if_pos HO.out, if_pos HP.out]), hx.trans hyn⟩
          ·have HN := hid (show ¬ (k.more[j].count ≤ vecAt k.vec k.more[j].site + 1 ∨ dlt (lastDot k.more j) k.more[j] = false) by
            rw [HVS.out, ← HVV.out, lastDot_pos (by omega) (by omega), ← cmpD_ge, ← HCC.out]; omega)
           have hcp' : decide (0 ≤ C) = false := by simp; omega
           go_wp2_with fail
           have HAll := hid (fun w' (x : Ext w1 w') => show w'.cell? ⟨w.heap.size, 0, none⟩ = some (.slice Av k.vec.length cv) ∧ w'.cell? ⟨w.heap.size, 1, none⟩ = some (.slice (some ⟨b, off, none⟩) k.more.length cm) ∧ w'.cell? ⟨wr.heap.size, 0, none⟩ = some (.int .i64 (s : Int)) ∧ w'.cell? ⟨wr.heap.size, 1, none⟩ = some (.int .i64 k.more[j].count) ∧ w'.cell? ⟨b, off + (j - 1) * 2, none⟩ = some (.int .i64 k.more[j - 1].site) ∧ w'.cell? ⟨b, off + (j - 1) * 2 + 1, none⟩ = some (.int .i64 k.more[j - 1].count) from ⟨HC0.out _ x, HC1.out _ x, HD0.out _ x, HD1.out _ x, HP0.out _ x, HP1.out _ x⟩)
           refine wq_region (fun w' => Ext w1 w') (by kernel_rfl) (by kernel_rfl) (Ext.refl _).drew ?_
           refine wq_get (v := ?_) (fun w' hw' => ?_) ?_
           rotate_left
           ·have hA := HAll.out w' hw'; go_split_ands; go_simp <;> with_reducible rfl
           try simp only [pq]
           refine wq_get (v := ?_) (fun w' hw' => ?_) ?_
           rotate_left
           ·have hA := HAll.out w' hw'; go_split_ands; go_simp <;> with_reducible rfl
           try simp only [pq]
           refine wq_get (v := ?_) (fun w' hw' => ?_) ?_
           rotate_left
           ·have hA := HAll.out w' hw'; go_split_ands; go_simp <;> with_reducible rfl
           try simp only [pq]
           refine wq_get (v := ?_) (fun w' hw' => ?_) ?_
           rotate_left
           ·have hA := HAll.out w' hw'; go_split_ands; go_simp <;> with_reducible rfl
           try simp only [pq]
           refine wq_get (v := ?_) (fun w' hw' => ?_) ?_
           rotate_left
           ·have hA := HAll.out w' hw'; go_split_ands; go_simp <;> with_reducible rfl
           try simp only [pq]
           refine wq_call Tryz.call200 (by rfl) (fun w' x => (HVec.out w' x).mono fun _ _ h => ⟨h.1, x.trans h.2⟩) ?_
           try simp only [pq]
           refine wq_get (v := ?_) (fun w' hw' => ?_) ?_
           rotate_left
           ·have hA := HAll.out w' hw'; go_split_ands; go_simp <;> with_reducible rfl
           try simp only [pq]
           refine wq_get (v := ?_) (fun w' hw' => ?_) ?_
           rotate_left
           ·have hA := HAll.out w' hw'; go_split_ands; go_simp <;> with_reducible rfl
           try simp only [pq]
           try simp only [hcv']
           try simp only [hcp']
           try simp only [hjp]
           try simp only [hjn]
           refine wq_get (v := ?_) (fun w' hw' => ?_) ?_
           rotate_left
           ·have hA := HAll.out w' hw'; go_split_ands; go_simp <;> with_reducible rfl
           try simp only [pq]
           refine wq_getOn (v := ?_) (yields_at rfl rfl rfl) (fun w' hw' => ?_) ?_
           rotate_left
           ·have hA := HAll.out w' hw'; go_split_ands; go_simp <;> with_reducible rfl
           try simp only [pq]
           refine wq_getOn (v := ?_) (yields_at rfl rfl rfl) (fun w' hw' => ?_) ?_
           rotate_left
           ·have hA := HAll.out w' hw'; go_split_ands; go_simp <;> with_reducible rfl
           try simp only [pq]
           try simp only [hcv']
           try simp only [hcp']
           try simp only [hjp]
           try simp only [hjn]
           refine wq_getOn (v := ?_) (yields_at rfl rfl rfl) (fun w' hw' => ?_) ?_
           rotate_left
           ·have hA := HAll.out w' hw'; go_split_ands; go_simp <;> with_reducible rfl
           try simp only [pq]
           refine wq_getOn (v := ?_) (yields_at rfl rfl rfl) (fun w' hw' => ?_) ?_
           rotate_left
           ·have hA := HAll.out w' hw'; go_split_ands; go_simp <;> with_reducible rfl
           try simp only [pq]
           refine wq_getOn (v := ?_) (yields_at rfl rfl rfl) (fun w' hw' => ?_) ?_
           rotate_left
           ·have hA := HAll.out w' hw'; go_split_ands; go_simp <;> with_reducible rfl
           try simp only [pq]
           refine wq_getOn (v := ?_) (yields_at rfl rfl rfl) (fun w' hw' => ?_) ?_
           rotate_left
           ·have hA := HAll.out w' hw'; go_split_ands; go_simp <;> with_reducible rfl
           try simp only [pq]
           refine wq_getOn (v := ?_) (yields_at rfl rfl rfl) (fun w' hw' => ?_) ?_
           rotate_left
           ·have hA := HAll.out w' hw'; go_split_ands; go_simp <;> with_reducible rfl
           try simp only [pq]
           refine wq_getOn (v := ?_) (yields_at rfl rfl rfl) (fun w' hw' => ?_) ?_
           rotate_left
           ·have hA := HAll.out w' hw'; go_split_ands; go_simp <;> with_reducible rfl
           try simp only [pq]
           refine wq_getOn (v := ?_) (yields_at rfl rfl rfl) (fun w' hw' => ?_) ?_
           rotate_left
           ·have hA := HAll.out w' hw'; go_split_ands; go_simp <;> with_reducible rfl
           try simp only [pq]
           refine wq_getOn (v := ?_) (yields_at rfl rfl rfl) (fun w' hw' => ?_) ?_
           rotate_left
           ·have hA := HAll.out w' hw'; go_split_ands; go_simp <;> with_reducible rfl
           try simp only [pq]
           refine wq_callOn Tryz.call192 (yields_at rfl rfl rfl) (by rfl) (fun w' x => (HCmp.out w').mono fun _ _ h => ⟨h.1, x.trans h.2⟩) ?_
           try simp only [pq]
           refine wq_getOn (v := ?_) (yields_at rfl rfl rfl) (fun w' hw' => ?_) ?_
           rotate_left
           ·have hA := HAll.out w' hw'; go_split_ands; go_simp <;> with_reducible rfl
           try simp only [pq]
           try simp only [hcv']
           try simp only [hcp']
           try simp only [hjp]
           try simp only [hjn]
           refine wq_getOn (v := ?_) (yields_at rfl rfl rfl) (fun w' hw' => ?_) ?_
           rotate_left
           ·have hA := HAll.out w' hw'; go_split_ands; go_simp <;> with_reducible rfl
           try simp only [pq]
           refine wq_get (v := ?_) (fun w' hw' => ?_) ?_
           rotate_left
           ·have hA := HAll.out w' hw'; go_split_ands; go_simp <;> with_reducible rfl
           try simp only [pq]
           refine wq_nil ?_
           intro w25 hyn
           go_wp2_with fail
           go_roundw
           case rel => exact ⟨j + 1, hlt, by go_num, by rw [← HG.out, HS.out, if_pos HO.out, if_neg HN.out], fun i hi hij => by (by_cases h : i = j); (subst h; exact HO.out); exact HPrev.out i hi (by omega), hx.trans hyn, HC0.out _ hyn, HC1.out _ hyn⟩
           case measure => simp [intOf]; omega
      ·obtain rfl : j = k.more.length := by omega
       have HF2 := hid (show moreGo k.vec ⟨-1, 0⟩ k.more = 0 by rw [← HG.out]; simp [moreGo])
       go_wp2_with fail
       go_ret
       exact ⟨ret_int (by rw [HF.out, HF2.out]), hx⟩
    ·have ep : decide ((0 : Int) < k.vec.length) = false := decide_eq_false (by omega)
     clear hlast
     go_wp2_with fail
     clear ep
     go_loopw [49] (fun i wr => ∃ j : Nat, j ≤ k.more.length ∧ i = .int .i64 j ∧ moreGo k.vec (lastDot k.more j) (k.more.drop j) = moreGo k.vec ⟨-1, 0⟩ k.more ∧ (∀ (i : Nat) (hi : i < k.more.length), i < j → dotOk k.more[i] = true) ∧ Ext w wr ∧ wr.cell? ⟨w.heap.size, 0, none⟩ = some (.slice Av k.vec.length cv) ∧ wr.cell? ⟨w.heap.size, 1, none⟩ = some (.slice Am k.more.length cm)) (fun i _ => k.more.length - (intOf i).toNat)
     case atStart => exact ⟨0, Nat.zero_le _, rfl, rfl, fun i _ h => absurd h (by omega), hx, q0, q1⟩
     case round =>
      clear hx q0 q1
      obtain ⟨j, hj, rfl, hG, hprev, hx, q0, q1⟩ := hrel
      have HG := hid hG
      have HPrev := hid hprev
      clear hG hprev
      by_cases hlt : j < k.more.length
      ·have hsm := h.sm
       obtain ⟨b, off, rfl, hb, g0, g1⟩ := (hsm.ext RPair.mono hx).pair hlt
       have HS := hid (moreGo_drop k.vec k.more j hlt)
       cases hok : dotOk k.more[j]
       ·have HF2 := hid (show moreGo k.vec ⟨-1, 0⟩ k.more = 1 by rw [← HG.out, HS.out, if_neg (by rw [hok]; simp)])
        go_wp2_with fail
        refine (know_Dot k.more[j] _).mono ?_
        rintro e w1 ⟨rfl, hx1⟩
        rw [hok]
        clear hok
        go_wp2_with fail
        go_ret
        exact ⟨ret_int (by rw [HF.out, HF2.out]), (hx.alloc _).trans hx1⟩
       ·have HO := hid hok
        obtain ⟨o1, o2, o3, o4⟩ := dotOk_iff.1 hok
        obtain ⟨s, hs⟩ := Int.eq_ofNat_of_zero_le o1
        have hsl : (s : Int) ≤ 4 := by omega
        have hD := know_Dot k.more[j]
        rw [hs] at hD g0
        have HVS := hid (show vecAt k.vec k.more[j].site = vecAt k.vec s by rw [hs])
        have hvb := HVB.out s
        go_wp2_with fail
        refine (hD _).mono ?_
        rintro e w1 ⟨rfl, hx1⟩
        rw [hok]
        clear hok hD
        have hyn := ((Ext.refl wr).alloc (.cells #[.int .i64 (s : Int), .int .i64 k.more[j].count] 35)).trans hx1
        have hd0 : w1.cell? ⟨wr.heap.size, 0, none⟩ = some (.int .i64 (s : Int)) := hx1.cell (by go_simp)
        have hd1 : w1.cell? ⟨wr.heap.size, 1, none⟩ = some (.int .i64 k.more[j].count) := hx1.cell (by go_simp)
        have HC0 := hid (fun w' (x : Ext wr w') => x.cell q0)
        have HC1 := hid (fun w' (x : Ext wr w') => x.cell q1)
        have HKn := hid (fun w' (x : Ext wr w') => h.ext (hx.trans x))
        have HVec := hid (fun w' (x : Ext w1 w') => know_vec B k Av cv (some ⟨b, off, none⟩) cm s w' (HKn.out _ (hyn.trans x)))
        have HD0 := hid (fun w' (x : Ext w1 w') => x.cell hd0)
        have HD1 := hid (fun w' (x : Ext w1 w') => x.cell hd1)
        replace HC0 := hid (fun w' (x : Ext w1 w') => HC0.out w' (hyn.trans x))
        replace HC1 := hid (fun w' (x : Ext w1 w') => HC1.out w' (hyn.trans x))
        replace hx := hx.trans hyn
        clear hd0 hd1 hx1 q0 q1
        obtain ⟨V, hV⟩ : ∃ V, V = vecAt k.vec s := ⟨_, rfl⟩
        have HVV := hid hV
        rw [← hV] at hvb HVec
        clear hV
        obtain ⟨v0, v1⟩ := hvb
        have eV : IntKind.i64.wrap (V + 1) = V + 1 := by rw [IntKind.wrap_i64]; omega
        clear hyn
        by_cases hcv : k.more[j].count ≤ V + 1
        ·have HP := hid (show k.more[j].count ≤ vecAt k.vec k.more[j].site + 1 ∨ dlt (lastDot k.more j) k.more[j] = false from .inl (by rw [HVS.out, ← HVV.out]; exact hcv))
         go_wp2_with fail
         have HAll := hid (fun w' (x : Ext w1 w') => show w'.cell? ⟨w.heap.size, 0, none⟩ = some (.slice Av k.vec.length cv) ∧ w'.cell? ⟨w.heap.size, 1, none⟩ = some (.slice (some ⟨b, off, none⟩) k.more.length cm) ∧ w'.cell? ⟨wr.heap.size, 0, none⟩ = some (.int .i64 (s : Int)) ∧ w'.cell? ⟨wr.heap.size, 1, none⟩ = some (.int .i64 k.more[j].count) from ⟨HC0.out _ x, HC1.out _ x, HD0.out _ x, HD1.out _ x⟩)
         refine wq_region (fun w' => Ext w1 w') (by kernel_rfl) (by kernel_rfl) (Ext.refl _).drew ?_
         refine wq_get (v := ?_) (fun w' hw' => ?_) ?_
         rotate_left
         ·have hA := HAll.out w' hw'; go_split_ands; go_simp <;> with_reducible rfl
         try simp only [pq]
         refine wq_get (v := ?_) (fun w' hw' => ?_) ?_
         rotate_left
         ·have hA := HAll.out w' hw'; go_split_ands; go_simp <;> with_reducible rfl
         try simp only [pq]
         refine wq_get (v := ?_) (fun w' hw' => ?_) ?_
         rotate_left
         ·have hA := HAll.out w' hw'; go_split_ands; go_simp <;> with_reducible rfl
         try simp only [pq]
         refine wq_get (v := ?_) (fun w' hw' => ?_) ?_
         rotate_left
         ·have hA := HAll.out w' hw'; go_split_ands; go_simp <;> with_reducible rfl
         try simp only [pq]
         refine wq_get (v := ?_) (fun w' hw' => ?_) ?_
         rotate_left
         ·have hA := HAll.out w' hw'; go_split_ands; go_simp <;> with_reducible rfl
         try simp only [pq]
         refine wq_call Tryz.call200 (by rfl) (fun w' x => (HVec.out w' x).mono fun _ _ h => ⟨h.1, x.trans h.2⟩) ?_
         try simp only [pq]
         refine wq_get (v := ?_) (fun w' hw' => ?_) ?_
         rotate_left
         ·have hA := HAll.out w' hw'; go_split_ands; go_simp <;> with_reducible rfl
         try simp only [pq]
         refine wq_get (v := ?_) (fun w' hw' => ?_) ?_
         rotate_left
         ·have hA := HAll.out w' hw'; go_split_ands; go_simp <;> with_reducible rfl
         try simp only [pq]
         refine wq_get (v := ?_) (fun w' hw' => ?_) ?_
         rotate_left
         ·have hA := HAll.out w' hw'; go_split_ands; go_simp <;> with_reducible rfl
         try simp only [pq]
         refine wq_skip (yields_at rfl rfl rfl) ?_
         try simp only [pq]
         refine wq_skip (yields_at rfl rfl rfl) ?_
         try simp only [pq]
         refine wq_skip (yields_at rfl rfl rfl) ?_
         try simp only [pq]
         refine wq_skipOff (yields_no rfl rfl rfl) ?_
         try simp only [pq]
         refine wq_skipOff (yields_no rfl rfl rfl) ?_
         try simp only [pq]
         refine wq_skipOff (yields_no rfl rfl rfl) ?_
         try simp only [pq]
         refine wq_skipOff (yields_no rfl rfl rfl) ?_
         try simp only [pq]
         refine wq_skipOff (yields_no rfl rfl rfl) ?_
         try simp only [pq]
         refine wq_skipOff (yields_no rfl rfl rfl) ?_
         try simp only [pq]
         refine wq_skipOff (yields_no rfl rfl rfl) ?_
         try simp only [pq]
         refine wq_skipOff (yields_no rfl rfl rfl) ?_
         try simp only [pq]
         refine wq_skipOff (yields_no rfl rfl rfl) ?_
         try simp only [pq]
         refine wq_skip (yields_at rfl rfl rfl) ?_
         try simp only [pq]
         refine wq_get (v := ?_) (fun w' hw' => ?_) ?_
         rotate_left
         ·have hA := HAll.out w' hw'; go_split_ands; go_simp <;> with_reducible rfl
         try simp only [pq]
         refine wq_nil ?_
         intro w25 hyn
         go_wp2_with fail
         go_ret
         exact ⟨ret_int (by rw [HF.out, ← HG.out, HS.out, if_pos HO.out, if_pos HP.out]), hx.trans hyn⟩
        ·have hcv' : decide (k.more[j].count ≤ V + 1) = false := by simp; omega
         by_cases hj0 : j = 0
         ·have HN := hid (show ¬ (k.more[j].count ≤ vecAt k.vec k.more[j].site + 1 ∨ dlt (lastDot k.more j) k.more[j] = false) by
           rw [HVS.out, ← HVV.out, show lastDot k.more j = ⟨-1, 0⟩ from by rw [hj0]; rfl, dotOk_first HO.out]; simp; omega)
          have hj0' : decide (0 < j) = false := by simp; omega
          have hj0i : decide ((0 : Int) < j) = false := by simp; omega
          clear hj0
          go_wp2_with fail
          have HAll := hid (fun w' (x : Ext w1 w') => show w'.cell? ⟨w.heap.size, 0, none⟩ = some (.slice Av k.vec.length cv) ∧ w'.cell? ⟨w.heap.size, 1, none⟩ = some (.slice (some ⟨b, off, none⟩) k.more.length cm) ∧ w'.cell? ⟨wr.heap.size, 0, none⟩ = some (.int .i64 (s : Int)) ∧ w'.cell? ⟨wr.heap.size, 1, none⟩ = some (.int .i64 k.more[j].count) from ⟨HC0.out _ x, HC1.out _ x, HD0.out _ x, HD1.out _ x⟩)
          refine wq_region (fun w' => Ext w1 w') (by kernel_rfl) (by kernel_rfl) (Ext.refl _).drew ?_
          refine wq_get (v := ?_) (fun w' hw' => ?_) ?_
          rotate_left
          ·have hA := HAll.out w' hw'; go_split_ands; go_simp <;> with_reducible rfl
          try simp only [pq]
          refine wq_get (v := ?_) (fun w' hw' => ?_) ?_
          rotate_left
          ·have hA := HAll.out w' hw'; go_split_ands; go_simp <;> with_reducible rfl
          try simp only [pq]
          refine wq_get (v := ?_) (fun w' hw' => ?_) ?_
          rotate_left
          ·have hA := HAll.out w' hw'; go_split_ands; go_simp <;> with_reducible rfl
          try simp only [pq]
          refine wq_get (v := ?_) (fun w' hw' => ?_) ?_
          rotate_left
          ·have hA := HAll.out w' hw'; go_split_ands; go_simp <;> with_reducible rfl
          try simp only [pq]
          refine wq_get (v := ?_) (fun w' hw' => ?_) ?_
          rotate_left
          ·have hA := HAll.out w' hw'; go_split_ands; go_simp <;> with_reducible rfl
          try simp only [pq]
          refine wq_call Tryz.call200 (by rfl) (fun w' x => (HVec.out w' x).mono fun _ _ h => ⟨h.1, x.trans h.2⟩) ?_
          try simp only [pq]
          refine wq_get (v := ?_) (fun w' hw' => ?_) ?_
          rotate_left
          ·have hA := HAll.out w' hw'; go_split_ands; go_simp <;> with_reducible rfl
          try simp only [pq]
          refine wq_get (v := ?_) (fun w' hw' => ?_) ?_
          rotate_left
          ·have hA := HAll.out w' hw'; go_split_ands; go_simp <;> with_reducible rfl
          try simp only [pq]
          try simp only [hcv']
          try simp only [hj0']
          try simp only [hj0i]
          refine wq_get (v := ?_) (fun w' hw' => ?_) ?_
          rotate_left
          ·have hA := HAll.out w' hw'; go_split_ands; go_simp <;> with_reducible rfl
          try simp only [pq]
          refine wq_getOn (v := ?_) (yields_at rfl rfl rfl) (fun w' hw' => ?_) ?_
          rotate_left
          ·have hA := HAll.out w' hw'; go_split_ands; go_simp <;> with_reducible rfl
          try simp only [pq]
          refine wq_getOn (v := ?_) (yields_at rfl rfl rfl) (fun w' hw' => ?_) ?_
          rotate_left
          ·have hA := HAll.out w' hw'; go_split_ands; go_simp <;> with_reducible rfl
          try simp only [pq]
          try simp only [hcv']
          try simp only [hj0']
          try simp only [hj0i]
          refine wq_getOn (v := ?_) (yields_at rfl rfl rfl) (fun w' hw' => ?_) ?_
          rotate_left
          ·have hA := HAll.out w' hw'; go_split_ands; go_simp <;> with_reducible rfl
          try simp only [pq]
          refine wq_skip (yields_at rfl rfl rfl) ?_
          try simp only [pq]
          refine wq_skip (yields_at rfl rfl rfl) ?_
          try simp only [pq]
          refine wq_skip (yields_at rfl rfl rfl) ?_
          try simp only [pq]
          refine wq_skip (yields_at rfl rfl rfl) ?_
          try simp only [pq]
          refine wq_skip (yields_at rfl rfl rfl) ?_
          try simp only [pq]
          refine wq_skip (yields_at rfl rfl rfl) ?_
          try simp only [pq]
          refine wq_skip (yields_at rfl rfl rfl) ?_
          try simp only [pq]
          refine wq_skip (yields_at rfl rfl rfl) ?_
          try simp only [pq]
          refine wq_skip (yields_at rfl rfl rfl) ?_
          try simp only [pq]
          refine wq_getOn (v := ?_) (yields_at rfl rfl rfl) (fun w' hw' => ?_) ?_
          rotate_left
          ·have hA := HAll.out w' hw'; go_split_ands; go_simp <;> with_reducible rfl
          try simp only [pq]
          refine wq_get (v := ?_) (fun w' hw' => ?_) ?_
          rotate_left
          ·have hA := HAll.out w' hw'; go_split_ands; go_simp <;> with_reducible rfl
          try simp only [pq]
          refine wq_nil ?_
          intro w25 hyn
          go_wp2_with fail
          go_roundw
          case rel => exact ⟨j + 1, hlt, by go_num, by rw [← HG.out, HS.out, if_pos HO.out, if_neg HN.out], fun i hi hij => by (by_cases h : i = j); (subst h; exact HO.out); exact HPrev.out i hi (by omega), hx.trans hyn, HC0.out _ hyn, HC1.out _ hyn⟩
          case measure => simp [intOf]; omega
         ·have hjp : decide ((0 : Int) < j) = true := by simp; omega
          have hjn : decide (0 < j) = true := by simp; omega
          have en : IntKind.i64.wrap ((j : Int) - 1) = ((j - 1 : Nat) : Int) := by rw [IntKind.wrap_i64]; omega
          have ez : (0 : Int) ≤ ((j - 1 : Nat) : Int) := by omega
          have el : ((j - 1 : Nat) : Int) < k.more.length := by omega
          obtain ⟨b', off', hbo, _, p0, p1⟩ := ((hsm.ext RPair.mono hx)).pair (i := j - 1) (by omega)
          simp only [Option.some.injEq, Addr.mk.injEq] at hbo
          obtain ⟨rfl, rfl, _⟩ := hbo
          have HP0 := hid (fun w' (x : Ext w1 w') => x.cell p0)
          have HP1 := hid (fun w' (x : Ext w1 w') => x.cell p1)
          have hpok : dotOk k.more[j - 1] = true := HPrev.out (j - 1) (by omega) (by omega)
          have HCmp := hid (fun w' => know_cmp k.more[j - 1] k.more[j] w' hpok HO.out)
          rw [hs] at HCmp
          obtain ⟨C, hC⟩ : ∃ C, C = cmpD k.more[j - 1] k.more[j] := ⟨_, rfl⟩
          have HCC := hid hC
          rw [← hC] at HCmp
          clear hC p0 p1 hpok
          by_cases hcp : 0 ≤ C
          ·have HP := hid (show k.more[j].count ≤ vecAt k.vec k.more[j].site + 1 ∨ dlt (lastDot k.more j) k.more[j] = false from .inr (by rw [lastDot_pos (by omega) (by omega), ← cmpD_ge, ← HCC.out]; exact hcp))
           go_wp2_with fail
           have HAll := hid (fun w' (x : Ext w1 w') => show w'.cell? ⟨w.heap.size, 0, none⟩ = some (.slice Av k.vec.length cv) ∧ w'.cell? ⟨w.heap.size, 1, none⟩ = some (.slice (some ⟨b, off, none⟩) k.more.length cm) ∧ w'.cell? ⟨wr.heap.size, 0, none⟩ = some (.int .i64 (s : Int)) ∧ w'.cell? ⟨wr.heap.size, 1, none⟩ = some (.int .i64 k.more[j].count) ∧ w'.cell? ⟨b, off + (j - 1) * 2, none⟩ = some (.int .i64 k.more[j - 1].site) ∧ w'.cell? ⟨b, off + (j - 1) * 2 + 1, none⟩ = some (.int .i64 k.more[j - 1].count) from ⟨HC0.out _ x, HC1.out _ x, HD0.out _ x, HD1.out _ x, HP0.out _ x, HP1.out _ x⟩)
           refine wq_region (fun w' => Ext w1 w') (by kernel_rfl) (by kernel_rfl) (Ext.refl _).drew ?_
           refine wq_get (v := ?_) (fun w' hw' => ?_) ?_
           rotate_left
           ·have hA := HAll.out w' hw'; go_split_ands; go_simp <;> with_reducible rfl
           try simp only [pq]
           refine wq_get (v := ?_) (fun w' hw' => ?_) ?_
           rotate_left
           ·have hA := HAll.out w' hw'; go_split_ands; go_simp <;> with_reducible rfl
           try simp only [pq]
           refine wq_get (v := ?_) (fun w' hw' => ?_) ?_
           rotate_left
           ·have hA := HAll.out w' hw'; go_split_ands; go_simp <;> with_reducible rfl
           try simp only [pq]
           refine wq_get (v := ?_) (fun w' hw' => ?_) ?_
           rotate_left
           ·have hA := HAll.out w' hw'; go_split_ands; go_simp <;> with_reducible rfl
           try simp only [pq]
           refine wq_get (v := ?_) (fun w' hw' => ?_) ?_
           rotate_left
           ·have hA := HAll.out w' hw'; go_split_ands; go_simp <;> with_reducible rfl
           try simp only [pq]
           refine wq_call Tryz.call200 (by rfl) (fun w' x => (HVec.out w' x).mono fun _ _ h => ⟨h.1, x.trans h.2⟩) ?_
           try simp only [pq]
           refine wq_get (v := ?_) (fun w' hw' => ?_) ?_
           rotate_left
           ·have hA := HAll.out w' hw'; go_split_ands; go_simp <;> with_reducible rfl
           try simp only [pq]
           refine wq_get (v := ?_) (fun w' hw' => ?_) ?_
           rotate_left
           ·have hA := HAll.out w' hw'; go_split_ands; go_simp <;> with_reducible rfl
           try simp only [pq]
           try simp only [hcv']
           try simp only [hjp]
           try simp only [hjn]
           refine wq_get (v := ?_) (fun w' hw' => ?_) ?_
           rotate_left
           ·have hA := HAll.out w' hw'; go_split_ands; go_simp <;> with_reducible rfl
           try simp only [pq]
           refine wq_getOn (v := ?_) (yields_at rfl rfl rfl) (fun w' hw' => ?_) ?_
           rotate_left
           ·have hA := HAll.out w' hw'; go_split_ands; go_simp <;> with_reducible rfl
           try simp only [pq]
           refine wq_getOn (v := ?_) (yields_at rfl rfl rfl) (fun w' hw' => ?_) ?_
           rotate_left
           ·have hA := HAll.out w' hw'; go_split_ands; go_simp <;> with_reducible rfl
           try simp only [pq]
           try simp only [hcv']
           try simp only [hjp]
           try simp only [hjn]
           refine wq_getOn (v := ?_) (yields_at rfl rfl rfl) (fun w' hw' => ?_) ?_
           rotate_left
           ·have hA := HAll.out w' hw'; go_split_ands; go_simp <;> with_reducible rfl
           try simp only [pq]
           refine wq_getOn (v := ?_) (yields_at rfl rfl rfl) (fun w' hw' => ?_) ?_
           rotate_left
           ·have hA := HAll.out w' hw'; go_split_ands; go_simp <;> with_reducible rfl
           try simp only [pq]
           refine wq_getOn (v := ?_) (yields_at rfl rfl rfl) (fun w' hw' => ?_) ?_
           rotate_left
           ·have hA := HAll.out w' hw'; go_split_ands; go_simp <;> with_reducible rfl
           try simp only [pq]
           refine wq_getOn (v := ?_) (yields_at rfl rfl rfl) (fun w' hw' => ?_) ?_
           rotate_left
           ·have hA := HAll.out w' hw'; go_split_ands; go_simp <;> with_reducible rfl
           try simp only [pq]
           refine wq_getOn (v := ?_) (yields_at rfl rfl rfl) (fun w' hw' => ?_) ?_
           rotate_left
           ·have hA := HAll.out w' hw'; go_split_ands; go_simp <;> with_reducible rfl
           try simp only [pq]
           refine wq_getOn (v := ?_) (yields_at rfl rfl rfl) (fun w' hw' => ?_) ?_
           rotate_left
           ·have hA := HAll.out w' hw'; go_split_ands; go_simp <;> with_reducible rfl
           try simp only [pq]
           refine wq_getOn (v := ?_) (yields_at rfl rfl rfl) (fun w' hw' => ?_) ?_
           rotate_left
           ·have hA := HAll.out w' hw'; go_split_ands; go_simp <;> with_reducible rfl
           try simp only [pq]
           refine wq_getOn (v := ?_) (yields_at rfl rfl rfl) (fun w' hw' => ?_) ?_
           rotate_left
           ·have hA := HAll.out w' hw'; go_split_ands; go_simp <;> with_reducible rfl
           try simp only [pq]
           refine wq_callOn Tryz.call192 (yields_at rfl rfl rfl) (by rfl) (fun w' x => (HCmp.out w').mono fun _ _ h => ⟨h.1, x.trans h.2⟩) ?_
           try simp only [pq]
           refine wq_getOn (v := ?_) (yields_at rfl rfl rfl) (fun w' hw' => ?_) ?_
           rotate_left
           ·have hA := HAll.out w' hw'; go_split_ands; go_simp <;> with_reducible rfl
           try simp only [pq]
           try simp only [hcv']
           try simp only [hjp]
           try simp only [hjn]
           refine wq_getOn (v := ?_) (yields_at rfl rfl rfl) (fun w' hw' => ?_) ?_
           rotate_left
           ·have hA := HAll.out w' hw'; go_split_ands; go_simp <;> with_reducible rfl
           try simp only [pq]
           refine wq_get (v := ?_) (fun w' hw' => ?_) ?_
           rotate_left
           ·have hA := HAll.out w' hw'; go_split_ands; go_simp <;> with_reducible rfl
           try simp only [pq]
           refine wq_nil ?_
           intro w25 hyn
           go_wp2_with fail
           go_ret
           exact ⟨ret_int (by rw [HF.out, ← HG.out, HS.out, if_pos HO.out, if_pos HP.out]), hx.trans hyn⟩
          ·have HN := hid (show ¬ (k.more[j].count ≤ vecAt k.vec k.more[j].site + 1 ∨ dlt (lastDot k.more j) k.more[j] = false) by
            rw [HVS.out, ← HVV.out, lastDot_pos (by omega) (by omega), ← cmpD_ge, ← HCC.out]; omega)
           have hcp' : decide (0 ≤ C) = false := by simp; omega
           go_wp2_with fail
           have HAll := hid (fun w' (x : Ext w1 w') => show w'.cell? ⟨w.heap.size, 0, none⟩ = some (.slice Av k.vec.length cv) ∧ w'.cell? ⟨w.heap.size, 1, none⟩ = some (.slice (some ⟨b, off, none⟩) k.more.length cm) ∧ w'.cell? ⟨wr.heap.size, 0, none⟩ = some (.int .i64 (s : Int)) ∧ w'.cell? ⟨wr.heap.size, 1, none⟩ = some (.int .i64 k.more[j].count) ∧ w'.cell? ⟨b, off + (j - 1) * 2, none⟩ = some (.int .i64 k.more[j - 1].site) ∧ w'.cell? ⟨b, off + (j - 1) * 2 + 1, none⟩ = some (.int .i64 k.more[j - 1].count) from ⟨HC0.out _ x, HC1.out _ x, HD0.out _ x, HD1.out _ x, HP0.out _ x, HP1.out _ x⟩)
           refine wq_region (fun w' => Ext w1 w') (by kernel_rfl) (by kernel_rfl) (Ext.refl _).drew ?_
           refine wq_get (v := ?_) (fun w' hw' => ?_) ?_
           rotate_left
           ·have hA := HAll.out w' hw'; go_split_ands; go_simp <;> with_reducible rfl
           try simp only [pq]
           refine wq_get (v := ?_) (fun w' hw' => ?_) ?_
           rotate_left
           ·have hA := HAll.out w' hw'; go_split_ands; go_simp <;> with_reducible rfl
           try simp only [pq]
           refine wq_get (v := ?_) (fun w' hw' => ?_) ?_
           rotate_left
           ·have hA := HAll.out w' hw'; go_split_ands; go_simp <;> with_reducible rfl
           try simp only [pq]
           refine wq_get (v := ?_) (fun w' hw' => ?_) ?_
           rotate_left
           ·have hA := HAll.out w' hw'; go_split_ands; go_simp <;> with_reducible rfl
           try simp only [pq]
           refine wq_get (v := ?_) (fun w' hw' => ?_) ?_
           rotate_left
           ·have hA := HAll.out w' hw'; go_split_ands; go_simp <;> with_reducible rfl
           try simp only [pq]
           refine wq_call Tryz.call200 (by rfl) (fun w' x => (HVec.out w' x).mono fun _ _ h => ⟨h.1, x.trans h.2⟩) ?_
           try simp only [pq]
           refine wq_get (v := ?_) (fun w' hw' => ?_) ?_
           rotate_left
           ·have hA := HAll.out w' hw'; go_split_ands; go_simp <;> with_reducible rfl
           try simp only [pq]
           refine wq_get (v := ?_) (fun w' hw' => ?_) ?_
           rotate_left
           ·have hA := HAll.out w' hw'; go_split_ands; go_simp <;> with_reducible rfl
           try simp only [pq]
           try simp only [hcv']
           try simp only [hcp']
           try simp only [hjp]
           try simp only [hjn]
           refine wq_get (v := ?_) (fun w' hw' => ?_) ?_
           rotate_left
           ·have hA := HAll.out w' hw'; go_split_ands; go_simp <;> with_reducible rfl
           try simp only [pq]
           refine wq_getOn (v := ?_) (yields_at rfl rfl rfl) (fun w' hw' => ?_) ?_
           rotate_left
           ·have hA := HAll.out w' hw'; go_split_ands; go_simp <;> with_reducible rfl
           try simp only [pq]
           refine wq_getOn (v := ?_) (yields_at rfl rfl rfl) (fun w' hw' => ?_) ?_
           rotate_left
           ·have hA := HAll.out w' hw'; go_split_ands; go_simp <;> with_reducible rfl
           try simp only [pq]
           try simp only [hcv']
           try simp only [hcp']
           try simp only [hjp]
           try simp only [hjn]
           refine wq_getOn (v := ?_) (yields_at rfl rfl rfl) (fun w' hw' => ?_) ?_
           rotate_left
           ·have hA := HAll.out w' hw'; go_split_ands; go_simp <;> with_reducible rfl
           try simp only [pq]
           refine wq_getOn (v := ?_) (yields_at rfl rfl rfl) (fun w' hw' => ?_) ?_
           rotate_left
           ·have hA := HAll.out w' hw'; go_split_ands; go_simp <;> with_reducible rfl
           try simp only [pq]
           refine wq_getOn (v := ?_) (yields_at rfl rfl rfl) (fun w' hw' => ?_) ?_
           rotate_left
           ·have hA := HAll.out w' hw'; go_split_ands; go_simp <;> with_reducible rfl
           try simp only [pq]
           refine wq_getOn (v := ?_) (yields_at rfl rfl rfl) (fun w' hw' => ?_) ?_
           rotate_left
           ·have hA := HAll.out w' hw'; go_split_ands; go_simp <;> with_reducible rfl
           try simp only [pq]
           refine wq_getOn (v := ?_) (yields_at rfl rfl rfl) (fun w' hw' => ?_) ?_
           rotate_left
           ·have hA := HAll.out w' hw'; go_split_ands; go_simp <;> with_reducible rfl
           try simp only [pq]
           refine wq_getOn (v := ?_) (yields_at rfl rfl rfl) (fun w' hw' => ?_) ?_
           rotate_left
           ·have hA := HAll.out w' hw'; go_split_ands; go_simp <;> with_reducible rfl
           try simp only [pq]
           refine wq_getOn (v := ?_) (yields_at rfl rfl rfl) (fun w' hw' => ?_) ?_
           rotate_left
           ·have hA := HAll.out w' hw'; go_split_ands; go_simp <;> with_reducible rfl
           try simp only [pq]
           refine wq_getOn (v := ?_) (yields_at rfl rfl rfl) (fun w' hw' => ?_) ?_
           rotate_left
           ·have hA := HAll.out w' hw'; go_split_ands; go_simp <;> with_reducible rfl
           try simp only [pq]
           refine wq_callOn Tryz.call192 (yields_at rfl rfl rfl) (by rfl) (fun w' x => (HCmp.out w').mono fun _ _ h => ⟨h.1, x.trans h.2⟩) ?_
           try simp only [pq]
           refine wq_getOn (v := ?_) (yields_at rfl rfl rfl) (fun w' hw' => ?_) ?_
           rotate_left
           ·have hA := HAll.out w' hw'; go_split_ands; go_simp <;> with_reducible rfl
           try simp only [pq]
           try simp only [hcv']
           try simp only [hcp']
           try simp only [hjp]
           try simp only [hjn]
           refine wq_getOn (v := ?_) (yields_at rfl rfl rfl) (fun w' hw' => ?_) ?_
           rotate_left
           ·have hA := HAll.out w' hw'; go_split_ands; go_simp <;> with_reducible rfl
           try simp only [pq]
           refine wq_get (v := ?_) (fun w' hw' => ?_) ?_
           rotate_left
           ·have hA := HAll.out w' hw'; go_split_ands; go_simp <;> with_reducible rfl
           try simp only [pq]
           refine wq_nil ?_
           intro w25 hyn
           go_wp2_with fail
           go_roundw
           case rel => exact ⟨j + 1, hlt, by go_num, by rw [← HG.out, HS.out, if_pos HO.out, if_neg HN.out], fun i hi hij => by (by_cases h : i = j); (subst h; exact HO.out); exact HPrev.out i hi (by omega), hx.trans hyn, HC0.out _ hyn, HC1.out _ hyn⟩
           case measure => simp [intOf]; omega
      ·obtain rfl : j = k.more.length := by omega
       have HF2 := hid (show moreGo k.vec ⟨-1, 0⟩ k.more = 0 by rw [← HG.out]; simp [moreGo])
       go_wp2_with fail
       go_ret
       exact ⟨ret_int (by rw [HF.out, HF2.out]), hx⟩
end Go.Proofs.YtngbfdogiciahaaGreat
