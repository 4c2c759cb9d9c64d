/- The walk of the reference's All. -/
import Derived.Test.YtmedmfjhpabfdaaKnU
import Derived.Test.YtmedmfjhpabfdaaKnV
import Derived.Test.YtmedmfjhpabfdaaKnM
namespace Go.Proofs.Ytmedmfjhpabfdaa
open Go Go.RowKit

/-- what j entries of a vector tell. -/
def vecD (v : List Int) (j : Nat) : DSet := fun s c => decide (1 ≤ c) && decide (s < j) && decide ((c : Int) ≤ vecAt v s)
/-- and the counts ahead of c0 of the next. -/
def vecD2 (v : List Int) (j c0 : Nat) : DSet := fun s c => vecD v j s c || (decide (s = j) && decide (1 ≤ c ∧ c < c0))
/-- and j dots. -/
def moreD (v : List Int) (l : List Dot) (j : Nat) : DSet := fun s c => vecD v v.length s c || (l.take j).contains ⟨s, c⟩
theorem rowD_eq {S T : DSet} (h : ∀ s, s < 5 → ∀ c, c < 1024 → S s c = T s c) : rowD S = rowD T := rowD_congr ((eqWords_iff S T).2 h)
theorem vecD_start (v : List Int) : rowD (fun _ _ => false) = rowD (vecD v 0) := rowD_eq fun s _ c _ => by simp [vecD]
theorem vecD_enter (v : List Int) (j : Nat) : rowD (vecD v j) = rowD (vecD2 v j 1) := rowD_eq fun s _ c _ => by
  have : decide (1 ≤ c ∧ c < 1) = false := decide_eq_false (by omega)
  simp only [vecD2, this, Bool.and_false, Bool.or_false]
theorem vecD_step (v : List Int) (j c0 : Nat) (h : 1 ≤ c0) : withD (vecD2 v j c0) j c0 = vecD2 v j (c0 + 1) := by
  funext s c
  simp only [withD, vecD2, Bool.or_assoc]
  congr 1
  rw [Bool.eq_iff_iff]
  simp only [Bool.or_eq_true, Bool.and_eq_true, decide_eq_true_eq]
  omega
theorem vecD_leave (v : List Int) (j c0 : Nat) (hj : j < v.length) (h : (c0 : Int) = v[j] + 1) : rowD (vecD2 v j c0) = rowD (vecD v (j + 1)) := rowD_eq fun s _ c _ => by
  have hv := vecAt_in hj
  rw [Bool.eq_iff_iff]
  simp only [vecD2, vecD, Bool.or_eq_true, Bool.and_eq_true, decide_eq_true_eq]
  by_cases e : s = j
  · subst e; omega
  · omega
theorem moreD_start (v : List Int) (l : List Dot) : rowD (vecD v v.length) = rowD (moreD v l 0) := rowD_eq fun s _ c _ => by simp [moreD]
theorem moreD_step (v : List Int) (l : List Dot) (j s c : Nat) (hj : j < l.length) (h : l[j] = ⟨(s : Int), (c : Int)⟩) : withD (moreD v l j) s c = moreD v l (j + 1) := by
  funext t d
  simp only [withD, moreD, Bool.or_assoc]
  congr 1
  rw [← List.take_append_getElem hj, h, Bool.eq_iff_iff]
  simp only [Bool.or_eq_true, Bool.and_eq_true, decide_eq_true_eq, List.contains_iff_mem, List.mem_append, List.mem_singleton, Dot.mk.injEq]
  by_cases hm : (⟨(t : Int), (d : Int)⟩ : Dot) ∈ l.take j
  · simp [hm]
  · simp only [hm, false_or]
    omega
theorem moreD_has (k : Know) (hk : KnowOk k) (s c : Nat) : moreD k.vec k.more k.more.length s c = hasK k s c := by
  rw [Bool.eq_iff_iff]
  simp only [moreD, vecD, hasK, List.take_length, Bool.or_eq_true, Bool.and_eq_true, decide_eq_true_eq, List.contains_iff_mem]
  constructor
  · rintro (⟨⟨h1, _⟩, h3⟩ | h)
    · exact ⟨h1, .inl h3⟩
    · have := dotOk_iff.1 (hk.more _ h).1
      exact ⟨by simp only at this; omega, .inr h⟩
  · rintro ⟨h1, h2 | h2⟩
    · refine .inl ⟨⟨h1, ?_⟩, h2⟩
      apply Nat.lt_of_not_le
      intro hn
      rw [vecAt_out hn] at h2
      omega
    · exact .inr h2
theorem moreD_end (k : Know) (hk : KnowOk k) : rowD (moreD k.vec k.more k.more.length) = rowD (hasK k) := rowD_eq fun s _ c _ => moreD_has k hk s c

set_option maxRecDepth 100000 in
set_option maxHeartbeats 4000000 in
theorem ref_All (B : Nat) (k : Know) (Av : Option Addr) (cv : Nat) (Am : Option Addr) (cm : Nat) (w : World) (h : InK B w Av Am k) (hk : KnowOk k) :
    Calls Try.prog 86 #[.agg #[.slice Av k.vec.length cv, .slice Am k.more.length cm]] w fun e w' => e = .returned (.agg (rowD (hasK k))) ∧ Ext w w' := by
  have HKO := hid hk
  have hv5 := hk.vlen
  have hm60 := hk.mlen
  clear hk
  go_enter Try.func86, Try.ntmps86
  go_wp2_with (first
    | ((with_reducible refine wpList_allocArr (o := ⟨some 2, _, _, _, _, _⟩) zi_dots rfl rfl ?_); intro w2 hx2 hb2 hs2; have p0 : w2.cell? ⟨w.heap.size, 0, none⟩ = some (.slice Av k.vec.length cv) := hx2.cell (by go_simp); have p1 : w2.cell? ⟨w.heap.size, 1, none⟩ = some (.slice Am k.more.length cm) := hx2.cell (by go_simp))
    | ((with_reducible refine wpList_allocArr (o := ⟨some 3, _, _, _, _, _⟩) zi_dots rfl rfl ?_); intro w3 hx3 hb3 hs3; have q0 := hx3.cell p0; have q1 := hx3.cell p1))
  simp only [World.size_alloc] at hb2 hs2
  have hx := (((Ext.refl w).alloc (.cells #[.slice Av k.vec.length cv, .slice Am k.more.length cm] 44)).trans hx2).trans hx3
  replace hb2 := hb2.ext hx3
  rw [hs2] at hb3
  rw [vecD_start k.vec] at hb3
  clear hx2 hx3 hs2 hs3 p0 p1
  go_loopw [12] (fun i wr => ∃ j : Nat, j ≤ k.vec.length ∧ i = .int .i64 j ∧ Blk wr (w.heap.size + 1 + 1) 83 (rowD (vecD k.vec j)) ∧ Blk wr (w.heap.size + 1) 83 (rowD fun _ _ => false) ∧ Ext w wr ∧ wr.cell? ⟨w.heap.size, 1, none⟩ = some (.slice Am k.more.length cm)) (fun i _ => k.vec.length - (intOf i).toNat)
  case atStart => exact ⟨0, Nat.zero_le _, rfl, hb3, hb2, hx, q1⟩
  case round =>
    clear hb3 hb2 hx q0 q1
    obtain ⟨j, hj, rfl, hb3, hb2, hx, q1⟩ := hrel
    by_cases hlt : j < k.vec.length
    · obtain ⟨b, off, rfl, hb, g0⟩ := (h.sv.ext RInt.mono hx).int hlt
      have HLT := hid hlt
      have s0 : (0 : Int) ≤ j := by omega
      have s1 : (j : Int) < 5 := by omega
      have hnb := HKO.out.vec _ (List.getElem_mem hlt)
      have HLV := hid (fun c0 => vecD_leave k.vec j c0 hlt)
      generalize k.vec[j] = n at *
      rw [vecD_enter] at hb3
      clear hj
      go_wp2_with fail
      obtain ⟨wo, rfl⟩ : ∃ wo, wo = wr := ⟨_, rfl⟩
      go_loopw [6] (fun i wr => ∃ c0 : Nat, 1 ≤ c0 ∧ (c0 : Int) ≤ n + 1 ∧ i = .int .i64 c0 ∧ Blk wr (w.heap.size + 1 + 1) 83 (rowD (vecD2 k.vec j c0)) ∧ Blk wr (w.heap.size + 1) 83 (rowD fun _ _ => false) ∧ Ext w wr ∧ wr.cell? ⟨w.heap.size, 1, none⟩ = some (.slice Am k.more.length cm)) (fun i _ => 1001 - (intOf i).toNat)
      case atStart => exact ⟨1, Nat.le_refl _, by omega, rfl, hb3, hb2, hx, q1⟩
      case round =>
        clear hb3 hb2 hx q1 g0
        obtain ⟨c, hc1, hcn, rfl, hb3, hb2, hx, q1⟩ := hrel
        by_cases hcl : (c : Int) ≤ n
        · have hc : c < 1024 := by omega
          have HC1 := hid hc1
          have HCN := hid hcl
          have HNB := hid hnb
          have hj5 : j < 5 := by omega
          obtain ⟨k', hk⟩ : ∃ k', k' = c / 64 := ⟨_, rfl⟩
          obtain ⟨r, hr⟩ : ∃ r, r = c % 64 := ⟨_, rfl⟩
          obtain ⟨p, hp⟩ : ∃ p, p = 2 ^ r := ⟨_, rfl⟩
          obtain ⟨wo, hwo⟩ : ∃ wo, wo = wordOf (vecD2 k.vec j c) j k' := ⟨_, rfl⟩
          have x1 : Int.tdiv (c : Int) 64 = (k' : Int) := by rw [hk]; exact tdiv_nat c 64
          have x2 : Int.tmod (c : Int) 64 = (r : Int) := by rw [hr]; exact tmod_nat c 64
          have c0 : (0 : Int) ≤ k' := by omega
          have c1 : (k' : Int) < 16 := by omega
          have r0 : (0 : Int) ≤ r := by omega
          have r1 : (r : Int) < 64 := by omega
          have ek : IntKind.i64.wrap (k' : Int) = (k' : Int) := by rw [IntKind.wrap_i64]; omega
          have HK := hid hk
          have HR := hid hr
          have HC := hid hc
          have HP := hid hp
          have HWO := hid hwo
          have hpl : p < 18446744073709551616 := by
            rw [hp]
            exact Nat.lt_of_lt_of_eq (Nat.pow_lt_pow_right (by omega) (show r < 64 by omega)) rfl
          have eS : IntKind.u64.wrap ((2 : Int) ^ r) = (p : Int) := by
            rw [show ((2 : Int) ^ r) = ((2 ^ r : Nat) : Int) by simp, ← hp]
            rw [IntKind.wrap_u64]; omega
          obtain ⟨v, hv⟩ : ∃ v, v = wo ||| p := ⟨_, rfl⟩
          have eO : bits .or .u64 (wo : Int) (p : Int) = (v : Int) := by rw [hv]; exact bits_or_u64_nat _ _ (by rw [hwo]; exact wordOf_lt _ _ _) hpl
          have HV := hid hv
          clear hc hk hr hp hwo hv hpl
          have q := hb3.cell (rowD_at _ hj5 (show k' < 16 by omega))
          rw [← HWO.out] at q
          have z := hb3.frozen (j * 16 + k')
          clear hj5
          go_upto_region 8 with fail
          have hyn : Ext wr wr.drew := (Ext.refl _).drew
          obtain ⟨wc, hwc⟩ : ∃ wc, wc = wr.drew := ⟨_, rfl⟩
          rw [← hwc] at hyn
          replace hb3 := hb3.ext hyn
          replace hb2 := hb2.ext hyn
          replace q := hyn.cell q
          replace q1 := hyn.cell q1
          replace z := hb3.frozen (j * 16 + k')
          replace hx := hx.trans hyn
          refine wp_region_held_drew (S := fun _ => True) (by kernel_rfl) trivial (fun hHeld => ?_)
          rw [← hwc]
          clear hwc hyn
          refine wpAnyH_take (i := 0) (oi := _) (v := ?_) rfl (by kernel_rfl) (by kernel_rfl) (by kernel_rfl) (fun _ _ _ h => h) (Or.inl ⟨by rfl, ?_⟩) (by assumption) ?_
          rotate_left
          · intro w' hSw
            try dsimp only at hSw
            first
              | (go_simp; done)
              | (go_simp; with_reducible rfl)
          simp only [List.getElem_toArray, List.getElem_cons_zero]
          try simp only [Act.put, List.setIfInBounds_toArray, List.set_cons_zero, List.set_cons_succ]
          refine wpAnyH_take (i := 1) (oi := _) (v := ?_) rfl (by kernel_rfl) (by kernel_rfl) (by kernel_rfl) (fun _ _ _ h => h) (Or.inl ⟨by rfl, ?_⟩) (by assumption) ?_
          rotate_left
          · intro w' hSw
            try dsimp only at hSw
            first
              | (go_simp; done)
              | (go_simp; with_reducible rfl)
          simp only [List.getElem_toArray, List.getElem_cons_zero, List.getElem_cons_succ]
          try simp only [Act.put, List.setIfInBounds_toArray, List.set_cons_zero, List.set_cons_succ]
          refine wpAnyH_take (i := 2) (oi := _) (v := ?_) rfl (by kernel_rfl) (by kernel_rfl) (by kernel_rfl) (fun _ _ _ h => h) (Or.inl ⟨by rfl, ?_⟩) (by assumption) ?_
          rotate_left
          · intro w' hSw
            try dsimp only at hSw
            first
              | (go_simp; done)
              | (go_simp; with_reducible rfl)
          simp only [List.getElem_toArray, List.getElem_cons_zero, List.getElem_cons_succ]
          try simp only [Act.put, List.setIfInBounds_toArray, List.set_cons_zero, List.set_cons_succ]
          refine wpAnyH_take (i := 3) (oi := _) (v := ?_) rfl (by kernel_rfl) (by kernel_rfl) (by kernel_rfl) (fun _ _ _ h => h) (Or.inl ⟨by rfl, ?_⟩) (by assumption) ?_
          rotate_left
          · intro w' hSw
            try dsimp only at hSw
            first
              | (go_simp; done)
              | (go_simp; with_reducible rfl)
          simp only [List.getElem_toArray, List.getElem_cons_zero, List.getElem_cons_succ]
          try simp only [Act.put, List.setIfInBounds_toArray, List.set_cons_zero, List.set_cons_succ]
          refine wpAnyH_take (i := 4) (oi := _) (v := ?_) rfl (by kernel_rfl) (by kernel_rfl) (by kernel_rfl) (fun _ _ _ h => h) (Or.inl ⟨by rfl, ?_⟩) (by assumption) ?_
          rotate_left
          · intro w' hSw
            try dsimp only at hSw
            first
              | (go_simp; done)
              | (go_simp; with_reducible rfl)
          simp only [List.getElem_toArray, List.getElem_cons_zero, List.getElem_cons_succ]
          try simp only [Act.put, List.setIfInBounds_toArray, List.set_cons_zero, List.set_cons_succ]
          refine wpAnyH_take (i := 6) (oi := _) (v := ?_) rfl (by kernel_rfl) (by kernel_rfl) (by kernel_rfl) (fun _ _ _ h => h) (Or.inl ⟨by rfl, ?_⟩) (by assumption) ?_
          rotate_left
          · intro w' hSw
            try dsimp only at hSw
            first
              | (go_simp; done)
              | (go_simp; with_reducible rfl)
          simp only [List.getElem_toArray, List.getElem_cons_zero, List.getElem_cons_succ]
          try simp only [Act.put, List.setIfInBounds_toArray, List.set_cons_zero, List.set_cons_succ]
          refine wpAnyH_take (i := 7) (oi := _) (v := ?_) rfl (by kernel_rfl) (by kernel_rfl) (by kernel_rfl) (fun _ _ _ h => h) (Or.inl ⟨by rfl, ?_⟩) (by assumption) ?_
          rotate_left
          · intro w' hSw
            try dsimp only at hSw
            first
              | (go_simp; done)
              | (go_simp; with_reducible rfl)
          simp only [List.getElem_toArray, List.getElem_cons_zero, List.getElem_cons_succ]
          try simp only [Act.put, List.setIfInBounds_toArray, List.set_cons_zero, List.set_cons_succ]
          refine wpAnyH_take (i := 8) (oi := _) (v := ?_) rfl (by kernel_rfl) (by kernel_rfl) (by kernel_rfl) (fun _ _ _ h => h) (Or.inl ⟨by rfl, ?_⟩) (by assumption) ?_
          rotate_left
          · intro w' hSw
            try dsimp only at hSw
            first
              | (go_simp; done)
              | (go_simp; with_reducible rfl)
          simp only [List.getElem_toArray, List.getElem_cons_zero, List.getElem_cons_succ]
          try simp only [Act.put, List.setIfInBounds_toArray, List.set_cons_zero, List.set_cons_succ]
          refine wpAnyH_take (i := 10) (oi := _) (v := ?_) rfl (by kernel_rfl) (by kernel_rfl) (by kernel_rfl) (fun _ _ _ h => h) (Or.inl ⟨by rfl, ?_⟩) (by assumption) ?_
          rotate_left
          · intro w' hSw
            try dsimp only at hSw
            first
              | (go_simp; done)
              | (go_simp; with_reducible rfl)
          simp only [List.getElem_toArray, List.getElem_cons_zero, List.getElem_cons_succ]
          try simp only [Act.put, List.setIfInBounds_toArray, List.set_cons_zero, List.set_cons_succ]
          refine wpAnyH_ready (rs := [5]) (by kernel_rfl) (by simp) ?_
          refine AllReadyH.cons rfl (fun K hK => ?_) AllReadyH.nil
          simp only [List.getElem_toArray, List.getElem_cons_zero, List.getElem_cons_succ]
          go_simp
          refine hK.out _ _ hHeld (fun hHeld => ?_)
          clear hK K
          try simp only [Act.put, List.setIfInBounds_toArray, List.set_cons_zero, List.set_cons_succ]
          refine wpAnyH_take (i := 9) (oi := _) (v := ?_) rfl (by kernel_rfl) (by kernel_rfl) (by kernel_rfl) (fun _ _ _ h => h) (Or.inl ⟨by rfl, ?_⟩) (by assumption) ?_
          rotate_left
          · intro w' hSw
            try dsimp only at hSw
            first
              | (go_simp; done)
              | (go_simp; with_reducible rfl)
          simp only [List.getElem_toArray, List.getElem_cons_zero, List.getElem_cons_succ]
          try simp only [Act.put, List.setIfInBounds_toArray, List.set_cons_zero, List.set_cons_succ]
          refine wpAnyH_take (i := 11) (oi := _) (v := ?_) rfl (by kernel_rfl) (by kernel_rfl) (by kernel_rfl) (fun _ _ _ h => h) (Or.inl ⟨by rfl, ?_⟩) (by assumption) ?_
          rotate_left
          · intro w' hSw
            try dsimp only at hSw
            first
              | (go_simp; done)
              | (go_simp; with_reducible rfl)
          simp only [List.getElem_toArray, List.getElem_cons_zero, List.getElem_cons_succ]
          try simp only [Act.put, List.setIfInBounds_toArray, List.set_cons_zero, List.set_cons_succ]
          refine wpAnyH_ready (rs := [12]) (by kernel_rfl) (by simp) ?_
          refine AllReadyH.cons rfl (fun K hK => ?_) AllReadyH.nil
          simp only [List.getElem_toArray, List.getElem_cons_zero, List.getElem_cons_succ]
          go_simp
          refine hK.out _ _ trivial (fun hHeld => ?_)
          clear hK K
          try simp only [Act.put, List.setIfInBounds_toArray, List.set_cons_zero, List.set_cons_succ]
          refine wpAnyH_done (by kernel_rfl) ?_ _
          have hbz := hb3.set (j * 16 + k') (.int .u64 (v : Int))
          rw [HV.out, HWO.out, HP.out, HR.out, HK.out, rowD_with _ HC.out, vecD_step _ _ _ HC1.out, ← HK.out, ← HR.out, ← HP.out, ← HWO.out, ← HV.out] at hbz
          replace hb2 := hb2.far (p := ⟨w.heap.size + 1 + 1, j * 16 + k', none⟩) (by dsimp only; omega) (.int .u64 (v : Int))
          replace hx := hx.setCell (p := ⟨w.heap.size + 1 + 1, j * 16 + k', none⟩) (by dsimp only; omega) (.int .u64 (v : Int))
          replace q1 := cell_ne (g := w.heap.size + 1 + 1) (k := j * 16 + k') (v := .int .u64 (v : Int)) (by omega) q1
          obtain ⟨wz, hwz⟩ : ∃ wz, wz = wc.setCell ⟨w.heap.size + 1 + 1, j * 16 + k', none⟩ (.int .u64 (v : Int)) := ⟨_, rfl⟩
          rw [← hwz] at hbz hb2 hx q1 ⊢
          have hcb : (c : Int) < 1001 := by have := HCN.out; have := HNB.out; omega
          clear hwz hb3 q z hHeld
          go_wp2_with fail
          go_roundw
          case rel => exact ⟨c + 1, by omega, by have := HCN.out; omega, by go_num, hbz, hb2, hx, q1⟩
          case measure => simp [intOf]; omega
        · have hce : (c : Int) = n + 1 := by omega
          rw [HLV.out c hce] at hb3
          have hcl' : decide ((c : Int) ≤ n) = false := decide_eq_false hcl
          clear hcl hce hcn
          go_wp2_with fail
          go_roundw
          case rel => exact ⟨j + 1, HLT.out, by go_num, hb3, hb2, hx, q1⟩
          case measure => have := HLT.out; simp [intOf]; omega
    · obtain rfl : j = k.vec.length := by omega
      rw [moreD_start k.vec k.more] at hb3
      clear hj hlt
      go_wp2_with fail
      obtain ⟨wo, rfl⟩ : ∃ wo, wo = wr := ⟨_, rfl⟩
      go_loopw [38] (fun i wr => ∃ j : Nat, j ≤ k.more.length ∧ i = .int .i64 j ∧ Blk wr (w.heap.size + 1 + 1) 83 (rowD (moreD k.vec k.more j)) ∧ Blk wr (w.heap.size + 1) 83 (rowD fun _ _ => false) ∧ Ext w wr) (fun i _ => k.more.length - (intOf i).toNat)
      case atStart => exact ⟨0, Nat.zero_le _, rfl, hb3, hb2, hx⟩
      case round =>
        clear hb3 hb2 hx q1
        obtain ⟨j, hj, rfl, hb3, hb2, hx⟩ := hrel
        by_cases hlt : j < k.more.length
        · obtain ⟨b, off, rfl, hb, g0, g1⟩ := (h.sm.ext RPair.mono hx).pair hlt
          have HLT := hid hlt
          obtain ⟨o1, o2, o3, o4⟩ := dotOk_iff.1 (HKO.out.more _ (List.getElem_mem hlt)).1
          obtain ⟨s, hs⟩ := Int.eq_ofNat_of_zero_le o1
          obtain ⟨c, hc⟩ := Int.eq_ofNat_of_zero_le (Int.le_trans (show (0 : Int) ≤ 1 by omega) o3)
          have HST := hid (moreD_step k.vec k.more j s c hlt (Dot.ext' hs hc))
          rw [hs] at g0 o1 o2
          rw [hc] at g1 o3 o4
          have hs5 : s < 5 := by omega
          have hc10 : c < 1024 := by omega
          have hw0 : w.heap.size + 1 + 1 < wr.heap.size := hb3.lt
          have hxa := (Ext.refl wr).alloc (.cells #[.int .i64 (s : Int), .int .i64 (c : Int)] 38)
          replace hb3 := hb3.ext hxa
          replace hb2 := hb2.ext hxa
          replace hx := hx.trans hxa
          clear hs hc hj hxa
          go_wp2_with ((with_reducible refine wpList_loadArr (o := ⟨some 42, _, _, _, _, _⟩) ai_dots _ rfl rfl rfl hb3 (rowD_size _) ?_))
          refine (dots_With _ s c _ hs5 hc10).mono ?_
          rintro e w4 ⟨rfl, hx4⟩
          rw [HST.out]
          replace hb3 := hb3.ext hx4
          replace hb2 := hb2.ext hx4
          replace hx := hx.trans hx4
          clear hx4
          go_wp2_with ((with_reducible refine wpList_storeArr (o := ⟨none, _, _, _, _, _⟩) ai_dots _ _ rfl rfl rfl rfl hb3 (rowD_size _) (rowD_size _) (rowD_all _) ?_); intro w9 hx9 hb9 hs9 ho9)
          go_roundw
          case rel => exact ⟨j + 1, HLT.out, by go_num, hb9, hb2.below hx9 (by omega), hx.below hx9 (by omega)⟩
          case measure => have := HLT.out; simp [intOf]; omega
        · obtain rfl : j = k.more.length := by omega
          rw [moreD_end k HKO.out] at hb3
          clear hlt hj
          go_wp2_with (first
            | ((with_reducible refine wpList_loadArr (o := ⟨some 46, _, _, _, _, _⟩) ai_dots _ rfl rfl rfl hb3 (rowD_size _) ?_))
            | ((with_reducible refine wpList_storeArr (o := ⟨none, _, _, _, _, _⟩) ai_dots _ _ rfl rfl rfl rfl hb2 (rowD_size _) (rowD_size _) (rowD_all _) ?_); intro w9 hx9 hb9 hs9 ho9))
          exact ret_arr rfl ai_dots rfl hb9 (rowD_size _) rfl ⟨rfl, hx.below hx9 (by omega)⟩

end Go.Proofs.Ytmedmfjhpabfdaa
