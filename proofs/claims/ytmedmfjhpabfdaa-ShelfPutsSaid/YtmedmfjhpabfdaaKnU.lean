/- The walks of the reference's sets of dots as words of bits: With, Has. -/
import Derived.Test.YtmedmfjhpabfdaaKnI
import Derived.Test.YtmedmfjhpabfdaaBase
import Derived.Test.YtmedmfjhpabfdaaFilR
import Derived.Laws.Bits64b
import Derived.Deep.RegionHeld3
namespace Go.Proofs.Ytmedmfjhpabfdaa
open Go Go.RowKit

/-- a set of dots by value: five rows of sixteen words. -/
def rowD (S : DSet) : Array Value := rowF 80 fun i => .int .u64 ((wordOf S (i / 16) (i % 16) : Nat) : Int)
theorem rowD_size (S : DSet) : (rowD S).size = 80 := rowF_size _ _
theorem rowD_get (S : DSet) {i : Nat} (h : i < 80) : (rowD S)[i]? = some (.int .u64 ((wordOf S (i / 16) (i % 16) : Nat) : Int)) := rowF_get _ h
theorem rowD_at (S : DSet) {s k : Nat} (hs : s < 5) (hk : k < 16) : (rowD S)[s * 16 + k]? = some (.int .u64 ((wordOf S s k : Nat) : Int)) := by
  rw [rowD_get S (by omega), show (s * 16 + k) / 16 = s by omega, show (s * 16 + k) % 16 = k by omega]
theorem rowD_all (S : DSet) : (rowD S).all (·.oneCell') = true := rowF_all fun _ => rfl
theorem rowD_set {S T : DSet} {s k n : Nat} (hk : k < 16) (h : n = wordOf T s k) (ho : ∀ t j, ¬ (t = s ∧ j = k) → wordOf T t j = wordOf S t j) : (rowD S).setIfInBounds (s * 16 + k) (.int .u64 ((n : Nat) : Int)) = rowD T := by
  unfold rowD
  rw [rowF_set]
  apply rowF_congr
  intro i _
  by_cases hi : i = s * 16 + k
  · rw [if_pos hi, h, hi, show (s * 16 + k) / 16 = s by omega, show (s * 16 + k) % 16 = k by omega]
  · rw [if_neg hi, ho (i / 16) (i % 16) (by omega)]
theorem rowD_with (S : DSet) {s c : Nat} (hc : c < 1024) : (rowD S).setIfInBounds (s * 16 + c / 64) (.int .u64 ((wordOf S s (c / 64) ||| 2 ^ (c % 64) : Nat) : Int)) = rowD (withD S s c) :=
  rowD_set (by omega) (word_set S s c) fun t j h => word_with_other S s c t j h
theorem rowD_congr {S T : DSet} (h : EqWords S T) : rowD S = rowD T := rowF_congr fun i hi => by rw [h (i / 16) (by omega) (i % 16) (by omega)]
theorem ai_dots : ArrInfo Try.prog 83 80 := ⟨⟨_, _, Try.underlying83⟩, by kernel_rfl⟩

theorem zi_dots : ZeroInfo Try.prog 83 (rowD fun _ _ => false) := fun w => by kernel_rfl

set_option maxRecDepth 100000 in
set_option maxHeartbeats 4000000 in
theorem dots_With (S : DSet) (s c : Nat) (w : World) (hs : s < 5) (hc : c < 1024) :
    Calls Try.prog 98 #[.agg (rowD S), .agg #[.int .i64 (s : Int), .int .i64 (c : Int)]] w fun e w' => e = .returned (.agg (rowD (withD S s c))) ∧ Ext w w' := by
  obtain ⟨k, hk⟩ : ∃ k, k = c / 64 := ⟨_, rfl⟩
  obtain ⟨r, hr⟩ : ∃ r, r = c % 64 := ⟨_, rfl⟩
  obtain ⟨p, hp⟩ : ∃ p, p = 2 ^ r := ⟨_, rfl⟩
  obtain ⟨wo, hwo⟩ : ∃ wo, wo = wordOf S s k := ⟨_, rfl⟩
  have x1 : Int.tdiv (c : Int) 64 = (k : Int) := by rw [hk]; exact tdiv_nat c 64
  have x2 : Int.tmod (c : Int) 64 = (r : Int) := by rw [hr]; exact tmod_nat c 64
  have s0 : (0 : Int) ≤ s := by omega
  have s1 : (s : Int) < 5 := by omega
  have c0 : (0 : Int) ≤ k := by omega
  have c1 : (k : Int) < 16 := by omega
  have r0 : (0 : Int) ≤ r := by omega
  have r1 : (r : Int) < 64 := by omega
  have ek : IntKind.i64.wrap (k : Int) = (k : Int) := by rw [IntKind.wrap_i64]; omega
  have HK := hid hk
  have HR := hid hr
  have HC := hid hc
  have HS := hid hs
  have HP := hid hp
  have HWO := hid hwo
  have hpl : p < 18446744073709551616 := by
    rw [hp]
    exact Nat.lt_of_lt_of_eq (Nat.pow_lt_pow_right (by omega) (show r < 64 by omega)) rfl
  have eS : IntKind.u64.wrap ((2 : Int) ^ r) = (p : Int) := by
    rw [show ((2 : Int) ^ r) = ((2 ^ r : Nat) : Int) by simp, ← hp]
    rw [IntKind.wrap_u64]; omega
  obtain ⟨v, hv⟩ : ∃ v, v = wo ||| p := ⟨_, rfl⟩
  have eO : bits .or .u64 (wo : Int) (p : Int) = (v : Int) := by rw [hv]; exact bits_or_u64_nat _ _ (by rw [hwo]; exact wordOf_lt _ _ _) hpl
  have HV := hid hv
  clear hs hc hk hr hp hwo hv hpl
  go_enter Try.func98, Try.ntmps98
  go_upto_region 1 with ((with_reducible refine wpList_allocArr (o := ⟨some 4, _, _, _, _, _⟩) zi_dots rfl rfl ?_); intro w3 hx3 hb3 hs3)
  simp only [Act.put, List.setIfInBounds_toArray, List.set_cons_zero, List.set_cons_succ, World.size_alloc]
  simp only [World.size_alloc] at hb3
  obtain ⟨wc, hwc⟩ : ∃ wc, wc = w3.drew := ⟨_, rfl⟩
  have hyn : Ext w3 wc := by rw [hwc]; exact (Ext.refl _).drew
  have hx := ((((Ext.refl w).alloc (.cells (rowD S) 83)).alloc (.cells #[.int .i64 (s : Int), .int .i64 (c : Int)] 38)).trans hx3).trans hyn
  have hbk := (((Blk.new w 83 (rowD S)).alloc (.cells #[.int .i64 (s : Int), .int .i64 (c : Int)] 38)).ext hx3).ext hyn
  have d0 : wc.cell? ⟨w.heap.size + 1, 0, none⟩ = some (.int .i64 (s : Int)) := hyn.cell (hx3.cell (by go_simp))
  have d1 : wc.cell? ⟨w.heap.size + 1, 1, none⟩ = some (.int .i64 (c : Int)) := hyn.cell (hx3.cell (by go_simp))
  have q := hbk.cell (rowD_at S HS.out (show k < 16 by omega))
  rw [← HWO.out] at q
  have z := hbk.frozen (s * 16 + k)
  have hbr := hb3.ext hyn
  have HX := hid hx
  clear hx3 hx hb3 hyn
  refine wp_region_held_drew (S := fun w' => w'.cell? ⟨w.heap.size + 1, 0, none⟩ = some (.int .i64 (s : Int)) ∧ w'.cell? ⟨w.heap.size + 1, 1, none⟩ = some (.int .i64 (c : Int))) (by kernel_rfl) (by rw [← hwc]; exact ⟨d0, d1⟩) (fun hHeld => ?_)
  rw [← hwc] at hHeld ⊢
  clear hwc
  refine wpAnyH_take (i := 0) (oi := _) (v := ?_) rfl (by kernel_rfl) (by kernel_rfl) (by kernel_rfl) (fun _ _ _ h => h) (Or.inl ⟨by rfl, ?_⟩) (by assumption) ?_
  rotate_left
  · intro w' hSw
    try dsimp only at hSw
    first
      | (go_simp; done)
      | (go_simp; with_reducible rfl)
  simp only [List.getElem_toArray, List.getElem_cons_zero]
  try simp only [Act.put, List.setIfInBounds_toArray, List.set_cons_zero, List.set_cons_succ]
  refine wpAnyH_take (i := 1) (oi := _) (v := ?_) rfl (by kernel_rfl) (by kernel_rfl) (by kernel_rfl) (fun _ _ _ h => h) (Or.inl ⟨by rfl, ?_⟩) (by assumption) ?_
  rotate_left
  · intro w' hSw
    try dsimp only at hSw
    first
      | (go_simp; done)
      | (go_simp; with_reducible rfl)
  simp only [List.getElem_toArray, List.getElem_cons_zero, List.getElem_cons_succ]
  try simp only [Act.put, List.setIfInBounds_toArray, List.set_cons_zero, List.set_cons_succ]
  refine wpAnyH_take (i := 2) (oi := _) (v := ?_) rfl (by kernel_rfl) (by kernel_rfl) (by kernel_rfl) (fun _ _ _ h => h) (Or.inl ⟨by rfl, ?_⟩) (by assumption) ?_
  rotate_left
  · intro w' hSw
    try dsimp only at hSw
    first
      | (go_simp; done)
      | (go_simp; with_reducible rfl)
  simp only [List.getElem_toArray, List.getElem_cons_zero, List.getElem_cons_succ]
  try simp only [Act.put, List.setIfInBounds_toArray, List.set_cons_zero, List.set_cons_succ]
  refine wpAnyH_take (i := 3) (oi := _) (v := ?_) rfl (by kernel_rfl) (by kernel_rfl) (by kernel_rfl) (fun _ _ _ h => h) (Or.inl ⟨by rfl, ?_⟩) (by assumption) ?_
  rotate_left
  · intro w' hSw
    try dsimp only at hSw
    first
      | (go_simp; done)
      | (go_simp; with_reducible rfl)
  simp only [List.getElem_toArray, List.getElem_cons_zero, List.getElem_cons_succ]
  try simp only [Act.put, List.setIfInBounds_toArray, List.set_cons_zero, List.set_cons_succ]
  refine wpAnyH_take (i := 4) (oi := _) (v := ?_) rfl (by kernel_rfl) (by kernel_rfl) (by kernel_rfl) (fun _ _ _ h => h) (Or.inl ⟨by rfl, ?_⟩) (by assumption) ?_
  rotate_left
  · intro w' hSw
    try dsimp only at hSw
    first
      | (go_simp; done)
      | (go_simp; with_reducible rfl)
  simp only [List.getElem_toArray, List.getElem_cons_zero, List.getElem_cons_succ]
  try simp only [Act.put, List.setIfInBounds_toArray, List.set_cons_zero, List.set_cons_succ]
  refine wpAnyH_take (i := 5) (oi := _) (v := ?_) rfl (by kernel_rfl) (by kernel_rfl) (by kernel_rfl) (fun _ _ _ h => h) (Or.inl ⟨by rfl, ?_⟩) (by assumption) ?_
  rotate_left
  · intro w' hSw
    try dsimp only at hSw
    first
      | (go_simp; done)
      | (go_simp; with_reducible rfl)
  simp only [List.getElem_toArray, List.getElem_cons_zero, List.getElem_cons_succ]
  try simp only [Act.put, List.setIfInBounds_toArray, List.set_cons_zero, List.set_cons_succ]
  refine wpAnyH_take (i := 6) (oi := _) (v := ?_) rfl (by kernel_rfl) (by kernel_rfl) (by kernel_rfl) (fun _ _ _ h => h) (Or.inl ⟨by rfl, ?_⟩) (by assumption) ?_
  rotate_left
  · intro w' hSw
    try dsimp only at hSw
    first
      | (go_simp; done)
      | (go_simp; with_reducible rfl)
  simp only [List.getElem_toArray, List.getElem_cons_zero, List.getElem_cons_succ]
  try simp only [Act.put, List.setIfInBounds_toArray, List.set_cons_zero, List.set_cons_succ]
  refine wpAnyH_take (i := 8) (oi := _) (v := ?_) rfl (by kernel_rfl) (by kernel_rfl) (by kernel_rfl) (fun _ _ _ h => h) (Or.inl ⟨by rfl, ?_⟩) (by assumption) ?_
  rotate_left
  · intro w' hSw
    try dsimp only at hSw
    first
      | (go_simp; done)
      | (go_simp; with_reducible rfl)
  simp only [List.getElem_toArray, List.getElem_cons_zero, List.getElem_cons_succ]
  try simp only [Act.put, List.setIfInBounds_toArray, List.set_cons_zero, List.set_cons_succ]
  refine wpAnyH_take (i := 9) (oi := _) (v := ?_) rfl (by kernel_rfl) (by kernel_rfl) (by kernel_rfl) (fun _ _ _ h => h) (Or.inl ⟨by rfl, ?_⟩) (by assumption) ?_
  rotate_left
  · intro w' hSw
    try dsimp only at hSw
    first
      | (go_simp; done)
      | (go_simp; with_reducible rfl)
  simp only [List.getElem_toArray, List.getElem_cons_zero, List.getElem_cons_succ]
  try simp only [Act.put, List.setIfInBounds_toArray, List.set_cons_zero, List.set_cons_succ]
  refine wpAnyH_take (i := 10) (oi := _) (v := ?_) rfl (by kernel_rfl) (by kernel_rfl) (by kernel_rfl) (fun _ _ _ h => h) (Or.inl ⟨by rfl, ?_⟩) (by assumption) ?_
  rotate_left
  · intro w' hSw
    try dsimp only at hSw
    first
      | (go_simp; done)
      | (go_simp; with_reducible rfl)
  simp only [List.getElem_toArray, List.getElem_cons_zero, List.getElem_cons_succ]
  try simp only [Act.put, List.setIfInBounds_toArray, List.set_cons_zero, List.set_cons_succ]
  refine wpAnyH_take (i := 11) (oi := _) (v := ?_) rfl (by kernel_rfl) (by kernel_rfl) (by kernel_rfl) (fun _ _ _ h => h) (Or.inl ⟨by rfl, ?_⟩) (by assumption) ?_
  rotate_left
  · intro w' hSw
    try dsimp only at hSw
    first
      | (go_simp; done)
      | (go_simp; with_reducible rfl)
  simp only [List.getElem_toArray, List.getElem_cons_zero, List.getElem_cons_succ]
  try simp only [Act.put, List.setIfInBounds_toArray, List.set_cons_zero, List.set_cons_succ]
  refine wpAnyH_take (i := 13) (oi := _) (v := ?_) rfl (by kernel_rfl) (by kernel_rfl) (by kernel_rfl) (fun _ _ _ h => h) (Or.inl ⟨by rfl, ?_⟩) (by assumption) ?_
  rotate_left
  · intro w' hSw
    try dsimp only at hSw
    first
      | (go_simp; done)
      | (go_simp; with_reducible rfl)
  simp only [List.getElem_toArray, List.getElem_cons_zero, List.getElem_cons_succ]
  try simp only [Act.put, List.setIfInBounds_toArray, List.set_cons_zero, List.set_cons_succ]
  refine wpAnyH_ready (rs := [7]) (by kernel_rfl) (by simp) ?_
  refine AllReadyH.cons rfl (fun K hK => ?_) AllReadyH.nil
  simp only [List.getElem_toArray, List.getElem_cons_zero, List.getElem_cons_succ]
  go_simp
  refine hK.out _ _ hHeld (fun hHeld => ?_)
  clear hK K
  try simp only [Act.put, List.setIfInBounds_toArray, List.set_cons_zero, List.set_cons_succ]
  refine wpAnyH_take (i := 12) (oi := _) (v := ?_) rfl (by kernel_rfl) (by kernel_rfl) (by kernel_rfl) (fun _ _ _ h => h) (Or.inl ⟨by rfl, ?_⟩) (by assumption) ?_
  rotate_left
  · intro w' hSw
    try dsimp only at hSw
    first
      | (go_simp; done)
      | (go_simp; with_reducible rfl)
  simp only [List.getElem_toArray, List.getElem_cons_zero, List.getElem_cons_succ]
  try simp only [Act.put, List.setIfInBounds_toArray, List.set_cons_zero, List.set_cons_succ]
  refine wpAnyH_take (i := 14) (oi := _) (v := ?_) rfl (by kernel_rfl) (by kernel_rfl) (by kernel_rfl) (fun _ _ _ h => h) (Or.inl ⟨by rfl, ?_⟩) (by assumption) ?_
  rotate_left
  · intro w' hSw
    try dsimp only at hSw
    first
      | (go_simp; done)
      | (go_simp; with_reducible rfl)
  simp only [List.getElem_toArray, List.getElem_cons_zero, List.getElem_cons_succ]
  try simp only [Act.put, List.setIfInBounds_toArray, List.set_cons_zero, List.set_cons_succ]
  refine wpAnyH_ready (rs := [15]) (by kernel_rfl) (by simp) ?_
  refine AllReadyH.cons rfl (fun K hK => ?_) AllReadyH.nil
  simp only [List.getElem_toArray, List.getElem_cons_zero, List.getElem_cons_succ]
  go_simp
  refine hK.out _ _ ⟨cell_ne (by omega) d0, cell_ne (by omega) d1⟩ (fun hHeld => ?_)
  clear hK K
  try simp only [Act.put, List.setIfInBounds_toArray, List.set_cons_zero, List.set_cons_succ]
  refine wpAnyH_done (by kernel_rfl) ?_ _
  have hbz := hbk.set (s * 16 + k) (.int .u64 (v : Int))
  rw [HV.out, HWO.out, HP.out, HR.out, HK.out, rowD_with S HC.out, ← HK.out, ← HR.out, ← HP.out, ← HWO.out, ← HV.out] at hbz
  replace hbr := hbr.far (p := ⟨w.heap.size, s * 16 + k, none⟩) (by dsimp only; omega) (.int .u64 (v : Int))
  have hxz := HX.out.setCell (p := ⟨w.heap.size, s * 16 + k, none⟩) (Nat.le_refl _) (.int .u64 (v : Int))
  obtain ⟨wz, hwz⟩ : ∃ wz, wz = wc.setCell ⟨w.heap.size, s * 16 + k, none⟩ (.int .u64 (v : Int)) := ⟨_, rfl⟩
  rw [← hwz] at hbz hbr hxz ⊢
  clear hwz hbk q z d0 d1 hHeld
  go_wp2_with (first
      | ((with_reducible refine wpList_loadArr (o := ⟨some 20, _, _, _, _, _⟩) ai_dots _ rfl rfl rfl hbz (rowD_size _) ?_))
      | ((with_reducible refine wpList_storeArr (o := ⟨none, _, _, _, _, _⟩) ai_dots _ _ rfl rfl rfl rfl hbr (rowD_size _) (rowD_size _) (rowD_all _) ?_); intro w9 hx9 hb9 hs9 ho9))
  exact ret_arr rfl ai_dots rfl hb9 (rowD_size _) rfl ⟨rfl, hxz.below hx9 (by omega)⟩

set_option maxRecDepth 100000 in
set_option maxHeartbeats 4000000 in
theorem dots_Has (S : DSet) (s c : Nat) (w : World) (hs : s < 5) (hc : c < 1024) :
    Calls Try.prog 87 #[.agg (rowD S), .agg #[.int .i64 (s : Int), .int .i64 (c : Int)]] w fun e w' => e = .returned (.bool (S s c)) ∧ Ext w w' := by
  obtain ⟨k, hk⟩ : ∃ k, k = c / 64 := ⟨_, rfl⟩
  obtain ⟨r, hr⟩ : ∃ r, r = c % 64 := ⟨_, rfl⟩
  obtain ⟨p, hp⟩ : ∃ p, p = 2 ^ r := ⟨_, rfl⟩
  obtain ⟨wo, hwo⟩ : ∃ wo, wo = wordOf S s k := ⟨_, rfl⟩
  have x1 : Int.tdiv (c : Int) 64 = (k : Int) := by rw [hk]; exact tdiv_nat c 64
  have x2 : Int.tmod (c : Int) 64 = (r : Int) := by rw [hr]; exact tmod_nat c 64
  have s0 : (0 : Int) ≤ s := by omega
  have s1 : (s : Int) < 5 := by omega
  have c0 : (0 : Int) ≤ k := by omega
  have c1 : (k : Int) < 16 := by omega
  have r0 : (0 : Int) ≤ r := by omega
  have r1 : (r : Int) < 64 := by omega
  have ek : IntKind.i64.wrap (k : Int) = (k : Int) := by rw [IntKind.wrap_i64]; omega
  have HK := hid hk
  have HR := hid hr
  have HC := hid hc
  have HS := hid hs
  have HP := hid hp
  have HWO := hid hwo
  have HE := hid (show (bits .and .u64 ((wo : Int) / 2 ^ r) 1 == 1) = S s c by
    rw [show ((wo : Int) / 2 ^ r) = ((wo / 2 ^ r : Nat) : Int) by simp, show (1 : Int) = ((1 : Nat) : Int) from rfl, bits_and_u64_nat _ _ (Nat.lt_of_le_of_lt (Nat.div_le_self _ _) (by rw [hwo]; exact wordOf_lt _ _ _)) (by omega), Nat.and_one_is_mod, hwo, hk, hr, word_get]
    cases S s c <;> rfl)
  clear hs hc hk hr hp hwo HP
  go_enter Try.func87, Try.ntmps87
  go_upto_region 1 with fail
  obtain ⟨w3, hw3⟩ : ∃ w3, w3 = (w.alloc (.cells (rowD S) 83)).alloc (.cells #[.int .i64 (s : Int), .int .i64 (c : Int)] 38) := ⟨_, rfl⟩
  have hx : Ext w w3 := by rw [hw3]; exact ((Ext.refl w).alloc _).alloc _
  have hbk : Blk w3 w.heap.size 83 (rowD S) := by rw [hw3]; exact (Blk.new w 83 (rowD S)).alloc _
  have d0 : w3.cell? ⟨w.heap.size + 1, 0, none⟩ = some (.int .i64 (s : Int)) := by rw [hw3]; go_simp
  have d1 : w3.cell? ⟨w.heap.size + 1, 1, none⟩ = some (.int .i64 (c : Int)) := by rw [hw3]; go_simp
  have q := hbk.cell (rowD_at S HS.out (show k < 16 by omega))
  rw [← HWO.out] at q
  rw [← hw3]
  clear hw3 hbk
  go_quiet (fail)
  go_wp2_with fail
  go_ret
  exact ⟨ret_bool HE.out, hx.drewN nq⟩

end Go.Proofs.Ytmedmfjhpabfdaa
