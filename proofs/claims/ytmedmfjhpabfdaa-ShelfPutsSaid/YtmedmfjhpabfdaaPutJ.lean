/- The walk of slices.Insert at versions: one element. -/
import Derived.Test.YtmedmfjhpabfdaaPutI
import Derived.Test.YtmedmfjhpabfdaaProg
namespace Go.Proofs.Ytmedmfjhpabfdaa
open Go Go.RowKit

theorem sz_ver : (Try.prog.info? 46).map (·.size) = some 8 := by kernel_rfl
theorem info_verZ : (Try.prog.info? 46).map (fun i => (i.zero, i.size, i.bytes)) = some (some (.agg #[.string ⟨#[]⟩, .int .i64 0, .int .i64 0, .int .i64 0, .int .i64 0, .int .i64 0, .slice none 0 0, .slice none 0 0]), 8, 104) := by kernel_rfl

set_option maxRecDepth 100000 in
set_option maxHeartbeats 4000000 in
theorem insert_ver (B base : Nat) (v : Value) (l : List Version) (i : Nat) (x : Version) (X : List Value) (vb : Nat) (w : World) (hB : B ≤ base) (hb : base ≤ w.heap.size) (hl : l.length ≤ 1000) (hi : i ≤ l.length) (hown : Own (RVer B) 8 46 w base v l)
    (hx : Blk w vb 46 X.toArray) (hX : X.length = 8) (hR : RVer B w X x) (hne : ∀ g, v.ownBlock = some g → g ≠ vb) :
    Calls Try.prog 76 #[v, .int .i64 (i : Int), .slice (some ⟨vb, 0, none⟩) 1 1] w fun e w' => ∃ v', e = .returned v' ∧ Own (RVer B) 8 46 w' base v' (l.take i ++ x :: l.drop i) ∧ Below base w w' := by
  have hone : SlVers B w (some ⟨vb, 0, none⟩) [x] := Sl.ofBlkX hx (by simp [hX]) (by simpa using hR)
  have h1X : ∀ u ∈ X, u.oneCell' = true := RVer.oneC _ _ _ hR
  obtain ⟨A, c, rfl, hlc, hcm⟩ := hown.len
  by_cases hin : i = l.length
  · subst hin
    have HT := hid (show l.take l.length ++ x :: l.drop l.length = l ++ [x] by simp)
    cases A with
    | none =>
      rcases hown.at_ with ⟨hv, rfl⟩ | ⟨g, c', hv, _⟩
      · injection hv with _ _ hv
        subst hv
        go_enter Try.func76, Try.ntmps76
        go_wp2_with (at_builtin; refine wpList_app (ys := [x]) (c := 1) (B := B) rfl _ _ rfl ei_ver rfl hown hB hb rfl hone RVer.oneC (RVer.mono (by decide) (by decide)) (by simp [maxLen]) (by simp) ?_; intro v5 w5 ho5 hc5 hb5 hg5)
        go_ret
        exact ⟨v5, rfl, ho5, hb5⟩
      · cases hv
    | some a =>
      rcases hown.at_ with ⟨hv, _⟩ | ⟨g, c', hv, hbg, hgw, _⟩
      · cases hv
      · injection hv with hA _ hcc
        injection hA with hA
        subst hA hcc
        have hcl : (l.length : Int) ≤ (c : Int) := by omega
        go_enter Try.func76, Try.ntmps76
        by_cases hcl2 : c = l.length
        · subst hcl2
          go_wp2_with (at_builtin; refine wpList_app (ys := [x]) (c := 1) (B := B) rfl _ _ rfl ei_ver rfl hown hB hb rfl hone RVer.oneC (RVer.mono (by decide) (by decide)) (by simp [maxLen]; omega) (by simp; omega) ?_; intro v5 w5 ho5 hc5 hb5 hg5)
          go_ret
          exact ⟨v5, rfl, by first | exact ho5 | (rw [HT.out]; exact ho5), hb5⟩
        · have hne1 : ¬ (c : Int) = (l.length : Int) := by omega
          go_wp2_with (at_builtin; refine wpList_app (ys := [x]) (c := 1) (B := B) rfl _ _ rfl ei_ver rfl hown hB hb rfl hone RVer.oneC (RVer.mono (by decide) (by decide)) (by simp [maxLen]; omega) (by simp; omega) ?_; intro v5 w5 ho5 hc5 hb5 hg5)
          go_ret
          exact ⟨v5, rfl, by first | exact ho5 | (rw [HT.out]; exact ho5), hb5⟩
  · have HSelf := hid (fun w' (hg : w.grownBy w' (Value.slice A l.length c).ownBlock) => (show Chg B [46] w w' ∧ Below base w w' from ⟨hown.chg_of hB hg, hown.below_of hg hb⟩))
    obtain ⟨xs, hxl, hxR, ho⟩ := hown
    have hlt : i < l.length := by omega
    have hall : ∀ cs ∈ xs, cs.length = 8 := by
      intro cs hcs
      obtain ⟨k, hk, rfl⟩ := List.getElem_of_mem hcs
      exact (hxR k _ _ (List.getElem?_eq_getElem hk) (List.getElem?_eq_getElem (by omega))).1
    have h1c : ∀ u ∈ xs.flatten, u.oneCell' = true := by
      intro u hu
      obtain ⟨cs, hcs, hu⟩ := List.mem_flatten.1 hu
      obtain ⟨k, hk, rfl⟩ := List.getElem_of_mem hcs
      exact RVer.oneC _ _ _ (hxR k _ _ (List.getElem?_eq_getElem hk) (List.getElem?_eq_getElem (by omega))).2 u hu
    obtain ⟨g, rfl, hbg, hgw⟩ : ∃ g, A = some ⟨g, 0, none⟩ ∧ base ≤ g ∧ g < w.heap.size := by
      rcases ho.2 with ⟨_, hn⟩ | ⟨g, c', cur, hv, hbg, hg, _⟩
      · omega
      · injection hv with hA
        exact ⟨g, hA, hbg, (Array.getElem?_eq_some_iff.1 hg).1⟩
    have hgv : g ≠ vb := hne g rfl
    have hfl : xs.flatten.length = l.length * 8 := ho.1
    obtain ⟨hft, hfd⟩ := flat_take xs i hall (by omega)
    have HFlat := hid (show (xs.take i ++ X :: xs.drop i).flatten = xs.flatten.take (i * 8) ++ (X ++ xs.flatten.drop (i * 8)) by rw [List.flatten_append, List.flatten_cons, hft, hfd])
    have HLen := hid (show (xs.take i ++ X :: xs.drop i).length = (l.take i ++ x :: l.drop i).length ∧ (l.take i ++ x :: l.drop i).length = l.length + 1 by simp only [List.length_append, List.length_cons, List.length_take, List.length_drop]; omega)
    have HGet := hid (fun (w' : World) (hx' : Mono B [46] (RVer B)) (hc' : Chg B [46] w w') => insL_get (Q := fun cs y => cs.length = 8 ∧ RVer B w' cs y) (X := X) (x := x) (xs := xs) (l := l) (i := i) hxl (by omega) ⟨hX, hx' _ _ _ _ hc' hR⟩ (fun k cs y a b => ⟨(hxR k cs y a b).1, hx' _ _ _ _ hc' (hxR k cs y a b).2⟩))
    have HFin := hid (fun (w' : World) (N G : Nat) (hc' : Chg B [46] w w') (ho' : w'.ownsRow base 46 8 (.slice (some ⟨N, 0, none⟩) (l.length + 1) G) (l.length + 1) (xs.flatten.take (i * 8) ++ (X ++ xs.flatten.drop (i * 8)))) => show Own (RVer B) 8 46 w' base (.slice (some ⟨N, 0, none⟩) (l.length + 1) G) (l.take i ++ x :: l.drop i) from ⟨xs.take i ++ X :: xs.drop i, HLen.out.1, HGet.out w' (RVer.mono (by decide) (by decide)) hc', by rw [HLen.out.2, HFlat.out]; exact ho'⟩)
    obtain ⟨cs, hcs⟩ : ∃ cs, cs = xs.flatten := ⟨_, rfl⟩
    rw [← hcs] at ho h1c hfl HFin
    have HCS := hid hcs
    clear hcs
    clear HGet HLen HFlat hft hfd hxR hall hone hR
    obtain ⟨n, hn⟩ : ∃ n, n = l.length := ⟨_, rfl⟩
    rw [← hn] at ho hfl HFin hlc hlt hl
    rw [← hn]
    have HN := hid hn
    clear hin hi hxl hn
    have mixed : Try.prog.follows .mixedOrders = true := by kernel_rfl
    have hz2 : ¬ ((i : Int) = (n : Int)) := by omega
    have hin : i ≤ n := by omega
    have hw1 : IntKind.i64.wrap ((i : Int) + 1) = (i : Int) + 1 := by rw [IntKind.wrap_i64]; omega
    have hb1 : (0 : Int) ≤ (i : Int) + 1 := by omega
    have htn : ((i : Int) + 1).toNat = i + 1 := by omega
    have hci : ¬ (c = i) := by omega
    have hdl : (cs.drop (i * 8)).length = (n - i) * 8 := by rw [List.length_drop, hfl, Nat.sub_mul]
    have hXc : ∀ j u, X[j]? = some u → w.cell? ⟨vb, j, none⟩ = some u := fun j u h => hx.cell (by rw [List.getElem?_toArray]; exact h)
    have hCc : ∀ j u, cs[j]? = some u → w.cell? ⟨g, j, none⟩ = some u := fun j u h => owns_cell ho j u h
    by_cases hroom : n + 1 ≤ c
    · obtain ⟨E, hE, hom⟩ := owns_more ho hroom
      obtain ⟨r1, r2, r3⟩ := ins_room (w := w.drew) hom hfl hE hX hlt
      have hsa : w.shape? vb = some (46, X.length) := by unfold World.shape?; rw [hx]; simp
      have hsb := owns_shape ho
      have hov : ∀ lb cb, (callFunc 130 #[.slice (some ⟨vb, 0, none⟩) 1 1, .slice (some ⟨g, (i + 1) * 8, none⟩) lb cb]).run Try.prog w = .ok (.value (.bool false)) w := fun lb cb => by
        rw [run_callFunc_extern Try.func130 (by kernel_rfl) (by kernel_rfl) (by kernel_rfl) (e := Extern.SlicesOverlaps.overlaps #[22, 22] #[4]) (by kernel_rfl),
          Lib.run_overlaps_apart w 22 4 46 Try.underlying22 8 (fun w => by kernel_rfl) ⟨vb, 0, none⟩ ⟨g, (i + 1) * 8, none⟩ 1 1 lb cb (fun e => hgv e.symm) 46 46 X.length (c * 8) hsa hsb (by omega) (hx.frozen _) (hx.frozen _)]
        rfl
      have hroomI : ¬ ((c : Int) < (n : Int) + 1) := by omega
      have hcp1 : ∀ ty dc sc, (Builtin.copy_ #[22, 22] ty #[.slice (some ⟨g, (i + 1) * 8, none⟩) (n - i) dc, .slice (some ⟨g, i * 8, none⟩) (n + 1 - i) sc]).run Try.prog w.drew = .ok (goInt ((n - i : Nat) : Int)) (w.drew.setCells g ((i + 1) * 8) (cs.drop (i * 8))) := fun ty dc sc =>
        run_copyK w.drew _ _ ty 46 g ((i + 1) * 8) (n - i) dc ⟨g, i * 8, none⟩ (n + 1 - i) sc 8 (n - i) (cs.drop (i * 8)) Try.underlying22 sz_ver (by simp only [Nat.min_def]; split <;> omega) hdl
          (fun j u hj => by rw [Addr.add_lit]; exact hCc (i * 8 + j) u (by rwa [List.getElem?_drop] at hj))
          (fun j hj => by rw [hdl] at hj; exact owns_isSome hom (by omega)) (fun j hj => owns_fz ho _) (fun u hu => h1c u (List.mem_of_mem_drop hu))
      obtain ⟨W1, hW1⟩ : ∃ W1, W1 = w.drew.setCells g ((i + 1) * 8) (cs.drop (i * 8)) := ⟨_, rfl⟩
      have hW1' := hid hW1
      rw [← hW1] at hcp1 r1 r2 r3
      have hvW : ∀ j u, X[j]? = some u → W1.cell? ⟨vb, j, none⟩ = some u := fun j u h => by
        rw [hW1, World.cell?_setCells_out g _ _ _ _ (fun h _ => absurd h.symm hgv)]
        exact hXc j u h
      have hcp2 : ∀ ty dc, (Builtin.copy_ #[22, 22] ty #[.slice (some ⟨g, i * 8, none⟩) (n + 1 - i) dc, .slice (some ⟨vb, 0, none⟩) 1 1]).run Try.prog W1 = .ok (goInt ((1 : Nat) : Int)) (W1.setCells g (i * 8) X) := fun ty dc =>
        run_copyK W1 _ _ ty 46 g (i * 8) (n + 1 - i) dc ⟨vb, 0, none⟩ 1 1 8 1 X Try.underlying22 sz_ver (by simp only [Nat.min_def]; split <;> omega) (by rw [hX])
          (fun j u hj => by rw [Addr.add_lit, Nat.zero_add]; exact hvW j u hj)
          (fun j hj => owns_isSome r2 (by omega)) (fun j hj => owns_fz r2 _) h1X
      have hb2 : ¬ (c = i + 1) := by omega
      have hb3 : (i : Int) ≤ (n : Int) + 1 := by omega
      clear hXc hCc hW1 r2 hom hE
      go_enter Try.func76, Try.ntmps76
      go_wp2_with (simp only [hov])
      go_region_law_o (refine step_copyK rfl _ _ 22 22 rfl _ _ (by simp [Act.eval, Act.put]) (by simp [Act.eval, Act.put]) (hcp1 _ _ _) ?_)
      go_wp2_with (at_builtin; refine wpList_copyK _ rfl _ _ 22 22 rfl _ _ rfl rfl (hcp2 _ _) ?_)
      go_ret
      have hgr : w.grownBy (W1.setCells g (i * 8) X) (some g) := ⟨r3.os, r3.tape, r3.output, r3.size, r3.block⟩
      obtain ⟨hch, hbe⟩ := HSelf.out _ hgr
      exact ⟨.slice (some ⟨g, 0, none⟩) (n + 1) c, rfl, by first | exact HFin.out _ g c hch r1 | (have := HFin.out _ g c hch r1; rw [hW1'.out] at this; exact this), by first | exact hbe | (rw [hW1'.out] at hbe; exact hbe)⟩
    · obtain ⟨i0, hi0, hz0, hzs, hzb⟩ : ∃ i0, Try.prog.info? 46 = some i0 ∧ i0.zero = some (.agg #[.string ⟨#[]⟩, .int .i64 0, .int .i64 0, .int .i64 0, .int .i64 0, .int .i64 0, .slice none 0 0, .slice none 0 0]) ∧ i0.size = 8 ∧ i0.bytes = 104 := by
        have := info_verZ
        cases h : Try.prog.info? 46 with
        | none => rw [h] at this; cases this
        | some i0 =>
          rw [h] at this
          simp only [Option.map_some, Option.some.injEq, Prod.mk.injEq] at this
          exact ⟨i0, rfl, this.1, this.2.1, this.2.2⟩
      have hz3 : (c : Int) < (n : Int) + 1 := by omega
      have hkk : (n : Int) + 1 - (i : Int) = ((n + 1 - i : Nat) : Int) := by omega
      have hik : i + (n + 1 - i) = n + 1 := by omega
      have hold : (Builtin.firstCells i0.size i (.slice (some ⟨g, 0, none⟩) i c)).run Try.prog w.drew = .ok (cs.take (i * 8)).toArray w.drew := by
        rw [hzs]
        exact run_firstCells_some w.drew 8 i ⟨g, 0, none⟩ i c (cs.take (i * 8)) (by rw [List.length_take]; omega) (fun j u hj => by
          rw [Addr.add_lit, Nat.zero_add]
          rw [List.getElem?_take] at hj
          split at hj
          · exact hCc j u hj
          · cases hj)
      obtain ⟨G, hG⟩ : ∃ G, G = grownCap w (n + 1) c 46 := ⟨_, rfl⟩
      have hGn : n + 1 ≤ G := by rw [hG]; exact grownCap_ge w _ _ _
      have hGm : G ≤ maxLen := by rw [hG]; exact grownCap_le_maxLen w (n + 1) c _ (by unfold maxLen; omega)
      obtain ⟨ROW, hROW⟩ : ∃ ROW : Array Value, ROW = (cs.take (i * 8)).toArray ++ Builtin.zeroCells (.agg #[.string ⟨#[]⟩, .int .i64 0, .int .i64 0, .int .i64 0, .int .i64 0, .int .i64 0, .slice none 0 0, .slice none 0 0] : Value).cells (n + 1 - i) ++ Builtin.zeroCells (.agg #[.string ⟨#[]⟩, .int .i64 0, .int .i64 0, .int .i64 0, .int .i64 0, .int .i64 0, .slice none 0 0, .slice none 0 0] : Value).cells (G - (n + 1)) := ⟨_, rfl⟩
      have hrz : ∀ ty, (Builtin.append_ #[22, 3] ty #[.slice (some ⟨g, 0, none⟩) i c, .int .i64 ((n : Int) + 1 - (i : Int))]).run Try.prog w = .ok (.slice (some ⟨w.heap.size, 0, none⟩) (n + 1) G) (w.drew.alloc (.cells ROW 46)) := fun ty => by
        have h := Lib.run_append_grow_zeros w 22 3 ty 46 i0 _ .i64 .i64 Try.underlying22 Try.underlying3 hi0 hz0 (some ⟨g, 0, none⟩) i c (cs.take (i * 8)) hold (n + 1 - i) (by omega) (by omega) (by omega) (by omega) (by rw [hzb]; omega) (by rw [hzb, hik]; exact growslice_fits (by omega) (by omega))
        rw [hik, ← hG, ← hROW] at h
        rw [hkk]
        exact h
      have hzc : (.agg #[.string ⟨#[]⟩, .int .i64 0, .int .i64 0, .int .i64 0, .int .i64 0, .int .i64 0, .slice none 0 0, .slice none 0 0] : Value).cells.size = 8 := rfl
      have hZ1 : (Builtin.zeroCells (.agg #[.string ⟨#[]⟩, .int .i64 0, .int .i64 0, .int .i64 0, .int .i64 0, .int .i64 0, .slice none 0 0, .slice none 0 0] : Value).cells (n + 1 - i)).toList.length = (n + 1 - i) * 8 := by rw [zeroCells_len, hzc]
      have hZ2 : (Builtin.zeroCells (.agg #[.string ⟨#[]⟩, .int .i64 0, .int .i64 0, .int .i64 0, .int .i64 0, .int .i64 0, .slice none 0 0, .slice none 0 0] : Value).cells (G - (n + 1))).toList.length = (G - (n + 1)) * 8 := by rw [zeroCells_len, hzc]
      have hP : (cs.take (i * 8)).length = i * 8 := by rw [List.length_take]; omega
      have hRL : ROW.toList = (cs.take (i * 8) ++ (Builtin.zeroCells (.agg #[.string ⟨#[]⟩, .int .i64 0, .int .i64 0, .int .i64 0, .int .i64 0, .int .i64 0, .slice none 0 0, .slice none 0 0] : Value).cells (n + 1 - i)).toList) ++ (Builtin.zeroCells (.agg #[.string ⟨#[]⟩, .int .i64 0, .int .i64 0, .int .i64 0, .int .i64 0, .int .i64 0, .slice none 0 0, .slice none 0 0] : Value).cells (G - (n + 1))).toList := by rw [hROW]; simp
      have hRs : ROW.size = G * 8 := by
        rw [← Array.length_toList, hRL, List.length_append, List.length_append, hZ1, hZ2, hP]
        omega
      obtain ⟨Z, hZ⟩ : ∃ Z, Z = (Builtin.zeroCells (.agg #[.string ⟨#[]⟩, .int .i64 0, .int .i64 0, .int .i64 0, .int .i64 0, .int .i64 0, .slice none 0 0, .slice none 0 0] : Value).cells (n + 1 - i)).toList := ⟨_, rfl⟩
      rw [← hZ] at hZ1 hRL
      obtain ⟨W1, hW1⟩ : ∃ W1, W1 = w.drew.alloc (.cells ROW 46) := ⟨_, rfl⟩
      have hoW : W1.ownsRow base 46 8 (.slice (some ⟨w.heap.size, 0, none⟩) (n + 1) G) (n + 1) (cs.take (i * 8) ++ Z) := by
        refine ⟨by rw [List.length_append, hP, hZ1]; omega, .inr ⟨w.heap.size, G, ROW, rfl, hb, by rw [hW1]; exact heap_alloc_new w.drew _, hGn, hGm, hRs, ?_⟩⟩
        rw [hRL]
        exact List.take_left' (by rw [List.length_append, hP, hZ1]; omega)
      obtain ⟨n1, n2⟩ := ins_new (W := W1) (xs := cs) hoW hfl hZ1 hX hlt
      have hxW : Ext w W1 := by rw [hW1]; exact (Ext.refl w).drew.alloc _
      have hgN : g ≠ w.heap.size := by omega
      have hvW : ∀ j u, X[j]? = some u → W1.cell? ⟨vb, j, none⟩ = some u := fun j u h => hxW.cell (hXc j u h)
      have hcpA : ∀ (W : World), (∀ x, W.cell? x = W1.cell? x) → (∀ x, W.frozen? x = W1.frozen? x) → ∀ ty dc, (Builtin.copy_ #[22, 22] ty #[.slice (some ⟨w.heap.size, i * 8, none⟩) (n + 1 - i) dc, .slice (some ⟨vb, 0, none⟩) 1 1]).run Try.prog W = .ok (goInt ((1 : Nat) : Int)) (W.setCells w.heap.size (i * 8) X) := fun W hWc hWf ty dc =>
        run_copyK W _ _ ty 46 w.heap.size (i * 8) (n + 1 - i) dc ⟨vb, 0, none⟩ 1 1 8 1 X Try.underlying22 sz_ver (by simp only [Nat.min_def]; split <;> omega) (by rw [hX])
          (fun j u hj => by rw [Addr.add_lit, Nat.zero_add, hWc]; exact hvW j u hj)
          (fun j hj => by rw [hWc]; exact owns_isSome hoW (by omega)) (fun j hj => by rw [hWf]; exact owns_fz hoW _) h1X
      have hcpB : ∀ (W : World), (∀ x, W.cell? x = (W1.setCells w.heap.size (i * 8) X).cell? x) → (∀ x, W.frozen? x = (W1.setCells w.heap.size (i * 8) X).frozen? x) → ∀ ty dc sc, (Builtin.copy_ #[22, 22] ty #[.slice (some ⟨w.heap.size, (i + 1) * 8, none⟩) (n - i) dc, .slice (some ⟨g, i * 8, none⟩) (n - i) sc]).run Try.prog W = .ok (goInt ((n - i : Nat) : Int)) (W.setCells w.heap.size ((i + 1) * 8) (cs.drop (i * 8))) := fun W hWc hWf ty dc sc =>
        run_copyK W _ _ ty 46 w.heap.size ((i + 1) * 8) (n - i) dc ⟨g, i * 8, none⟩ (n - i) sc 8 (n - i) (cs.drop (i * 8)) Try.underlying22 sz_ver (by simp only [Nat.min_def]; split <;> omega) hdl
          (fun j u hj => by
            rw [Addr.add_lit, hWc, World.cell?_setCells_out w.heap.size _ _ _ _ (fun h _ => absurd h hgN)]
            exact hxW.cell (hCc (i * 8 + j) u (by rwa [List.getElem?_drop] at hj)))
          (fun j hj => by rw [hWc]; rw [hdl] at hj; exact owns_isSome n1 (by omega)) (fun j hj => by rw [hWf]; exact owns_fz n1 _) (fun u hu => h1c u (List.mem_of_mem_drop hu))
      have hGi : ¬ (G = i) := by omega
      have hGi1 : ¬ (G = i + 1) := by omega
      have hGiI : ¬ ((G : Int) = (i : Int) + 1) := by omega
      have hG63 : (G : Int) ≤ 9223372036854775807 := by unfold maxLen at hGm; omega
      have hGb : (i : Int) + 1 ≤ (n : Int) + 1 := by omega
      have HW1 := hid hW1
      rw [hW1] at hcpA hcpB
      have hE1 : ∀ x, ((w.alloc (.cells ROW 46)).drew).cell? x = (w.drew.alloc (.cells ROW 46)).cell? x := fun x => rfl
      have hE2 : ∀ x, ((w.alloc (.cells ROW 46)).drew).frozen? x = (w.drew.alloc (.cells ROW 46)).frozen? x := fun x => rfl
      have hF1 : ∀ x, (((w.alloc (.cells ROW 46)).drew.setCells w.heap.size (i * 8) X).drew).cell? x = ((w.drew.alloc (.cells ROW 46)).setCells w.heap.size (i * 8) X).cell? x := fun x => rfl
      have hF2 : ∀ x, (((w.alloc (.cells ROW 46)).drew.setCells w.heap.size (i * 8) X).drew).frozen? x = ((w.drew.alloc (.cells ROW 46)).setCells w.heap.size (i * 8) X).frozen? x := fun x => rfl
      clear hkk hik hold hROW hG hRL hRs hzc hZ1 hZ2 hP hZ hoW n1 hvW hXc hCc hW1
      go_enter Try.func76, Try.ntmps76
      go_wp2_with (first
        | (at_builtin; refine wpList_runA _ rfl _ _ _ _ rfl _ _ rfl rfl (hrz _) ?_)
        | (at_builtin; refine wpList_copyK _ rfl _ _ 22 22 rfl _ _ rfl rfl (hcpA _ hE1 hE2 _ _) ?_)
        | (at_builtin; refine wpList_copyK _ rfl _ _ 22 22 rfl _ _ rfl rfl (hcpB _ (fun _ => rfl) (fun _ => rfl) _ _ _) ?_))
      go_region_law_o (refine step_copyK rfl _ _ 22 22 rfl (.slice (some ⟨w.heap.size, (i + 1) * 8, none⟩) (n - i) (G - (i + 1))) (.slice (some ⟨g, i * 8, none⟩) (n - i) (c - i)) (by simp [Act.eval, Act.put]) (by simp [Act.eval, Act.put]) (hcpB _ hF1 hF2 3 (G - (i + 1)) (c - i)) ?_)
      go_wp2
      go_ret
      have hxF : Ext w ((((w.alloc (.cells ROW 46)).drew.setCells w.heap.size (i * 8) X).drew).setCells w.heap.size ((i + 1) * 8) (cs.drop (i * 8))) := below_setCells (Ext.drew (below_setCells (((Ext.refl w).alloc _).drew) (Nat.le_refl _) _ _)) (Nat.le_refl _) _ _
      refine ⟨.slice (some ⟨w.heap.size, 0, none⟩) (n + 1) G, rfl, HFin.out _ w.heap.size G (Chg.of_ext hxF) (owns_congr ?_ n2), Below.mono hxF hb⟩
      rw [HW1.out]
      exact heap_setCells_congr _ _ _ _ _ (heap_setCells_congr _ _ _ _ _ rfl)
end Go.Proofs.Ytmedmfjhpabfdaa
