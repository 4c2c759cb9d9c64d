/- The walks of text.Read and of what it defers. -/
import Derived.Test.YtbkmgbckeaimdaaDoorTextO
import Derived.Test.YtbkmgbckeaimdaaDoorFormW
import Derived.Defers
import Derived.Recover
import Derived.Laws.Pointers
import Derived.Laws.EntriesVeiled
namespace Go.Proofs.YtbkmgbckeaimdaaDoor
open Go Go.RowKit

theorem wpS_as {P : Program} {c : Code} {Q : Exit → Act → List Frame → World → Prop} {a : Act} (a' : Act) {cs : List Frame} {w : World} (ha : a = a') (h : c.wp P (fun e a w => Q e a cs w) a' w) : c.wpS P Q a cs w := by
  subst ha; exact wpS_of_wp h

set_option maxRecDepth 100000 in
set_option maxHeartbeats 4000000 in
theorem read_catch (base p q : Nat) (u v : Value) (w : World) (hp : w.cell? ⟨p, 0, none⟩ = some u) (hq : w.cell? ⟨q, 0, none⟩ = some v) (fp : w.frozen? ⟨p, 0, none⟩ = false) (fq : w.frozen? ⟨q, 0, none⟩ = false) (hpq : p ≠ q) (hbp : base ≤ p) (hbq : base ≤ q) (hb : base ≤ w.heap.size) :
    CallsD Tryd.prog 24 #[.pointer (some ⟨p, 0, none⟩), .pointer (some ⟨q, 0, none⟩)] (.panicking [{ v := .iface 60 (.agg #[.int .i64 9]), recovered := false }]) w fun e u' w' =>
      e = .returned (.tuple #[]) ∧ u' = .panicking [{ v := .iface 60 (.agg #[.int .i64 9]), recovered := true }] ∧ w'.cell? ⟨p, 0, none⟩ = some (.slice none 0 0) ∧ w'.cell? ⟨q, 0, none⟩ = some (.int .i64 9) ∧ Below base w w' := by
  have hta : ∀ w, (Instr.typeAssert (.iface 60 (.agg #[.int .i64 9])) 20 60 true).run Tryd.prog w = .ok (.tuple #[.agg #[.int .i64 9], .bool true]) w := fun _ => by kernel_rfl
  have hpl := World.block_lt_of_cell? _ _ hp
  have hql := World.block_lt_of_cell? _ _ hq
  refine callsD_of_wpS Tryd.func24 rfl fun c₀ cs hu => ?_
  apply wpS_seq
  apply wpS_region
  simp [wpOpsS, go_sem, recoverD, hu, Tryd.ntmps24, Exit.thenS]
  refine wpS_as { tmps := #[.pointer (some ⟨p, 0, none⟩), .pointer (some ⟨q, 0, none⟩), .iface 60 (.agg #[.int .i64 9]), undef, undef, .iface 60 (.agg #[.int .i64 9]), undef, undef, undef, undef, undef, undef, undef, undef, undef, undef, undef, undef], defers := [] } (by rfl) ?_
  go_wp2_with fail
  go_region
  all_goals
    go_wp2_with fail
    refine ⟨rfl, _, rfl, _, by simp [results, Tryd.results24, go_sem], rfl, rfl, ?_⟩
    have h1 : ((w.setCell ⟨p, 0, none⟩ (.slice none 0 0)).setCell ⟨q, 0, none⟩ (.int .i64 9)).cell? ⟨p, 0, none⟩ = some (.slice none 0 0) := (World.cell?_setCell_other _ _ _ _ (by intro e; injection e with e _ _; exact hpq e.symm)).trans (World.cell?_setCell_same _ _ _ hp)
    have h2 : ((w.setCell ⟨p, 0, none⟩ (.slice none 0 0)).setCell ⟨q, 0, none⟩ (.int .i64 9)).cell? ⟨q, 0, none⟩ = some (.int .i64 9) := World.cell?_setCell_same _ _ _ ((World.cell?_setCell_other _ _ _ _ (by intro e; injection e with e _ _; exact hpq e)).trans hq)
    exact ⟨(((Ext.refl _).alloc _).drew).cell h1, (((Ext.refl _).alloc _).drew).cell h2, ((((Below.refl base w).setCell (p := ⟨p, 0, none⟩) hbp _).setCell (p := ⟨q, 0, none⟩) hbq _).alloc (by rw [size_setCell, size_setCell]; exact hb) _).drew⟩

theorem read_idle (p q : Nat) (w : World) :
    CallsD Tryd.prog 24 #[.pointer (some ⟨p, 0, none⟩), .pointer (some ⟨q, 0, none⟩)] .returning w fun e u' w' => e = .returned (.tuple #[]) ∧ u' = .returning ∧ w' = w := by
  refine callsD_of_wpS Tryd.func24 rfl fun c₀ cs hu => ?_
  apply wpS_seq
  apply wpS_region
  simp [wpOpsS, go_sem, recoverD, hu, Tryd.ntmps24, Exit.thenS]
  refine wpS_as { tmps := #[.pointer (some ⟨p, 0, none⟩), .pointer (some ⟨q, 0, none⟩), .nilIface, undef, undef, .nilIface, undef, undef, undef, undef, undef, undef, undef, undef, undef, undef, undef, undef], defers := [] } (by rfl) ?_
  go_wp2_with fail
  cases c₀
  simp_all [bodyPostS, results, Tryd.results24]

theorem two_cells {w : World} {p : Nat} {u v : Value} (hp : w.cell? ⟨p, 0, none⟩ = some u) (hq : w.cell? ⟨p + 1, 0, none⟩ = some v) (x y : Value) :
    (w.setCell ⟨p, 0, none⟩ x).cell? ⟨p, 0, none⟩ = some x ∧ ((w.setCell ⟨p, 0, none⟩ x).setCell ⟨p + 1, 0, none⟩ y).cell? ⟨p + 1, 0, none⟩ = some y :=
  ⟨World.cell?_setCell_same _ _ _ hp, World.cell?_setCell_same _ _ _ ((World.cell?_setCell_other _ _ _ _ (by intro e; injection e with e _ _; omega)).trans hq)⟩

set_option maxRecDepth 100000 in
set_option maxHeartbeats 8000000 in
theorem text_Read (B : Nat) (s : ByteArray) (w : World) (hB : B ≤ w.heap.size) (hv : ErrV w.heap.size w) :
    Calls Tryd.prog 9 #[.string s] w fun e w' => ∃ v, e = .returned (.tuple #[v, .int .i64 (readErr s.data.toList)]) ∧ IsNodes B w' v (readN s.data.toList) ∧ Ext w w' := by
  have hmf : ∀ (fn : Fn) (first cap : Array Value) (w : World), (Instr.makeFunc fn first cap).run Tryd.prog w = .ok (.func fn first cap) w := fun _ _ _ _ => rfl
  have hsz : s.data.toList.length = s.size := by rw [Array.length_toList]; rfl
  by_cases hl : 400 < s.size
  · have hE : readErr s.data.toList = 2 := readErr_long (by omega)
    have HE := hid (And.intro hE (readN_no hE (by decide)))
    have hl2 : (400 : Int) < s.size := by omega
    clear hE hsz hl
    go_enter_defers Tryd.func9, Tryd.ntmps9
    go_wp2_with fail
    rw [HE.out.1, HE.out.2]
    exact ⟨_, by simp [results, Tryd.results9, go_sem], _, rfl, IsSl.nil, ((Ext.refl w).alloc _).alloc _⟩
  have HN := hid hl
  have hl2 : decide ((400 : Int) < s.size) = false := decide_eq_false (by omega)
  have HS := hid (show s.size ≤ 400 by omega)
  have HSZ := hid hsz
  have HV := hid hv
  clear hl hsz hv
  -- the reader as it begins
  obtain ⟨W1, hW1⟩ : ∃ W1, W1 = (w.alloc (.cells #[.slice none 0 0] 26)).alloc (.cells #[.int .i64 0] 24) := ⟨_, rfl⟩
  obtain ⟨W, hW⟩ : ∃ W, W = W1.alloc (.cells #[.string s, .int .i64 0, .slice none 0 0] 64) := ⟨_, rfl⟩
  have hx : Ext w W := by rw [hW, hW1]; exact (((Ext.refl w).alloc _).alloc _).alloc _
  have hz1 : W1.heap.size = w.heap.size + 2 := by rw [hW1]; simp
  have hb := Blk.new W1 64 #[.string s, .int .i64 0, .slice none 0 0]
  rw [← hW, hz1] at hb
  have HX := hid hx
  have HR := hid (show RdT w.heap.size (w.heap.size + 1 + 1) W s s.data.toList [] from ⟨⟨0, Nat.zero_le _, rfl, hb.cell rfl⟩, hb.cell rfl, ⟨_, hb.cell rfl, Own.nil⟩, hb.ty, hb.frozen, by omega⟩)
  have HP := hid (show Blk W w.heap.size 26 #[.slice none 0 0] by rw [hW, hW1]; exact ((Blk.new _ _ _).alloc _).alloc _)
  have HQ := hid (show Blk W (w.heap.size + 1) 24 #[.int .i64 0] by
    have h1 := (Blk.new (w.alloc (.cells #[.slice none 0 0] 26)) 24 #[.int .i64 0]).alloc (.cells #[.string s, .int .i64 0, .slice none 0 0] 64)
    rw [hW, hW1]
    rwa [show (w.alloc (.cells #[.slice none 0 0] 26)).heap.size = w.heap.size + 1 by simp] at h1)
  have HC := hid (rd_one w.heap.size (w.heap.size + 1 + 1) s HS.out (s.data.toList.length + 1) s.data.toList [] W (by omega) (by have := HSZ.out; have := HS.out; simp only [List.length_nil]; omega) HR.out (HV.out.chg (Chg.of_ext (ts := []) hx)) hx.size)
  rw [hW, hW1] at HC
  clear hx hb hz1
  go_enter_defers Tryd.func9, Tryd.ntmps9
  go_wp2_with fail
  refine HC.out.mono ?_
  rw [← hW1, ← hW]
  rintro e w2 ⟨hx2, ⟨M, t1, hp, rfl, hr2⟩ | ⟨hp, rfl⟩⟩
  · have HPA := hid hp
    have hb2 := HP.out.chg hx2.chg (by decide)
    have hq2 := HQ.out.chg hx2.chg (by decide)
    have HXX := hid (((Chg.of_ext HX.out).trans hx2.chg).ext (Nat.le_refl _))
    obtain ⟨k, hk, rfl⟩ := hr2.pos
    have c1 := hr2.at_ hk
    have HP2 := hid hb2
    have HQ2 := hid hq2
    have p0 := hb2.cell (i := 0) (u := .slice none 0 0) rfl
    have fp := hb2.frozen 0
    have q0 := hq2.cell (i := 0) (u := .int .i64 0) rfl
    have fq := hq2.frozen 0
    have HP2c := hid p0
    have HQ2c := hid q0
    have HTP := hid hb2.ty
    have HTQ := hid hq2.ty
    clear hp hx2 hb2 hq2
    by_cases hks : k < s.size
    · have hks' : (k : Int) < s.size := by omega
      have hE : readErr s.data.toList = 9 := read_rest (by rw [HSZ.out]; exact HN.out) (by rw [HPA.out, drop_cons hks])
      have HE := hid (And.intro hE (readN_no hE (by decide)))
      clear hE hks hk
      go_wp2_with fail
      refine leaves_cons (f := 24) (args := #[.pointer (some ⟨w.heap.size, 0, none⟩), .pointer (some ⟨w.heap.size + 1, 0, none⟩)]) (by simp) (by simp [go_sem]) ?_
      refine (read_idle _ _ _).mono ?_
      rintro e u' w'' ⟨rfl, rfl, rfl⟩
      rw [HE.out.1, HE.out.2]
      obtain ⟨d0, d1⟩ := two_cells p0 q0 (.slice none 0 0) (.int .i64 9)
      exact ⟨_, by simp [results, Tryd.results9, go_sem, d0, d1], _, rfl, IsSl.nil, (HXX.out.setCell (Nat.le_refl _) _).setCell (p := ⟨w.heap.size + 1, 0, none⟩) (Nat.le_succ _) _⟩
    · obtain rfl : k = s.size := by omega
      have hrd := read_of (t := s.data.toList) (M := M) (by rw [HSZ.out]; exact HN.out) (by rw [HPA.out, drop_end])
      have HE := hid hrd
      clear hrd hks hk
      obtain ⟨v, hv, hown⟩ := hr2.own
      have hsl := hown.isSl B
      have HSL := hid hsl
      obtain ⟨A, c, rfl, hMc, hcm, hs⟩ := hsl
      have HMC := hid (And.intro hMc hcm)
      have HLM := hid (Nat.le_trans hMc hcm)
      clear hown hMc hcm
      have HSS := hid hs
      clear hs
      have c2 := hv
      go_wp2_with fail
      refine (formula_Check B A c M w2 HLM.out HSS.out).mono ?_
      rintro e w3 ⟨rfl, hx3⟩
      replace p0 := hx3.cell p0
      replace q0 := hx3.cell q0
      replace fp := (hx3.frozenAt (World.block_lt_of_cell? _ _ HP2c.out)).trans fp
      replace fq := (hx3.frozenAt (World.block_lt_of_cell? _ _ HQ2c.out)).trans fq
      replace c2 := hx3.cell c2
      have HX3 := hid (HXX.out.trans hx3)
      have HSS3 := hid (HSS.out.ext RTrip.mono hx3)
      have HTP3 := hid ((tyAt_of (hx3.blockAt (World.block_lt_of_cell? _ _ HP2c.out))).trans HTP.out)
      have HTQ3 := hid ((tyAt_of (hx3.blockAt (World.block_lt_of_cell? _ _ HQ2c.out))).trans HTQ.out)
      clear hx3 hv c1
      by_cases h0 : formCheck M = 0
      · rw [h0, if_pos rfl] at HE
        rw [h0]
        clear h0
        go_wp2_with fail
        refine leaves_cons (f := 24) (args := #[.pointer (some ⟨w.heap.size, 0, none⟩), .pointer (some ⟨w.heap.size + 1, 0, none⟩)]) (by simp) (by simp [go_sem]) ?_
        refine (read_idle _ _ _).mono ?_
        rintro e u' w'' ⟨rfl, rfl, rfl⟩
        rw [HE.out.1, HE.out.2]
        obtain ⟨d0, d1⟩ := two_cells p0 q0 (.slice A M.length c) (.int .i64 0)
        have hc := ((Chg.refl (B := B) (ts := [26, 24]) w3).setCell (p := ⟨w.heap.size, 0, none⟩) HTP3.out (by simp) (.slice A M.length c) hB).setCell (p := ⟨w.heap.size + 1, 0, none⟩) (t := 24) ((tyAt_of (Below.heap_setCell _ _ _ _ (Nat.succ_ne_self w.heap.size))).trans HTQ3.out) (by simp) (.int .i64 0) (Nat.le_succ_of_le hB)
        exact ⟨_, by simp [results, Tryd.results9, go_sem, d0, d1], .slice A M.length c, rfl, ⟨A, c, rfl, HMC.out.1, HMC.out.2, HSS3.out.chg RTrip.mono (by decide) hc⟩, (HX3.out.setCell (Nat.le_refl _) _).setCell (p := ⟨w.heap.size + 1, 0, none⟩) (Nat.le_succ _) _⟩
      · rw [if_neg h0] at HE
        obtain ⟨E, hE⟩ : ∃ E, E = formCheck M := ⟨_, rfl⟩
        rw [← hE] at h0 HE
        rw [← hE]
        have h0' : (E != 0) = true := by simpa using h0
        clear h0 hE
        go_wp2_with fail
        refine leaves_cons (f := 24) (args := #[.pointer (some ⟨w.heap.size, 0, none⟩), .pointer (some ⟨w.heap.size + 1, 0, none⟩)]) (by simp) (by simp [go_sem]) ?_
        refine (read_idle _ _ _).mono ?_
        rintro e u' w'' ⟨rfl, rfl, rfl⟩
        rw [HE.out.1, HE.out.2]
        obtain ⟨d0, d1⟩ := two_cells p0 q0 (.slice none 0 0) (.int .i64 E)
        exact ⟨_, by simp [results, Tryd.results9, go_sem, d0, d1], _, rfl, IsSl.nil, (HX3.out.setCell (Nat.le_refl _) _).setCell (p := ⟨w.heap.size + 1, 0, none⟩) (Nat.le_succ _) _⟩
  · have hE : readErr s.data.toList = 9 := read_none (by rw [HSZ.out]; exact HN.out) hp
    have HE := hid (And.intro hE (readN_no hE (by decide)))
    have hb2 := HP.out.chg hx2.chg (by decide)
    have hq2 := HQ.out.chg hx2.chg (by decide)
    have HXX := hid (((Chg.of_ext HX.out).trans hx2.chg).ext (Nat.le_refl _))
    have p0 := hb2.cell (i := 0) (u := .slice none 0 0) rfl
    have fp := hb2.frozen 0
    have q0 := hq2.cell (i := 0) (u := .int .i64 0) rfl
    have fq := hq2.frozen 0
    clear hE hp hx2 hb2 hq2
    unfold badE
    go_wp2_with fail
    refine leaves_cons (f := 24) (args := #[.pointer (some ⟨w.heap.size, 0, none⟩), .pointer (some ⟨w.heap.size + 1, 0, none⟩)]) (by simp) (by simp [go_sem]) ?_
    refine (read_catch w.heap.size w.heap.size (w.heap.size + 1) _ _ w2 p0 q0 fp fq (by omega) (Nat.le_refl _) (Nat.le_succ _) HXX.out.size).mono ?_
    rintro e u' w'' ⟨rfl, rfl, d0, d1, hb⟩
    rw [HE.out.1, HE.out.2]
    exact ⟨_, by simp [results, Tryd.results9, go_sem, d0, d1], _, rfl, IsSl.nil, Below.trans HXX.out hb⟩

end Go.Proofs.YtbkmgbckeaimdaaDoor
