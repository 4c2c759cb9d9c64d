/- The walks of text's reader: its calls take, add, must, bad. -/
import Derived.Test.YtbkmgbckeaimdaaDoorTextP
import Derived.Test.YtbkmgbckeaimdaaDoorFormO
import Derived.Test.YtbkmgbckeaimdaaDoorBase
import Derived.WalkLawsBesides
import Derived.Deep.DeepCutAuto
import Derived.Deep.QuietTactic
import Derived.Deep.RegionWith
namespace Go.Proofs.YtbkmgbckeaimdaaDoor
open Go Go.RowKit

/-- a panic with the fault 'a text that cannot be read'. -/
def badE : Ending := .panicked [{ v := .iface 60 (.agg #[.int .i64 9]), recovered := false }]

/-- a reader in memory: what it reads, what is left of it, its nodes. -/
structure RdT (base r : Nat) (w : World) (s : ByteArray) (t : List UInt8) (L : List Node) : Prop where
  ex : ∃ k : Nat, k ≤ s.size ∧ t = s.data.toList.drop k ∧ w.cell? ⟨r, 1, none⟩ = some (.int .i64 k)
  c0 : w.cell? ⟨r, 0, none⟩ = some (.string s)
  own : ∃ v, w.cell? ⟨r, 2, none⟩ = some v ∧ Own RNode 3 39 w base v L
  ty : tyAt w r = some 64
  fz : ∀ o, w.frozen? ⟨r, o, none⟩ = false
  lo : base ≤ r

theorem RdT.lt {base r : Nat} {w : World} {s : ByteArray} {t : List UInt8} {L : List Node} (h : RdT base r w s t L) : r < w.heap.size := World.block_lt_of_cell? _ _ h.c0
theorem RdT.ext {base r : Nat} {w w' : World} {s : ByteArray} {t : List UInt8} {L : List Node} (h : RdT base r w s t L) (x : Ext w w') : RdT base r w' s t L := by
  have hl := h.lt
  obtain ⟨⟨k, h1, h2, h3⟩, c0, ⟨v, hv, ho⟩, ty, fz, lo⟩ := h
  exact ⟨⟨k, h1, h2, x.cell h3⟩, x.cell c0, ⟨v, x.cell hv, ho.ext (B := base) RTrip.mono x⟩, (tyAt_of (x.blockAt hl)).trans ty, fun o => (x.frozenAt hl).trans (fz o), lo⟩

/-- a block that is neither the reader's nor its nodes'. -/
def Apt (r : Nat) (w : World) (z : Nat) : Prop := z < w.heap.size ∧ z ≠ r ∧ ∀ v, w.cell? ⟨r, 2, none⟩ = some v → v.ownBlock ≠ some z
/-- what a call of the reader's leaves of all else. -/
structure Fd (base r : Nat) (w w' : World) : Prop where
  chg : Chg base [39, 64] w w'
  apt : ∀ z, Apt r w z → Apt r w' z ∧ w'.heap[z]? = w.heap[z]?
theorem Fd.refl {base r : Nat} (w : World) : Fd base r w w := ⟨Chg.refl _, fun _ h => ⟨h, rfl⟩⟩
theorem Fd.trans {base r : Nat} {a b c : World} (h : Fd base r a b) (k : Fd base r b c) : Fd base r a c :=
  ⟨h.chg.trans k.chg, fun z hz => ⟨(k.apt z (h.apt z hz).1).1, (k.apt z (h.apt z hz).1).2.trans (h.apt z hz).2⟩⟩
theorem Fd.ext {base r : Nat} {w w' : World} (hr : r < w.heap.size) (x : Ext w w') : Fd base r w w' :=
  ⟨Chg.of_ext x, fun _ ⟨h1, h2, h3⟩ => ⟨⟨Nat.lt_of_lt_of_le h1 x.size, h2, fun v hv => h3 v (by rw [← x.cellAt hr]; exact hv)⟩, x.blockAt h1⟩⟩
theorem Fd.move {base r : Nat} {w : World} {s : ByteArray} {t : List UInt8} {L : List Node} (h : RdT base r w s t L) (u : Value) : Fd base r w (w.setCell ⟨r, 1, none⟩ u) :=
  ⟨(Chg.refl _).setCell (t := 64) h.ty (by simp) _ h.lo, fun _ ⟨h1, h2, h3⟩ => ⟨⟨by simpa [World.setCell] using h1, h2, fun v hv => h3 v (by rwa [World.cell?_setCell_other _ _ _ _ (by intro e; injection e with _ e2 _; cases e2)] at hv)⟩, Below.heap_setCell _ _ _ _ h2⟩⟩

/-- the place moves on. -/
theorem RdT.move {base r : Nat} {w : World} {s : ByteArray} {t : List UInt8} {L : List Node} (h : RdT base r w s t L) (k : Nat) (hk : k ≤ s.size) :
    RdT base r (w.setCell ⟨r, 1, none⟩ (.int .i64 k)) s (s.data.toList.drop k) L := by
  have hl := h.lt
  obtain ⟨⟨k0, h1, h2, h3⟩, c0, ⟨v, hv, ho⟩, ty, fz, lo⟩ := h
  refine ⟨⟨k, hk, rfl, ?_⟩, ?_, ⟨v, ?_, ?_⟩, tyAt_setCell ty, fun o => (by go_simp : (w.setCell ⟨r, 1, none⟩ (.int .i64 k)).frozen? ⟨r, o, none⟩ = w.frozen? ⟨r, o, none⟩).trans (fz o), lo⟩
  · exact World.cell?_setCell_same _ _ _ h3
  · exact (World.cell?_setCell_other _ _ _ _ (by intro e; injection e with _ e2 _; cases e2)).trans c0
  · exact (World.cell?_setCell_other _ _ _ _ (by intro e; injection e with _ e2 _; cases e2)).trans hv
  · refine ho.chg (B := base) (ts := [64]) RTrip.mono (Chg.setCell (Chg.refl _) ty (by simp) _ lo) (fun g hg => Below.heap_setCell _ _ _ _ ?_)
    intro e
    rcases ho.at_ with ⟨h1, h2⟩ | ⟨g2, c3, h1, _, _, h4, _⟩
    · rw [h1] at hg; cases hg
    · rw [h1] at hg
      injection hg with hg
      rw [show g2 = r from (show g2 = g from hg).trans e, ty] at h4
      exact absurd h4 (by decide)

theorem drop_cons {s : ByteArray} {k : Nat} (hk : k < s.size) : s.data.toList.drop k = s[k] :: s.data.toList.drop (k + 1) := by
  rw [List.drop_eq_getElem_cons (by simpa using hk)]; rfl
theorem drop_end (s : ByteArray) : s.data.toList.drop s.size = [] := by
  rw [List.drop_eq_nil_iff]; simp
theorem toNat_ne {a b : UInt8} (h : a ≠ b) : ((a.toNat : Int) == b.toNat) = false := by
  rw [beq_eq_false_iff_ne]
  intro e
  exact h (UInt8.toNat_inj.1 (by omega))

set_option maxHeartbeats 1000000 in
theorem rd_take (base r : Nat) (s : ByteArray) (t : List UInt8) (L : List Node) (c : UInt8) (w : World) (hs : s.size ≤ 400) (h : RdT base r w s t L) :
    Calls Tryd.prog 41 #[.pointer (some ⟨r, 0, none⟩), .int .u8 c.toNat] w fun e w' => Fd base r w w' ∧
      ((∃ t1, t = c :: t1 ∧ e = .returned (.bool true) ∧ RdT base r w' s t1 L) ∨ (eat c t = none ∧ e = .returned (.bool false) ∧ RdT base r w' s t L)) := by
  have H := hid h
  obtain ⟨⟨k, h1, h2, h3⟩, c0, _, _, fz, _⟩ := h
  have fz1 := fz 1
  by_cases hk : k < s.size
  · have HD := hid (drop_cons hk)
    by_cases hc : s[k] = c
    · have hc' : ((s[k].toNat : Int) == c.toNat) = true := by rw [hc]; simp
      have HT := hid (show t = c :: s.data.toList.drop (k + 1) by rw [h2, HD.out, hc])
      clear hc h2
      go_enter Tryd.func41, Tryd.ntmps41
      go_upto_region 1 with fail
      go_quiet (fail)
      go_wp2_with fail
      go_ret
      exact ⟨(Fd.ext H.out.lt ((Ext.refl w).drewN _)).trans (Fd.move (H.out.ext ((Ext.refl w).drewN _)) _), .inl ⟨_, HT.out, rfl, (H.out.ext ((Ext.refl w).drewN _)).move (k + 1) hk⟩⟩
    · have hc' := toNat_ne hc
      have HT := hid (show eat c t = none by rw [h2, HD.out]; simp [eat, hc])
      clear hc h2
      go_enter Tryd.func41, Tryd.ntmps41
      go_upto_region 1 with fail
      go_quiet (fail)
      go_wp2_with fail
      go_ret
      exact ⟨Fd.ext H.out.lt ((Ext.refl w).drewN _), .inr ⟨HT.out, rfl, H.out.ext ((Ext.refl w).drewN _)⟩⟩
  · have HT := hid (show eat c t = none by rw [h2, show k = s.size by omega, drop_end]; rfl)
    have hk' : decide ((k : Int) < s.size) = false := decide_eq_false (by omega)
    have hk2 : decide (k < s.size) = false := decide_eq_false hk
    clear h2 hk
    have HF := hid (show ∀ w', Ext w w' → w'.cell? ⟨r, 1, none⟩ = some (.int .i64 k) ∧ w'.cell? ⟨r, 0, none⟩ = some (.string s) from fun w' x => ⟨x.cell h3, x.cell c0⟩)
    go_enter Tryd.func41, Tryd.ntmps41
    go_wp2_with fail
    refine wq_region (fun w' => Ext w w') (by kernel_rfl) (by kernel_rfl) (Ext.refl _).drew ?_
    refine wq_get (v := ?_) (fun w' hw' => ?_) ?_
    rotate_left
    · have hA := HF.out w' hw'
      go_split_ands
      first
        | (go_simp; done)
        | (go_simp; with_reducible rfl)
    try simp only [Act.put, List.setIfInBounds_toArray, List.set_cons_zero, List.set_cons_succ]
    refine wq_get (v := ?_) (fun w' hw' => ?_) ?_
    rotate_left
    · have hA := HF.out w' hw'
      go_split_ands
      first
        | (go_simp; done)
        | (go_simp; with_reducible rfl)
    try simp only [Act.put, List.setIfInBounds_toArray, List.set_cons_zero, List.set_cons_succ]
    refine wq_get (v := ?_) (fun w' hw' => ?_) ?_
    rotate_left
    · have hA := HF.out w' hw'
      go_split_ands
      first
        | (go_simp; done)
        | (go_simp; with_reducible rfl)
    try simp only [Act.put, List.setIfInBounds_toArray, List.set_cons_zero, List.set_cons_succ]
    refine wq_get (v := ?_) (fun w' hw' => ?_) ?_
    rotate_left
    · have hA := HF.out w' hw'
      go_split_ands
      first
        | (go_simp; done)
        | (go_simp; with_reducible rfl)
    try simp only [Act.put, List.setIfInBounds_toArray, List.set_cons_zero, List.set_cons_succ]
    refine wq_get (v := ?_) (fun w' hw' => ?_) ?_
    rotate_left
    · have hA := HF.out w' hw'
      go_split_ands
      first
        | (go_simp; done)
        | (go_simp; with_reducible rfl)
    try simp only [Act.put, List.setIfInBounds_toArray, List.set_cons_zero, List.set_cons_succ]
    refine wq_get (v := ?_) (fun w' hw' => ?_) ?_
    rotate_left
    · have hA := HF.out w' hw'
      go_split_ands
      first
        | (go_simp; done)
        | (go_simp; with_reducible rfl)
    try simp only [Act.put, List.setIfInBounds_toArray, List.set_cons_zero, List.set_cons_succ]
    refine wq_get (v := ?_) (fun w' hw' => ?_) ?_
    rotate_left
    · have hA := HF.out w' hw'
      go_split_ands
      first
        | (go_simp; done)
        | (go_simp; with_reducible rfl)
    try simp only [Act.put, List.setIfInBounds_toArray, List.set_cons_zero, List.set_cons_succ]
    refine wq_get (v := ?_) (fun w' hw' => ?_) ?_
    rotate_left
    · have hA := HF.out w' hw'
      go_split_ands
      first
        | (go_simp; done)
        | (go_simp; with_reducible rfl)
    try simp only [Act.put, List.setIfInBounds_toArray, List.set_cons_zero, List.set_cons_succ]
    refine wq_get (v := ?_) (fun w' hw' => ?_) ?_
    rotate_left
    · have hA := HF.out w' hw'
      go_split_ands
      first
        | (go_simp; done)
        | (go_simp; with_reducible rfl)
    try simp only [Act.put, List.setIfInBounds_toArray, List.set_cons_zero, List.set_cons_succ]
    refine wq_get (v := ?_) (fun w' hw' => ?_) ?_
    rotate_left
    · have hA := HF.out w' hw'
      go_split_ands
      first
        | (go_simp; done)
        | (go_simp; with_reducible rfl)
    try simp only [Act.put, List.setIfInBounds_toArray, List.set_cons_zero, List.set_cons_succ]
    refine wq_get (v := ?_) (fun w' hw' => ?_) ?_
    rotate_left
    · have hA := HF.out w' hw'
      go_split_ands
      first
        | (go_simp; done)
        | (go_simp; with_reducible rfl)
    try simp only [Act.put, List.setIfInBounds_toArray, List.set_cons_zero, List.set_cons_succ]
    refine wq_skip (yields_at rfl rfl rfl) ?_
    try simp only [Act.put, List.setIfInBounds_toArray, List.set_cons_zero, List.set_cons_succ]
    refine wq_skip (yields_at rfl rfl rfl) ?_
    try simp only [Act.put, List.setIfInBounds_toArray, List.set_cons_zero, List.set_cons_succ]
    refine wq_skip (yields_at rfl rfl rfl) ?_
    try simp only [Act.put, List.setIfInBounds_toArray, List.set_cons_zero, List.set_cons_succ]
    refine wq_skip (yields_at rfl rfl rfl) ?_
    try simp only [Act.put, List.setIfInBounds_toArray, List.set_cons_zero, List.set_cons_succ]
    refine wq_skip (yields_at rfl rfl rfl) ?_
    try simp only [Act.put, List.setIfInBounds_toArray, List.set_cons_zero, List.set_cons_succ]
    refine wq_skip (yields_at rfl rfl rfl) ?_
    try simp only [Act.put, List.setIfInBounds_toArray, List.set_cons_zero, List.set_cons_succ]
    refine wq_skip (yields_at rfl rfl rfl) ?_
    try simp only [Act.put, List.setIfInBounds_toArray, List.set_cons_zero, List.set_cons_succ]
    refine wq_skip (yields_at rfl rfl rfl) ?_
    try simp only [Act.put, List.setIfInBounds_toArray, List.set_cons_zero, List.set_cons_succ]
    refine wq_skip (yields_at rfl rfl rfl) ?_
    try simp only [Act.put, List.setIfInBounds_toArray, List.set_cons_zero, List.set_cons_succ]
    refine wq_skip (yields_at rfl rfl rfl) ?_
    try simp only [Act.put, List.setIfInBounds_toArray, List.set_cons_zero, List.set_cons_succ]
    refine wq_skip (yields_at rfl rfl rfl) ?_
    try simp only [Act.put, List.setIfInBounds_toArray, List.set_cons_zero, List.set_cons_succ]
    refine wq_get (v := ?_) (fun w' hw' => ?_) ?_
    rotate_left
    · have hA := HF.out w' hw'
      go_split_ands
      first
        | (go_simp; done)
        | (go_simp; with_reducible rfl)
    try simp only [Act.put, List.setIfInBounds_toArray, List.set_cons_zero, List.set_cons_succ]
    refine wq_nil ?_
    intro w25 hyn
    have HX := hid hyn
    clear hyn
    go_wp2_with fail
    go_ret
    exact ⟨Fd.ext H.out.lt HX.out, .inr ⟨HT.out, rfl, H.out.ext HX.out⟩⟩

theorem text_bad (w : World) : Calls Tryd.prog 56 #[.int .i64 9] w fun e w' => e = badE ∧ w' = w := by
  go_enter Tryd.func56, Tryd.ntmps56
  go_wp2_with fail
  exact ⟨rfl, rfl, rfl⟩

theorem rd_must (base r : Nat) (s : ByteArray) (t : List UInt8) (L : List Node) (c : UInt8) (w : World) (hs : s.size ≤ 400) (h : RdT base r w s t L) :
    Calls Tryd.prog 44 #[.pointer (some ⟨r, 0, none⟩), .int .u8 c.toNat] w fun e w' => Fd base r w w' ∧
      ((∃ t1, eat c t = some t1 ∧ e = .returned (.tuple #[]) ∧ RdT base r w' s t1 L) ∨ (eat c t = none ∧ e = badE)) := by
  go_enter Tryd.func44, Tryd.ntmps44
  go_wp2_with fail
  refine (rd_take base r s t L c w hs h).mono ?_
  rintro e w1 ⟨hx, ⟨t1, ht, rfl, hr⟩ | ⟨ht, rfl, hr⟩⟩
  · have HT := hid (show eat c t = some t1 by rw [ht]; simp [eat])
    clear ht
    go_wp2_with fail
    go_end0
    exact ⟨hx, .inl ⟨_, HT.out, rfl, hr⟩⟩
  · have HT := hid ht
    clear ht
    go_wp2_with fail
    refine (text_bad _).mono ?_
    rintro e w2 ⟨rfl, rfl⟩
    unfold badE
    go_wp2_with fail
    exact ⟨rfl, hx, .inr ⟨HT.out, rfl⟩⟩

end Go.Proofs.YtbkmgbckeaimdaaDoor
