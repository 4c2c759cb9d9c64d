/- The walk of text's reader: one sentence. -/
import Derived.Test.YtbkmgbckeaimdaaDoorTextN
namespace Go.Proofs.YtbkmgbckeaimdaaDoor
open Go Go.RowKit

theorem Chg.newSet {B : Nat} {ts : List TypeId} {a w : World} (h : Chg B ts a w) {p : Addr} (hp : a.heap.size ≤ p.block) (u : Value) : Chg B ts a (w.setCell p u) :=
  ⟨h.os, h.tape, h.output, by rw [size_setCell]; exact h.size, fun k hk hc => (Below.heap_setCell _ _ _ _ (by omega)).trans (h.block k hk hc)⟩
theorem RdT.fresh {base r : Nat} {w : World} {s : ByteArray} {t : List UInt8} {L : List Node} (h : RdT base r w s t L) (o : Obj) : Apt r (w.alloc o) w.heap.size := by
  refine ⟨by simp, by have := h.lt; omega, fun v hv => ?_⟩
  obtain ⟨v0, hv0, ho⟩ := h.own
  rw [((Ext.refl w).alloc o).cell hv0] at hv
  injection hv with hv
  subst hv
  intro e
  have := (ho.lt e).2
  omega
theorem Apt.set {r z : Nat} {w : World} (h : Apt r w z) (o : Nat) (u : Value) : Apt r (w.setCell ⟨z, o, none⟩ u) z :=
  ⟨by rw [size_setCell]; exact h.1, h.2.1, fun v hv => h.2.2 v (by rwa [World.cell?_setCell_other _ _ _ _ (by intro e; injection e with e _ _; exact h.2.1 e)] at hv)⟩
theorem RdT.far {base r z : Nat} {w : World} {s : ByteArray} {t : List UInt8} {L : List Node} (h : RdT base r w s t L) (hz : Apt r w z) (hty : tyAt w z = some 39) (hb : base ≤ z) (o : Nat) (u : Value) : RdT base r (w.setCell ⟨z, o, none⟩ u) s t L := by
  have hne : ∀ o', (⟨z, o, none⟩ : Addr) ≠ ⟨r, o', none⟩ := fun o' e => hz.2.1 (by injection e)
  obtain ⟨⟨k, h1, h2, h3⟩, c0, ⟨v, hv, ho⟩, ty, fz, lo⟩ := h
  refine ⟨⟨k, h1, h2, ?_⟩, ?_, ⟨v, ?_, ?_⟩, ?_, fun o' => ?_, lo⟩
  · exact (World.cell?_setCell_other _ _ _ _ (hne _)).trans h3
  · exact (World.cell?_setCell_other _ _ _ _ (hne _)).trans c0
  · exact (World.cell?_setCell_other _ _ _ _ (hne _)).trans hv
  · exact ho.chg (B := base) (ts := [39]) RTrip.mono (Chg.setCell (Chg.refl _) hty (by simp) _ hb) (fun g hg => Below.heap_setCell _ _ _ _ (by
      intro e
      exact hz.2.2 v hv (by rw [hg]; exact congrArg some e)))
  · exact (tyAt_of (Below.heap_setCell _ _ _ _ (fun e => hz.2.1 e.symm))).trans ty
  · have hb9 : (w.setCell ⟨z, o, none⟩ u).heap[r]? = w.heap[r]? := Below.heap_setCell _ _ _ _ (fun e => hz.2.1 e.symm)
    have e : (w.setCell ⟨z, o, none⟩ u).frozen? ⟨r, o', none⟩ = w.frozen? ⟨r, o', none⟩ := by simp only [World.frozen?, hb9]
    rw [e]; exact fz o'
theorem Fd.setNew {base r z : Nat} {a w : World} (h : Fd base r a w) (hr : r < a.heap.size) (hz : a.heap.size ≤ z) (o : Nat) (u : Value) : Fd base r a (w.setCell ⟨z, o, none⟩ u) :=
  ⟨h.chg.newSet hz u, fun k hk => ⟨⟨by rw [size_setCell]; exact (h.apt k hk).1.1, hk.2.1, fun v hv => (h.apt k hk).1.2.2 v (by rwa [World.cell?_setCell_other _ _ _ _ (by intro e; injection e with e _ _; omega)] at hv)⟩, (Below.heap_setCell _ _ _ _ (by have := hk.1; show k ≠ z; omega)).trans (h.apt k hk).2⟩⟩

theorem parse_star (f : Nat) (t : List UInt8) (L : List Node) : parse (f + 1) (42 :: t) L = some (L ++ [⟨1, 0, 0⟩], t) := by simp [parse]
theorem parse_tag {f : Nat} {t : List UInt8} {L : List Node} {a : Int} {t1 : List UInt8} (h : numP t = some (a, t1)) : parse (f + 1) (35 :: t) L = some (L ++ [⟨2, a, 0⟩], t1) := by simp [parse, h]
theorem parse_tag_no {f : Nat} {t : List UInt8} {L : List Node} (h : numP t = none) : parse (f + 1) (35 :: t) L = none := by simp [parse, h]
theorem parse_in (f : Nat) (t : List UInt8) (L : List Node) : parse (f + 1) (91 :: t) L = (numP t).bind fun p => (eat 44 p.2).bind fun t2 => (numP t2).bind fun q => (eat 41 q.2).map fun t4 => (L ++ [⟨3, p.1, q.1⟩], t4) := by simp [parse]
theorem parse_not (f : Nat) (t : List UInt8) (L : List Node) : parse (f + 1) (33 :: t) L = (parse f t L).map fun p => (p.1 ++ [⟨4, (p.1.length : Int) - 1, 0⟩], p.2) := by simp [parse]
theorem parse_open (f : Nat) (t : List UInt8) (L : List Node) : parse (f + 1) (40 :: t) L = (parse f t L).bind fun p => (opP p.2).bind fun k => (parse f k.2 p.1).bind fun q => (eat 41 q.2).map fun t4 => (q.1 ++ [⟨k.1, (p.1.length : Int) - 1, (q.1.length : Int) - 1⟩], t4) := by simp [parse]
theorem eat_ne {c x : UInt8} {t : List UInt8} (h : eat c (x :: t) = none) : x ≠ c := by
  intro e; simp [eat, e] at h
theorem parse_none {f : Nat} {t : List UInt8} {L : List Node} (h1 : eat 42 t = none) (h2 : eat 35 t = none) (h3 : eat 91 t = none) (h4 : eat 33 t = none) (h5 : eat 40 t = none) : parse (f + 1) t L = none := by
  cases t with
  | nil => rfl
  | cons x t => simp [parse, eat_ne h1, eat_ne h2, eat_ne h3, eat_ne h4, eat_ne h5]
theorem opP_no {t : List UInt8} (h1 : eat 124 t = none) (h2 : eat 38 t = none) : opP t = none := by
  cases t with
  | nil => rfl
  | cons x t => simp [opP, eat_ne h1, eat_ne h2]
theorem eat_cons {c : UInt8} {t t1 : List UInt8} (h : eat c t = some t1) : t = c :: t1 := eat_len h
theorem ret_len {M : List Node} {n : Node} : ((M.length : Nat) : Int) = (((M ++ [n]).length : Nat) : Int) - 1 := by simp

set_option maxRecDepth 100000 in
set_option maxHeartbeats 8000000 in
theorem rd_one (base r : Nat) (s : ByteArray) (hs : s.size ≤ 400) : ∀ (f : Nat) (t : List UInt8) (L : List Node) (w : World), t.length < f → L.length + t.length ≤ 1000 → RdT base r w s t L → ErrV base w → base ≤ w.heap.size →
    Calls Tryd.prog 25 #[.pointer (some ⟨r, 0, none⟩)] w fun e w' => Fd base r w w' ∧
      ((∃ M t1, parse f t L = some (M, t1) ∧ e = .returned (.int .i64 ((M.length : Int) - 1)) ∧ RdT base r w' s t1 M) ∨ (parse f t L = none ∧ e = badE)) := by
  intro f
  induction f with
  | zero => intro t L w h; omega
  | succ f ih =>
  intro t L w hf hL hr hv hB
  have HF := hid hf
  have HL := hid hL
  have HV := hid hv
  have HB := hid hB
  have HS := hid hs
  have IH := hid ih
  have HRW := hid hr.lt
  clear hf hL hv hB hs ih
  go_enter Tryd.func25, Tryd.ntmps25
  go_wp2_with fail
  refine (rd_take base r s t L 42 w HS.out hr).mono ?_
  rintro e w1 ⟨hx1, ⟨t1, ht, rfl, hr1⟩ | ⟨ht1, rfl, hr1⟩⟩
  · subst ht
    have HL1 := hid (show L.length ≤ 100000 by have := HL.out; omega)
    go_wp2_with fail
    refine (rd_add base r s t1 L ⟨1, 0, 0⟩ _ HL1.out (Nat.le_trans HB.out hx1.chg.size) hr1).mono ?_
    rintro e w2 ⟨rfl, hr2, hx2⟩
    go_wp2_with fail
    go_ret
    exact ⟨hx1.trans hx2, .inl ⟨_, _, parse_star _ _ _, ret_int ret_len, hr2⟩⟩
  have H1 := hid ht1
  clear ht1
  go_wp2_with fail
  refine (rd_take base r s t L 35 w1 HS.out hr1).mono ?_
  rintro e w2 ⟨hx2, ⟨t1, ht, rfl, hr2⟩ | ⟨ht2, rfl, hr2⟩⟩
  · subst ht
    have HL1 := hid (show L.length ≤ 100000 by have := HL.out; omega)
    have HX := hid (hx1.trans hx2)
    clear hx1 hx2
    go_wp2_with fail
    refine (rd_number base r s t1 L w2 HS.out hr2 (HV.out.chg HX.out.chg)).mono ?_
    rintro e w3 ⟨hx3, ⟨a, t2, hn, rfl, hr3⟩ | ⟨hn, rfl⟩⟩
    · have HN := hid hn
      clear hn
      go_wp2_with fail
      refine (rd_add base r s t2 L ⟨2, a, 0⟩ _ HL1.out (Nat.le_trans HB.out (HX.out.trans hx3).chg.size) hr3).mono ?_
      rintro e w4 ⟨rfl, hr4, hx4⟩
      go_wp2_with fail
      go_ret
      exact ⟨HX.out.trans (hx3.trans hx4), .inl ⟨_, _, parse_tag HN.out, ret_int ret_len, hr4⟩⟩
    · have HN := hid hn
      clear hn
      unfold badE
      go_wp2_with fail
      exact ⟨rfl, HX.out.trans hx3, .inr ⟨parse_tag_no HN.out, rfl⟩⟩
  have H2 := hid ht2
  have HX2 := hid (hx1.trans hx2)
  clear ht2 hx1 hx2 hr hr1
  go_wp2_with fail
  refine (rd_take base r s t L 91 w2 HS.out hr2).mono ?_
  rintro e w3 ⟨hx3, ⟨t1, ht, rfl, hr3⟩ | ⟨ht3, rfl, hr3⟩⟩
  · subst ht
    have HL1 := hid (show L.length ≤ 100000 by have := HL.out; omega)
    have HX := hid (HX2.out.trans hx3)
    clear hx3
    go_wp2_with fail
    refine (rd_number base r s t1 L w3 HS.out hr3 (HV.out.chg HX.out.chg)).mono ?_
    rintro e w4 ⟨hx4, ⟨a, t2, hn, rfl, hr4⟩ | ⟨hn, rfl⟩⟩
    · have HN := hid hn
      replace HX := hid (HX.out.trans hx4)
      clear hn hx4
      go_wp2_with fail
      refine (rd_must base r s t2 L 44 w4 HS.out hr4).mono ?_
      rintro e w5 ⟨hx5, ⟨t3, he, rfl, hr5⟩ | ⟨he, rfl⟩⟩
      · have HE := hid he
        replace HX := hid (HX.out.trans hx5)
        clear he hx5
        go_wp2_with fail
        refine (rd_number base r s t3 L w5 HS.out hr5 (HV.out.chg HX.out.chg)).mono ?_
        rintro e w6 ⟨hx6, ⟨b, t4, hm, rfl, hr6⟩ | ⟨hm, rfl⟩⟩
        · have HM := hid hm
          replace HX := hid (HX.out.trans hx6)
          clear hm hx6
          go_wp2_with fail
          refine (rd_must base r s t4 L 41 w6 HS.out hr6).mono ?_
          rintro e w7 ⟨hx7, ⟨t5, hg, rfl, hr7⟩ | ⟨hg, rfl⟩⟩
          · have HG := hid hg
            replace HX := hid (HX.out.trans hx7)
            clear hg hx7
            go_wp2_with fail
            refine (rd_add base r s t5 L ⟨3, a, b⟩ _ HL1.out (Nat.le_trans HB.out HX.out.chg.size) hr7).mono ?_
            rintro e w8 ⟨rfl, hr8, hx8⟩
            go_wp2_with fail
            go_ret
            exact ⟨HX.out.trans hx8, .inl ⟨_, _, by rw [parse_in, HN.out, Option.bind_some, HE.out, Option.bind_some, HM.out, Option.bind_some, HG.out, Option.map_some], ret_int ret_len, hr8⟩⟩
          · have HG := hid hg
            clear hg
            unfold badE
            go_wp2_with fail
            exact ⟨rfl, HX.out.trans hx7, .inr ⟨by rw [parse_in, HN.out, Option.bind_some, HE.out, Option.bind_some, HM.out, Option.bind_some, HG.out, Option.map_none], rfl⟩⟩
        · have HM := hid hm
          clear hm
          unfold badE
          go_wp2_with fail
          exact ⟨rfl, HX.out.trans hx6, .inr ⟨by rw [parse_in, HN.out, Option.bind_some, HE.out, Option.bind_some, HM.out, Option.bind_none], rfl⟩⟩
      · have HE := hid he
        clear he
        unfold badE
        go_wp2_with fail
        exact ⟨rfl, HX.out.trans hx5, .inr ⟨by rw [parse_in, HN.out, Option.bind_some, HE.out, Option.bind_none], rfl⟩⟩
    · have HN := hid hn
      clear hn
      unfold badE
      go_wp2_with fail
      exact ⟨rfl, HX.out.trans hx4, .inr ⟨by rw [parse_in, HN.out, Option.bind_none], rfl⟩⟩
  have H3 := hid ht3
  have HX3 := hid (HX2.out.trans hx3)
  clear ht3 hx3 hr2 HX2
  go_wp2_with fail
  refine (rd_take base r s t L 33 w3 HS.out hr3).mono ?_
  rintro e w4 ⟨hx4, ⟨t1, ht, rfl, hr4⟩ | ⟨ht4, rfl, hr4⟩⟩
  · subst ht
    have HX := hid (HX3.out.trans hx4)
    have HF1 := hid (show t1.length < f by have := HF.out; simp only [List.length_cons] at this; omega)
    have HL1 := hid (show L.length + t1.length ≤ 1000 by have := HL.out; simp only [List.length_cons] at this; omega)
    clear hx4
    go_wp2_with fail
    refine (IH.out t1 L w4 HF1.out HL1.out hr4 (HV.out.chg HX.out.chg) (Nat.le_trans HB.out HX.out.chg.size)).mono ?_
    rintro e w5 ⟨hx5, ⟨M, t2, hp, rfl, hr5⟩ | ⟨hp, rfl⟩⟩
    · have HP := hid hp
      replace HX := hid (HX.out.trans hx5)
      have HM := hid (show M.length ≤ 100000 by have := parse_len _ _ _ _ _ hp; have := HL1.out; omega)
      clear hp hx5
      go_wp2_with fail
      refine (rd_add base r s t2 M ⟨4, (M.length : Int) - 1, 0⟩ _ HM.out (Nat.le_trans HB.out HX.out.chg.size) hr5).mono ?_
      rintro e w6 ⟨rfl, hr6, hx6⟩
      go_wp2_with fail
      go_ret
      exact ⟨HX.out.trans hx6, .inl ⟨_, _, by rw [parse_not, HP.out, Option.map_some], ret_int ret_len, hr6⟩⟩
    · have HP := hid hp
      clear hp
      unfold badE
      go_wp2_with fail
      exact ⟨rfl, HX.out.trans hx5, .inr ⟨by rw [parse_not, HP.out, Option.map_none], rfl⟩⟩
  have H4 := hid ht4
  have HX4 := hid (HX3.out.trans hx4)
  clear ht4 hx4 hr3 HX3
  go_wp2_with fail
  refine (rd_must base r s t L 40 w4 HS.out hr4).mono ?_
  rintro e w5 ⟨hx5, ⟨t1, he, rfl, hr5⟩ | ⟨he, rfl⟩⟩
  rotate_left
  · have HE := hid he
    clear he
    unfold badE
    go_wp2_with fail
    exact ⟨rfl, HX4.out.trans hx5, .inr ⟨parse_none H1.out H2.out H3.out H4.out HE.out, rfl⟩⟩
  obtain rfl := eat_cons he
  have HX := hid (HX4.out.trans hx5)
  have HF1 := hid (show t1.length < f by have := HF.out; simp only [List.length_cons] at this; omega)
  have HL1 := hid (show L.length + t1.length ≤ 1000 by have := HL.out; simp only [List.length_cons] at this; omega)
  clear hx5 HX4 hr4 he H1 H2 H3 H4 HF HL
  go_wp2_with fail
  refine (IH.out t1 L w5 HF1.out HL1.out hr5 (HV.out.chg HX.out.chg) (Nat.le_trans HB.out HX.out.chg.size)).mono ?_
  rintro e w6 ⟨hx6, ⟨M, t2, hp, rfl, hr6⟩ | ⟨hp, rfl⟩⟩
  rotate_left
  · have HP := hid hp
    clear hp
    unfold badE
    go_wp2_with fail
    exact ⟨rfl, HX.out.trans hx6, .inr ⟨by rw [parse_open, HP.out, Option.bind_none], rfl⟩⟩
  have HP := hid hp
  have HX6 := hid (HX.out.trans hx6)
  have HPL := hid (parse_len _ _ _ _ _ hp)
  clear hp hx6 hr5 HX
  have HRB := hid (show r < w6.heap.size from hr6.lt)
  have HZB := hid (show base ≤ w6.heap.size from Nat.le_trans HB.out HX6.out.chg.size)
  have hx7 : Ext w6 (w6.alloc (.cells #[.int .i64 5, .int .i64 ((M.length : Int) - 1), .int .i64 0] 39)) := (Ext.refl w6).alloc _
  have HAP := hid (hr6.fresh (.cells #[.int .i64 5, .int .i64 ((M.length : Int) - 1), .int .i64 0] 39))
  have HBK := hid (Blk.new w6 39 #[.int .i64 5, .int .i64 ((M.length : Int) - 1), .int .i64 0])
  have HR7 := hid (hr6.ext hx7)
  clear hx7 hr6
  go_wp2_with fail
  refine (rd_take base r s t2 M 124 _ HS.out HR7.out).mono ?_
  rintro e w7 ⟨hx7, ⟨t3, ht, rfl, hr7⟩ | ⟨ht, rfl, hr7⟩⟩
  · have hb7 : Blk w7 w6.heap.size 39 #[.int .i64 5, .int .i64 ((M.length : Int) - 1), .int .i64 0] := (hx7.apt _ HAP.out).2.trans HBK.out
    have HA7 := hid (hx7.apt _ HAP.out).1
    have HX7 := hid (hx7.chg)
    have HFD := hid hx7
    have HT := hid ht
    clear hx7 ht HAP HBK HR7
    have p0 := hb7.cell (i := 0) (u := .int .i64 5) rfl
    have f0 := hb7.frozen 0
    have HB8 := hid (hb7.set 0 (.int .i64 6))
    have HR8 := hid (hr7.far HA7.out hb7.ty HZB.out 0 (.int .i64 6))
    have HA8 := hid (HA7.out.set 0 (.int .i64 6))
    clear hb7 hr7 HA7
    go_wp2_with fail
    have HF2 := hid (show t3.length < f by have := HPL.out; have := HF1.out; rw [HT.out] at *; simp only [List.length_cons] at *; omega)
    have HL2 := hid (show M.length + t3.length ≤ 1000 by have := HPL.out; have := HL1.out; rw [HT.out] at *; simp only [List.length_cons] at *; omega)
    have HOP := hid (show opP t2 = some (6, t3) by rw [HT.out]; rfl)
    have HY := hid (show Fd base r w (w7.setCell ⟨w6.heap.size, 0, none⟩ (.int .i64 6)) from ((HX6.out.trans (Fd.ext (base := base) HRB.out ((Ext.refl w6).alloc _))).trans HFD.out).setNew HRW.out HX6.out.chg.size 0 _)
    refine (IH.out t3 M _ HF2.out HL2.out HR8.out (HV.out.chg HY.out.chg) (Nat.le_trans HB.out HY.out.chg.size)).mono ?_
    rintro e w9 ⟨hx9, ⟨M2, t4, hp, rfl, hr9⟩ | ⟨hp, rfl⟩⟩
    rotate_left
    · have HP2 := hid hp
      clear hp
      unfold badE
      go_wp2_with fail
      exact ⟨rfl, HY.out.trans hx9, .inr ⟨by rw [parse_open, HP.out, Option.bind_some, HOP.out, Option.bind_some, HP2.out, Option.bind_none], rfl⟩⟩
    have HP2 := hid hp
    have HM2 := hid (show M2.length ≤ 100000 by have := parse_len _ _ _ _ _ hp; have := HL2.out; omega)
    have hb9 : Blk w9 w6.heap.size 39 #[.int .i64 6, .int .i64 ((M.length : Int) - 1), .int .i64 0] := (hx9.apt _ HA8.out).2.trans HB8.out
    have HA9 := hid (hx9.apt _ HA8.out).1
    have HZ9 := hid (show Fd base r w (w9.setCell ⟨w6.heap.size, 2, none⟩ (.int .i64 ((M2.length : Int) - 1))) from (HY.out.trans hx9).setNew HRW.out (HX6.out.chg.size) 2 _)
    have p0 := hb9.cell (i := 2) (u := .int .i64 0) rfl
    have f0 := hb9.frozen 2
    have HB9 := hid (hb9.set 2 (.int .i64 ((M2.length : Int) - 1)))
    have HR9 := hid (hr9.far HA9.out hb9.ty HZB.out 2 (.int .i64 ((M2.length : Int) - 1)))
    have HA10 := hid (HA9.out.set 2 (.int .i64 ((M2.length : Int) - 1)))
    clear hp hb9 hr9 hx9 HA9 HB8 HA8 HR8 HY
    go_wp2_with fail
    refine (rd_must base r s t4 M2 41 _ HS.out HR9.out).mono ?_
    rintro e w10 ⟨hx10, ⟨t5, hg, rfl, hr10⟩ | ⟨hg, rfl⟩⟩
    rotate_left
    · have HG := hid hg
      clear hg p0 f0
      unfold badE
      go_wp2_with fail
      exact ⟨rfl, HZ9.out.trans hx10, .inr ⟨by rw [parse_open, HP.out, Option.bind_some, HOP.out, Option.bind_some, HP2.out, Option.bind_some, HG.out, Option.map_none], rfl⟩⟩
    have HG := hid hg
    have hb10 : Blk w10 w6.heap.size 39 #[.int .i64 6, .int .i64 ((M.length : Int) - 1), .int .i64 ((M2.length : Int) - 1)] := (hx10.apt _ HA10.out).2.trans HB9.out
    clear hg p0 f0
    have p0 := hb10.cell (i := 0) (u := .int .i64 6) rfl
    have p1 := hb10.cell (i := 1) (u := .int .i64 ((M.length : Int) - 1)) rfl
    have p2 := hb10.cell (i := 2) (u := .int .i64 ((M2.length : Int) - 1)) rfl
    have HZ10 := hid (HZ9.out.trans hx10)
    clear hx10 hb10 HA10 HB9 HR9 HZ9
    go_wp2_with fail
    refine (rd_add base r s t5 M2 ⟨6, (M.length : Int) - 1, (M2.length : Int) - 1⟩ _ HM2.out (Nat.le_trans HB.out HZ10.out.chg.size) hr10).mono ?_
    rintro e w11 ⟨rfl, hr11, hx11⟩
    go_wp2_with fail
    go_ret
    exact ⟨HZ10.out.trans hx11, .inl ⟨_, _, by rw [parse_open, HP.out, Option.bind_some, HOP.out, Option.bind_some, HP2.out, Option.bind_some, HG.out, Option.map_some], ret_int ret_len, hr11⟩⟩
  · have H124 := hid ht
    have hb7 : Blk w7 w6.heap.size 39 #[.int .i64 5, .int .i64 ((M.length : Int) - 1), .int .i64 0] := (hx7.apt _ HAP.out).2.trans HBK.out
    have HA7 := hid (hx7.apt _ HAP.out).1
    have HFD7 := hid hx7
    have HB7 := hid hb7
    clear hx7 ht HAP HBK HR7 hb7
    go_wp2_with fail
    refine (rd_must base r s t2 M 38 w7 HS.out hr7).mono ?_
    rintro e wb ⟨hxb, ⟨t3, ht, rfl, hrb⟩ | ⟨ht, rfl⟩⟩
    rotate_left
    · have HT := hid ht
      clear ht
      unfold badE
      go_wp2_with fail
      exact ⟨rfl, ((HX6.out.trans (Fd.ext (base := base) HRB.out ((Ext.refl w6).alloc _))).trans HFD7.out).trans hxb, .inr ⟨by rw [parse_open, HP.out, Option.bind_some, opP_no H124.out HT.out, Option.bind_none], rfl⟩⟩
    have HT := hid (eat_cons ht)
    have HB8 := hid (show Blk wb w6.heap.size 39 #[.int .i64 5, .int .i64 ((M.length : Int) - 1), .int .i64 0] from (hxb.apt _ HA7.out).2.trans HB7.out)
    have HA8 := hid (hxb.apt _ HA7.out).1
    have HFD := hid (HFD7.out.trans hxb)
    have HR8 := hid hrb
    clear hxb ht HA7 HB7 HFD7 hr7 hrb
    go_wp2_with fail
    have HF2 := hid (show t3.length < f by have := HPL.out; have := HF1.out; rw [HT.out] at *; simp only [List.length_cons] at *; omega)
    have HL2 := hid (show M.length + t3.length ≤ 1000 by have := HPL.out; have := HL1.out; rw [HT.out] at *; simp only [List.length_cons] at *; omega)
    have HOP := hid (show opP t2 = some (5, t3) by rw [HT.out]; rfl)
    have HY := hid (show Fd base r w wb from (HX6.out.trans (Fd.ext (base := base) HRB.out ((Ext.refl w6).alloc _))).trans HFD.out)
    refine (IH.out t3 M _ HF2.out HL2.out HR8.out (HV.out.chg HY.out.chg) (Nat.le_trans HB.out HY.out.chg.size)).mono ?_
    rintro e w9 ⟨hx9, ⟨M2, t4, hp, rfl, hr9⟩ | ⟨hp, rfl⟩⟩
    rotate_left
    · have HP2 := hid hp
      clear hp
      unfold badE
      go_wp2_with fail
      exact ⟨rfl, HY.out.trans hx9, .inr ⟨by rw [parse_open, HP.out, Option.bind_some, HOP.out, Option.bind_some, HP2.out, Option.bind_none], rfl⟩⟩
    have HP2 := hid hp
    have HM2 := hid (show M2.length ≤ 100000 by have := parse_len _ _ _ _ _ hp; have := HL2.out; omega)
    have hb9 : Blk w9 w6.heap.size 39 #[.int .i64 5, .int .i64 ((M.length : Int) - 1), .int .i64 0] := (hx9.apt _ HA8.out).2.trans HB8.out
    have HA9 := hid (hx9.apt _ HA8.out).1
    have HZ9 := hid (show Fd base r w (w9.setCell ⟨w6.heap.size, 2, none⟩ (.int .i64 ((M2.length : Int) - 1))) from (HY.out.trans hx9).setNew HRW.out (HX6.out.chg.size) 2 _)
    have p0 := hb9.cell (i := 2) (u := .int .i64 0) rfl
    have f0 := hb9.frozen 2
    have HB9 := hid (hb9.set 2 (.int .i64 ((M2.length : Int) - 1)))
    have HR9 := hid (hr9.far HA9.out hb9.ty HZB.out 2 (.int .i64 ((M2.length : Int) - 1)))
    have HA10 := hid (HA9.out.set 2 (.int .i64 ((M2.length : Int) - 1)))
    clear hp hb9 hr9 hx9 HA9 HB8 HA8 HR8 HY
    go_wp2_with fail
    refine (rd_must base r s t4 M2 41 _ HS.out HR9.out).mono ?_
    rintro e w10 ⟨hx10, ⟨t5, hg, rfl, hr10⟩ | ⟨hg, rfl⟩⟩
    rotate_left
    · have HG := hid hg
      clear hg p0 f0
      unfold badE
      go_wp2_with fail
      exact ⟨rfl, HZ9.out.trans hx10, .inr ⟨by rw [parse_open, HP.out, Option.bind_some, HOP.out, Option.bind_some, HP2.out, Option.bind_some, HG.out, Option.map_none], rfl⟩⟩
    have HG := hid hg
    have hb10 : Blk w10 w6.heap.size 39 #[.int .i64 5, .int .i64 ((M.length : Int) - 1), .int .i64 ((M2.length : Int) - 1)] := (hx10.apt _ HA10.out).2.trans HB9.out
    clear hg p0 f0
    have p0 := hb10.cell (i := 0) (u := .int .i64 5) rfl
    have p1 := hb10.cell (i := 1) (u := .int .i64 ((M.length : Int) - 1)) rfl
    have p2 := hb10.cell (i := 2) (u := .int .i64 ((M2.length : Int) - 1)) rfl
    have HZ10 := hid (HZ9.out.trans hx10)
    clear hx10 hb10 HA10 HB9 HR9 HZ9
    go_wp2_with fail
    refine (rd_add base r s t5 M2 ⟨5, (M.length : Int) - 1, (M2.length : Int) - 1⟩ _ HM2.out (Nat.le_trans HB.out HZ10.out.chg.size) hr10).mono ?_
    rintro e w11 ⟨rfl, hr11, hx11⟩
    go_wp2_with fail
    go_ret
    exact ⟨HZ10.out.trans hx11, .inl ⟨_, _, by rw [parse_open, HP.out, Option.bind_some, HOP.out, Option.bind_some, HP2.out, Option.bind_some, HG.out, Option.map_some], ret_int ret_len, hr11⟩⟩

end Go.Proofs.YtbkmgbckeaimdaaDoor
