/- The walk of the reference's read. -/
import Derived.Test.YtbkmgbckeaimdaaDoorTextF
namespace Go.Proofs.YtbkmgbckeaimdaaDoor
open Go Go.RowKit

theorem rparse_star (f : Nat) (t : List UInt8) (L : List Node) : parse (f + 1) (42 :: t) L = some (L ++ [⟨1, 0, 0⟩], t) := by simp [parse]
theorem rparse_tag (f : Nat) (t : List UInt8) (L : List Node) : parse (f + 1) (35 :: t) L = (numP t).map fun p => (L ++ [⟨2, p.1, 0⟩], p.2) := by simp [parse]
theorem rparse_in (f : Nat) (t : List UInt8) (L : List Node) : parse (f + 1) (91 :: t) L = (numP t).bind fun p => (eat 44 p.2).bind fun t2 => (numP t2).bind fun q => (eat 41 q.2).map fun t4 => (L ++ [⟨3, p.1, q.1⟩], t4) := by simp [parse]
theorem rparse_not (f : Nat) (t : List UInt8) (L : List Node) : parse (f + 1) (33 :: t) L = (parse f t L).map fun p => (p.1 ++ [⟨4, (p.1.length : Int) - 1, 0⟩], p.2) := by simp [parse]
theorem rparse_open (f : Nat) (t : List UInt8) (L : List Node) : parse (f + 1) (40 :: t) L = (parse f t L).bind fun p => (opP p.2).bind fun k => (parse f k.2 p.1).bind fun q => (eat 41 q.2).map fun t4 => (q.1 ++ [⟨k.1, (p.1.length : Int) - 1, (q.1.length : Int) - 1⟩], t4) := by simp [parse]
theorem rparse_else {f : Nat} {c : UInt8} {t : List UInt8} {L : List Node} (h1 : c ≠ 42) (h2 : c ≠ 35) (h3 : c ≠ 91) (h4 : c ≠ 33) (h5 : c ≠ 40) : parse (f + 1) (c :: t) L = none := by simp [parse, h1, h2, h3, h4, h5]
theorem ne_int {a : UInt8} {k : Nat} (h : a ≠ UInt8.ofNat k) (hk : k < 256) : ((a.toNat : Int) == (k : Int)) = false := by
  rw [beq_eq_false_iff_ne]
  intro e
  apply h
  apply UInt8.toNat_inj.1
  rw [UInt8.toNat_ofNat']
  omega
theorem own_new {w : World} {base z : Nat} {v : Value} {L : List Node} (h : Own RNode 3 39 w base v L) (hz : w.heap.size ≤ z) : v.ownBlock ≠ some z := by
  intro e
  have := (h.lt e).2
  omega

set_option maxRecDepth 100000 in
set_option maxHeartbeats 16000000 in
theorem ref_read (base : Nat) : ∀ (f : Nat) (x : ByteArray) (A : Option Addr) (c : Nat) (L : List Node) (w : World), x.size < f → L.length + x.size ≤ 1000 → x.size ≤ 400 → base ≤ w.heap.size → Own RNode 3 39 w base (.slice A L.length c) L →
    Calls Tryd.prog 37 #[.string x, .slice A L.length c] w fun e w' =>
      (∃ M t1 A' c', parse f x.data.toList L = some (M, t1) ∧ e = .returned (.tuple #[.slice A' M.length c', .string (tstr t1), .bool true]) ∧ Own RNode 3 39 w' base (.slice A' M.length c') M ∧ GB w w' (.slice A L.length c) (.slice A' M.length c')) ∨
      (parse f x.data.toList L = none ∧ ∃ y, e = .returned (.tuple #[.slice none 0 0, .string y, .bool false]) ∧ w.grownBy w' (Value.slice A L.length c).ownBlock) := by
  intro f
  induction f with
  | zero => intro x A c L w h; omega
  | succ f ih =>
  intro x A c L w hf hL hs hB hown
  have HF := hid hf
  have HL := hid hL
  have HS := hid hs
  have HB := hid hB
  have HO := hid hown
  have IH := hid ih
  clear hf hL hs hB hown ih
  by_cases h0 : x.size = 0
  · have hd : x.data.toList = [] := by
      apply List.eq_nil_of_length_eq_zero
      rw [Array.length_toList]; exact h0
    have HP := hid (show parse (f + 1) x.data.toList L = none by rw [hd]; rfl)
    have he : x.toList.isEmpty = true := by rw [Lib.toList_data, hd]; rfl
    clear hd h0
    go_enter Tryd.func37, Tryd.ntmps37
    go_wp2_with fail
    go_ret3
    exact .inr ⟨HP.out, _, rfl, World.grownBy.refl w _⟩
  have hpos : 0 < x.size := by omega
  have hcons : x.data.toList = x[0] :: x.data.toList.drop 1 := by
    have := rdrop_cons hpos
    simpa using this
  have he : x.toList.isEmpty = false := by rw [Lib.toList_data, hcons]; rfl
  have hp1 : (0 : Int) < x.size := by omega
  have hp2 : (1 : Int) ≤ x.size := by omega
  obtain ⟨q, hq⟩ : ∃ q : UInt8, q = x[0] := ⟨_, rfl⟩
  obtain ⟨t, ht⟩ : ∃ t, t = x.data.toList.drop 1 := ⟨_, rfl⟩
  have hcut := drop_tstr x 1
  rw [← ht] at hcut hcons
  rw [← hq] at hcons
  have hlen : x.size = t.length + 1 := by
    have := congrArg List.length hcons
    rw [Array.length_toList] at this
    simpa using this
  have HT := hid (show t.length < f ∧ L.length + t.length ≤ 999 ∧ t.length ≤ 399 by have := HF.out; have := HL.out; have := HS.out; omega)
  have HC := hid hcons
  have HCUT := hid hcut
  have HQ := hid hq
  clear h0 ht hcons hcut hlen
  have hqi : ((x[0]'hpos).toNat : Int) = (q.toNat : Int) := by rw [hq]
  clear hq
  go_enter Tryd.func37, Tryd.ntmps37
  go_wp2_with fail
  go_quiet (fail)
  rw [HCUT.out]
  have hxq : Ext w (w.drewN nq) := (Ext.refl w).drewN _
  have hsz : (w.drewN nq).heap.size = w.heap.size := rfl
  generalize w.drewN nq = Wq at *
  have HXQ := hid hxq
  have HSZ := hid hsz
  have HZ := hid hxq.size
  have HOQ := hid (HO.out.ext (B := base) RTrip.mono hxq)
  clear hxq hsz
  go_upto_block 0 with fail
  have hx0 : Ext Wq (Wq.alloc (.cells #[.int .i64 0, .int .i64 0, .int .i64 0] 39)) := (Ext.refl Wq).alloc _
  have hb0 : Blk (Wq.alloc (.cells #[.int .i64 0, .int .i64 0, .int .i64 0] 39)) Wq.heap.size 39 #[.int .i64 0, .int .i64 0, .int .i64 0] := Blk.new Wq _ _
  generalize Wq.alloc (.cells #[.int .i64 0, .int .i64 0, .int .i64 0] 39) = W at *
  have HX0 := hid (HXQ.out.trans hx0)
  have HB0 := hid hb0
  have HO0 := hid (HOQ.out.ext (B := base) RTrip.mono hx0)
  have HNE := hid (own_new HO.out HZ.out)
  have HBZ := hid (Nat.le_trans HB.out HZ.out)
  have p0 := hb0.cell (i := 0) (u := .int .i64 0) rfl
  have f0 := hb0.frozen 0
  have p1 := hb0.cell (i := 1) (u := .int .i64 0) rfl
  have f1 := hb0.frozen 1
  have p2 := hb0.cell (i := 2) (u := .int .i64 0) rfl
  have f2 := hb0.frozen 2
  clear hx0 hb0 he hp1 hp2 hqi
  go_cut [0, 1, 9] from 19 to 132 (fun s0 s1 s9 wx => (∃ (M : List Node) (n : Node) (t1 : List UInt8) (A' : Option Addr) (c' : Nat), parse (f + 1) x.data.toList L = some (M ++ [n], t1) ∧ s9 = .bool true ∧ s0 = .string (tstr t1) ∧ s1 = .slice A' M.length c' ∧ M.length ≤ 1000 ∧ Own RNode 3 39 wx base (.slice A' M.length c') M ∧ GB w wx (.slice A L.length c) (.slice A' M.length c') ∧ Blk wx Wq.heap.size 39 #[.int .i64 n.kind, .int .i64 n.a, .int .i64 n.b]) ∨ (parse (f + 1) x.data.toList L = none ∧ s9 = .bool false ∧ (∃ y, s0 = .string y) ∧ (∃ y, s1 = y) ∧ w.grownBy wx (Value.slice A L.length c).ownBlock))
  have HB' := HB0
  have HOw := HO0
  have HG := hid (GB.of_ext HX0.out (.slice A L.length c))
  have HN := HNE
  case first =>
    by_cases c42 : q = 42
    · have hqi : ((q.toNat : Int) == 42) = true := by rw [c42]; rfl
      have HP := hid (show parse (f + 1) x.data.toList L = some (L ++ [⟨1, 0, 0⟩], t) by rw [HC.out, c42]; exact rparse_star _ _ _)
      clear c42
      go_wp2_with fail
      go_meet
      exact .inl ⟨L, ⟨1, 0, 0⟩, t, A, c, HP.out, rfl, rfl, rfl, by have := HT.out.2.1; omega, HO0.out.farSet HNE.out HB0.out.ty HBZ.out _, HG.out.setNew HZ.out _, HB0.out.set 0 _⟩
    have n42 := ne_int (k := 42) c42 (by decide)
    by_cases c35 : q = 35
    · have hqi : ((q.toNat : Int) == 35) = true := by rw [c35]; rfl
      have HP := hid (show parse (f + 1) x.data.toList L = (numP t).map (fun p => (L ++ [⟨2, p.1, 0⟩], p.2)) by rw [HC.out, c35]; exact rparse_tag _ _ _)
      clear c35 c42
      go_wp2_with fail
      replace HOw := hid (HOw.out.farSet (o := 0) HN.out HB'.out.ty HBZ.out (.int .i64 2))
      replace HG := hid (HG.out.setNew (o := 0) HZ.out (.int .i64 2))
      replace HB' := hid (HB'.out.set 0 (.int .i64 2))
      generalize W.setCell ⟨Wq.heap.size, 0, none⟩ (.int .i64 2) = W1 at *
      try clear p0 f0
      try clear p1 f1
      try clear p2 f2
      refine (ref_number (tstr t) W1 (by rw [tstr_size]; have := HT.out.2.2; omega)).mono ?_
      rintro e w2 ⟨hx, h⟩
      rw [tstr_data] at h
      replace HOw := hid (HOw.out.ext (B := base) RTrip.mono hx)
      replace HG := hid (HG.out.trans (GB.of_ext hx _))
      replace HB' := hid (HB'.out.ext hx)
      clear hx
      have p1 := HB'.out.cell (i := 1) (u := .int .i64 0) rfl
      have f1 := HB'.out.frozen 1
      rcases h with ⟨a, t1, hn, rfl⟩ | ⟨hn, rfl⟩
      · have HN1 := hid hn
        clear hn
        go_wp2_with fail
        go_meet
        exact .inl ⟨L, ⟨2, a, 0⟩, t1, A, c, by rw [HP.out, HN1.out]; rfl, rfl, rfl, rfl, by have := HT.out.2.1; omega, HOw.out.farSet HN.out HB'.out.ty HBZ.out _, HG.out.setNew HZ.out _, HB'.out.set 1 _⟩
      · have HN1 := hid hn
        clear hn
        go_wp2_with fail
        go_meet
        exact .inr ⟨by rw [HP.out, HN1.out]; rfl, rfl, ⟨_, rfl⟩, ⟨_, rfl⟩, (HG.out.setNew (o := 1) HZ.out (.int .i64 0)).grown⟩
    have n35 := ne_int (k := 35) c35 (by decide)
    by_cases c91 : q = 91
    · have hqi : ((q.toNat : Int) == 91) = true := by rw [c91]; rfl
      have HP := hid (show parse (f + 1) x.data.toList L = ((numP t).bind fun p => (eat 44 p.2).bind fun t2 => (numP t2).bind fun q => (eat 41 q.2).map fun t4 => (L ++ [⟨3, p.1, q.1⟩], t4)) by rw [HC.out, c91]; exact rparse_in _ _ _)
      clear c91 c35 c42
      go_wp2_with fail
      replace HOw := hid (HOw.out.farSet (o := 0) HN.out HB'.out.ty HBZ.out (.int .i64 3))
      replace HG := hid (HG.out.setNew (o := 0) HZ.out (.int .i64 3))
      replace HB' := hid (HB'.out.set 0 (.int .i64 3))
      generalize W.setCell ⟨Wq.heap.size, 0, none⟩ (.int .i64 3) = W1 at *
      try clear p0 f0
      try clear p1 f1
      try clear p2 f2
      refine (ref_number (tstr t) W1 (by rw [tstr_size]; have := HT.out.2.2; omega)).mono ?_
      rintro e w2 ⟨hx, h⟩
      rw [tstr_data] at h
      replace HOw := hid (HOw.out.ext (B := base) RTrip.mono hx)
      replace HG := hid (HG.out.trans (GB.of_ext hx _))
      replace HB' := hid (HB'.out.ext hx)
      clear hx
      have p1 := HB'.out.cell (i := 1) (u := .int .i64 0) rfl
      have f1 := HB'.out.frozen 1
      rcases h with ⟨a, t1, hn, rfl⟩ | ⟨hn, rfl⟩
      rotate_left
      · have HN1 := hid hn
        clear hn
        go_wp2_with fail
        go_meet
        exact .inr ⟨by rw [HP.out, HN1.out]; rfl, rfl, ⟨_, rfl⟩, ⟨_, rfl⟩, (HG.out.setNew (o := 1) HZ.out (.int .i64 0)).grown⟩
      have HN1 := hid hn
      have HL1 := hid (show t1.length ≤ 399 by have := numP_len hn; have := HT.out.2.2; omega)
      clear hn
      go_wp2_with fail
      replace HOw := hid (HOw.out.farSet (o := 1) HN.out HB'.out.ty HBZ.out (.int .i64 a))
      replace HG := hid (HG.out.setNew (o := 1) HZ.out (.int .i64 a))
      replace HB' := hid (HB'.out.set 1 (.int .i64 a))
      generalize w2.setCell ⟨Wq.heap.size, 1, none⟩ (.int .i64 a) = W2 at *
      try clear p0 f0
      try clear p1 f1
      try clear p2 f2
      refine (has_prefix 44 (tstr t1) W2).mono ?_
      rintro e w3 ⟨rfl, rfl⟩
      rw [tstr_data]
      cases he1 : eat 44 t1 with
      | none =>
        have HE1 := hid he1
        clear he1
        go_wp2_with fail
        go_meet
        exact .inr ⟨by rw [HP.out, HN1.out, Option.bind_some, HE1.out]; rfl, rfl, ⟨_, rfl⟩, ⟨_, rfl⟩, HG.out.grown⟩
      | some t2 =>
        have hcut1 := extract_cut (some_eat he1)
        have hs1 : (1 : Int) ≤ (tstr t1).size := by rw [tstr_size, some_eat he1]; simp only [List.length_cons]; omega
        have HL2 := hid (show t2.length ≤ 399 by have := HL1.out; rw [some_eat he1] at this; simp only [List.length_cons] at this; omega)
        have HE1 := hid he1
        have HCUT1 := hid hcut1
        have hb2 : (Option.isSome (some t2)) = true := rfl
        clear he1 hcut1
        rw [hb2]
        clear hb2
        go_wp2_with fail
        rw [HCUT1.out]
        clear hs1
        refine (ref_number (tstr t2) w3 (by rw [tstr_size]; have := HL2.out; omega)).mono ?_
        rintro e w4 ⟨hx, h⟩
        rw [tstr_data] at h
        replace HOw := hid (HOw.out.ext (B := base) RTrip.mono hx)
        replace HG := hid (HG.out.trans (GB.of_ext hx _))
        replace HB' := hid (HB'.out.ext hx)
        clear hx
        have p2 := HB'.out.cell (i := 2) (u := .int .i64 0) rfl
        have f2 := HB'.out.frozen 2
        rcases h with ⟨b, t3, hn, rfl⟩ | ⟨hn, rfl⟩
        rotate_left
        · have HN2 := hid hn
          clear hn
          go_wp2_with fail
          go_meet
          exact .inr ⟨by rw [HP.out, HN1.out, Option.bind_some, HE1.out, Option.bind_some, HN2.out]; rfl, rfl, ⟨_, rfl⟩, ⟨_, rfl⟩, (HG.out.setNew (o := 2) HZ.out (.int .i64 0)).grown⟩
        have HN2 := hid hn
        have HL3 := hid (show t3.length ≤ 399 by have := numP_len hn; have := HL2.out; omega)
        clear hn
        go_wp2_with fail
        replace HOw := hid (HOw.out.farSet (o := 2) HN.out HB'.out.ty HBZ.out (.int .i64 b))
        replace HG := hid (HG.out.setNew (o := 2) HZ.out (.int .i64 b))
        replace HB' := hid (HB'.out.set 2 (.int .i64 b))
        generalize w4.setCell ⟨Wq.heap.size, 2, none⟩ (.int .i64 b) = W4 at *
        try clear p0 f0
        try clear p1 f1
        try clear p2 f2
        refine (has_prefix 41 (tstr t3) W4).mono ?_
        rintro e w5 ⟨rfl, rfl⟩
        rw [tstr_data]
        cases he3 : eat 41 t3 with
        | none =>
          have HE3 := hid he3
          clear he3
          go_wp2_with fail
          go_meet
          exact .inr ⟨by rw [HP.out, HN1.out, Option.bind_some, HE1.out, Option.bind_some, HN2.out, Option.bind_some, HE3.out]; rfl, rfl, ⟨_, rfl⟩, ⟨_, rfl⟩, HG.out.grown⟩
        | some t4 =>
          have hcut3 := extract_cut (some_eat he3)
          have hs3 : (1 : Int) ≤ (tstr t3).size := by rw [tstr_size, some_eat he3]; simp only [List.length_cons]; omega
          have HE3 := hid he3
          have HCUT3 := hid hcut3
          have hb2 : (Option.isSome (some t4)) = true := rfl
          clear he3 hcut3
          rw [hb2]
          clear hb2
          go_wp2_with fail
          go_meet
          exact .inl ⟨L, ⟨3, a, b⟩, t4, A, c, by rw [HP.out, HN1.out, Option.bind_some, HE1.out, Option.bind_some, HN2.out, Option.bind_some, HE3.out]; rfl, rfl, by rw [← HCUT3.out], rfl, by have := HT.out.2.1; omega, HOw.out, HG.out, HB'.out⟩
    have n91 := ne_int (k := 91) c91 (by decide)
    by_cases c33 : q = 33
    · have hqi : ((q.toNat : Int) == 33) = true := by rw [c33]; rfl
      have HP := hid (show parse (f + 1) x.data.toList L = ((parse f t L).map fun p => (p.1 ++ [⟨4, (p.1.length : Int) - 1, 0⟩], p.2)) by rw [HC.out, c33]; exact rparse_not _ _ _)
      clear c33 c91 c35 c42
      go_wp2_with fail
      replace HOw := hid (HOw.out.farSet (o := 0) HN.out HB'.out.ty HBZ.out (.int .i64 4))
      replace HG := hid (HG.out.setNew (o := 0) HZ.out (.int .i64 4))
      replace HB' := hid (HB'.out.set 0 (.int .i64 4))
      generalize W.setCell ⟨Wq.heap.size, 0, none⟩ (.int .i64 4) = W1 at *
      try clear p0 f0
      try clear p1 f1
      try clear p2 f2
      refine (IH.out (tstr t) A c L W1 (by rw [tstr_size]; have := HT.out; omega) (by rw [tstr_size]; have := HT.out; omega) (by rw [tstr_size]; have := HT.out; omega) (Nat.le_trans HB.out HG.out.grown.size) HOw.out).mono ?_
      rw [tstr_data]
      rintro e w2 (⟨M1, t1, A1, c1, hp, rfl, ho, hg⟩ | ⟨hp, y, rfl, hg⟩)
      · have hbk : Blk w2 Wq.heap.size 39 _ := (hg.grown.block _ HB'.out.lt (fun e => HN.out e.symm)).trans HB'.out
        replace HN := hid (show (Value.slice A1 M1.length c1).ownBlock ≠ some Wq.heap.size from fun e => by
          rcases hg.own _ e with h1 | h1
          · exact HN.out h1
          · have := HB'.out.lt; omega)
        replace HOw := hid ho
        replace HG := hid (HG.out.trans hg)
        replace HB' := hid hbk
        have p1 := hbk.cell (i := 1) (u := .int .i64 0) rfl
        have f1 := hbk.frozen 1
        clear ho hg hbk
        have HR1 := hid hp
        have hm0 : 0 < M1.length := by have := parse_len _ _ _ _ _ hp; omega
        have hm1 : (M1.length : Int) ≤ 1000 := by have := parse_len _ _ _ _ _ hp; have := HT.out; omega
        have HM := hid hm1
        clear hp
        go_wp2_with fail
        go_meet
        exact .inl ⟨M1, ⟨4, (M1.length : Int) - 1, 0⟩, t1, A1, c1, by rw [HP.out, HR1.out]; rfl, rfl, rfl, rfl, by have := HM.out; omega, HOw.out.farSet HN.out HB'.out.ty HBZ.out _, HG.out.setNew HZ.out _, HB'.out.set 1 _⟩
      · have hbk : Blk w2 Wq.heap.size 39 _ := (hg.block _ HB'.out.lt (fun e => HN.out e.symm)).trans HB'.out
        have HGR := hid (HG.out.grow hg)
        have p1 := hbk.cell (i := 1) (u := .int .i64 0) rfl
        have f1 := hbk.frozen 1
        clear hg hbk
        have HR1 := hid hp
        clear hp
        go_wp2_with fail
        go_meet
        exact .inr ⟨by rw [HP.out, HR1.out]; rfl, rfl, ⟨_, rfl⟩, ⟨_, rfl⟩, grown_set (o := 1) HGR.out HZ.out _⟩
    have n33 := ne_int (k := 33) c33 (by decide)
    by_cases c40 : q = 40
    · have hqi : ((q.toNat : Int) == 40) = true := by rw [c40]; rfl
      have HP := hid (show parse (f + 1) x.data.toList L = ((parse f t L).bind fun p => (opP p.2).bind fun k => (parse f k.2 p.1).bind fun q => (eat 41 q.2).map fun t4 => (q.1 ++ [⟨k.1, (p.1.length : Int) - 1, (q.1.length : Int) - 1⟩], t4)) by rw [HC.out, c40]; exact rparse_open _ _ _)
      clear c40 c33 c91 c35 c42
      go_wp2_with fail
      clear p0 f0 p1 f1 p2 f2
      refine (IH.out (tstr t) A c L W (by rw [tstr_size]; have := HT.out; omega) (by rw [tstr_size]; have := HT.out; omega) (by rw [tstr_size]; have := HT.out; omega) (Nat.le_trans HB.out HG.out.grown.size) HOw.out).mono ?_
      rw [tstr_data]
      rintro e w2 (⟨M1, t1, A1, c1, hp, rfl, ho, hg⟩ | ⟨hp, y, rfl, hg⟩)
      rotate_left
      · have hbk : Blk w2 Wq.heap.size 39 _ := (hg.block _ HB'.out.lt (fun e => HN.out e.symm)).trans HB'.out
        have HGR := hid (HG.out.grow hg)
        have p1 := hbk.cell (i := 1) (u := .int .i64 0) rfl
        have f1 := hbk.frozen 1
        clear hg hbk
        have HR1 := hid hp
        clear hp
        go_wp2_with fail
        go_ret3
        exact .inr ⟨by rw [HP.out, HR1.out]; rfl, _, rfl, grown_set (o := 1) HGR.out HZ.out _⟩
      have hbk : Blk w2 Wq.heap.size 39 _ := (hg.grown.block _ HB'.out.lt (fun e => HN.out e.symm)).trans HB'.out
      replace HN := hid (show (Value.slice A1 M1.length c1).ownBlock ≠ some Wq.heap.size from fun e => by
        rcases hg.own _ e with h1 | h1
        · exact HN.out h1
        · have := HB'.out.lt; omega)
      replace HOw := hid ho
      replace HG := hid (HG.out.trans hg)
      replace HB' := hid hbk
      have p1 := hbk.cell (i := 1) (u := .int .i64 0) rfl
      have f1 := hbk.frozen 1
      clear ho hg hbk
      have HR1 := hid hp
      have HPL := hid (parse_len _ _ _ _ _ hp)
      have hm0 : 0 < M1.length := by have := parse_len _ _ _ _ _ hp; omega
      have hm1 : (M1.length : Int) ≤ 1000 := by have := parse_len _ _ _ _ _ hp; have := HT.out; omega
      clear hp
      rcases t1 with _ | ⟨o, t2⟩
      · have hem : (tstr []).toList.isEmpty = true := by rw [Lib.toList_data, tstr_data]; rfl
        go_wp2_with fail
        go_ret3
        exact .inr ⟨by rw [HP.out, HR1.out]; rfl, _, rfl, grown_set (o := 1) HG.out.grown HZ.out _⟩
      obtain ⟨y, hy⟩ : ∃ y, y = tstr (o :: t2) := ⟨_, rfl⟩
      have hy0 : 0 < y.size := by rw [hy, tstr_size]; simp
      have hyi : (y[0]'hy0) = o := by
        have h1 := rdrop_cons hy0
        have h2 : y.data.toList = o :: t2 := by rw [hy, tstr_data]
        rw [h2] at h1
        simp only [List.drop_zero] at h1
        injection h1 with h1 _
        exact h1.symm
      have hpy : (0 : Int) < y.size := by omega
      have hsy : (1 : Int) ≤ y.size := by omega
      have hem : y.toList.isEmpty = false := by rw [hy, Lib.toList_data, tstr_data]; rfl
      have HCY := hid (show y.extract 1 y.size = tstr t2 by rw [hy]; exact extract_cut rfl)
      rw [← hy]
      have HY := hid hy
      clear hy
      have HT2 := hid (show M1.length + t2.length ≤ 999 ∧ t2.length < f ∧ t2.length ≤ 399 by have := HPL.out; have := HT.out; simp only [List.length_cons] at *; omega)
      by_cases o38 : o = 38
      · subst o38
        have hyi' : ((y[0]'hy0).toNat : Int) = 38 := by rw [hyi]; rfl
        clear hyi
        go_wp2_with fail
        replace HOw := hid (HOw.out.farSet (o := 1) HN.out HB'.out.ty HBZ.out (.int .i64 ((M1.length : Int) - 1)))
        replace HG := hid (HG.out.setNew (o := 1) HZ.out (.int .i64 ((M1.length : Int) - 1)))
        replace HB' := hid (HB'.out.set 1 (.int .i64 ((M1.length : Int) - 1)))
        generalize w2.setCell ⟨Wq.heap.size, 1, none⟩ (.int .i64 ((M1.length : Int) - 1)) = W2 at *
        try clear p0 f0
        try clear p1 f1
        try clear p2 f2
        have HOPN := hid (show opP (38 :: t2) = some (5, t2) by rfl)
        refine (index_op 38 0 (by decide) W2).mono ?_
        rintro e w3 ⟨rfl, rfl⟩
        have p0 := HB'.out.cell (i := 0) (u := .int .i64 0) rfl
        have f0 := HB'.out.frozen 0
        go_wp2_with fail
        rw [HCY.out]
        clear hyi' hpy hsy hem
        replace HOw := hid (HOw.out.farSet (o := 0) HN.out HB'.out.ty HBZ.out (.int .i64 5))
        replace HG := hid (HG.out.setNew (o := 0) HZ.out (.int .i64 5))
        replace HB' := hid (HB'.out.set 0 (.int .i64 5))
        generalize w3.setCell ⟨Wq.heap.size, 0, none⟩ (.int .i64 5) = W3 at *
        try clear p0 f0
        try clear p1 f1
        try clear p2 f2
        refine (IH.out (tstr t2) A1 c1 M1 W3 (by rw [tstr_size]; have := HT2.out; omega) (by rw [tstr_size]; have := HT2.out; omega) (by rw [tstr_size]; have := HT2.out; omega) (Nat.le_trans HB.out HG.out.grown.size) HOw.out).mono ?_
        rw [tstr_data]
        rintro e w4 (⟨M2, t3, A2, c2, hp, rfl, ho, hg⟩ | ⟨hp, yy, rfl, hg⟩)
        rotate_left
        · have hbk : Blk w4 Wq.heap.size 39 _ := (hg.block _ HB'.out.lt (fun e => HN.out e.symm)).trans HB'.out
          have HGR := hid (HG.out.grow hg)
          have p2 := hbk.cell (i := 2) (u := .int .i64 0) rfl
          have f2 := hbk.frozen 2
          have HR2 := hid hp
          clear hg hbk hp
          go_wp2_with fail
          go_meet
          exact .inr ⟨by rw [HP.out, HR1.out, Option.bind_some, HOPN.out, Option.bind_some, HR2.out]; rfl, rfl, ⟨_, rfl⟩, ⟨_, rfl⟩, grown_set (o := 2) HGR.out HZ.out _⟩
        have hbk : Blk w4 Wq.heap.size 39 _ := (hg.grown.block _ HB'.out.lt (fun e => HN.out e.symm)).trans HB'.out
        replace HN := hid (show (Value.slice A2 M2.length c2).ownBlock ≠ some Wq.heap.size from fun e => by
          rcases hg.own _ e with h1 | h1
          · exact HN.out h1
          · have := HB'.out.lt; omega)
        replace HOw := hid ho
        replace HG := hid (HG.out.trans hg)
        replace HB' := hid hbk
        have p2 := hbk.cell (i := 2) (u := .int .i64 0) rfl
        have f2 := hbk.frozen 2
        have HR2 := hid hp
        have hq0 : 0 < M2.length := by have := parse_len _ _ _ _ _ hp; omega
        have hq1 : (M2.length : Int) ≤ 1000 := by have := parse_len _ _ _ _ _ hp; have := HT2.out; omega
        have HM2 := hid hq1
        clear ho hg hbk hp hm0 hm1
        go_wp2_with fail
        replace HOw := hid (HOw.out.farSet (o := 2) HN.out HB'.out.ty HBZ.out (.int .i64 ((M2.length : Int) - 1)))
        replace HG := hid (HG.out.setNew (o := 2) HZ.out (.int .i64 ((M2.length : Int) - 1)))
        replace HB' := hid (HB'.out.set 2 (.int .i64 ((M2.length : Int) - 1)))
        generalize w4.setCell ⟨Wq.heap.size, 2, none⟩ (.int .i64 ((M2.length : Int) - 1)) = W4 at *
        try clear p0 f0
        try clear p1 f1
        try clear p2 f2
        refine (has_prefix 41 (tstr t3) W4).mono ?_
        rintro e w5 ⟨rfl, rfl⟩
        rw [tstr_data]
        cases he3 : eat 41 t3 with
        | none =>
          have HE3 := hid he3
          clear he3
          go_wp2_with fail
          go_meet
          exact .inr ⟨by rw [HP.out, HR1.out, Option.bind_some, HOPN.out, Option.bind_some, HR2.out, Option.bind_some, HE3.out]; rfl, rfl, ⟨_, rfl⟩, ⟨_, rfl⟩, HG.out.grown⟩
        | some t4 =>
          have hcut3 := extract_cut (some_eat he3)
          have hs3 : (1 : Int) ≤ (tstr t3).size := by rw [tstr_size, some_eat he3]; simp only [List.length_cons]; omega
          have HE3 := hid he3
          have HCUT3 := hid hcut3
          have hb2 : (Option.isSome (some t4)) = true := rfl
          clear he3 hcut3
          rw [hb2]
          clear hb2
          go_wp2_with fail
          go_meet
          exact .inl ⟨M2, ⟨5, (M1.length : Int) - 1, (M2.length : Int) - 1⟩, t4, A2, c2, by rw [HP.out, HR1.out, Option.bind_some, HOPN.out, Option.bind_some, HR2.out, Option.bind_some, HE3.out]; rfl, rfl, by rw [← HCUT3.out], rfl, by have := HM2.out; omega, HOw.out, HG.out, HB'.out⟩
      by_cases o124 : o = 124
      · subst o124
        have hyi' : ((y[0]'hy0).toNat : Int) = 124 := by rw [hyi]; rfl
        clear hyi
        go_wp2_with fail
        replace HOw := hid (HOw.out.farSet (o := 1) HN.out HB'.out.ty HBZ.out (.int .i64 ((M1.length : Int) - 1)))
        replace HG := hid (HG.out.setNew (o := 1) HZ.out (.int .i64 ((M1.length : Int) - 1)))
        replace HB' := hid (HB'.out.set 1 (.int .i64 ((M1.length : Int) - 1)))
        generalize w2.setCell ⟨Wq.heap.size, 1, none⟩ (.int .i64 ((M1.length : Int) - 1)) = W2 at *
        try clear p0 f0
        try clear p1 f1
        try clear p2 f2
        have HOPN := hid (show opP (124 :: t2) = some (6, t2) by rfl)
        refine (index_op 124 1 (by decide) W2).mono ?_
        rintro e w3 ⟨rfl, rfl⟩
        have p0 := HB'.out.cell (i := 0) (u := .int .i64 0) rfl
        have f0 := HB'.out.frozen 0
        go_wp2_with fail
        rw [HCY.out]
        clear hyi' hpy hsy hem
        replace HOw := hid (HOw.out.farSet (o := 0) HN.out HB'.out.ty HBZ.out (.int .i64 6))
        replace HG := hid (HG.out.setNew (o := 0) HZ.out (.int .i64 6))
        replace HB' := hid (HB'.out.set 0 (.int .i64 6))
        generalize w3.setCell ⟨Wq.heap.size, 0, none⟩ (.int .i64 6) = W3 at *
        try clear p0 f0
        try clear p1 f1
        try clear p2 f2
        refine (IH.out (tstr t2) A1 c1 M1 W3 (by rw [tstr_size]; have := HT2.out; omega) (by rw [tstr_size]; have := HT2.out; omega) (by rw [tstr_size]; have := HT2.out; omega) (Nat.le_trans HB.out HG.out.grown.size) HOw.out).mono ?_
        rw [tstr_data]
        rintro e w4 (⟨M2, t3, A2, c2, hp, rfl, ho, hg⟩ | ⟨hp, yy, rfl, hg⟩)
        rotate_left
        · have hbk : Blk w4 Wq.heap.size 39 _ := (hg.block _ HB'.out.lt (fun e => HN.out e.symm)).trans HB'.out
          have HGR := hid (HG.out.grow hg)
          have p2 := hbk.cell (i := 2) (u := .int .i64 0) rfl
          have f2 := hbk.frozen 2
          have HR2 := hid hp
          clear hg hbk hp
          go_wp2_with fail
          go_meet
          exact .inr ⟨by rw [HP.out, HR1.out, Option.bind_some, HOPN.out, Option.bind_some, HR2.out]; rfl, rfl, ⟨_, rfl⟩, ⟨_, rfl⟩, grown_set (o := 2) HGR.out HZ.out _⟩
        have hbk : Blk w4 Wq.heap.size 39 _ := (hg.grown.block _ HB'.out.lt (fun e => HN.out e.symm)).trans HB'.out
        replace HN := hid (show (Value.slice A2 M2.length c2).ownBlock ≠ some Wq.heap.size from fun e => by
          rcases hg.own _ e with h1 | h1
          · exact HN.out h1
          · have := HB'.out.lt; omega)
        replace HOw := hid ho
        replace HG := hid (HG.out.trans hg)
        replace HB' := hid hbk
        have p2 := hbk.cell (i := 2) (u := .int .i64 0) rfl
        have f2 := hbk.frozen 2
        have HR2 := hid hp
        have hq0 : 0 < M2.length := by have := parse_len _ _ _ _ _ hp; omega
        have hq1 : (M2.length : Int) ≤ 1000 := by have := parse_len _ _ _ _ _ hp; have := HT2.out; omega
        have HM2 := hid hq1
        clear ho hg hbk hp hm0 hm1
        go_wp2_with fail
        replace HOw := hid (HOw.out.farSet (o := 2) HN.out HB'.out.ty HBZ.out (.int .i64 ((M2.length : Int) - 1)))
        replace HG := hid (HG.out.setNew (o := 2) HZ.out (.int .i64 ((M2.length : Int) - 1)))
        replace HB' := hid (HB'.out.set 2 (.int .i64 ((M2.length : Int) - 1)))
        generalize w4.setCell ⟨Wq.heap.size, 2, none⟩ (.int .i64 ((M2.length : Int) - 1)) = W4 at *
        try clear p0 f0
        try clear p1 f1
        try clear p2 f2
        refine (has_prefix 41 (tstr t3) W4).mono ?_
        rintro e w5 ⟨rfl, rfl⟩
        rw [tstr_data]
        cases he3 : eat 41 t3 with
        | none =>
          have HE3 := hid he3
          clear he3
          go_wp2_with fail
          go_meet
          exact .inr ⟨by rw [HP.out, HR1.out, Option.bind_some, HOPN.out, Option.bind_some, HR2.out, Option.bind_some, HE3.out]; rfl, rfl, ⟨_, rfl⟩, ⟨_, rfl⟩, HG.out.grown⟩
        | some t4 =>
          have hcut3 := extract_cut (some_eat he3)
          have hs3 : (1 : Int) ≤ (tstr t3).size := by rw [tstr_size, some_eat he3]; simp only [List.length_cons]; omega
          have HE3 := hid he3
          have HCUT3 := hid hcut3
          have hb2 : (Option.isSome (some t4)) = true := rfl
          clear he3 hcut3
          rw [hb2]
          clear hb2
          go_wp2_with fail
          go_meet
          exact .inl ⟨M2, ⟨6, (M1.length : Int) - 1, (M2.length : Int) - 1⟩, t4, A2, c2, by rw [HP.out, HR1.out, Option.bind_some, HOPN.out, Option.bind_some, HR2.out, Option.bind_some, HE3.out]; rfl, rfl, by rw [← HCUT3.out], rfl, by have := HM2.out; omega, HOw.out, HG.out, HB'.out⟩
      have hyi' : ((y[0]'hy0).toNat : Int) = (o.toNat : Int) := by rw [hyi]
      have HOPN := hid (show opP (o :: t2) = none by simp [opP, o38, o124])
      have e38 : ((o.toNat : Int) == 38) = false := ne_int (k := 38) o38 (by decide)
      have e124 : ((o.toNat : Int) == 124) = false := ne_int (k := 124) o124 (by decide)
      have g38 : ((o.toNat : Int) != 38) = true := by rw [bne, e38]; rfl
      have g124 : ((o.toNat : Int) != 124) = true := by rw [bne, e124]; rfl
      clear hyi o38 o124
      go_wp2_with fail
      go_ret3
      exact .inr ⟨by rw [HP.out, HR1.out, Option.bind_some, HOPN.out]; rfl, _, rfl, grown_set (o := 1) HG.out.grown HZ.out _⟩
    have n40 := ne_int (k := 40) c40 (by decide)
    have HP := hid (show parse (f + 1) x.data.toList L = none by rw [HC.out]; exact rparse_else c42 c35 c91 c33 c40)
    clear c40 c33 c91 c35 c42
    go_wp2_with fail
    go_meet
    exact .inr ⟨HP.out, rfl, ⟨_, rfl⟩, ⟨_, rfl⟩, HG.out.grown⟩
  case rest =>
    clear p0 f0 p1 f1 p2 f2
    rcases hcut with ⟨M, n, t1, A', c', hp, rfl, rfl, rfl, hm, ho, hg, hb⟩ | ⟨hp, rfl, ⟨y, rfl⟩, ⟨v, rfl⟩, hg⟩
    · have HP := hid hp
      have HGG := hid hg
      have p0 := hb.cell (i := 0) (u := .int .i64 n.kind) rfl
      have p1 := hb.cell (i := 1) (u := .int .i64 n.a) rfl
      have p2 := hb.cell (i := 2) (u := .int .i64 n.b) rfl
      have hx1 : Ext wc (wc.alloc (.cells #[.int .i64 n.kind, .int .i64 n.a, .int .i64 n.b] 39)) := (Ext.refl wc).alloc _
      have hoW := ho.ext (B := base) RTrip.mono hx1
      have hone : Sl base 39 RNode 3 (wc.alloc (.cells #[.int .i64 n.kind, .int .i64 n.a, .int .i64 n.b] 39)) (some ⟨wc.heap.size, 0, none⟩) [n] :=
        Sl.one (R := RNode) (B := base) (e := 39) (sz := 3) (w := wc) (cs := [.int .i64 n.kind, .int .i64 n.a, .int .i64 n.b]) (y := n) rfl rfl rfl
      have hsz : base ≤ (wc.alloc (.cells #[.int .i64 n.kind, .int .i64 n.a, .int .i64 n.b] 39)).heap.size := Nat.le_trans HB.out (Nat.le_trans hg.grown.size hx1.size)
      have HX1 := hid hx1
      clear hp hg hb hx1 ho
      go_wp2_with (at_builtin; refine wpList_app2 (B := base) (A := some ⟨wc.heap.size, 0, none⟩) (c := 1) (ys := [n]) (l := M) rfl _ _ rfl ei_node rfl hoW (Nat.le_refl _) hsz rfl hone RTrip.oneC RTrip.mono ?_ ?_ ?_)
      · show M.length + 1 ≤ maxLen
        unfold maxLen
        omega
      · show (M.length + 1) * 24 ≤ _
        omega
      · intro v9 w9 ho9 hg9 hob
        obtain ⟨A9, c9, rfl, _, _⟩ := ho9.len
        have HO9 := hid ho9
        have HG9 := hid (show GB w w9 (.slice A L.length c) (.slice A9 (M ++ [n]).length c9) from (HGG.out.trans (GB.of_ext HX1.out _)).trans ⟨hg9, fun g hgg => by
          rcases hob with e | e
          · rw [e] at hgg; exact .inl hgg
          · rw [e] at hgg; injection hgg with hgg; exact .inr (by rw [← hgg]; simp)⟩)
        clear ho9 hg9 hob hone hoW hsz p0 p1 p2
        go_wp2_with fail
        go_ret3
        exact .inl ⟨_, _, A9, c9, HP.out, rfl, HO9.out, HG9.out⟩
    · have HP := hid hp
      have HGG := hid hg
      clear hp hg
      go_wp2_with fail
      go_ret3
      exact .inr ⟨HP.out, _, rfl, HGG.out⟩

end Go.Proofs.YtbkmgbckeaimdaaDoor
