/- The walk of wire.Unpack. -/
import Derived.Test.YtngbfdogiciahaaGreatShort
import Derived.Test.YtngbfdogiciahaaGreatWireO
import Derived.Test.YtngbfdogiciahaaGreatWireA
import Derived.Test.YtngbfdogiciahaaGreatRowV
namespace Go.Proofs.YtngbfdogiciahaaGreat
open Go Go.RowKit
theorem Ext.chgw {ts : List TypeId} {a b c : World} (h : Ext a b) (k : Chg a.heap.size ts b c) : Ext a c :=
 ⟨k.os.trans (Below.os h), k.tape.trans (Below.tape h), k.output.trans (Below.output h), Nat.le_trans h.size k.size, fun i hi => (k.block i (Nat.lt_of_lt_of_le hi h.size) (.inl hi)).trans (h.blockAt hi)⟩
theorem rtext_size (s : RS) : (rtext s).1.size ≤ 8 := by
 have := rnum_range (most := 8) (by omega) s
 unfold rtext
 split
 ·exact Nat.zero_le _
 ·rw [bstr_size, List.length_take]; omega
theorem rver_eq {s s1 s2 s3 s4 s5 s6 s7 : RS} {i : ByteArray} {a b c d e : Int} {k : Know} (h1 : rtext s = (i, s1)) (h2 : rnum 5 s1 = (a, s2)) (h3 : rnum 1000 s2 = (b, s3)) (h4 : rnum 15 s3 = (c, s4)) (h5 : rnum 32 s4 = (d, s5)) (h6 : rnum 1000000 s5 = (e, s6)) (h7 : rknow s6 = (k, s7)) : rver s = (⟨i, ⟨a, b⟩, ⟨c, d⟩, e, k⟩, s7) := by
 simp [rver, rdot, rpoint, h1, h2, h3, h4, h5, h6, h7]
theorem rgone_eq {s s1 s2 : RS} {i : ByteArray} {k : Know} (h1 : rtext s = (i, s1)) (h7 : rknow s1 = (k, s2)) : rgone s = (⟨i, k⟩, s2) := by
 simp [rgone, h1, h7]
theorem rpart_eq {s s1 s2 : RS} {i : List Box} {k : Know} (h1 : rlist 40 rbox s = (i, s1)) (h7 : rknow s1 = (k, s2)) : rpart s = (⟨i, k⟩, s2) := by
 simp [rpart, h1, h7]
theorem rbatch_eq {s s1 s2 s3 s4 s5 : RS} {a b : Int} {v : List Version} {g : List Gone} {p : List Part} (h1 : rnum 5 s = (a, s1)) (h2 : rnum 1000000 s1 = (b, s2)) (h3 : rlist 60 rver s2 = (v, s3)) (h4 : rlist 60 rgone s3 = (g, s4)) (h5 : rlist 30 rpart s4 = (p, s5)) : rbatch s = (⟨a, b, v, g, p⟩, s5) := by
 simp [rbatch, h1, h2, h3, h4, h5]
theorem ei_gone : ElemInfo Tryz.prog 88 103 3 64 := ElemInfo.mk_ (z := .agg #[.string ⟨#[]⟩, .slice none 0 0, .slice none 0 0]) Tryz.underlying88 (by kernel_rfl) rfl (by decide)
theorem ei_partU : ElemInfo Tryz.prog 66 181 3 72 := ElemInfo.mk_ (z := .agg #[.slice none 0 0, .slice none 0 0, .slice none 0 0]) Tryz.underlying66 (by kernel_rfl) rfl (by decide)
theorem InB.chgB {w w' : World} {Ax : Option Addr} {cx : Nat} {Ag : Option Addr} {cg : Nat} {Ap : Option Addr} {cp : Nat} {b : Batch} (h : InB 0 w Ax cx Ag cg Ap cp b) (x : Chg 0 [90] w w') : InB 0 w' Ax cx Ag cg Ap cp b :=
 ⟨h.lx, h.lg, h.lp, h.sx.chg (RVer.mono (by decide) (by decide)) (by decide) x, h.sg.chg (RGone.mono (by decide) (by decide)) (by decide) x, h.sp.chg (RPart.mono (by decide) (by decide) (by decide) (by decide)) (by decide) x⟩
def IsB (B : Nat) (w : World) (v : Value) (b : Batch) : Prop := ∃ Ax cx Ag cg Ap cp, v = .agg #[.int .i64 b.site, .int .i64 b.stamp, .slice Ax b.vers.length cx, .slice Ag b.gone.length cg, .slice Ap b.parts.length cp] ∧ InB B w Ax cx Ag cg Ap cp b
theorem IsB.zero {B : Nat} {w : World} : IsB B w (.agg #[.int .i64 0, .int .i64 0, .slice none 0 0, .slice none 0 0, .slice none 0 0]) noBatch := ⟨none, 0, none, 0, none, 0, rfl, InB.empty⟩
theorem res_unp {w : World} {v x0 x1 x2 x3 x4 : Value} {b : Nat} {tmps : Array Value} (h2 : tmps.getD 2 undef = .pointer (some ⟨b, 0, none⟩)) (h3 : tmps.getD 3 undef = v) (hb : Blk w b 90 #[x0, x1, x2, x3, x4]) :
  (results Tryz.f79 tmps).run Tryz.prog w = .ok (.tuple #[.agg #[x0, x1, x2, x3, x4], v]) w := by
 have h2' : tmps[2]?.getD undef = .pointer (some ⟨b, 0, none⟩) := by simpa using h2
 have h3' : tmps[3]?.getD undef = v := by simpa using h3
 have c0 := hb.cell (i := 0) (u := x0) rfl
 have c1 := hb.cell (i := 1) (u := x1) rfl
 have c2 := hb.cell (i := 2) (u := x2) rfl
 have c3 := hb.cell (i := 3) (u := x3) rfl
 have c4 := hb.cell (i := 4) (u := x4) rfl
 simp [results, Tryz.results79, go_sem, h2', h3', c0, c1, c2, c3, c4]
theorem tail_split (l : List UInt8) (h : 3 ≤ l.length) : ∃ (T : List UInt8) (x y z : UInt8), l = T ++ [x, y, z] := by
 have e := split_tail l h
 rw [tailSum, three_num3] at e
 exact ⟨_, _, _, _, e⟩
theorem body_app (T : List UInt8) (x y z : UInt8) : bodyOf (T ++ [x, y, z]) = T := by
 rw [bodyOf, List.length_append]
 exact List.take_left
theorem tail_app (T : List UInt8) (x y z : UInt8) : tailSum (T ++ [x, y, z]) = num3 x y z := by
 have h := split_tail (T ++ [x, y, z]) (by simp)
 rw [body_app] at h
 have h2 := List.append_cancel_left h
 have h3 : three (tailSum (T ++ [x, y, z])) = three (num3 x y z) := by rw [← h2, three_num3]
 have a1 := num3_lt ((T ++ [x, y, z]).getD ((T ++ [x, y, z]).length - 3) 0) ((T ++ [x, y, z]).getD ((T ++ [x, y, z]).length - 2) 0) ((T ++ [x, y, z]).getD ((T ++ [x, y, z]).length - 1) 0)
 have a2 := num3_lt x y z
 have b1 := num3_three a1.1 a1.2
 have b2 := num3_three a2.1 a2.2
 simp only [three, List.cons.injEq, and_true] at h3
 rw [tailSum] at h3 ⊢
 rw [h3.1, h3.2.1, h3.2.2, b2] at b1
 exact b1.symm
theorem byte_app (T : List UInt8) (x y z : UInt8) : (∀ h, (bstr (T ++ [x, y, z]))[T.length]'h = x) ∧ (∀ h, (bstr (T ++ [x, y, z]))[T.length + 1]'h = y) ∧ (∀ h, (bstr (T ++ [x, y, z]))[((T.length : Int) + 2).toNat]'h = z) := by
 have e2 : ((T.length : Int) + 2).toNat = T.length + 2 := by omega
 refine ⟨fun h => ?_, fun h => ?_, fun h => ?_⟩ <;> simp [bstr, e2, ByteArray.getElem_eq_getElem_data, List.getElem_append_right]
set_option maxRecDepth 100000 in
set_option maxHeartbeats 8000000 in
theorem wire_Unpack (s0 : List UInt8) (hs : s0.length ≤ 140737488355328) (w : World) :
  Calls Tryz.prog 79 #[.string (bstr s0)] w fun e w' => ∃ v, e = .returned (.tuple #[v, .int .i64 (unpackErr s0)]) ∧ (IsB 0 w' v (unpackOf s0) ∧ (unpackErr s0 ≠ 0 → v = .agg #[.int .i64 0, .int .i64 0, .slice none 0 0, .slice none 0 0, .slice none 0 0])) ∧ Ext w w' := by
 have HE0 := hid (show unpackErr s0 = if 20000 < s0.length then 2 else if s0.length < 3 then 7 else if sumB (bodyOf s0) = tailSum s0 then (if readOk (rbatch (bodyOf s0, false)) = true then 0 else 3) else 8 from rfl)
 have HU0 := hid (show unpackOf s0 = if unpackErr s0 = 0 then (rbatch (bodyOf s0, false)).1 else noBatch from rfl)
 have hxa := (Ext.refl w).alloc (.cells #[.int .i64 0, .int .i64 0, .slice none 0 0, .slice none 0 0, .slice none 0 0] 90)
 have hrs := Blk.new w 90 #[.int .i64 0, .int .i64 0, .slice none 0 0, .slice none 0 0, .slice none 0 0]
 have hsz := bstr_size s0
 have HS := hid hs
 clear hs
 by_cases h1 : 20000 < s0.length
 ·have HE := hid (show unpackErr s0 = 2 by rw [HE0.out, if_pos h1])
  have HU := hid (show unpackOf s0 = noBatch by rw [HU0.out, if_neg (by rw [HE.out]; decide)])
  have hd : decide ((20000 : Int) < ((bstr s0).size : Int)) = true := decide_eq_true (by omega)
  clear hsz h1
  go_enter Tryz.func79, Tryz.ntmps79
  go_wp2_with fail
  refine bodyPost_ret (res_unp (b := w.heap.size) (v := .int .i64 2) (x0 := .int .i64 0) (x1 := .int .i64 0) (x2 := .slice none 0 0) (x3 := .slice none 0 0) (x4 := .slice none 0 0) rfl rfl ?_) rfl ⟨_, by rw [HE.out], ⟨by rw [HU.out]; exact IsB.zero, fun _ => rfl⟩, ?_⟩
  ·exact hrs
  ·exact hxa
 ·by_cases h2 : s0.length < 3
  ·have HE := hid (show unpackErr s0 = 7 by rw [HE0.out, if_neg h1, if_pos h2])
   have HU := hid (show unpackOf s0 = noBatch by rw [HU0.out, if_neg (by rw [HE.out]; decide)])
   have hl2 : (s0.length : Int) < 3 := by omega
   clear h1 h2
   go_enter Tryz.func79, Tryz.ntmps79
   go_wp2_with fail
   refine bodyPost_ret (res_unp (b := w.heap.size) (v := .int .i64 7) (x0 := .int .i64 0) (x1 := .int .i64 0) (x2 := .slice none 0 0) (x3 := .slice none 0 0) (x4 := .slice none 0 0) rfl rfl ?_) rfl ⟨_, by rw [HE.out], ⟨by rw [HU.out]; exact IsB.zero, fun _ => rfl⟩, ?_⟩
   ·exact hrs
   ·exact hxa
  ·obtain ⟨T, x, y, z, rfl⟩ := tail_split s0 (by omega)
   have HB := hid (body_app T x y z)
   have HT := hid (tail_app T x y z)
   rw [HB.out, HT.out, if_neg h1, if_neg h2] at HE0
   rw [HB.out] at HU0
   have hlen : T.length ≤ 19997 := by rw [List.length_append] at h1; simp at h1; omega
   have hsz3 : (bstr (T ++ [x, y, z])).size = T.length + 3 := by rw [hsz, List.length_append]; rfl
   have HBY := hid (byte_app T x y z)
   clear hsz h1 h2
   have hbyx : (bstr (T ++ [x, y, z])).size = T.length + 3 := hsz3
   go_enter Tryz.func79, Tryz.ntmps79
   go_wp2_with fail
   obtain ⟨w0, hw0⟩ : ∃ y, y = w.alloc (.cells #[.int .i64 0, .int .i64 0, .slice none 0 0, .slice none 0 0, .slice none 0 0] 90) := ⟨_, rfl⟩
   rw [← hw0]
   rw [← hw0] at hxa hrs
   clear hw0
   have hx0 := (Ext.refl w0).drew
   refine wp_region_class (fun w' => Ext w0 w') (by kernel_rfl) (by kernel_rfl) hx0 ?_
   refine wpQuiet_read (v := ?_) (by rfl) (fun w' hSw => ?_) ?_
   rotate_left
   ·try dsimp only at hSw
    go_simp <;> with_reducible rfl
   try simp only [pq]
   refine wpQuiet_read (v := ?_) (by rfl) (fun w' hSw => ?_) ?_
   rotate_left
   ·try dsimp only at hSw
    go_simp <;> with_reducible rfl
   try simp only [pq]
   refine wpQuiet_read (v := .string (bstr T)) (by rfl) (fun w' hSw => ?_) ?_
   ·go_simp
    rw [if_pos (by omega), bstr_take, List.take_left]
   try simp only [pq]
   refine wpQuiet_call (args := #[.string (bstr T)]) Tryz.call129 (by rfl) (by rfl) (fun w' h => (wire_Sum (bstr T) (by rw [bstr_size]; omega) w').mono fun e w'' q => (show e = .returned (.int .i64 (sumB T)) ∧ Ext w0 w'' from ⟨by rw [q.1, bstr_data], by rw [q.2]; exact h⟩)) ?_
   try simp only [pq]
   refine wpQuiet_read (v := ?_) (by rfl) (fun w' hSw => ?_) ?_
   rotate_left
   ·try dsimp only at hSw
    go_simp <;> with_reducible rfl
   try simp only [pq]
   refine wpQuiet_read (v := ?_) (by rfl) (fun w' hSw => ?_) ?_
   rotate_left
   ·try dsimp only at hSw
    go_simp <;> with_reducible rfl
   try simp only [pq]
   refine wpQuiet_read (v := .int .u8 x.toNat) (by rfl) (fun w' hSw => ?_) ?_
   ·go_simp
    rw [dif_pos (by omega)]
    first | rfl | (rw [HBY.out.1]; rfl) | (simp only [HBY.out.1]; rfl)
   try simp only [pq]
   refine wpQuiet_read (v := ?_) (by rfl) (fun w' hSw => ?_) ?_
   rotate_left
   ·try dsimp only at hSw
    go_simp <;> with_reducible rfl
   try simp only [pq]
   refine wpQuiet_read (v := ?_) (by rfl) (fun w' hSw => ?_) ?_
   rotate_left
   ·try dsimp only at hSw
    go_simp <;> with_reducible rfl
   try simp only [pq]
   refine wpQuiet_read (v := ?_) (by rfl) (fun w' hSw => ?_) ?_
   rotate_left
   ·try dsimp only at hSw
    go_simp <;> with_reducible rfl
   try simp only [pq]
   refine wpQuiet_read (v := ?_) (by rfl) (fun w' hSw => ?_) ?_
   rotate_left
   ·try dsimp only at hSw
    go_simp <;> with_reducible rfl
   try simp only [pq]
   refine wpQuiet_read (v := .int .i64 ((T.length + 1 : Nat) : Int)) (by rfl) (fun w' hSw => ?_) ?_
   ·go_simp
    first | (rw [IntKind.wrap_i64]; omega) | skip
   try simp only [pq]
   refine wpQuiet_read (v := .int .u8 y.toNat) (by rfl) (fun w' hSw => ?_) ?_
   ·go_simp
    rw [dif_pos (by omega)]
    first | rfl | (rw [HBY.out.2.1]; rfl) | (simp only [HBY.out.2.1]; rfl)
   try simp only [pq]
   refine wpQuiet_read (v := ?_) (by rfl) (fun w' hSw => ?_) ?_
   rotate_left
   ·try dsimp only at hSw
    go_simp <;> with_reducible rfl
   try simp only [pq]
   refine wpQuiet_read (v := ?_) (by rfl) (fun w' hSw => ?_) ?_
   rotate_left
   ·try dsimp only at hSw
    go_simp <;> with_reducible rfl
   try simp only [pq]
   refine wpQuiet_read (v := ?_) (by rfl) (fun w' hSw => ?_) ?_
   rotate_left
   ·try dsimp only at hSw
    go_simp <;> with_reducible rfl
   try simp only [pq]
   refine wpQuiet_read (v := ?_) (by rfl) (fun w' hSw => ?_) ?_
   rotate_left
   ·try dsimp only at hSw
    go_simp <;> with_reducible rfl
   try simp only [pq]
   refine wpQuiet_read (v := ?_) (by rfl) (fun w' hSw => ?_) ?_
   rotate_left
   ·try dsimp only at hSw
    go_simp <;> with_reducible rfl
   try simp only [pq]
   refine wpQuiet_read (v := .int .i64 ((T.length + 2 : Nat) : Int)) (by rfl) (fun w' hSw => ?_) ?_
   ·go_simp
    first | (rw [IntKind.wrap_i64]; omega) | skip
   try simp only [pq]
   refine wpQuiet_read (v := .int .u8 z.toNat) (by rfl) (fun w' hSw => ?_) ?_
   ·go_simp
    rw [dif_pos (by omega)]
    first | rfl | (rw [HBY.out.2.2]; rfl) | (simp only [HBY.out.2.2]; rfl)
   try simp only [pq]
   refine wpQuiet_read (v := ?_) (by rfl) (fun w' hSw => ?_) ?_
   rotate_left
   ·try dsimp only at hSw
    go_simp <;> with_reducible rfl
   try simp only [pq]
   refine wpQuiet_read (v := ?_) (by rfl) (fun w' hSw => ?_) ?_
   rotate_left
   ·try dsimp only at hSw
    go_simp <;> with_reducible rfl
   try simp only [pq]
   rw [num3_bits]
   refine wpQuiet_read (v := ?_) (by rfl) (fun w' hSw => ?_) ?_
   rotate_left
   ·try dsimp only at hSw
    go_simp <;> with_reducible rfl
   try simp only [pq]
   refine wpQuiet_nil ?_
   generalize bits .or .i64 (IntKind.i64.wrap (IntKind.i64.wrap (x.toNat : Int) * 65536)) (IntKind.i64.wrap (IntKind.i64.wrap (y.toNat : Int) * 256)) = j1
   generalize IntKind.i64.wrap (IntKind.i64.wrap (x.toNat : Int) * 65536) = j2
   generalize IntKind.i64.wrap (IntKind.i64.wrap (y.toNat : Int) * 256) = j3
   generalize IntKind.i64.wrap (x.toNat : Int) = j4
   generalize IntKind.i64.wrap (y.toNat : Int) = j5
   generalize IntKind.i64.wrap (z.toNat : Int) = j6
   intro w1 hx1
   replace hrs := hrs.ext hx1
   have hx := hxa.trans hx1
   obtain ⟨r2, hr2⟩ : ∃ y, y = w.heap.size := ⟨_, rfl⟩
   rw [← hr2] at hrs ⊢
   have hrw : w.heap.size ≤ r2 := Nat.le_of_eq hr2.symm
   clear hr2
   clear HBY hbyx hsz3 hx1 hxa hx0
   by_cases hs0 : sumB T = num3 x y z
   ·have hne : (sumB T != num3 x y z) = false := by simpa using hs0
    have HE1 := hid (show unpackErr (T ++ [x, y, z]) = if readOk (rbatch (T, false)) = true then 0 else 3 by rw [HE0.out, if_pos hs0])
    have hle : T.length ≤ (bstr (T ++ [x, y, z])).size := by rw [bstr_size, List.length_append]; omega
    have HEX := hid (show (bstr (T ++ [x, y, z])).extract 0 T.length = bstr T by rw [bstr_take, List.take_left])
    clear hs0 HE0
    go_wp2_with fail
    rw [HEX.out]
    clear HEX hlen hne
    have hxr := (Ext.refl w1).alloc (.cells #[.string (bstr T), .bool false] 220)
    have hbr0 := Blk.new w1 220 #[.string (bstr T), .bool false]
    obtain ⟨st, hst⟩ : ∃ s : RS, s = (T, false) := ⟨_, rfl⟩
    have hbr1 : Blk (w1.alloc (.cells #[.string (bstr T), .bool false] 220)) w1.heap.size 220 #[.string (bstr st.1), .bool st.2] := by rw [hst]; exact hbr0
    have HST := hid hst
    clear hst hbr0
    obtain ⟨w2, hw2⟩ : ∃ y, y = w1.alloc (.cells #[.string (bstr T), .bool false] 220) := ⟨_, rfl⟩
    obtain ⟨p, hpp⟩ : ∃ y, y = w1.heap.size := ⟨_, rfl⟩
    have hp : w.heap.size ≤ p := by rw [hpp]; exact hx.size
    rw [← hw2] at hxr
    rw [← hw2, ← hpp] at hbr1
    rw [← hw2, ← hpp]
    clear hw2 hpp
    have hbr := hbr1
    clear hbr1
    replace hrs := hrs.ext hxr
    replace hx := hx.trans hxr
    clear hxr hle
    refine (rd_num w.heap.size p 5 st w2 hp hbr).mono ?_
    rintro e w3 ⟨rfl, hbn, hc⟩
    clear hbr
    have hbr := hbn
    clear hbn
    replace hrs := hrs.chg hc (by decide)
    replace hx := hx.chgw hc
    clear hc
    obtain ⟨m1, hm1⟩ : ∃ x, x = (rnum 5 st).1 := ⟨_, rfl⟩
    obtain ⟨sa, hsa⟩ : ∃ x, x = (rnum 5 st).2 := ⟨_, rfl⟩
    rw [← hsa] at hbr
    rw [← hm1]
    have H1 := hid (show rnum 5 st = (m1, sa) by rw [hm1, hsa])
    clear hm1 hsa
    go_wp2_with fail
    refine (rd_num w.heap.size p 1000000 sa w3 hp hbr).mono ?_
    rintro e w4 ⟨rfl, hbn, hc⟩
    clear hbr
    have hbr := hbn
    clear hbn
    replace hrs := hrs.chg hc (by decide)
    replace hx := hx.chgw hc
    clear hc
    obtain ⟨m2, hm2⟩ : ∃ x, x = (rnum 1000000 sa).1 := ⟨_, rfl⟩
    obtain ⟨sb, hsb⟩ : ∃ x, x = (rnum 1000000 sa).2 := ⟨_, rfl⟩
    rw [← hsb] at hbr
    rw [← hm2]
    have H2 := hid (show rnum 1000000 sa = (m2, sb) by rw [hm2, hsb])
    clear hm2 hsb
    have hxa := (Ext.refl w4).alloc (.cells #[.int .i64 m1, .int .i64 m2, .slice none 0 0, .slice none 0 0, .slice none 0 0] 90)
    have hbk := Blk.new w4 90 #[.int .i64 m1, .int .i64 m2, .slice none 0 0, .slice none 0 0, .slice none 0 0]
    go_wp2_with fail
    obtain ⟨w5, hw5⟩ : ∃ y, y = w4.alloc (.cells #[.int .i64 m1, .int .i64 m2, .slice none 0 0, .slice none 0 0, .slice none 0 0] 90) := ⟨_, rfl⟩
    obtain ⟨kb, hkb0⟩ : ∃ y, y = w4.heap.size := ⟨_, rfl⟩
    have hkb : w.heap.size ≤ kb := by rw [hkb0]; exact hx.size
    have hkf : r2 ≠ kb := by have := hrs.lt; omega
    rw [← hw5] at hxa
    rw [← hw5, ← hkb0] at hbk
    rw [← hw5, ← hkb0]
    clear hw5 hkb0
    replace hrs := hrs.ext hxa
    replace hbr := hbr.ext hxa
    replace hx := hx.trans hxa
    clear hxa
    refine (rd_num w.heap.size p 60 sb w5 hp hbr).mono ?_
    rintro e w6 ⟨rfl, hbn, hc⟩
    clear hbr
    have hbr := hbn
    clear hbn
    replace hbk := hbk.chg hc (by decide)
    replace hrs := hrs.chg hc (by decide)
    replace hx := hx.chgw hc
    clear hc
    obtain ⟨N1, hN, hNm⟩ := rnum_nat (most := 60) (by decide) sb
    have HN1 := hid hNm
    have HR1 := hid (rlist_n rver hN)
    obtain ⟨sc, hs1⟩ : ∃ s, s = (rnum 60 sb).2 := ⟨_, rfl⟩
    rw [← hs1] at hbr HR1
    rw [hN]
    clear hN hNm hs1
    go_wp2_with fail
    go_loopw [7] (fun i wr => ∃ (j r : Nat) (v : Value), j + r = N1 ∧ i = .int .i64 (r : Int) ∧ Blk wr p 220 #[.string (bstr (rmany rver j sc).2.1), .bool (rmany rver j sc).2.2] ∧ Blk wr kb 90 #[.int .i64 m1, .int .i64 m2, v, .slice none 0 0, .slice none 0 0] ∧ Own (RVer 0) 8 151 wr w.heap.size v (rmany rver j sc).1 ∧ Ext w wr ∧ Blk wr r2 90 #[.int .i64 0, .int .i64 0, .slice none 0 0, .slice none 0 0, .slice none 0 0]) (fun i _ => (intOf i).toNat)
    case atStart => exact ⟨0, N1, _, Nat.zero_add _, rfl, hbr, hbk, Own.nil, hx, hrs⟩
    case round =>
     clear hbr hbk hx hrs
     obtain ⟨j, r, v, hjr, rfl, hbr, hbk, hov, hx, hrs⟩ := hrel
     obtain ⟨wo, hwq⟩ : ∃ x, x = wr := ⟨_, rfl⟩
     subst hwq
     by_cases hr0 : r = 0
     ·subst hr0
      obtain rfl : j = N1 := by omega
      obtain ⟨A1, c1, rfl, _, _⟩ := hov.len
      have hv1 := hov.isSl 0
      obtain ⟨V, hV⟩ : ∃ l, l = (rmany rver j sc).1 := ⟨_, rfl⟩
      obtain ⟨sd, hsd⟩ : ∃ s, s = (rmany rver j sc).2 := ⟨_, rfl⟩
      rw [← hV] at hv1 hbk
      rw [← hsd] at hbr
      have HL1 := hid (show rlist 60 rver sb = (V, sd) by rw [HR1.out, hV, hsd])
      clear hov hV hsd HR1
      go_wp2_with fail
      refine (rd_num w.heap.size p 60 sd wo hp hbr).mono ?_
      rintro e w7 ⟨rfl, hbn, hc⟩
      clear hbr
      have hbr := hbn
      clear hbn
      replace hbk := hbk.chg hc (by decide)
      replace hrs := hrs.chg hc (by decide)
      replace hx := hx.chgw hc
      replace hv1 := hv1.chg (RVer.mono (by decide) (by decide)) (by decide) (hc.down (Nat.zero_le _))
      clear hc
      obtain ⟨N2, hN, hNm⟩ := rnum_nat (most := 60) (by decide) sd
      have HN2 := hid hNm
      have HR2 := hid (rlist_n rgone hN)
      obtain ⟨sg, hs1⟩ : ∃ s, s = (rnum 60 sd).2 := ⟨_, rfl⟩
      rw [← hs1] at hbr HR2
      rw [hN]
      clear hN hNm hs1
      go_wp2_with fail
      go_loopw [9] (fun i wr => ∃ (j r : Nat) (v : Value), j + r = N2 ∧ i = .int .i64 (r : Int) ∧ Blk wr p 220 #[.string (bstr (rmany rgone j sg).2.1), .bool (rmany rgone j sg).2.2] ∧ Blk wr kb 90 #[.int .i64 m1, .int .i64 m2, .slice A1 V.length c1, v, .slice none 0 0] ∧ Own (RGone 0) 3 103 wr w.heap.size v (rmany rgone j sg).1 ∧ Ext w wr ∧ Blk wr r2 90 #[.int .i64 0, .int .i64 0, .slice none 0 0, .slice none 0 0, .slice none 0 0] ∧ IsVers 0 wr (.slice A1 V.length c1) V) (fun i _ => (intOf i).toNat)
      case atStart => exact ⟨0, N2, _, Nat.zero_add _, rfl, hbr, hbk, Own.nil, hx, hrs, hv1⟩
      case round =>
       clear hbr hbk hx hrs hv1
       obtain ⟨j, r, v, hjr, rfl, hbr, hbk, hov, hx, hrs, hv1⟩ := hrel
       obtain ⟨wo, hwq⟩ : ∃ x, x = wr := ⟨_, rfl⟩
       subst hwq
       by_cases hr0 : r = 0
       ·subst hr0
        obtain rfl : j = N2 := by omega
        obtain ⟨A2, c2, rfl, _, _⟩ := hov.len
        have hg1 := hov.isSl 0
        obtain ⟨G, hG⟩ : ∃ l, l = (rmany rgone j sg).1 := ⟨_, rfl⟩
        obtain ⟨sdd, hsdd⟩ : ∃ s, s = (rmany rgone j sg).2 := ⟨_, rfl⟩
        rw [← hG] at hg1 hbk
        rw [← hsdd] at hbr
        have HL2 := hid (show rlist 60 rgone sd = (G, sdd) by rw [HR2.out, hG, hsdd])
        clear hov hG hsdd HR2
        go_wp2_with fail
        refine (rd_num w.heap.size p 30 sdd wo hp hbr).mono ?_
        rintro e w8 ⟨rfl, hbn, hc⟩
        clear hbr
        have hbr := hbn
        clear hbn
        replace hbk := hbk.chg hc (by decide)
        replace hrs := hrs.chg hc (by decide)
        replace hx := hx.chgw hc
        replace hv1 := hv1.chg (RVer.mono (by decide) (by decide)) (by decide) (hc.down (Nat.zero_le _))
        replace hg1 := hg1.chg (RGone.mono (by decide) (by decide)) (by decide) (hc.down (Nat.zero_le _))
        clear hc
        obtain ⟨N3, hN, hNm⟩ := rnum_nat (most := 30) (by decide) sdd
        have HN3 := hid hNm
        have HR3 := hid (rlist_n rpart hN)
        obtain ⟨sf, hs1⟩ : ∃ s, s = (rnum 30 sdd).2 := ⟨_, rfl⟩
        rw [← hs1] at hbr HR3
        rw [hN]
        clear hN hNm hs1
        go_wp2_with fail
        go_loopw [10] (fun i wr => ∃ (j r : Nat) (v : Value), j + r = N3 ∧ i = .int .i64 (r : Int) ∧ Blk wr p 220 #[.string (bstr (rmany rpart j sf).2.1), .bool (rmany rpart j sf).2.2] ∧ Blk wr kb 90 #[.int .i64 m1, .int .i64 m2, .slice A1 V.length c1, .slice A2 G.length c2, v] ∧ Own (RPart 0) 3 181 wr w.heap.size v (rmany rpart j sf).1 ∧ Ext w wr ∧ Blk wr r2 90 #[.int .i64 0, .int .i64 0, .slice none 0 0, .slice none 0 0, .slice none 0 0] ∧ IsVers 0 wr (.slice A1 V.length c1) V ∧ IsGones 0 wr (.slice A2 G.length c2) G) (fun i _ => (intOf i).toNat)
        case atStart => exact ⟨0, N3, _, Nat.zero_add _, rfl, hbr, hbk, Own.nil, hx, hrs, hv1, hg1⟩
        case round =>
         clear hbr hbk hx hrs hv1 hg1
         obtain ⟨j, r, v, hjr, rfl, hbr, hbk, hov, hx, hrs, hv1, hg1⟩ := hrel
         obtain ⟨wo, hwq⟩ : ∃ x, x = wr := ⟨_, rfl⟩
         subst hwq
         by_cases hr0 : r = 0
         ·subst hr0
          obtain rfl : j = N3 := by omega
          obtain ⟨A3, c3, rfl, _, _⟩ := hov.len
          have hq1 := hov.isSl 0
          obtain ⟨P, hP⟩ : ∃ l, l = (rmany rpart j sf).1 := ⟨_, rfl⟩
          obtain ⟨se, hse⟩ : ∃ s, s = (rmany rpart j sf).2 := ⟨_, rfl⟩
          rw [← hP] at hq1 hbk
          rw [← hse] at hbr
          have HL3 := hid (show rlist 30 rpart sdd = (P, se) by rw [HR3.out, hP, hse])
          clear hov hP hse HR3
          have HRB := hid (show rbatch (T, false) = ((⟨m1, m2, V, G, P⟩ : Batch), se) by rw [← HST.out]; exact rbatch_eq H1.out H2.out HL1.out HL2.out HL3.out)
          rw [HRB.out] at HE1 HU0
          have HRO := hid (show readOk ((⟨m1, m2, V, G, P⟩ : Batch), se) = (!se.2 && (se.1.isEmpty && decide (wireErr (⟨m1, m2, V, G, P⟩ : Batch) = 0))) from rfl)
          obtain ⟨sl, sb⟩ := se
          dsimp only at hbr HRO HU0
          have HWB := hid (show InB 0 wo A1 c1 A2 c2 A3 c3 (⟨m1, m2, V, G, P⟩ : Batch) from by
           obtain ⟨_, _, e1, a1, a2, a3⟩ := hv1
           obtain ⟨_, _, e2, b1, b2, b3⟩ := hg1
           obtain ⟨_, _, e3, d1, d2, d3⟩ := hq1
           injection e1 with e1 _ e1'
           injection e2 with e2 _ e2'
           injection e3 with e3 _ e3'
           subst e1 e1' e2 e2' e3 e3'
           exact ⟨⟨a1, a2⟩, ⟨b1, b2⟩, ⟨d1, d2⟩, a3, b3, d3⟩)
          have x0 := hbr.cell (i := 0) (u := .string (bstr sl)) rfl
          have x1 := hbr.cell (i := 1) (u := .bool sb) rfl
          have HBK := hid hbk
          have HRS := hid hrs
          have HXX := hid hx
          have HBRL := hid (show p < wo.heap.size from hbr.lt)
          clear HRB HST H1 H2 HL1 HL2 HL3 hv1 hg1 hq1 hbr hbk hx
          by_cases hro : readOk ((⟨m1, m2, V, G, P⟩ : Batch), (sl, sb)) = true
          ·rw [if_pos hro] at HE1
           rw [HRO.out] at hro
           have hsb : sb = false := by cases sb <;> simp_all
           have hsl : sl = [] := by simp_all
           have hwe : wireErr (⟨m1, m2, V, G, P⟩ : Batch) = 0 := by simp_all
           subst hsb hsl
           have he : (bstr []).toList.isEmpty = true := by rw [Lib.toList_data, bstr_data]; rfl
           have HE := hid (show unpackErr (T ++ [x, y, z]) = 0 from HE1.out)
           have HU := hid (show unpackOf (T ++ [x, y, z]) = (⟨m1, m2, V, G, P⟩ : Batch) by rw [HU0.out, if_pos HE.out])
           have HWE := hid hwe
           clear hro hwe hrs
           have y0 := HBK.out.cell (i := 0) (u := .int .i64 m1) rfl
           have y1 := HBK.out.cell (i := 1) (u := .int .i64 m2) rfl
           have y2 := HBK.out.cell (i := 2) (u := .slice A1 V.length c1) rfl
           have y3 := HBK.out.cell (i := 3) (u := .slice A2 G.length c2) rfl
           have y4 := HBK.out.cell (i := 4) (u := .slice A3 P.length c3) rfl
           go_wp2_with fail
           refine (wire_Check 0 (⟨m1, m2, V, G, P⟩ : Batch) A1 c1 A2 c2 A3 c3 wo HWB.out).mono ?_
           rintro e w9 ⟨rfl, hx9⟩
           rw [HWE.out]
           clear he x0 x1 y0 y1 y2 y3 y4
           have hbk := HBK.out.ext hx9
           have hrs := HRS.out.ext hx9
           have HRS := hid hrs
           have HXX := hid (HXX.out.trans hx9)
           have HWB := hid (HWB.out.ext hx9)
           clear hx9
           have y0 := hbk.cell (i := 0) (u := .int .i64 m1) rfl
           have y1 := hbk.cell (i := 1) (u := .int .i64 m2) rfl
           have y2 := hbk.cell (i := 2) (u := .slice A1 V.length c1) rfl
           have y3 := hbk.cell (i := 3) (u := .slice A2 G.length c2) rfl
           have y4 := hbk.cell (i := 4) (u := .slice A3 P.length c3) rfl
           have u0 := hrs.cell (i := 0) (u := .int .i64 0) rfl
           have z0 := hrs.frozen 0
           have u1 := hrs.cell (i := 1) (u := .int .i64 0) rfl
           have z1 := hrs.frozen 1
           have u2 := hrs.cell (i := 2) (u := .slice none 0 0) rfl
           have z2 := hrs.frozen 2
           have u3 := hrs.cell (i := 3) (u := .slice none 0 0) rfl
           have z3 := hrs.frozen 3
           have u4 := hrs.cell (i := 4) (u := .slice none 0 0) rfl
           have z4 := hrs.frozen 4
           clear hbk hrs
           go_wp2_with fail
           refine bodyPost_ret (res_unp (b := r2) (v := .int .i64 0) (x0 := .int .i64 m1) (x1 := .int .i64 m2) (x2 := .slice A1 V.length c1) (x3 := .slice A2 G.length c2) (x4 := .slice A3 P.length c3) rfl rfl ?_) rfl ⟨_, by rw [HE.out], ⟨?_, fun h => absurd HE.out h⟩, ?_⟩
           ·exact ((((HRS.out.set 0 (.int .i64 m1)).set 1 (.int .i64 m2)).set 2 (.slice A1 V.length c1)).set 3 (.slice A2 G.length c2)).set 4 (.slice A3 P.length c3)
           ·rw [HU.out]
            have g0 := HRS.out.ty
            have g1 := (HRS.out.set 0 (.int .i64 m1)).ty
            have g2 := ((HRS.out.set 0 (.int .i64 m1)).set 1 (.int .i64 m2)).ty
            have g3 := (((HRS.out.set 0 (.int .i64 m1)).set 1 (.int .i64 m2)).set 2 (.slice A1 V.length c1)).ty
            have g4 := ((((HRS.out.set 0 (.int .i64 m1)).set 1 (.int .i64 m2)).set 2 (.slice A1 V.length c1)).set 3 (.slice A2 G.length c2)).ty
            exact ⟨A1, c1, A2, c2, A3, c3, rfl, HWB.out.chgB (((((Chg.refl (B := 0) (ts := [90]) _).setCell (p := ⟨r2, 0, none⟩) g0 (by simp) _ (Nat.zero_le _)).setCell (p := ⟨r2, 1, none⟩) g1 (by simp) _ (Nat.zero_le _)).setCell (p := ⟨r2, 2, none⟩) g2 (by simp) _ (Nat.zero_le _)).setCell (p := ⟨r2, 3, none⟩) g3 (by simp) _ (Nat.zero_le _) |>.setCell (p := ⟨r2, 4, none⟩) g4 (by simp) _ (Nat.zero_le _))⟩
           ·exact ((((HXX.out.setCell (p := ⟨r2, 0, none⟩) hrw _).setCell (p := ⟨r2, 1, none⟩) hrw _).setCell (p := ⟨r2, 2, none⟩) hrw _).setCell (p := ⟨r2, 3, none⟩) hrw _).setCell (p := ⟨r2, 4, none⟩) hrw _
          ·rw [if_neg hro] at HE1
           have HE := HE1
           have HU := hid (show unpackOf (T ++ [x, y, z]) = noBatch by rw [HU0.out, if_neg (by rw [HE.out]; decide)])
           rw [HRO.out] at hro
           cases sb
           ·by_cases hsl : sl = []
            ·subst hsl
             have he : (bstr []).toList.isEmpty = true := by rw [Lib.toList_data, bstr_data]; rfl
             have HWE := hid (show (wireErr (⟨m1, m2, V, G, P⟩ : Batch) != 0) = true by simp_all)
             clear hro hrs
             have y0 := HBK.out.cell (i := 0) (u := .int .i64 m1) rfl
             have y1 := HBK.out.cell (i := 1) (u := .int .i64 m2) rfl
             have y2 := HBK.out.cell (i := 2) (u := .slice A1 V.length c1) rfl
             have y3 := HBK.out.cell (i := 3) (u := .slice A2 G.length c2) rfl
             have y4 := HBK.out.cell (i := 4) (u := .slice A3 P.length c3) rfl
             go_wp2_with fail
             refine (wire_Check 0 (⟨m1, m2, V, G, P⟩ : Batch) A1 c1 A2 c2 A3 c3 wo HWB.out).mono ?_
             rintro e w9 ⟨rfl, hx9⟩
             have hwe := HWE.out
             generalize wireErr (⟨m1, m2, V, G, P⟩ : Batch) = we at hwe
             clear he x0 x1 y0 y1 y2 y3 y4
             have hrs := HRS.out.ext hx9
             have HRS := hid hrs
             have HXX := hid (HXX.out.trans hx9)
             clear hx9
             have u0 := hrs.cell (i := 0) (u := .int .i64 0) rfl
             have z0 := hrs.frozen 0
             have u1 := hrs.cell (i := 1) (u := .int .i64 0) rfl
             have z1 := hrs.frozen 1
             have u2 := hrs.cell (i := 2) (u := .slice none 0 0) rfl
             have z2 := hrs.frozen 2
             have u3 := hrs.cell (i := 3) (u := .slice none 0 0) rfl
             have z3 := hrs.frozen 3
             have u4 := hrs.cell (i := 4) (u := .slice none 0 0) rfl
             have z4 := hrs.frozen 4
             clear hrs HWE
             go_wp2_with fail
             refine bodyPost_ret (res_unp (b := r2) (v := .int .i64 3) (x0 := .int .i64 0) (x1 := .int .i64 0) (x2 := .slice none 0 0) (x3 := .slice none 0 0) (x4 := .slice none 0 0) rfl rfl ?_) rfl ⟨_, by rw [HE.out], ⟨by rw [HU.out]; exact IsB.zero, fun _ => rfl⟩, ?_⟩
             ·exact ((((HRS.out.set 0 (.int .i64 0)).set 1 (.int .i64 0)).set 2 (.slice none 0 0)).set 3 (.slice none 0 0)).set 4 (.slice none 0 0)
             ·exact ((((HXX.out.setCell (p := ⟨r2, 0, none⟩) hrw _).setCell (p := ⟨r2, 1, none⟩) hrw _).setCell (p := ⟨r2, 2, none⟩) hrw _).setCell (p := ⟨r2, 3, none⟩) hrw _).setCell (p := ⟨r2, 4, none⟩) hrw _
            ·have he : (bstr sl).toList.isEmpty = false := by
              rw [Lib.toList_data, bstr_data]
              cases sl
              ·exact absurd rfl hsl
              ·rfl
             clear hro hsl
             have u0 := hrs.cell (i := 0) (u := .int .i64 0) rfl
             have z0 := hrs.frozen 0
             have u1 := hrs.cell (i := 1) (u := .int .i64 0) rfl
             have z1 := hrs.frozen 1
             have u2 := hrs.cell (i := 2) (u := .slice none 0 0) rfl
             have z2 := hrs.frozen 2
             have u3 := hrs.cell (i := 3) (u := .slice none 0 0) rfl
             have z3 := hrs.frozen 3
             have u4 := hrs.cell (i := 4) (u := .slice none 0 0) rfl
             have z4 := hrs.frozen 4
             clear hrs
             go_wp2_with fail
             refine bodyPost_ret (res_unp (b := r2) (v := .int .i64 3) (x0 := .int .i64 0) (x1 := .int .i64 0) (x2 := .slice none 0 0) (x3 := .slice none 0 0) (x4 := .slice none 0 0) rfl rfl ?_) rfl ⟨_, by rw [HE.out], ⟨by rw [HU.out]; exact IsB.zero, fun _ => rfl⟩, ?_⟩
             ·exact ((((HRS.out.set 0 (.int .i64 0)).set 1 (.int .i64 0)).set 2 (.slice none 0 0)).set 3 (.slice none 0 0)).set 4 (.slice none 0 0)
             ·exact ((((HXX.out.setCell (p := ⟨r2, 0, none⟩) hrw _).setCell (p := ⟨r2, 1, none⟩) hrw _).setCell (p := ⟨r2, 2, none⟩) hrw _).setCell (p := ⟨r2, 3, none⟩) hrw _).setCell (p := ⟨r2, 4, none⟩) hrw _
           ·clear hro
            have u0 := hrs.cell (i := 0) (u := .int .i64 0) rfl
            have z0 := hrs.frozen 0
            have u1 := hrs.cell (i := 1) (u := .int .i64 0) rfl
            have z1 := hrs.frozen 1
            have u2 := hrs.cell (i := 2) (u := .slice none 0 0) rfl
            have z2 := hrs.frozen 2
            have u3 := hrs.cell (i := 3) (u := .slice none 0 0) rfl
            have z3 := hrs.frozen 3
            have u4 := hrs.cell (i := 4) (u := .slice none 0 0) rfl
            have z4 := hrs.frozen 4
            clear hrs
            go_wp2_with fail
            refine bodyPost_ret (res_unp (b := r2) (v := .int .i64 3) (x0 := .int .i64 0) (x1 := .int .i64 0) (x2 := .slice none 0 0) (x3 := .slice none 0 0) (x4 := .slice none 0 0) rfl rfl ?_) rfl ⟨_, by rw [HE.out], ⟨by rw [HU.out]; exact IsB.zero, fun _ => rfl⟩, ?_⟩
            ·exact ((((HRS.out.set 0 (.int .i64 0)).set 1 (.int .i64 0)).set 2 (.slice none 0 0)).set 3 (.slice none 0 0)).set 4 (.slice none 0 0)
            ·exact ((((HXX.out.setCell (p := ⟨r2, 0, none⟩) hrw _).setCell (p := ⟨r2, 1, none⟩) hrw _).setCell (p := ⟨r2, 2, none⟩) hrw _).setCell (p := ⟨r2, 3, none⟩) hrw _).setCell (p := ⟨r2, 4, none⟩) hrw _
         ·obtain ⟨q, rfl⟩ : ∃ q, r = q + 1 := ⟨r - 1, by omega⟩
          have hd : decide ((0 : Int) < ((q + 1 : Nat) : Int)) = true := decide_eq_true (by omega)
          have hqs : (q : Int) ≤ 1000 := by have := HN3.out; omega
          have HS := hid (rmany_succ rpart j sf)
          have HLen := hid (show (rmany rpart j sf).1.length + 1 ≤ 1000 by rw [rmany_len]; have := HN3.out; omega)
          obtain ⟨l, hl⟩ : ∃ l, l = (rmany rpart j sf).1 := ⟨_, rfl⟩
          obtain ⟨s, hs⟩ : ∃ s, s = (rmany rpart j sf).2 := ⟨_, rfl⟩
          rw [← hl] at hov HLen HS
          rw [← hs] at hbr HS
          clear hl hs hr0
          go_wp2_with fail
          clear hd
          have hxa := (Ext.refl wo).drew
          replace hbk := hbk.ext hxa
          replace hrs := hrs.ext hxa
          replace hov := hov.ext (B := 0) (RPart.mono (by decide) (by decide) (by decide) (by decide)) hxa
          replace hx := hx.trans hxa
          replace hv1 := hv1.ext (RVer.mono (by decide) (by decide)) hxa
          replace hg1 := hg1.ext (RGone.mono (by decide) (by decide)) hxa
          replace hbr := hbr.ext hxa
          refine wp_region_held_drew (S := fun _ => True) (by kernel_rfl) trivial (fun hHeld => ?_)
          obtain ⟨wc, hwc⟩ : ∃ wc, wc = wo.drew := ⟨_, rfl⟩
          rw [← hwc] at hbk hrs hov hx hv1 hg1 hbr ⊢
          clear hwc hxa
          refine tk 0 ?_ rfl (by kernel_rfl) (fun _ _ _ h => h) (by rfl) ?_ (by assumption) ?_
          rotate_left
          ·intro w' hSw; (try dsimp only at hSw); go_simp <;> with_reducible rfl
          simp only [gq]; try simp only [pq]
          refine tk 2 ?_ rfl (by kernel_rfl) (fun _ _ _ h => h) (by rfl) ?_ (by assumption) ?_
          rotate_left
          ·intro w' hSw; (try dsimp only at hSw); go_simp <;> with_reducible rfl
          simp only [gq]; try simp only [pq]
          refine tk 4 ?_ rfl (by kernel_rfl) (fun _ _ _ h => h) (by rfl) ?_ (by assumption) ?_
          rotate_left
          ·intro w' hSw; (try dsimp only at hSw); go_simp <;> with_reducible rfl
          simp only [gq]; try simp only [pq]
          refine wpAnyH_ready (rs := [1, 3]) (by kernel_rfl) (by simp) ?_
          refine AllReadyH.cons rfl (fun K hK => ?_) ?_
          ·simp only [gq]
           have y0 := hbk.cell (i := 4) (u := v) rfl
           go_simp
           clear y0
           refine hK.out _ _ trivial (fun hHeld => ?_)
           clear hK K
           try simp only [pq]
           refine wpAnyH_ready (rs := [3]) (by kernel_rfl) (by simp) ?_
           refine AllReadyH.cons rfl (fun K hK => ?_) AllReadyH.nil
           simp only [gq]
           go_simp
           refine (rd_filter w.heap.size p s wc hp hbr).mono ?_
           rintro e wn ⟨xf, rfl, hf, hbn, hc⟩
           dsimp only
           obtain ⟨Af, cf, rfl, f1, f2, hf6⟩ := hf
           clear hbr
           have hbr := hbn
           clear hbn
           replace hf6 : Sl 0 142 (RBox 0) 3 wn Af (rlist 40 rbox s).1 := hf6
           replace hbk := hbk.chg hc (by decide)
           replace hrs := hrs.chg hc (by decide)
           replace hov := hov.chgT (B := 0) (RPart.mono (by decide) (by decide) (by decide) (by decide)) (by decide) (hc.down (Nat.zero_le _))
           replace hx := hx.chgw hc
           replace hv1 := hv1.chg (RVer.mono (by decide) (by decide)) (by decide) (hc.down (Nat.zero_le _))
           replace hg1 := hg1.chg (RGone.mono (by decide) (by decide)) (by decide) (hc.down (Nat.zero_le _))
           clear hc
           obtain ⟨ff, hff⟩ : ∃ x, x = (rlist 40 rbox s).1 := ⟨_, rfl⟩
           obtain ⟨sa, hsa⟩ : ∃ x, x = (rlist 40 rbox s).2 := ⟨_, rfl⟩
           rw [← hsa] at hbr
           rw [← hff] at hf6 f1
           rw [← hff]
           have H1 := hid (show rlist 40 rbox s = (ff, sa) by rw [hff, hsa])
           clear hff hsa
           obtain ⟨wc, rfl⟩ : ∃ wc', wc' = wn := ⟨_, rfl⟩
           refine hK.out _ _ trivial (fun hHeld => ?_)
           clear hK K
           try simp only [pq]
           refine wpAnyH_ready (rs := [5]) (by kernel_rfl) (by simp) ?_
           refine AllReadyH.cons rfl (fun K hK => ?_) AllReadyH.nil
           simp only [gq]
           go_simp
           refine (rd_know w.heap.size p sa wc hp hbr).mono ?_
           rintro e wn ⟨xk, rfl, hk, hbn, hc⟩
           dsimp only
           obtain ⟨Av, cv, Am, cm, rfl, k1, k2, k3, k4, hk6⟩ := hk
           clear hbr
           have hbr := hbn
           clear hbn
           replace hbk := hbk.chg hc (by decide)
           replace hrs := hrs.chg hc (by decide)
           replace hov := hov.chgT (B := 0) (RPart.mono (by decide) (by decide) (by decide) (by decide)) (by decide) (hc.down (Nat.zero_le _))
           replace hx := hx.chgw hc
           replace hv1 := hv1.chg (RVer.mono (by decide) (by decide)) (by decide) (hc.down (Nat.zero_le _))
           replace hg1 := hg1.chg (RGone.mono (by decide) (by decide)) (by decide) (hc.down (Nat.zero_le _))
           replace hf6 := hf6.chg (RBox.mono (by decide)) (by decide) (hc.down (Nat.zero_le _))
           clear hc
           obtain ⟨kk, hkk⟩ : ∃ x, x = (rknow sa).1 := ⟨_, rfl⟩
           obtain ⟨s7, hs7⟩ : ∃ x, x = (rknow sa).2 := ⟨_, rfl⟩
           rw [← hs7] at hbr
           rw [← hkk] at hk6 k1 k3
           rw [← hkk]
           have HE := hid (rpart_eq H1.out (show rknow sa = (kk, s7) by rw [hkk, hs7]))
           clear hkk hs7 H1
           obtain ⟨wc, rfl⟩ : ∃ wc', wc' = wn := ⟨_, rfl⟩
           refine hK.out _ _ trivial (fun hHeld => ?_)
           clear hK K
           try simp only [pq]
           refine tk 6 ?_ rfl (by kernel_rfl) (fun _ _ _ h => h) (by rfl) ?_ (by assumption) ?_
           rotate_left
           ·intro w' hSw; (try dsimp only at hSw); go_simp <;> with_reducible rfl
           simp only [gq]; try simp only [pq]
           refine wpAnyH_ready (rs := [7]) (by kernel_rfl) (by simp) ?_
           refine AllReadyH.cons rfl (fun K hK => ?_) AllReadyH.nil
           simp only [gq]
           go_simp
           have hxa := (Ext.refl wc).alloc (.cells #[.slice Af ff.length cf, .slice Av kk.vec.length cv, .slice Am kk.more.length cm] 181)
           obtain ⟨wn, hwn⟩ : ∃ wn, wn = wc.alloc (.cells #[.slice Af ff.length cf, .slice Av kk.vec.length cv, .slice Am kk.more.length cm] 181) := ⟨_, rfl⟩
           rw [← hwn] at hxa
           replace hbk := hbk.ext hxa
           replace hrs := hrs.ext hxa
           replace hov := hov.ext (B := 0) (RPart.mono (by decide) (by decide) (by decide) (by decide)) hxa
           replace hx := hx.trans hxa
           replace hv1 := hv1.ext (RVer.mono (by decide) (by decide)) hxa
           replace hg1 := hg1.ext (RGone.mono (by decide) (by decide)) hxa
           replace hf6 := hf6.ext (RBox.mono (by decide)) hxa
           replace hk6 := hk6.ext hxa
           replace hbr := hbr.ext hxa
           have hL : Sl 0 181 (RPart 0) 3 wn (some ⟨wc.heap.size, 0, none⟩) [(⟨ff, kk⟩ : Part)] := Sl.one (cs := [.slice Af ff.length cf, .slice Av kk.vec.length cv, .slice Am kk.more.length cm]) hwn rfl ⟨_, _, _, rfl, ⟨Af, cf, rfl, f1, f2, hf6⟩, ⟨Av, cv, rfl, k1, k2, hk6.sv⟩, ⟨Am, cm, rfl, k3, k4, hk6.sm⟩⟩
           obtain ⟨a4, ha4⟩ : ∃ a, a = some (⟨wc.heap.size, 0, none⟩ : Addr) := ⟨_, rfl⟩
           rw [← hwn, ← ha4]
           rw [← ha4] at hL
           clear hxa hwn ha4 hf6 hk6
           obtain ⟨wc, rfl⟩ : ∃ wc', wc' = wn := ⟨_, rfl⟩
           refine hK.out _ _ trivial (fun hHeld => ?_)
           clear hK K
           try simp only [pq]
           refine wpAnyH_ready (rs := [8]) (by kernel_rfl) (by simp) ?_
           refine AllReadyH.cons rfl (fun K hK => ?_) AllReadyH.nil
           simp only [gq]
           simp only [Region.wanted, if_true]
           refine wp_app (.tmp 111) (.tmp 117) rfl ei_partU rfl hov (B := 0) (Nat.zero_le _) hx.size (ys := [(⟨ff, kk⟩ : Part)]) (c := 1) rfl hL RPart.oneC (RPart.mono (by decide) (by decide) (by decide) (by decide)) (by have := HLen.out; simp [maxLen]; omega) (by have := HLen.out; simp; omega) ?_
           intro v5 wn hov5 hch hbl _
           replace hbr := hbr.chg hch (by decide)
           replace hbk := hbk.chg hch (by decide)
           replace hrs := hrs.chg hch (by decide)
           replace hx := hx.below hbl (Nat.le_refl _)
           replace hv1 := hv1.chg (RVer.mono (by decide) (by decide)) (by decide) hch
           replace hg1 := hg1.chg (RGone.mono (by decide) (by decide)) (by decide) hch
           clear hch hbl hov hL
           obtain ⟨wc, rfl⟩ : ∃ wc', wc' = wn := ⟨_, rfl⟩
           refine hK.out _ _ trivial (fun hHeld => ?_)
           clear hK K
           try simp only [pq]
           refine tk 9 ?_ rfl (by kernel_rfl) (fun _ _ _ h => h) (by rfl) ?_ (by assumption) ?_
           rotate_left
           ·intro w' hSw; (try dsimp only at hSw); go_simp <;> with_reducible rfl
           simp only [gq]; try simp only [pq]
           refine wpAnyH_ready (rs := [10]) (by kernel_rfl) (by simp) ?_
           refine AllReadyH.cons rfl (fun K hK => ?_) AllReadyH.nil
           simp only [gq]
           obtain ⟨A5, c5, hv5, _, _⟩ := hov5.len
           obtain ⟨n5, hn5⟩ : ∃ n, n = (l ++ [(⟨ff, kk⟩ : Part)]).length := ⟨_, rfl⟩
           rw [← hn5] at hv5
           subst hv5
           clear hn5
           obtain ⟨v5, hv5⟩ : ∃ v, v = Value.slice A5 n5 c5 := ⟨_, rfl⟩
           rw [← hv5] at hov5
           have y0 := hbk.cell (i := 4) (u := v) rfl
           have z0 := hbk.frozen 4
           go_simp
           rw [← hv5]
           clear hv5
           have hch := (Chg.refl (B := 0) (ts := [90]) wc).setCell (p := ⟨kb, 4, none⟩) hbk.ty (by simp) v5 (Nat.zero_le _)
           have hbl : Below w.heap.size wc (wc.setCell ⟨kb, 4, none⟩ v5) := (Below.refl _ _).setCell (p := ⟨kb, 4, none⟩) hkb v5
           replace hbr := hbr.chg hch (by decide)
           replace hov5 := hov5.chgT (B := 0) (RPart.mono (by decide) (by decide) (by decide) (by decide)) (by decide) hch
           replace hrs := hrs.far (p := ⟨kb, 4, none⟩) hkf v5
           replace hx := hx.below hbl (Nat.le_refl _)
           replace hv1 := hv1.chg (RVer.mono (by decide) (by decide)) (by decide) hch
           replace hg1 := hg1.chg (RGone.mono (by decide) (by decide)) (by decide) hch
           replace hbk := hbk.set 4 v5
           clear y0 z0 hch hbl
           obtain ⟨wn, hwn⟩ : ∃ wn, wn = wc.setCell ⟨kb, 4, none⟩ v5 := ⟨_, rfl⟩
           rw [← hwn] at hbr hov5 hbk hrs hx hv1 hg1 ⊢
           clear hwn
           obtain ⟨wc, rfl⟩ : ∃ wc', wc' = wn := ⟨_, rfl⟩
           refine hK.out _ _ trivial (fun hHeld => ?_)
           clear hK K
           try simp only [pq]
           refine wpAnyH_done (by kernel_rfl) ?_ _
           go_wp2_with fail
           go_roundw
           case rel => exact ⟨j + 1, q, v5, by omega, by first | rfl | go_num, by rw [HS.out, HE.out]; exact hbr, hbk, by rw [HS.out, HE.out]; exact hov5, hx, hrs, hv1, hg1⟩
           case measure => simp [intOf]
          refine AllReadyH.cons rfl (fun K hK => ?_) AllReadyH.nil
          simp only [gq]
          go_simp
          refine (rd_filter w.heap.size p s wc hp hbr).mono ?_
          rintro e wn ⟨xf, rfl, hf, hbn, hc⟩
          dsimp only
          obtain ⟨Af, cf, rfl, f1, f2, hf6⟩ := hf
          clear hbr
          have hbr := hbn
          clear hbn
          replace hf6 : Sl 0 142 (RBox 0) 3 wn Af (rlist 40 rbox s).1 := hf6
          replace hbk := hbk.chg hc (by decide)
          replace hrs := hrs.chg hc (by decide)
          replace hov := hov.chgT (B := 0) (RPart.mono (by decide) (by decide) (by decide) (by decide)) (by decide) (hc.down (Nat.zero_le _))
          replace hx := hx.chgw hc
          replace hv1 := hv1.chg (RVer.mono (by decide) (by decide)) (by decide) (hc.down (Nat.zero_le _))
          replace hg1 := hg1.chg (RGone.mono (by decide) (by decide)) (by decide) (hc.down (Nat.zero_le _))
          clear hc
          obtain ⟨ff, hff⟩ : ∃ x, x = (rlist 40 rbox s).1 := ⟨_, rfl⟩
          obtain ⟨sa, hsa⟩ : ∃ x, x = (rlist 40 rbox s).2 := ⟨_, rfl⟩
          rw [← hsa] at hbr
          rw [← hff] at hf6 f1
          rw [← hff]
          have H1 := hid (show rlist 40 rbox s = (ff, sa) by rw [hff, hsa])
          clear hff hsa
          obtain ⟨wc, rfl⟩ : ∃ wc', wc' = wn := ⟨_, rfl⟩
          refine hK.out _ _ trivial (fun hHeld => ?_)
          clear hK K
          try simp only [pq]
          refine wpAnyH_ready (rs := [1, 5]) (by kernel_rfl) (by simp) ?_
          refine AllReadyH.cons rfl (fun K hK => ?_) ?_
          ·simp only [gq]
           have y0 := hbk.cell (i := 4) (u := v) rfl
           go_simp
           clear y0
           refine hK.out _ _ trivial (fun hHeld => ?_)
           clear hK K
           try simp only [pq]
           refine wpAnyH_ready (rs := [5]) (by kernel_rfl) (by simp) ?_
           refine AllReadyH.cons rfl (fun K hK => ?_) AllReadyH.nil
           simp only [gq]
           go_simp
           refine (rd_know w.heap.size p sa wc hp hbr).mono ?_
           rintro e wn ⟨xk, rfl, hk, hbn, hc⟩
           dsimp only
           obtain ⟨Av, cv, Am, cm, rfl, k1, k2, k3, k4, hk6⟩ := hk
           clear hbr
           have hbr := hbn
           clear hbn
           replace hbk := hbk.chg hc (by decide)
           replace hrs := hrs.chg hc (by decide)
           replace hov := hov.chgT (B := 0) (RPart.mono (by decide) (by decide) (by decide) (by decide)) (by decide) (hc.down (Nat.zero_le _))
           replace hx := hx.chgw hc
           replace hv1 := hv1.chg (RVer.mono (by decide) (by decide)) (by decide) (hc.down (Nat.zero_le _))
           replace hg1 := hg1.chg (RGone.mono (by decide) (by decide)) (by decide) (hc.down (Nat.zero_le _))
           replace hf6 := hf6.chg (RBox.mono (by decide)) (by decide) (hc.down (Nat.zero_le _))
           clear hc
           obtain ⟨kk, hkk⟩ : ∃ x, x = (rknow sa).1 := ⟨_, rfl⟩
           obtain ⟨s7, hs7⟩ : ∃ x, x = (rknow sa).2 := ⟨_, rfl⟩
           rw [← hs7] at hbr
           rw [← hkk] at hk6 k1 k3
           rw [← hkk]
           have HE := hid (rpart_eq H1.out (show rknow sa = (kk, s7) by rw [hkk, hs7]))
           clear hkk hs7 H1
           obtain ⟨wc, rfl⟩ : ∃ wc', wc' = wn := ⟨_, rfl⟩
           refine hK.out _ _ trivial (fun hHeld => ?_)
           clear hK K
           try simp only [pq]
           refine tk 6 ?_ rfl (by kernel_rfl) (fun _ _ _ h => h) (by rfl) ?_ (by assumption) ?_
           rotate_left
           ·intro w' hSw; (try dsimp only at hSw); go_simp <;> with_reducible rfl
           simp only [gq]; try simp only [pq]
           refine wpAnyH_ready (rs := [7]) (by kernel_rfl) (by simp) ?_
           refine AllReadyH.cons rfl (fun K hK => ?_) AllReadyH.nil
           simp only [gq]
           go_simp
           have hxa := (Ext.refl wc).alloc (.cells #[.slice Af ff.length cf, .slice Av kk.vec.length cv, .slice Am kk.more.length cm] 181)
           obtain ⟨wn, hwn⟩ : ∃ wn, wn = wc.alloc (.cells #[.slice Af ff.length cf, .slice Av kk.vec.length cv, .slice Am kk.more.length cm] 181) := ⟨_, rfl⟩
           rw [← hwn] at hxa
           replace hbk := hbk.ext hxa
           replace hrs := hrs.ext hxa
           replace hov := hov.ext (B := 0) (RPart.mono (by decide) (by decide) (by decide) (by decide)) hxa
           replace hx := hx.trans hxa
           replace hv1 := hv1.ext (RVer.mono (by decide) (by decide)) hxa
           replace hg1 := hg1.ext (RGone.mono (by decide) (by decide)) hxa
           replace hf6 := hf6.ext (RBox.mono (by decide)) hxa
           replace hk6 := hk6.ext hxa
           replace hbr := hbr.ext hxa
           have hL : Sl 0 181 (RPart 0) 3 wn (some ⟨wc.heap.size, 0, none⟩) [(⟨ff, kk⟩ : Part)] := Sl.one (cs := [.slice Af ff.length cf, .slice Av kk.vec.length cv, .slice Am kk.more.length cm]) hwn rfl ⟨_, _, _, rfl, ⟨Af, cf, rfl, f1, f2, hf6⟩, ⟨Av, cv, rfl, k1, k2, hk6.sv⟩, ⟨Am, cm, rfl, k3, k4, hk6.sm⟩⟩
           obtain ⟨a4, ha4⟩ : ∃ a, a = some (⟨wc.heap.size, 0, none⟩ : Addr) := ⟨_, rfl⟩
           rw [← hwn, ← ha4]
           rw [← ha4] at hL
           clear hxa hwn ha4 hf6 hk6
           obtain ⟨wc, rfl⟩ : ∃ wc', wc' = wn := ⟨_, rfl⟩
           refine hK.out _ _ trivial (fun hHeld => ?_)
           clear hK K
           try simp only [pq]
           refine wpAnyH_ready (rs := [8]) (by kernel_rfl) (by simp) ?_
           refine AllReadyH.cons rfl (fun K hK => ?_) AllReadyH.nil
           simp only [gq]
           simp only [Region.wanted, if_true]
           refine wp_app (.tmp 111) (.tmp 117) rfl ei_partU rfl hov (B := 0) (Nat.zero_le _) hx.size (ys := [(⟨ff, kk⟩ : Part)]) (c := 1) rfl hL RPart.oneC (RPart.mono (by decide) (by decide) (by decide) (by decide)) (by have := HLen.out; simp [maxLen]; omega) (by have := HLen.out; simp; omega) ?_
           intro v5 wn hov5 hch hbl _
           replace hbr := hbr.chg hch (by decide)
           replace hbk := hbk.chg hch (by decide)
           replace hrs := hrs.chg hch (by decide)
           replace hx := hx.below hbl (Nat.le_refl _)
           replace hv1 := hv1.chg (RVer.mono (by decide) (by decide)) (by decide) hch
           replace hg1 := hg1.chg (RGone.mono (by decide) (by decide)) (by decide) hch
           clear hch hbl hov hL
           obtain ⟨wc, rfl⟩ : ∃ wc', wc' = wn := ⟨_, rfl⟩
           refine hK.out _ _ trivial (fun hHeld => ?_)
           clear hK K
           try simp only [pq]
           refine tk 9 ?_ rfl (by kernel_rfl) (fun _ _ _ h => h) (by rfl) ?_ (by assumption) ?_
           rotate_left
           ·intro w' hSw; (try dsimp only at hSw); go_simp <;> with_reducible rfl
           simp only [gq]; try simp only [pq]
           refine wpAnyH_ready (rs := [10]) (by kernel_rfl) (by simp) ?_
           refine AllReadyH.cons rfl (fun K hK => ?_) AllReadyH.nil
           simp only [gq]
           obtain ⟨A5, c5, hv5, _, _⟩ := hov5.len
           obtain ⟨n5, hn5⟩ : ∃ n, n = (l ++ [(⟨ff, kk⟩ : Part)]).length := ⟨_, rfl⟩
           rw [← hn5] at hv5
           subst hv5
           clear hn5
           obtain ⟨v5, hv5⟩ : ∃ v, v = Value.slice A5 n5 c5 := ⟨_, rfl⟩
           rw [← hv5] at hov5
           have y0 := hbk.cell (i := 4) (u := v) rfl
           have z0 := hbk.frozen 4
           go_simp
           rw [← hv5]
           clear hv5
           have hch := (Chg.refl (B := 0) (ts := [90]) wc).setCell (p := ⟨kb, 4, none⟩) hbk.ty (by simp) v5 (Nat.zero_le _)
           have hbl : Below w.heap.size wc (wc.setCell ⟨kb, 4, none⟩ v5) := (Below.refl _ _).setCell (p := ⟨kb, 4, none⟩) hkb v5
           replace hbr := hbr.chg hch (by decide)
           replace hov5 := hov5.chgT (B := 0) (RPart.mono (by decide) (by decide) (by decide) (by decide)) (by decide) hch
           replace hrs := hrs.far (p := ⟨kb, 4, none⟩) hkf v5
           replace hx := hx.below hbl (Nat.le_refl _)
           replace hv1 := hv1.chg (RVer.mono (by decide) (by decide)) (by decide) hch
           replace hg1 := hg1.chg (RGone.mono (by decide) (by decide)) (by decide) hch
           replace hbk := hbk.set 4 v5
           clear y0 z0 hch hbl
           obtain ⟨wn, hwn⟩ : ∃ wn, wn = wc.setCell ⟨kb, 4, none⟩ v5 := ⟨_, rfl⟩
           rw [← hwn] at hbr hov5 hbk hrs hx hv1 hg1 ⊢
           clear hwn
           obtain ⟨wc, rfl⟩ : ∃ wc', wc' = wn := ⟨_, rfl⟩
           refine hK.out _ _ trivial (fun hHeld => ?_)
           clear hK K
           try simp only [pq]
           refine wpAnyH_done (by kernel_rfl) ?_ _
           go_wp2_with fail
           go_roundw
           case rel => exact ⟨j + 1, q, v5, by omega, by first | rfl | go_num, by rw [HS.out, HE.out]; exact hbr, hbk, by rw [HS.out, HE.out]; exact hov5, hx, hrs, hv1, hg1⟩
           case measure => simp [intOf]
          refine AllReadyH.cons rfl (fun K hK => ?_) AllReadyH.nil
          simp only [gq]
          go_simp
          refine (rd_know w.heap.size p sa wc hp hbr).mono ?_
          rintro e wn ⟨xk, rfl, hk, hbn, hc⟩
          dsimp only
          obtain ⟨Av, cv, Am, cm, rfl, k1, k2, k3, k4, hk6⟩ := hk
          clear hbr
          have hbr := hbn
          clear hbn
          replace hbk := hbk.chg hc (by decide)
          replace hrs := hrs.chg hc (by decide)
          replace hov := hov.chgT (B := 0) (RPart.mono (by decide) (by decide) (by decide) (by decide)) (by decide) (hc.down (Nat.zero_le _))
          replace hx := hx.chgw hc
          replace hv1 := hv1.chg (RVer.mono (by decide) (by decide)) (by decide) (hc.down (Nat.zero_le _))
          replace hg1 := hg1.chg (RGone.mono (by decide) (by decide)) (by decide) (hc.down (Nat.zero_le _))
          replace hf6 := hf6.chg (RBox.mono (by decide)) (by decide) (hc.down (Nat.zero_le _))
          clear hc
          obtain ⟨kk, hkk⟩ : ∃ x, x = (rknow sa).1 := ⟨_, rfl⟩
          obtain ⟨s7, hs7⟩ : ∃ x, x = (rknow sa).2 := ⟨_, rfl⟩
          rw [← hs7] at hbr
          rw [← hkk] at hk6 k1 k3
          rw [← hkk]
          have HE := hid (rpart_eq H1.out (show rknow sa = (kk, s7) by rw [hkk, hs7]))
          clear hkk hs7 H1
          obtain ⟨wc, rfl⟩ : ∃ wc', wc' = wn := ⟨_, rfl⟩
          refine hK.out _ _ trivial (fun hHeld => ?_)
          clear hK K
          try simp only [pq]
          refine tk 6 ?_ rfl (by kernel_rfl) (fun _ _ _ h => h) (by rfl) ?_ (by assumption) ?_
          rotate_left
          ·intro w' hSw; (try dsimp only at hSw); go_simp <;> with_reducible rfl
          simp only [gq]; try simp only [pq]
          refine wpAnyH_ready (rs := [1, 7]) (by kernel_rfl) (by simp) ?_
          refine AllReadyH.cons rfl (fun K hK => ?_) ?_
          ·simp only [gq]
           have y0 := hbk.cell (i := 4) (u := v) rfl
           go_simp
           clear y0
           refine hK.out _ _ trivial (fun hHeld => ?_)
           clear hK K
           try simp only [pq]
           refine wpAnyH_ready (rs := [7]) (by kernel_rfl) (by simp) ?_
           refine AllReadyH.cons rfl (fun K hK => ?_) AllReadyH.nil
           simp only [gq]
           go_simp
           have hxa := (Ext.refl wc).alloc (.cells #[.slice Af ff.length cf, .slice Av kk.vec.length cv, .slice Am kk.more.length cm] 181)
           obtain ⟨wn, hwn⟩ : ∃ wn, wn = wc.alloc (.cells #[.slice Af ff.length cf, .slice Av kk.vec.length cv, .slice Am kk.more.length cm] 181) := ⟨_, rfl⟩
           rw [← hwn] at hxa
           replace hbk := hbk.ext hxa
           replace hrs := hrs.ext hxa
           replace hov := hov.ext (B := 0) (RPart.mono (by decide) (by decide) (by decide) (by decide)) hxa
           replace hx := hx.trans hxa
           replace hv1 := hv1.ext (RVer.mono (by decide) (by decide)) hxa
           replace hg1 := hg1.ext (RGone.mono (by decide) (by decide)) hxa
           replace hf6 := hf6.ext (RBox.mono (by decide)) hxa
           replace hk6 := hk6.ext hxa
           replace hbr := hbr.ext hxa
           have hL : Sl 0 181 (RPart 0) 3 wn (some ⟨wc.heap.size, 0, none⟩) [(⟨ff, kk⟩ : Part)] := Sl.one (cs := [.slice Af ff.length cf, .slice Av kk.vec.length cv, .slice Am kk.more.length cm]) hwn rfl ⟨_, _, _, rfl, ⟨Af, cf, rfl, f1, f2, hf6⟩, ⟨Av, cv, rfl, k1, k2, hk6.sv⟩, ⟨Am, cm, rfl, k3, k4, hk6.sm⟩⟩
           obtain ⟨a4, ha4⟩ : ∃ a, a = some (⟨wc.heap.size, 0, none⟩ : Addr) := ⟨_, rfl⟩
           rw [← hwn, ← ha4]
           rw [← ha4] at hL
           clear hxa hwn ha4 hf6 hk6
           obtain ⟨wc, rfl⟩ : ∃ wc', wc' = wn := ⟨_, rfl⟩
           refine hK.out _ _ trivial (fun hHeld => ?_)
           clear hK K
           try simp only [pq]
           refine wpAnyH_ready (rs := [8]) (by kernel_rfl) (by simp) ?_
           refine AllReadyH.cons rfl (fun K hK => ?_) AllReadyH.nil
           simp only [gq]
           simp only [Region.wanted, if_true]
           refine wp_app (.tmp 111) (.tmp 117) rfl ei_partU rfl hov (B := 0) (Nat.zero_le _) hx.size (ys := [(⟨ff, kk⟩ : Part)]) (c := 1) rfl hL RPart.oneC (RPart.mono (by decide) (by decide) (by decide) (by decide)) (by have := HLen.out; simp [maxLen]; omega) (by have := HLen.out; simp; omega) ?_
           intro v5 wn hov5 hch hbl _
           replace hbr := hbr.chg hch (by decide)
           replace hbk := hbk.chg hch (by decide)
           replace hrs := hrs.chg hch (by decide)
           replace hx := hx.below hbl (Nat.le_refl _)
           replace hv1 := hv1.chg (RVer.mono (by decide) (by decide)) (by decide) hch
           replace hg1 := hg1.chg (RGone.mono (by decide) (by decide)) (by decide) hch
           clear hch hbl hov hL
           obtain ⟨wc, rfl⟩ : ∃ wc', wc' = wn := ⟨_, rfl⟩
           refine hK.out _ _ trivial (fun hHeld => ?_)
           clear hK K
           try simp only [pq]
           refine tk 9 ?_ rfl (by kernel_rfl) (fun _ _ _ h => h) (by rfl) ?_ (by assumption) ?_
           rotate_left
           ·intro w' hSw; (try dsimp only at hSw); go_simp <;> with_reducible rfl
           simp only [gq]; try simp only [pq]
           refine wpAnyH_ready (rs := [10]) (by kernel_rfl) (by simp) ?_
           refine AllReadyH.cons rfl (fun K hK => ?_) AllReadyH.nil
           simp only [gq]
           obtain ⟨A5, c5, hv5, _, _⟩ := hov5.len
           obtain ⟨n5, hn5⟩ : ∃ n, n = (l ++ [(⟨ff, kk⟩ : Part)]).length := ⟨_, rfl⟩
           rw [← hn5] at hv5
           subst hv5
           clear hn5
           obtain ⟨v5, hv5⟩ : ∃ v, v = Value.slice A5 n5 c5 := ⟨_, rfl⟩
           rw [← hv5] at hov5
           have y0 := hbk.cell (i := 4) (u := v) rfl
           have z0 := hbk.frozen 4
           go_simp
           rw [← hv5]
           clear hv5
           have hch := (Chg.refl (B := 0) (ts := [90]) wc).setCell (p := ⟨kb, 4, none⟩) hbk.ty (by simp) v5 (Nat.zero_le _)
           have hbl : Below w.heap.size wc (wc.setCell ⟨kb, 4, none⟩ v5) := (Below.refl _ _).setCell (p := ⟨kb, 4, none⟩) hkb v5
           replace hbr := hbr.chg hch (by decide)
           replace hov5 := hov5.chgT (B := 0) (RPart.mono (by decide) (by decide) (by decide) (by decide)) (by decide) hch
           replace hrs := hrs.far (p := ⟨kb, 4, none⟩) hkf v5
           replace hx := hx.below hbl (Nat.le_refl _)
           replace hv1 := hv1.chg (RVer.mono (by decide) (by decide)) (by decide) hch
           replace hg1 := hg1.chg (RGone.mono (by decide) (by decide)) (by decide) hch
           replace hbk := hbk.set 4 v5
           clear y0 z0 hch hbl
           obtain ⟨wn, hwn⟩ : ∃ wn, wn = wc.setCell ⟨kb, 4, none⟩ v5 := ⟨_, rfl⟩
           rw [← hwn] at hbr hov5 hbk hrs hx hv1 hg1 ⊢
           clear hwn
           obtain ⟨wc, rfl⟩ : ∃ wc', wc' = wn := ⟨_, rfl⟩
           refine hK.out _ _ trivial (fun hHeld => ?_)
           clear hK K
           try simp only [pq]
           refine wpAnyH_done (by kernel_rfl) ?_ _
           go_wp2_with fail
           go_roundw
           case rel => exact ⟨j + 1, q, v5, by omega, by first | rfl | go_num, by rw [HS.out, HE.out]; exact hbr, hbk, by rw [HS.out, HE.out]; exact hov5, hx, hrs, hv1, hg1⟩
           case measure => simp [intOf]
          refine AllReadyH.cons rfl (fun K hK => ?_) AllReadyH.nil
          simp only [gq]
          go_simp
          have hxa := (Ext.refl wc).alloc (.cells #[.slice Af ff.length cf, .slice Av kk.vec.length cv, .slice Am kk.more.length cm] 181)
          obtain ⟨wn, hwn⟩ : ∃ wn, wn = wc.alloc (.cells #[.slice Af ff.length cf, .slice Av kk.vec.length cv, .slice Am kk.more.length cm] 181) := ⟨_, rfl⟩
          rw [← hwn] at hxa
          replace hbk := hbk.ext hxa
          replace hrs := hrs.ext hxa
          replace hov := hov.ext (B := 0) (RPart.mono (by decide) (by decide) (by decide) (by decide)) hxa
          replace hx := hx.trans hxa
          replace hv1 := hv1.ext (RVer.mono (by decide) (by decide)) hxa
          replace hg1 := hg1.ext (RGone.mono (by decide) (by decide)) hxa
          replace hf6 := hf6.ext (RBox.mono (by decide)) hxa
          replace hk6 := hk6.ext hxa
          replace hbr := hbr.ext hxa
          have hL : Sl 0 181 (RPart 0) 3 wn (some ⟨wc.heap.size, 0, none⟩) [(⟨ff, kk⟩ : Part)] := Sl.one (cs := [.slice Af ff.length cf, .slice Av kk.vec.length cv, .slice Am kk.more.length cm]) hwn rfl ⟨_, _, _, rfl, ⟨Af, cf, rfl, f1, f2, hf6⟩, ⟨Av, cv, rfl, k1, k2, hk6.sv⟩, ⟨Am, cm, rfl, k3, k4, hk6.sm⟩⟩
          obtain ⟨a4, ha4⟩ : ∃ a, a = some (⟨wc.heap.size, 0, none⟩ : Addr) := ⟨_, rfl⟩
          rw [← hwn, ← ha4]
          rw [← ha4] at hL
          clear hxa hwn ha4 hf6 hk6
          obtain ⟨wc, rfl⟩ : ∃ wc', wc' = wn := ⟨_, rfl⟩
          refine hK.out _ _ trivial (fun hHeld => ?_)
          clear hK K
          try simp only [pq]
          refine wpAnyH_ready (rs := [1]) (by kernel_rfl) (by simp) ?_
          refine AllReadyH.cons rfl (fun K hK => ?_) AllReadyH.nil
          simp only [gq]
          have y0 := hbk.cell (i := 4) (u := v) rfl
          go_simp
          clear y0
          refine hK.out _ _ trivial (fun hHeld => ?_)
          clear hK K
          try simp only [pq]
          refine wpAnyH_ready (rs := [8]) (by kernel_rfl) (by simp) ?_
          refine AllReadyH.cons rfl (fun K hK => ?_) AllReadyH.nil
          simp only [gq]
          simp only [Region.wanted, if_true]
          refine wp_app (.tmp 111) (.tmp 117) rfl ei_partU rfl hov (B := 0) (Nat.zero_le _) hx.size (ys := [(⟨ff, kk⟩ : Part)]) (c := 1) rfl hL RPart.oneC (RPart.mono (by decide) (by decide) (by decide) (by decide)) (by have := HLen.out; simp [maxLen]; omega) (by have := HLen.out; simp; omega) ?_
          intro v5 wn hov5 hch hbl _
          replace hbr := hbr.chg hch (by decide)
          replace hbk := hbk.chg hch (by decide)
          replace hrs := hrs.chg hch (by decide)
          replace hx := hx.below hbl (Nat.le_refl _)
          replace hv1 := hv1.chg (RVer.mono (by decide) (by decide)) (by decide) hch
          replace hg1 := hg1.chg (RGone.mono (by decide) (by decide)) (by decide) hch
          clear hch hbl hov hL
          obtain ⟨wc, rfl⟩ : ∃ wc', wc' = wn := ⟨_, rfl⟩
          refine hK.out _ _ trivial (fun hHeld => ?_)
          clear hK K
          try simp only [pq]
          refine tk 9 ?_ rfl (by kernel_rfl) (fun _ _ _ h => h) (by rfl) ?_ (by assumption) ?_
          rotate_left
          ·intro w' hSw; (try dsimp only at hSw); go_simp <;> with_reducible rfl
          simp only [gq]; try simp only [pq]
          refine wpAnyH_ready (rs := [10]) (by kernel_rfl) (by simp) ?_
          refine AllReadyH.cons rfl (fun K hK => ?_) AllReadyH.nil
          simp only [gq]
          obtain ⟨A5, c5, hv5, _, _⟩ := hov5.len
          obtain ⟨n5, hn5⟩ : ∃ n, n = (l ++ [(⟨ff, kk⟩ : Part)]).length := ⟨_, rfl⟩
          rw [← hn5] at hv5
          subst hv5
          clear hn5
          obtain ⟨v5, hv5⟩ : ∃ v, v = Value.slice A5 n5 c5 := ⟨_, rfl⟩
          rw [← hv5] at hov5
          have y0 := hbk.cell (i := 4) (u := v) rfl
          have z0 := hbk.frozen 4
          go_simp
          rw [← hv5]
          clear hv5
          have hch := (Chg.refl (B := 0) (ts := [90]) wc).setCell (p := ⟨kb, 4, none⟩) hbk.ty (by simp) v5 (Nat.zero_le _)
          have hbl : Below w.heap.size wc (wc.setCell ⟨kb, 4, none⟩ v5) := (Below.refl _ _).setCell (p := ⟨kb, 4, none⟩) hkb v5
          replace hbr := hbr.chg hch (by decide)
          replace hov5 := hov5.chgT (B := 0) (RPart.mono (by decide) (by decide) (by decide) (by decide)) (by decide) hch
          replace hrs := hrs.far (p := ⟨kb, 4, none⟩) hkf v5
          replace hx := hx.below hbl (Nat.le_refl _)
          replace hv1 := hv1.chg (RVer.mono (by decide) (by decide)) (by decide) hch
          replace hg1 := hg1.chg (RGone.mono (by decide) (by decide)) (by decide) hch
          replace hbk := hbk.set 4 v5
          clear y0 z0 hch hbl
          obtain ⟨wn, hwn⟩ : ∃ wn, wn = wc.setCell ⟨kb, 4, none⟩ v5 := ⟨_, rfl⟩
          rw [← hwn] at hbr hov5 hbk hrs hx hv1 hg1 ⊢
          clear hwn
          obtain ⟨wc, rfl⟩ : ∃ wc', wc' = wn := ⟨_, rfl⟩
          refine hK.out _ _ trivial (fun hHeld => ?_)
          clear hK K
          try simp only [pq]
          refine wpAnyH_done (by kernel_rfl) ?_ _
          go_wp2_with fail
          go_roundw
          case rel => exact ⟨j + 1, q, v5, by omega, by first | rfl | go_num, by rw [HS.out, HE.out]; exact hbr, hbk, by rw [HS.out, HE.out]; exact hov5, hx, hrs, hv1, hg1⟩
          case measure => simp [intOf]
       ·obtain ⟨q, rfl⟩ : ∃ q, r = q + 1 := ⟨r - 1, by omega⟩
        have hd : decide ((0 : Int) < ((q + 1 : Nat) : Int)) = true := decide_eq_true (by omega)
        have hqs : (q : Int) ≤ 1000 := by have := HN2.out; omega
        have HS := hid (rmany_succ rgone j sg)
        have HLen := hid (show (rmany rgone j sg).1.length + 1 ≤ 1000 by rw [rmany_len]; have := HN2.out; omega)
        obtain ⟨l, hl⟩ : ∃ l, l = (rmany rgone j sg).1 := ⟨_, rfl⟩
        obtain ⟨s, hs⟩ : ∃ s, s = (rmany rgone j sg).2 := ⟨_, rfl⟩
        rw [← hl] at hov HLen HS
        rw [← hs] at hbr HS
        clear hl hs hr0
        go_wp2_with fail
        clear hd
        have hxa := (Ext.refl wo).drew
        replace hbk := hbk.ext hxa
        replace hrs := hrs.ext hxa
        replace hov := hov.ext (B := 0) (RGone.mono (by decide) (by decide)) hxa
        replace hx := hx.trans hxa
        replace hv1 := hv1.ext (RVer.mono (by decide) (by decide)) hxa
        replace hbr := hbr.ext hxa
        refine wp_region_held_drew (S := fun _ => True) (by kernel_rfl) trivial (fun hHeld => ?_)
        obtain ⟨wc, hwc⟩ : ∃ wc, wc = wo.drew := ⟨_, rfl⟩
        rw [← hwc] at hbk hrs hov hx hv1 hbr ⊢
        clear hwc hxa
        refine tk 0 ?_ rfl (by kernel_rfl) (fun _ _ _ h => h) (by rfl) ?_ (by assumption) ?_
        rotate_left
        ·intro w' hSw; (try dsimp only at hSw); go_simp <;> with_reducible rfl
        simp only [gq]; try simp only [pq]
        refine tk 2 ?_ rfl (by kernel_rfl) (fun _ _ _ h => h) (by rfl) ?_ (by assumption) ?_
        rotate_left
        ·intro w' hSw; (try dsimp only at hSw); go_simp <;> with_reducible rfl
        simp only [gq]; try simp only [pq]
        refine tk 4 ?_ rfl (by kernel_rfl) (fun _ _ _ h => h) (by rfl) ?_ (by assumption) ?_
        rotate_left
        ·intro w' hSw; (try dsimp only at hSw); go_simp <;> with_reducible rfl
        simp only [gq]; try simp only [pq]
        refine wpAnyH_ready (rs := [1, 3]) (by kernel_rfl) (by simp) ?_
        refine AllReadyH.cons rfl (fun K hK => ?_) ?_
        ·simp only [gq]
         have y0 := hbk.cell (i := 3) (u := v) rfl
         go_simp
         clear y0
         refine hK.out _ _ trivial (fun hHeld => ?_)
         clear hK K
         try simp only [pq]
         refine wpAnyH_ready (rs := [3]) (by kernel_rfl) (by simp) ?_
         refine AllReadyH.cons rfl (fun K hK => ?_) AllReadyH.nil
         simp only [gq]
         go_simp
         refine (rd_text w.heap.size p s wc hp hbr).mono ?_
         rintro e wn ⟨rfl, hbn, hc⟩
         dsimp only
         clear hbr
         have hbr := hbn
         clear hbn
         replace hbk := hbk.chg hc (by decide)
         replace hrs := hrs.chg hc (by decide)
         replace hov := hov.chgT (B := 0) (RGone.mono (by decide) (by decide)) (by decide) (hc.down (Nat.zero_le _))
         replace hx := hx.chgw hc
         replace hv1 := hv1.chg (RVer.mono (by decide) (by decide)) (by decide) (hc.down (Nat.zero_le _))
         clear hc
         obtain ⟨xi, hxi⟩ : ∃ x, x = (rtext s).1 := ⟨_, rfl⟩
         obtain ⟨sa, hsa⟩ : ∃ x, x = (rtext s).2 := ⟨_, rfl⟩
         have HSZ := hid (show xi.size ≤ maxLen by rw [hxi]; exact Nat.le_trans (rtext_size s) (by decide))
         rw [← hsa] at hbr
         rw [← hxi]
         have H1 := hid (show rtext s = (xi, sa) by rw [hxi, hsa])
         clear hxi hsa
         obtain ⟨wc, rfl⟩ : ∃ wc', wc' = wn := ⟨_, rfl⟩
         refine hK.out _ _ trivial (fun hHeld => ?_)
         clear hK K
         try simp only [pq]
         refine wpAnyH_ready (rs := [5]) (by kernel_rfl) (by simp) ?_
         refine AllReadyH.cons rfl (fun K hK => ?_) AllReadyH.nil
         simp only [gq]
         go_simp
         refine (rd_know w.heap.size p sa wc hp hbr).mono ?_
         rintro e wn ⟨xk, rfl, hk, hbn, hc⟩
         dsimp only
         obtain ⟨Av, cv, Am, cm, rfl, k1, k2, k3, k4, hk6⟩ := hk
         clear hbr
         have hbr := hbn
         clear hbn
         replace hbk := hbk.chg hc (by decide)
         replace hrs := hrs.chg hc (by decide)
         replace hov := hov.chgT (B := 0) (RGone.mono (by decide) (by decide)) (by decide) (hc.down (Nat.zero_le _))
         replace hx := hx.chgw hc
         replace hv1 := hv1.chg (RVer.mono (by decide) (by decide)) (by decide) (hc.down (Nat.zero_le _))
         clear hc
         obtain ⟨kk, hkk⟩ : ∃ x, x = (rknow sa).1 := ⟨_, rfl⟩
         obtain ⟨s7, hs7⟩ : ∃ x, x = (rknow sa).2 := ⟨_, rfl⟩
         rw [← hs7] at hbr
         rw [← hkk] at hk6 k1 k3
         rw [← hkk]
         have HE := hid (rgone_eq H1.out (show rknow sa = (kk, s7) by rw [hkk, hs7]))
         clear hkk hs7 H1
         obtain ⟨wc, rfl⟩ : ∃ wc', wc' = wn := ⟨_, rfl⟩
         refine hK.out _ _ trivial (fun hHeld => ?_)
         clear hK K
         try simp only [pq]
         refine tk 6 ?_ rfl (by kernel_rfl) (fun _ _ _ h => h) (by rfl) ?_ (by assumption) ?_
         rotate_left
         ·intro w' hSw; (try dsimp only at hSw); go_simp <;> with_reducible rfl
         simp only [gq]; try simp only [pq]
         refine wpAnyH_ready (rs := [7]) (by kernel_rfl) (by simp) ?_
         refine AllReadyH.cons rfl (fun K hK => ?_) AllReadyH.nil
         simp only [gq]
         go_simp
         have hxa := (Ext.refl wc).alloc (.cells #[.string xi, .slice Av kk.vec.length cv, .slice Am kk.more.length cm] 103)
         obtain ⟨wn, hwn⟩ : ∃ wn, wn = wc.alloc (.cells #[.string xi, .slice Av kk.vec.length cv, .slice Am kk.more.length cm] 103) := ⟨_, rfl⟩
         rw [← hwn] at hxa
         replace hbk := hbk.ext hxa
         replace hrs := hrs.ext hxa
         replace hov := hov.ext (B := 0) (RGone.mono (by decide) (by decide)) hxa
         replace hx := hx.trans hxa
         replace hv1 := hv1.ext (RVer.mono (by decide) (by decide)) hxa
         replace hk6 := hk6.ext hxa
         replace hbr := hbr.ext hxa
         have hL : Sl 0 103 (RGone 0) 3 wn (some ⟨wc.heap.size, 0, none⟩) [(⟨xi, kk⟩ : Gone)] := Sl.one (cs := [.string xi, .slice Av kk.vec.length cv, .slice Am kk.more.length cm]) hwn rfl (InG.rgone (v := ⟨xi, kk⟩) ⟨⟨k1, k2⟩, ⟨k3, k4⟩, HSZ.out, hk6⟩)
         obtain ⟨a4, ha4⟩ : ∃ a, a = some (⟨wc.heap.size, 0, none⟩ : Addr) := ⟨_, rfl⟩
         rw [← hwn, ← ha4]
         rw [← ha4] at hL
         clear hxa hwn ha4 hk6
         obtain ⟨wc, rfl⟩ : ∃ wc', wc' = wn := ⟨_, rfl⟩
         refine hK.out _ _ trivial (fun hHeld => ?_)
         clear hK K
         try simp only [pq]
         refine wpAnyH_ready (rs := [8]) (by kernel_rfl) (by simp) ?_
         refine AllReadyH.cons rfl (fun K hK => ?_) AllReadyH.nil
         simp only [gq]
         simp only [Region.wanted, if_true]
         refine wp_app (.tmp 95) (.tmp 101) rfl ei_gone rfl hov (B := 0) (Nat.zero_le _) hx.size (ys := [(⟨xi, kk⟩ : Gone)]) (c := 1) rfl hL RGone.oneC (RGone.mono (by decide) (by decide)) (by have := HLen.out; simp [maxLen]; omega) (by have := HLen.out; simp; omega) ?_
         intro v5 wn hov5 hch hbl _
         replace hbr := hbr.chg hch (by decide)
         replace hbk := hbk.chg hch (by decide)
         replace hrs := hrs.chg hch (by decide)
         replace hx := hx.below hbl (Nat.le_refl _)
         replace hv1 := hv1.chg (RVer.mono (by decide) (by decide)) (by decide) hch
         clear hch hbl hov hL
         obtain ⟨wc, rfl⟩ : ∃ wc', wc' = wn := ⟨_, rfl⟩
         refine hK.out _ _ trivial (fun hHeld => ?_)
         clear hK K
         try simp only [pq]
         refine tk 9 ?_ rfl (by kernel_rfl) (fun _ _ _ h => h) (by rfl) ?_ (by assumption) ?_
         rotate_left
         ·intro w' hSw; (try dsimp only at hSw); go_simp <;> with_reducible rfl
         simp only [gq]; try simp only [pq]
         refine wpAnyH_ready (rs := [10]) (by kernel_rfl) (by simp) ?_
         refine AllReadyH.cons rfl (fun K hK => ?_) AllReadyH.nil
         simp only [gq]
         obtain ⟨A5, c5, hv5, _, _⟩ := hov5.len
         obtain ⟨n5, hn5⟩ : ∃ n, n = (l ++ [(⟨xi, kk⟩ : Gone)]).length := ⟨_, rfl⟩
         rw [← hn5] at hv5
         subst hv5
         clear hn5
         obtain ⟨v5, hv5⟩ : ∃ v, v = Value.slice A5 n5 c5 := ⟨_, rfl⟩
         rw [← hv5] at hov5
         have y0 := hbk.cell (i := 3) (u := v) rfl
         have z0 := hbk.frozen 3
         go_simp
         rw [← hv5]
         clear hv5
         have hch := (Chg.refl (B := 0) (ts := [90]) wc).setCell (p := ⟨kb, 3, none⟩) hbk.ty (by simp) v5 (Nat.zero_le _)
         have hbl : Below w.heap.size wc (wc.setCell ⟨kb, 3, none⟩ v5) := (Below.refl _ _).setCell (p := ⟨kb, 3, none⟩) hkb v5
         replace hbr := hbr.chg hch (by decide)
         replace hov5 := hov5.chgT (B := 0) (RGone.mono (by decide) (by decide)) (by decide) hch
         replace hrs := hrs.far (p := ⟨kb, 3, none⟩) hkf v5
         replace hx := hx.below hbl (Nat.le_refl _)
         replace hv1 := hv1.chg (RVer.mono (by decide) (by decide)) (by decide) hch
         replace hbk := hbk.set 3 v5
         clear y0 z0 hch hbl
         obtain ⟨wn, hwn⟩ : ∃ wn, wn = wc.setCell ⟨kb, 3, none⟩ v5 := ⟨_, rfl⟩
         rw [← hwn] at hbr hov5 hbk hrs hx hv1 ⊢
         clear hwn
         obtain ⟨wc, rfl⟩ : ∃ wc', wc' = wn := ⟨_, rfl⟩
         refine hK.out _ _ trivial (fun hHeld => ?_)
         clear hK K
         try simp only [pq]
         refine wpAnyH_done (by kernel_rfl) ?_ _
         go_wp2_with fail
         go_roundw
         case rel => exact ⟨j + 1, q, v5, by omega, by first | rfl | go_num, by rw [HS.out, HE.out]; exact hbr, hbk, by rw [HS.out, HE.out]; exact hov5, hx, hrs, hv1⟩
         case measure => simp [intOf]
        refine AllReadyH.cons rfl (fun K hK => ?_) AllReadyH.nil
        simp only [gq]
        go_simp
        refine (rd_text w.heap.size p s wc hp hbr).mono ?_
        rintro e wn ⟨rfl, hbn, hc⟩
        dsimp only
        clear hbr
        have hbr := hbn
        clear hbn
        replace hbk := hbk.chg hc (by decide)
        replace hrs := hrs.chg hc (by decide)
        replace hov := hov.chgT (B := 0) (RGone.mono (by decide) (by decide)) (by decide) (hc.down (Nat.zero_le _))
        replace hx := hx.chgw hc
        replace hv1 := hv1.chg (RVer.mono (by decide) (by decide)) (by decide) (hc.down (Nat.zero_le _))
        clear hc
        obtain ⟨xi, hxi⟩ : ∃ x, x = (rtext s).1 := ⟨_, rfl⟩
        obtain ⟨sa, hsa⟩ : ∃ x, x = (rtext s).2 := ⟨_, rfl⟩
        have HSZ := hid (show xi.size ≤ maxLen by rw [hxi]; exact Nat.le_trans (rtext_size s) (by decide))
        rw [← hsa] at hbr
        rw [← hxi]
        have H1 := hid (show rtext s = (xi, sa) by rw [hxi, hsa])
        clear hxi hsa
        obtain ⟨wc, rfl⟩ : ∃ wc', wc' = wn := ⟨_, rfl⟩
        refine hK.out _ _ trivial (fun hHeld => ?_)
        clear hK K
        try simp only [pq]
        refine wpAnyH_ready (rs := [1, 5]) (by kernel_rfl) (by simp) ?_
        refine AllReadyH.cons rfl (fun K hK => ?_) ?_
        ·simp only [gq]
         have y0 := hbk.cell (i := 3) (u := v) rfl
         go_simp
         clear y0
         refine hK.out _ _ trivial (fun hHeld => ?_)
         clear hK K
         try simp only [pq]
         refine wpAnyH_ready (rs := [5]) (by kernel_rfl) (by simp) ?_
         refine AllReadyH.cons rfl (fun K hK => ?_) AllReadyH.nil
         simp only [gq]
         go_simp
         refine (rd_know w.heap.size p sa wc hp hbr).mono ?_
         rintro e wn ⟨xk, rfl, hk, hbn, hc⟩
         dsimp only
         obtain ⟨Av, cv, Am, cm, rfl, k1, k2, k3, k4, hk6⟩ := hk
         clear hbr
         have hbr := hbn
         clear hbn
         replace hbk := hbk.chg hc (by decide)
         replace hrs := hrs.chg hc (by decide)
         replace hov := hov.chgT (B := 0) (RGone.mono (by decide) (by decide)) (by decide) (hc.down (Nat.zero_le _))
         replace hx := hx.chgw hc
         replace hv1 := hv1.chg (RVer.mono (by decide) (by decide)) (by decide) (hc.down (Nat.zero_le _))
         clear hc
         obtain ⟨kk, hkk⟩ : ∃ x, x = (rknow sa).1 := ⟨_, rfl⟩
         obtain ⟨s7, hs7⟩ : ∃ x, x = (rknow sa).2 := ⟨_, rfl⟩
         rw [← hs7] at hbr
         rw [← hkk] at hk6 k1 k3
         rw [← hkk]
         have HE := hid (rgone_eq H1.out (show rknow sa = (kk, s7) by rw [hkk, hs7]))
         clear hkk hs7 H1
         obtain ⟨wc, rfl⟩ : ∃ wc', wc' = wn := ⟨_, rfl⟩
         refine hK.out _ _ trivial (fun hHeld => ?_)
         clear hK K
         try simp only [pq]
         refine tk 6 ?_ rfl (by kernel_rfl) (fun _ _ _ h => h) (by rfl) ?_ (by assumption) ?_
         rotate_left
         ·intro w' hSw; (try dsimp only at hSw); go_simp <;> with_reducible rfl
         simp only [gq]; try simp only [pq]
         refine wpAnyH_ready (rs := [7]) (by kernel_rfl) (by simp) ?_
         refine AllReadyH.cons rfl (fun K hK => ?_) AllReadyH.nil
         simp only [gq]
         go_simp
         have hxa := (Ext.refl wc).alloc (.cells #[.string xi, .slice Av kk.vec.length cv, .slice Am kk.more.length cm] 103)
         obtain ⟨wn, hwn⟩ : ∃ wn, wn = wc.alloc (.cells #[.string xi, .slice Av kk.vec.length cv, .slice Am kk.more.length cm] 103) := ⟨_, rfl⟩
         rw [← hwn] at hxa
         replace hbk := hbk.ext hxa
         replace hrs := hrs.ext hxa
         replace hov := hov.ext (B := 0) (RGone.mono (by decide) (by decide)) hxa
         replace hx := hx.trans hxa
         replace hv1 := hv1.ext (RVer.mono (by decide) (by decide)) hxa
         replace hk6 := hk6.ext hxa
         replace hbr := hbr.ext hxa
         have hL : Sl 0 103 (RGone 0) 3 wn (some ⟨wc.heap.size, 0, none⟩) [(⟨xi, kk⟩ : Gone)] := Sl.one (cs := [.string xi, .slice Av kk.vec.length cv, .slice Am kk.more.length cm]) hwn rfl (InG.rgone (v := ⟨xi, kk⟩) ⟨⟨k1, k2⟩, ⟨k3, k4⟩, HSZ.out, hk6⟩)
         obtain ⟨a4, ha4⟩ : ∃ a, a = some (⟨wc.heap.size, 0, none⟩ : Addr) := ⟨_, rfl⟩
         rw [← hwn, ← ha4]
         rw [← ha4] at hL
         clear hxa hwn ha4 hk6
         obtain ⟨wc, rfl⟩ : ∃ wc', wc' = wn := ⟨_, rfl⟩
         refine hK.out _ _ trivial (fun hHeld => ?_)
         clear hK K
         try simp only [pq]
         refine wpAnyH_ready (rs := [8]) (by kernel_rfl) (by simp) ?_
         refine AllReadyH.cons rfl (fun K hK => ?_) AllReadyH.nil
         simp only [gq]
         simp only [Region.wanted, if_true]
         refine wp_app (.tmp 95) (.tmp 101) rfl ei_gone rfl hov (B := 0) (Nat.zero_le _) hx.size (ys := [(⟨xi, kk⟩ : Gone)]) (c := 1) rfl hL RGone.oneC (RGone.mono (by decide) (by decide)) (by have := HLen.out; simp [maxLen]; omega) (by have := HLen.out; simp; omega) ?_
         intro v5 wn hov5 hch hbl _
         replace hbr := hbr.chg hch (by decide)
         replace hbk := hbk.chg hch (by decide)
         replace hrs := hrs.chg hch (by decide)
         replace hx := hx.below hbl (Nat.le_refl _)
         replace hv1 := hv1.chg (RVer.mono (by decide) (by decide)) (by decide) hch
         clear hch hbl hov hL
         obtain ⟨wc, rfl⟩ : ∃ wc', wc' = wn := ⟨_, rfl⟩
         refine hK.out _ _ trivial (fun hHeld => ?_)
         clear hK K
         try simp only [pq]
         refine tk 9 ?_ rfl (by kernel_rfl) (fun _ _ _ h => h) (by rfl) ?_ (by assumption) ?_
         rotate_left
         ·intro w' hSw; (try dsimp only at hSw); go_simp <;> with_reducible rfl
         simp only [gq]; try simp only [pq]
         refine wpAnyH_ready (rs := [10]) (by kernel_rfl) (by simp) ?_
         refine AllReadyH.cons rfl (fun K hK => ?_) AllReadyH.nil
         simp only [gq]
         obtain ⟨A5, c5, hv5, _, _⟩ := hov5.len
         obtain ⟨n5, hn5⟩ : ∃ n, n = (l ++ [(⟨xi, kk⟩ : Gone)]).length := ⟨_, rfl⟩
         rw [← hn5] at hv5
         subst hv5
         clear hn5
         obtain ⟨v5, hv5⟩ : ∃ v, v = Value.slice A5 n5 c5 := ⟨_, rfl⟩
         rw [← hv5] at hov5
         have y0 := hbk.cell (i := 3) (u := v) rfl
         have z0 := hbk.frozen 3
         go_simp
         rw [← hv5]
         clear hv5
         have hch := (Chg.refl (B := 0) (ts := [90]) wc).setCell (p := ⟨kb, 3, none⟩) hbk.ty (by simp) v5 (Nat.zero_le _)
         have hbl : Below w.heap.size wc (wc.setCell ⟨kb, 3, none⟩ v5) := (Below.refl _ _).setCell (p := ⟨kb, 3, none⟩) hkb v5
         replace hbr := hbr.chg hch (by decide)
         replace hov5 := hov5.chgT (B := 0) (RGone.mono (by decide) (by decide)) (by decide) hch
         replace hrs := hrs.far (p := ⟨kb, 3, none⟩) hkf v5
         replace hx := hx.below hbl (Nat.le_refl _)
         replace hv1 := hv1.chg (RVer.mono (by decide) (by decide)) (by decide) hch
         replace hbk := hbk.set 3 v5
         clear y0 z0 hch hbl
         obtain ⟨wn, hwn⟩ : ∃ wn, wn = wc.setCell ⟨kb, 3, none⟩ v5 := ⟨_, rfl⟩
         rw [← hwn] at hbr hov5 hbk hrs hx hv1 ⊢
         clear hwn
         obtain ⟨wc, rfl⟩ : ∃ wc', wc' = wn := ⟨_, rfl⟩
         refine hK.out _ _ trivial (fun hHeld => ?_)
         clear hK K
         try simp only [pq]
         refine wpAnyH_done (by kernel_rfl) ?_ _
         go_wp2_with fail
         go_roundw
         case rel => exact ⟨j + 1, q, v5, by omega, by first | rfl | go_num, by rw [HS.out, HE.out]; exact hbr, hbk, by rw [HS.out, HE.out]; exact hov5, hx, hrs, hv1⟩
         case measure => simp [intOf]
        refine AllReadyH.cons rfl (fun K hK => ?_) AllReadyH.nil
        simp only [gq]
        go_simp
        refine (rd_know w.heap.size p sa wc hp hbr).mono ?_
        rintro e wn ⟨xk, rfl, hk, hbn, hc⟩
        dsimp only
        obtain ⟨Av, cv, Am, cm, rfl, k1, k2, k3, k4, hk6⟩ := hk
        clear hbr
        have hbr := hbn
        clear hbn
        replace hbk := hbk.chg hc (by decide)
        replace hrs := hrs.chg hc (by decide)
        replace hov := hov.chgT (B := 0) (RGone.mono (by decide) (by decide)) (by decide) (hc.down (Nat.zero_le _))
        replace hx := hx.chgw hc
        replace hv1 := hv1.chg (RVer.mono (by decide) (by decide)) (by decide) (hc.down (Nat.zero_le _))
        clear hc
        obtain ⟨kk, hkk⟩ : ∃ x, x = (rknow sa).1 := ⟨_, rfl⟩
        obtain ⟨s7, hs7⟩ : ∃ x, x = (rknow sa).2 := ⟨_, rfl⟩
        rw [← hs7] at hbr
        rw [← hkk] at hk6 k1 k3
        rw [← hkk]
        have HE := hid (rgone_eq H1.out (show rknow sa = (kk, s7) by rw [hkk, hs7]))
        clear hkk hs7 H1
        obtain ⟨wc, rfl⟩ : ∃ wc', wc' = wn := ⟨_, rfl⟩
        refine hK.out _ _ trivial (fun hHeld => ?_)
        clear hK K
        try simp only [pq]
        refine tk 6 ?_ rfl (by kernel_rfl) (fun _ _ _ h => h) (by rfl) ?_ (by assumption) ?_
        rotate_left
        ·intro w' hSw; (try dsimp only at hSw); go_simp <;> with_reducible rfl
        simp only [gq]; try simp only [pq]
        refine wpAnyH_ready (rs := [1, 7]) (by kernel_rfl) (by simp) ?_
        refine AllReadyH.cons rfl (fun K hK => ?_) ?_
        ·simp only [gq]
         have y0 := hbk.cell (i := 3) (u := v) rfl
         go_simp
         clear y0
         refine hK.out _ _ trivial (fun hHeld => ?_)
         clear hK K
         try simp only [pq]
         refine wpAnyH_ready (rs := [7]) (by kernel_rfl) (by simp) ?_
         refine AllReadyH.cons rfl (fun K hK => ?_) AllReadyH.nil
         simp only [gq]
         go_simp
         have hxa := (Ext.refl wc).alloc (.cells #[.string xi, .slice Av kk.vec.length cv, .slice Am kk.more.length cm] 103)
         obtain ⟨wn, hwn⟩ : ∃ wn, wn = wc.alloc (.cells #[.string xi, .slice Av kk.vec.length cv, .slice Am kk.more.length cm] 103) := ⟨_, rfl⟩
         rw [← hwn] at hxa
         replace hbk := hbk.ext hxa
         replace hrs := hrs.ext hxa
         replace hov := hov.ext (B := 0) (RGone.mono (by decide) (by decide)) hxa
         replace hx := hx.trans hxa
         replace hv1 := hv1.ext (RVer.mono (by decide) (by decide)) hxa
         replace hk6 := hk6.ext hxa
         replace hbr := hbr.ext hxa
         have hL : Sl 0 103 (RGone 0) 3 wn (some ⟨wc.heap.size, 0, none⟩) [(⟨xi, kk⟩ : Gone)] := Sl.one (cs := [.string xi, .slice Av kk.vec.length cv, .slice Am kk.more.length cm]) hwn rfl (InG.rgone (v := ⟨xi, kk⟩) ⟨⟨k1, k2⟩, ⟨k3, k4⟩, HSZ.out, hk6⟩)
         obtain ⟨a4, ha4⟩ : ∃ a, a = some (⟨wc.heap.size, 0, none⟩ : Addr) := ⟨_, rfl⟩
         rw [← hwn, ← ha4]
         rw [← ha4] at hL
         clear hxa hwn ha4 hk6
         obtain ⟨wc, rfl⟩ : ∃ wc', wc' = wn := ⟨_, rfl⟩
         refine hK.out _ _ trivial (fun hHeld => ?_)
         clear hK K
         try simp only [pq]
         refine wpAnyH_ready (rs := [8]) (by kernel_rfl) (by simp) ?_
         refine AllReadyH.cons rfl (fun K hK => ?_) AllReadyH.nil
         simp only [gq]
         simp only [Region.wanted, if_true]
         refine wp_app (.tmp 95) (.tmp 101) rfl ei_gone rfl hov (B := 0) (Nat.zero_le _) hx.size (ys := [(⟨xi, kk⟩ : Gone)]) (c := 1) rfl hL RGone.oneC (RGone.mono (by decide) (by decide)) (by have := HLen.out; simp [maxLen]; omega) (by have := HLen.out; simp; omega) ?_
         intro v5 wn hov5 hch hbl _
         replace hbr := hbr.chg hch (by decide)
         replace hbk := hbk.chg hch (by decide)
         replace hrs := hrs.chg hch (by decide)
         replace hx := hx.below hbl (Nat.le_refl _)
         replace hv1 := hv1.chg (RVer.mono (by decide) (by decide)) (by decide) hch
         clear hch hbl hov hL
         obtain ⟨wc, rfl⟩ : ∃ wc', wc' = wn := ⟨_, rfl⟩
         refine hK.out _ _ trivial (fun hHeld => ?_)
         clear hK K
         try simp only [pq]
         refine tk 9 ?_ rfl (by kernel_rfl) (fun _ _ _ h => h) (by rfl) ?_ (by assumption) ?_
         rotate_left
         ·intro w' hSw; (try dsimp only at hSw); go_simp <;> with_reducible rfl
         simp only [gq]; try simp only [pq]
         refine wpAnyH_ready (rs := [10]) (by kernel_rfl) (by simp) ?_
         refine AllReadyH.cons rfl (fun K hK => ?_) AllReadyH.nil
         simp only [gq]
         obtain ⟨A5, c5, hv5, _, _⟩ := hov5.len
         obtain ⟨n5, hn5⟩ : ∃ n, n = (l ++ [(⟨xi, kk⟩ : Gone)]).length := ⟨_, rfl⟩
         rw [← hn5] at hv5
         subst hv5
         clear hn5
         obtain ⟨v5, hv5⟩ : ∃ v, v = Value.slice A5 n5 c5 := ⟨_, rfl⟩
         rw [← hv5] at hov5
         have y0 := hbk.cell (i := 3) (u := v) rfl
         have z0 := hbk.frozen 3
         go_simp
         rw [← hv5]
         clear hv5
         have hch := (Chg.refl (B := 0) (ts := [90]) wc).setCell (p := ⟨kb, 3, none⟩) hbk.ty (by simp) v5 (Nat.zero_le _)
         have hbl : Below w.heap.size wc (wc.setCell ⟨kb, 3, none⟩ v5) := (Below.refl _ _).setCell (p := ⟨kb, 3, none⟩) hkb v5
         replace hbr := hbr.chg hch (by decide)
         replace hov5 := hov5.chgT (B := 0) (RGone.mono (by decide) (by decide)) (by decide) hch
         replace hrs := hrs.far (p := ⟨kb, 3, none⟩) hkf v5
         replace hx := hx.below hbl (Nat.le_refl _)
         replace hv1 := hv1.chg (RVer.mono (by decide) (by decide)) (by decide) hch
         replace hbk := hbk.set 3 v5
         clear y0 z0 hch hbl
         obtain ⟨wn, hwn⟩ : ∃ wn, wn = wc.setCell ⟨kb, 3, none⟩ v5 := ⟨_, rfl⟩
         rw [← hwn] at hbr hov5 hbk hrs hx hv1 ⊢
         clear hwn
         obtain ⟨wc, rfl⟩ : ∃ wc', wc' = wn := ⟨_, rfl⟩
         refine hK.out _ _ trivial (fun hHeld => ?_)
         clear hK K
         try simp only [pq]
         refine wpAnyH_done (by kernel_rfl) ?_ _
         go_wp2_with fail
         go_roundw
         case rel => exact ⟨j + 1, q, v5, by omega, by first | rfl | go_num, by rw [HS.out, HE.out]; exact hbr, hbk, by rw [HS.out, HE.out]; exact hov5, hx, hrs, hv1⟩
         case measure => simp [intOf]
        refine AllReadyH.cons rfl (fun K hK => ?_) AllReadyH.nil
        simp only [gq]
        go_simp
        have hxa := (Ext.refl wc).alloc (.cells #[.string xi, .slice Av kk.vec.length cv, .slice Am kk.more.length cm] 103)
        obtain ⟨wn, hwn⟩ : ∃ wn, wn = wc.alloc (.cells #[.string xi, .slice Av kk.vec.length cv, .slice Am kk.more.length cm] 103) := ⟨_, rfl⟩
        rw [← hwn] at hxa
        replace hbk := hbk.ext hxa
        replace hrs := hrs.ext hxa
        replace hov := hov.ext (B := 0) (RGone.mono (by decide) (by decide)) hxa
        replace hx := hx.trans hxa
        replace hv1 := hv1.ext (RVer.mono (by decide) (by decide)) hxa
        replace hk6 := hk6.ext hxa
        replace hbr := hbr.ext hxa
        have hL : Sl 0 103 (RGone 0) 3 wn (some ⟨wc.heap.size, 0, none⟩) [(⟨xi, kk⟩ : Gone)] := Sl.one (cs := [.string xi, .slice Av kk.vec.length cv, .slice Am kk.more.length cm]) hwn rfl (InG.rgone (v := ⟨xi, kk⟩) ⟨⟨k1, k2⟩, ⟨k3, k4⟩, HSZ.out, hk6⟩)
        obtain ⟨a4, ha4⟩ : ∃ a, a = some (⟨wc.heap.size, 0, none⟩ : Addr) := ⟨_, rfl⟩
        rw [← hwn, ← ha4]
        rw [← ha4] at hL
        clear hxa hwn ha4 hk6
        obtain ⟨wc, rfl⟩ : ∃ wc', wc' = wn := ⟨_, rfl⟩
        refine hK.out _ _ trivial (fun hHeld => ?_)
        clear hK K
        try simp only [pq]
        refine wpAnyH_ready (rs := [1]) (by kernel_rfl) (by simp) ?_
        refine AllReadyH.cons rfl (fun K hK => ?_) AllReadyH.nil
        simp only [gq]
        have y0 := hbk.cell (i := 3) (u := v) rfl
        go_simp
        clear y0
        refine hK.out _ _ trivial (fun hHeld => ?_)
        clear hK K
        try simp only [pq]
        refine wpAnyH_ready (rs := [8]) (by kernel_rfl) (by simp) ?_
        refine AllReadyH.cons rfl (fun K hK => ?_) AllReadyH.nil
        simp only [gq]
        simp only [Region.wanted, if_true]
        refine wp_app (.tmp 95) (.tmp 101) rfl ei_gone rfl hov (B := 0) (Nat.zero_le _) hx.size (ys := [(⟨xi, kk⟩ : Gone)]) (c := 1) rfl hL RGone.oneC (RGone.mono (by decide) (by decide)) (by have := HLen.out; simp [maxLen]; omega) (by have := HLen.out; simp; omega) ?_
        intro v5 wn hov5 hch hbl _
        replace hbr := hbr.chg hch (by decide)
        replace hbk := hbk.chg hch (by decide)
        replace hrs := hrs.chg hch (by decide)
        replace hx := hx.below hbl (Nat.le_refl _)
        replace hv1 := hv1.chg (RVer.mono (by decide) (by decide)) (by decide) hch
        clear hch hbl hov hL
        obtain ⟨wc, rfl⟩ : ∃ wc', wc' = wn := ⟨_, rfl⟩
        refine hK.out _ _ trivial (fun hHeld => ?_)
        clear hK K
        try simp only [pq]
        refine tk 9 ?_ rfl (by kernel_rfl) (fun _ _ _ h => h) (by rfl) ?_ (by assumption) ?_
        rotate_left
        ·intro w' hSw; (try dsimp only at hSw); go_simp <;> with_reducible rfl
        simp only [gq]; try simp only [pq]
        refine wpAnyH_ready (rs := [10]) (by kernel_rfl) (by simp) ?_
        refine AllReadyH.cons rfl (fun K hK => ?_) AllReadyH.nil
        simp only [gq]
        obtain ⟨A5, c5, hv5, _, _⟩ := hov5.len
        obtain ⟨n5, hn5⟩ : ∃ n, n = (l ++ [(⟨xi, kk⟩ : Gone)]).length := ⟨_, rfl⟩
        rw [← hn5] at hv5
        subst hv5
        clear hn5
        obtain ⟨v5, hv5⟩ : ∃ v, v = Value.slice A5 n5 c5 := ⟨_, rfl⟩
        rw [← hv5] at hov5
        have y0 := hbk.cell (i := 3) (u := v) rfl
        have z0 := hbk.frozen 3
        go_simp
        rw [← hv5]
        clear hv5
        have hch := (Chg.refl (B := 0) (ts := [90]) wc).setCell (p := ⟨kb, 3, none⟩) hbk.ty (by simp) v5 (Nat.zero_le _)
        have hbl : Below w.heap.size wc (wc.setCell ⟨kb, 3, none⟩ v5) := (Below.refl _ _).setCell (p := ⟨kb, 3, none⟩) hkb v5
        replace hbr := hbr.chg hch (by decide)
        replace hov5 := hov5.chgT (B := 0) (RGone.mono (by decide) (by decide)) (by decide) hch
        replace hrs := hrs.far (p := ⟨kb, 3, none⟩) hkf v5
        replace hx := hx.below hbl (Nat.le_refl _)
        replace hv1 := hv1.chg (RVer.mono (by decide) (by decide)) (by decide) hch
        replace hbk := hbk.set 3 v5
        clear y0 z0 hch hbl
        obtain ⟨wn, hwn⟩ : ∃ wn, wn = wc.setCell ⟨kb, 3, none⟩ v5 := ⟨_, rfl⟩
        rw [← hwn] at hbr hov5 hbk hrs hx hv1 ⊢
        clear hwn
        obtain ⟨wc, rfl⟩ : ∃ wc', wc' = wn := ⟨_, rfl⟩
        refine hK.out _ _ trivial (fun hHeld => ?_)
        clear hK K
        try simp only [pq]
        refine wpAnyH_done (by kernel_rfl) ?_ _
        go_wp2_with fail
        go_roundw
        case rel => exact ⟨j + 1, q, v5, by omega, by first | rfl | go_num, by rw [HS.out, HE.out]; exact hbr, hbk, by rw [HS.out, HE.out]; exact hov5, hx, hrs, hv1⟩
        case measure => simp [intOf]
     ·obtain ⟨q, rfl⟩ : ∃ q, r = q + 1 := ⟨r - 1, by omega⟩
      have hd : decide ((0 : Int) < ((q + 1 : Nat) : Int)) = true := decide_eq_true (by omega)
      have hqs : (q : Int) ≤ 1000 := by have := HN1.out; omega
      have HS := hid (rmany_succ rver j sc)
      have HLen := hid (show (rmany rver j sc).1.length + 1 ≤ 1000 by rw [rmany_len]; have := HN1.out; omega)
      obtain ⟨l, hl⟩ : ∃ l, l = (rmany rver j sc).1 := ⟨_, rfl⟩
      obtain ⟨s, hs⟩ : ∃ s, s = (rmany rver j sc).2 := ⟨_, rfl⟩
      rw [← hl] at hov HLen HS
      rw [← hs] at hbr HS
      clear hl hs hr0
      go_wp2_with fail
      clear hd
      have HOV := hid hov
      have HBK := hid hbk
      have HRS := hid hrs
      have HXO := hid hx
      clear hov hbk hrs hx
      have hy := Chg.refl (B := w.heap.size) (ts := [220]) wo
      refine (rd_text w.heap.size p s wo hp hbr).mono ?_
      rintro e wa ⟨rfl, hbn, hc⟩
      clear hbr
      have hbr := hbn
      clear hbn
      replace hy := hy.trans hc
      clear hc
      obtain ⟨xi, hxi⟩ : ∃ x, x = (rtext s).1 := ⟨_, rfl⟩
      obtain ⟨sa, hsa⟩ : ∃ x, x = (rtext s).2 := ⟨_, rfl⟩
      have HSZ := hid (show xi.size ≤ maxLen by rw [hxi]; exact Nat.le_trans (rtext_size s) (by decide))
      rw [← hsa] at hbr
      rw [← hxi]
      have H1 := hid (show rtext s = (xi, sa) by rw [hxi, hsa])
      clear hxi hsa
      have hxa := (Ext.refl wa).alloc (.cells #[.string xi, .int .i64 0, .int .i64 0, .int .i64 0, .int .i64 0, .int .i64 0, .slice none 0 0, .slice none 0 0] 151)
      have hbv := Blk.new wa 151 #[.string xi, .int .i64 0, .int .i64 0, .int .i64 0, .int .i64 0, .int .i64 0, .slice none 0 0, .slice none 0 0]
      go_wp2_with fail
      obtain ⟨wb, hwb⟩ : ∃ x, x = wa.alloc (.cells #[.string xi, .int .i64 0, .int .i64 0, .int .i64 0, .int .i64 0, .int .i64 0, .slice none 0 0, .slice none 0 0] 151) := ⟨_, rfl⟩
      obtain ⟨vb, hvb0⟩ : ∃ x, x = wa.heap.size := ⟨_, rfl⟩
      have hvb : wo.heap.size ≤ vb := by rw [hvb0]; exact hy.size
      rw [← hwb, ← hvb0] at hbv
      rw [← hwb] at hxa
      rw [← hwb, ← hvb0]
      clear hwb hvb0
      replace hbr := hbr.ext hxa
      replace hy := hy.trans (Chg.of_ext hxa)
      clear hxa
      refine (rd_num w.heap.size p 5 sa wb hp hbr).mono ?_
      rintro e wd ⟨rfl, hbn, hc⟩
      clear hbr
      have hbr := hbn
      clear hbn
      replace hbv := hbv.chg hc (by decide)
      replace hy := hy.trans hc
      clear hc
      obtain ⟨n1, hn1⟩ : ∃ x, x = (rnum 5 sa).1 := ⟨_, rfl⟩
      obtain ⟨s2, hs2⟩ : ∃ x, x = (rnum 5 sa).2 := ⟨_, rfl⟩
      rw [← hs2] at hbr
      rw [← hn1]
      have H2 := hid (show rnum 5 sa = (n1, s2) by rw [hn1, hs2])
      clear hn1 hs2
      go_wp2_with fail
      refine (rd_num w.heap.size p 1000 s2 wd hp hbr).mono ?_
      rintro e we ⟨rfl, hbn, hc⟩
      clear hbr
      have hbr := hbn
      clear hbn
      replace hbv := hbv.chg hc (by decide)
      replace hy := hy.trans hc
      clear hc
      obtain ⟨n2, hn2⟩ : ∃ x, x = (rnum 1000 s2).1 := ⟨_, rfl⟩
      obtain ⟨s3, hs3⟩ : ∃ x, x = (rnum 1000 s2).2 := ⟨_, rfl⟩
      rw [← hs3] at hbr
      rw [← hn2]
      have H3 := hid (show rnum 1000 s2 = (n2, s3) by rw [hn2, hs3])
      clear hn2 hs3
      have y1 := hbv.cell (i := 1) (u := .int .i64 0) rfl
      have y2 := hbv.cell (i := 2) (u := .int .i64 0) rfl
      have z1 := hbv.frozen 1
      have z2 := hbv.frozen 2
      go_wp2_with fail
      clear y1 y2 z1 z2
      obtain ⟨wf, hwn⟩ : ∃ x, x = (we.setCell ⟨vb, 1, none⟩ (.int .i64 n1)).setCell ⟨vb, 2, none⟩ (.int .i64 n2) := ⟨_, rfl⟩
      have hch := (((Chg.refl (B := 0) (ts := [151]) we).setCell (p := ⟨vb, 1, none⟩) (hbv.ty) (by simp) (.int .i64 n1) (Nat.zero_le _)).setCell (p := ⟨vb, 2, none⟩) ((hbv.set 1 (.int .i64 n1)).ty) (by simp) (.int .i64 n2) (Nat.zero_le _))
      have hbl := (((Below.refl wo.heap.size we).setCell (p := ⟨vb, 1, none⟩) hvb (.int .i64 n1)).setCell (p := ⟨vb, 2, none⟩) hvb (.int .i64 n2))
      have hbv2 := ((hbv.set 1 (.int .i64 n1)).set 2 (.int .i64 n2))
      rw [← hwn] at hch hbl hbv2
      rw [← hwn]
      replace hbr := hbr.chg hch (by decide)
      replace hy := hy.below hbl
      clear hbv hwn hch hbl
      have hbv := hbv2
      clear hbv2
      refine (rd_num w.heap.size p 15 s3 wf hp hbr).mono ?_
      rintro e wg ⟨rfl, hbn, hc⟩
      clear hbr
      have hbr := hbn
      clear hbn
      replace hbv := hbv.chg hc (by decide)
      replace hy := hy.trans hc
      clear hc
      obtain ⟨n3, hn3⟩ : ∃ x, x = (rnum 15 s3).1 := ⟨_, rfl⟩
      obtain ⟨s4, hs4⟩ : ∃ x, x = (rnum 15 s3).2 := ⟨_, rfl⟩
      rw [← hs4] at hbr
      rw [← hn3]
      have H4 := hid (show rnum 15 s3 = (n3, s4) by rw [hn3, hs4])
      clear hn3 hs4
      go_wp2_with fail
      refine (rd_num w.heap.size p 32 s4 wg hp hbr).mono ?_
      rintro e wh ⟨rfl, hbn, hc⟩
      clear hbr
      have hbr := hbn
      clear hbn
      replace hbv := hbv.chg hc (by decide)
      replace hy := hy.trans hc
      clear hc
      obtain ⟨n4, hn4⟩ : ∃ x, x = (rnum 32 s4).1 := ⟨_, rfl⟩
      obtain ⟨s5, hs5⟩ : ∃ x, x = (rnum 32 s4).2 := ⟨_, rfl⟩
      rw [← hs5] at hbr
      rw [← hn4]
      have H5 := hid (show rnum 32 s4 = (n4, s5) by rw [hn4, hs5])
      clear hn4 hs5
      have y3 := hbv.cell (i := 3) (u := .int .i64 0) rfl
      have y4 := hbv.cell (i := 4) (u := .int .i64 0) rfl
      have z3 := hbv.frozen 3
      have z4 := hbv.frozen 4
      go_wp2_with fail
      clear y3 y4 z3 z4
      obtain ⟨wi, hwn⟩ : ∃ x, x = (wh.setCell ⟨vb, 3, none⟩ (.int .i64 n3)).setCell ⟨vb, 4, none⟩ (.int .i64 n4) := ⟨_, rfl⟩
      have hch := (((Chg.refl (B := 0) (ts := [151]) wh).setCell (p := ⟨vb, 3, none⟩) (hbv.ty) (by simp) (.int .i64 n3) (Nat.zero_le _)).setCell (p := ⟨vb, 4, none⟩) ((hbv.set 3 (.int .i64 n3)).ty) (by simp) (.int .i64 n4) (Nat.zero_le _))
      have hbl := (((Below.refl wo.heap.size wh).setCell (p := ⟨vb, 3, none⟩) hvb (.int .i64 n3)).setCell (p := ⟨vb, 4, none⟩) hvb (.int .i64 n4))
      have hbv2 := ((hbv.set 3 (.int .i64 n3)).set 4 (.int .i64 n4))
      rw [← hwn] at hch hbl hbv2
      rw [← hwn]
      replace hbr := hbr.chg hch (by decide)
      replace hy := hy.below hbl
      clear hbv hwn hch hbl
      have hbv := hbv2
      clear hbv2
      refine (rd_num w.heap.size p 1000000 s5 wi hp hbr).mono ?_
      rintro e wj ⟨rfl, hbn, hc⟩
      clear hbr
      have hbr := hbn
      clear hbn
      replace hbv := hbv.chg hc (by decide)
      replace hy := hy.trans hc
      clear hc
      obtain ⟨n5, hn5⟩ : ∃ x, x = (rnum 1000000 s5).1 := ⟨_, rfl⟩
      obtain ⟨s6, hs6⟩ : ∃ x, x = (rnum 1000000 s5).2 := ⟨_, rfl⟩
      rw [← hs6] at hbr
      rw [← hn5]
      have H6 := hid (show rnum 1000000 s5 = (n5, s6) by rw [hn5, hs6])
      clear hn5 hs6
      have y5 := hbv.cell (i := 5) (u := .int .i64 0) rfl
      have z5 := hbv.frozen 5
      go_wp2_with fail
      clear y5 z5
      obtain ⟨wk, hwn⟩ : ∃ x, x = wj.setCell ⟨vb, 5, none⟩ (.int .i64 n5) := ⟨_, rfl⟩
      have hch := ((Chg.refl (B := 0) (ts := [151]) wj).setCell (p := ⟨vb, 5, none⟩) (hbv.ty) (by simp) (.int .i64 n5) (Nat.zero_le _))
      have hbl := ((Below.refl wo.heap.size wj).setCell (p := ⟨vb, 5, none⟩) hvb (.int .i64 n5))
      have hbv2 := (hbv.set 5 (.int .i64 n5))
      rw [← hwn] at hch hbl hbv2
      rw [← hwn]
      replace hbr := hbr.chg hch (by decide)
      replace hy := hy.below hbl
      clear hbv hwn hch hbl
      have hbv := hbv2
      clear hbv2
      refine (rd_know w.heap.size p s6 wk hp hbr).mono ?_
      rintro e wl ⟨xk, rfl, hk, hbn, hc⟩
      obtain ⟨Av, cv, Am, cm, rfl, k1, k2, k3, k4, hk6⟩ := hk
      clear hbr
      have hbr := hbn
      clear hbn
      replace hbv := hbv.chg hc (by decide)
      replace hy := hy.trans hc
      clear hc
      obtain ⟨kk, hkk⟩ : ∃ x, x = (rknow s6).1 := ⟨_, rfl⟩
      obtain ⟨s7, hs7⟩ : ∃ x, x = (rknow s6).2 := ⟨_, rfl⟩
      rw [← hs7] at hbr
      rw [← hkk] at hk6 k1 k3
      rw [← hkk]
      have HE := hid (rver_eq H1.out H2.out H3.out H4.out H5.out H6.out (show rknow s6 = (kk, s7) by rw [hkk, hs7]))
      clear hkk hs7 H1 H2 H3 H4 H5 H6
      have hbk := HBK.out.chg hy (by decide)
      have hrs := HRS.out.chg hy (by decide)
      have hov := HOV.out.chgT (B := 0) (RVer.mono (by decide) (by decide)) (by decide) (hy.down (Nat.zero_le _))
      have hx := HXO.out.chgw hy
      have hkv : kb ≠ vb := by have := HBK.out.lt; omega
      have y0 := hbv.cell (i := 0) (u := .string xi) rfl
      have y1 := hbv.cell (i := 1) (u := .int .i64 n1) rfl
      have y2 := hbv.cell (i := 2) (u := .int .i64 n2) rfl
      have y3 := hbv.cell (i := 3) (u := .int .i64 n3) rfl
      have y4 := hbv.cell (i := 4) (u := .int .i64 n4) rfl
      have y5 := hbv.cell (i := 5) (u := .int .i64 n5) rfl
      have y6 := hbv.cell (i := 6) (u := .slice none 0 0) rfl
      have y7 := hbv.cell (i := 7) (u := .slice none 0 0) rfl
      have z0 := hbv.frozen 0
      have z1 := hbv.frozen 1
      have z2 := hbv.frozen 2
      have z3 := hbv.frozen 3
      have z4 := hbv.frozen 4
      have z5 := hbv.frozen 5
      have z6 := hbv.frozen 6
      have z7 := hbv.frozen 7
      have u2 := hbk.cell (i := 2) (u := v) rfl
      have hch := ((Chg.refl (B := 0) (ts := [151]) wl).setCell (p := ⟨vb, 6, none⟩) hbv.ty (by simp) (.slice Av kk.vec.length cv) (Nat.zero_le _)).setCell (p := ⟨vb, 7, none⟩) (hbv.set 6 (.slice Av kk.vec.length cv)).ty (by simp) (.slice Am kk.more.length cm) (Nat.zero_le _)
      have hbl := ((Below.refl wo.heap.size wl).setCell (p := ⟨vb, 6, none⟩) hvb (.slice Av kk.vec.length cv)).setCell (p := ⟨vb, 7, none⟩) hvb (.slice Am kk.more.length cm)
      have hxa := (Ext.refl ((wl.setCell ⟨vb, 6, none⟩ (.slice Av kk.vec.length cv)).setCell ⟨vb, 7, none⟩ (.slice Am kk.more.length cm))).alloc (.cells #[.string xi, .int .i64 n1, .int .i64 n2, .int .i64 n3, .int .i64 n4, .int .i64 n5, .slice Av kk.vec.length cv, .slice Am kk.more.length cm] 151)
      have hov1 := (hov.chg (B := 0) (ts := [151]) (RVer.mono (by decide) (by decide)) hch fun g hg => hbl.block g (HOV.out.lt hg).2).ext (B := 0) (RVer.mono (by simp) (by simp)) hxa
      have hx1 := (hx.below hbl HXO.out.size).trans hxa
      have hL : Sl 0 151 (RVer 0) 8 (((wl.setCell ⟨vb, 6, none⟩ (.slice Av kk.vec.length cv)).setCell ⟨vb, 7, none⟩ (.slice Am kk.more.length cm)).alloc (.cells #[.string xi, .int .i64 n1, .int .i64 n2, .int .i64 n3, .int .i64 n4, .int .i64 n5, .slice Av kk.vec.length cv, .slice Am kk.more.length cm] 151)) (some ⟨((wl.setCell ⟨vb, 6, none⟩ (.slice Av kk.vec.length cv)).setCell ⟨vb, 7, none⟩ (.slice Am kk.more.length cm)).heap.size, 0, none⟩) [(⟨xi, ⟨n1, n2⟩, ⟨n3, n4⟩, n5, kk⟩ : Version)] := Sl.one (cs := [.string xi, .int .i64 n1, .int .i64 n2, .int .i64 n3, .int .i64 n4, .int .i64 n5, .slice Av kk.vec.length cv, .slice Am kk.more.length cm]) rfl rfl (InV.rver (v := ⟨xi, ⟨n1, n2⟩, ⟨n3, n4⟩, n5, kk⟩) ⟨⟨k1, k2⟩, ⟨k3, k4⟩, HSZ.out, (hk6.chg hch (by decide) (by decide)).ext hxa⟩)
      replace hbr := (hbr.chg hch (by decide)).ext hxa
      have hbk1 := (hbk.chg hch (by decide)).ext hxa
      replace hrs := (hrs.chg hch (by decide)).ext hxa
      have hd8 : ((wl.setCell ⟨vb, 6, none⟩ (.slice Av kk.vec.length cv)).setCell ⟨vb, 7, none⟩ (.slice Am kk.more.length cm)).heap.size = wl.heap.size := by simp [World.setCell]
      rw [hd8] at hL
      obtain ⟨Ao, co, hvo, _, _⟩ := hov1.len
      have HVO := hid hvo
      clear hvo hbv hy hch hbl hxa hov hbk hx hd8
      obtain ⟨Ao, no, co, hvo⟩ : ∃ A n c, v = .slice A n c := ⟨_, _, _, HVO.out⟩
      subst hvo
      clear HVO
      go_wp2_with (at_builtin; refine wpList_app (ys := [(⟨xi, ⟨n1, n2⟩, ⟨n3, n4⟩, n5, kk⟩ : Version)]) (c := 1) (B := 0) rfl _ _ rfl ei_ver rfl hov1 (Nat.zero_le _) hx1.size rfl hL RVer.oneC (RVer.mono (by decide) (by decide)) (by have := HLen.out; simp [maxLen]; omega) (by have := HLen.out; simp; omega) ?_; intro v5 w6 ho2 hc2 hb6 _; obtain ⟨A5, c5, hv5, _, _⟩ := ho2.len; obtain ⟨n6, hn6⟩ : ∃ n, n = (l ++ [(⟨xi, ⟨n1, n2⟩, ⟨n3, n4⟩, n5, kk⟩ : Version)]).length := ⟨_, rfl⟩; rw [← hn6] at hv5; subst hv5; clear hn6; have hbk6 := hbk1.chg hc2 (by decide); have q2 := hbk6.cell (i := 2) (u := .slice Ao no co) rfl; have q3 := hbk6.frozen 2)
      have hch := (Chg.refl (B := 0) (ts := [90]) w6).setCell (p := ⟨kb, 2, none⟩) hbk6.ty (by simp) (.slice A5 n6 c5) (Nat.zero_le _)
      go_roundw
      case rel => exact ⟨j + 1, q, .slice A5 n6 c5, by omega, by first | rfl | go_num, by rw [HS.out, HE.out]; exact (hbr.chg hc2 (by decide)).chg hch (by decide), hbk6.set 2 _, by rw [HS.out, HE.out]; exact ho2.chgT (B := 0) (RVer.mono (by decide) (by decide)) (by decide) hch, (hx1.below hb6 (Nat.le_refl _)).below ((Below.refl _ _).setCell (p := ⟨kb, 2, none⟩) hkb _) (Nat.le_refl _), (hrs.chg hc2 (by decide)).far (p := ⟨kb, 2, none⟩) hkf _⟩
      case measure => simp [intOf]
   ·have hne : (sumB T != num3 x y z) = true := by simpa using hs0
    have HE := hid (show unpackErr (T ++ [x, y, z]) = 8 by rw [HE0.out, if_neg hs0])
    have HU := hid (show unpackOf (T ++ [x, y, z]) = noBatch by rw [HU0.out, if_neg (by rw [HE.out]; decide)])
    clear hs0
    have y0 := hrs.cell (i := 0) (u := .int .i64 0) rfl
    have z0 := hrs.frozen 0
    have y1 := hrs.cell (i := 1) (u := .int .i64 0) rfl
    have z1 := hrs.frozen 1
    have y2 := hrs.cell (i := 2) (u := .slice none 0 0) rfl
    have z2 := hrs.frozen 2
    have y3 := hrs.cell (i := 3) (u := .slice none 0 0) rfl
    have z3 := hrs.frozen 3
    have y4 := hrs.cell (i := 4) (u := .slice none 0 0) rfl
    have z4 := hrs.frozen 4
    have HRS := hid hrs
    have HXX := hid hx
    clear hrs hx
    go_wp2_with fail
    refine bodyPost_ret (res_unp (b := r2) (v := .int .i64 8) (x0 := .int .i64 0) (x1 := .int .i64 0) (x2 := .slice none 0 0) (x3 := .slice none 0 0) (x4 := .slice none 0 0) rfl rfl ?_) rfl ⟨_, by rw [HE.out], ⟨by rw [HU.out]; exact IsB.zero, fun _ => rfl⟩, ?_⟩
    ·exact ((((HRS.out.set 0 (.int .i64 0)).set 1 (.int .i64 0)).set 2 (.slice none 0 0)).set 3 (.slice none 0 0)).set 4 (.slice none 0 0)
    ·exact ((((HXX.out.setCell (p := ⟨r2, 0, none⟩) hrw _).setCell (p := ⟨r2, 1, none⟩) hrw _).setCell (p := ⟨r2, 2, none⟩) hrw _).setCell (p := ⟨r2, 3, none⟩) hrw _).setCell (p := ⟨r2, 4, none⟩) hrw _
end Go.Proofs.YtngbfdogiciahaaGreat
