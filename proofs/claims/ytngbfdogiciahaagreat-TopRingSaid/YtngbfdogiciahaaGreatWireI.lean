/- The walks of the writer: numbers, texts, sets of dots. -/
import Derived.Test.YtngbfdogiciahaaGreatJoinWireQ
namespace Go.Proofs.YtngbfdogiciahaaGreat
open Go Go.RowKit
theorem Chg.down {B B' : Nat} {ts : List TypeId} {w w' : World} (h : Chg B ts w w') (hB : B' ≤ B) : Chg B' ts w w' := ⟨h.os, h.tape, h.output, h.size, fun k hk hc => h.block k hk (hc.imp (fun x => by omega) id)⟩
def Wr (base p : Nat) (w : World) (out : List UInt8) : Prop := base ≤ p ∧ ∃ v, Blk w p 213 #[v] ∧ OwnB w base v out
theorem Wr.ext {base p : Nat} {w w' : World} {out : List UInt8} (h : Wr base p w out) (x : Ext w w') : Wr base p w' out := by
 obtain ⟨h1, v, h2, h3⟩ := h
 exact ⟨h1, v, h2.ext x, h3.ext (B := 0) RByte.mono x⟩
theorem ints_lit {w w' : World} {cs : Array Value} {b : Nat} (B : Nat) (l : List Int) (hw : w' = w.alloc (.cells cs 3)) (hb : b = w.heap.size) (h : cs.toList = l.map (Value.int .i64)) : Sl B 3 RInt 1 w' (some ⟨b, 0, none⟩) l := by
 subst hw hb
 intro i x hx
 have hn := Blk.new w 3 cs
 refine ⟨w.heap.size, 0, [.int .i64 x], rfl, hn.lt, .inr hn.ty, rfl, ?_, rfl⟩
 intro j u hj
 match j, hj with
 | 0, hj =>
  simp at hj
  subst hj
  refine hn.cell ?_
  rw [← Array.getElem?_toList, h, List.getElem?_map]
  simp [hx]
theorem Wr.le {base p : Nat} {w : World} {out : List UInt8} (h : Wr base p w out) : base ≤ w.heap.size := by
 obtain ⟨h1, v, h2, _⟩ := h
 exact Nat.le_of_lt (Nat.lt_of_le_of_lt h1 h2.lt)
set_option maxRecDepth 100000 in
set_option maxHeartbeats 1000000 in
theorem wire_nums (base p : Nat) (A : Option Addr) (c : Nat) (l : List Int) (out : List UInt8) (w : World) (hw : Wr base p w out) (h : Sl base 3 RInt 1 w A l) (hl : out.length + 3 * l.length ≤ 10000000) (hn : ∀ n ∈ l, 0 ≤ n ∧ n < 16777216) :
  Calls Tryz.prog 126 #[.pointer (some ⟨p, 0, none⟩), .slice A l.length c] w fun e w' => e = .returned (.tuple #[]) ∧ Wr base p w' (out ++ nums l) ∧ Chg base [5, 213] w w' := by
 have hl0 : l.length ≤ 10000000 := by omega
 have HN := hid hn
 have HL := hid hl
 clear hn hl
 go_enter Tryz.func126, Tryz.ntmps126
 go_wp2_with fail
 go_loopw [8] (fun i wr => ∃ k : Nat, k ≤ l.length ∧ i = .int .i64 k ∧ Wr base p wr (out ++ nums (l.take k)) ∧ Chg base [5, 213] w wr) (fun i _ => l.length - (intOf i).toNat)
 case atStart => exact ⟨0, Nat.zero_le _, rfl, by simpa [nums] using hw, Chg.refl _⟩
 case round =>
  clear hw
  obtain ⟨k, hk, rfl, ⟨hp, v, hb, ho⟩, hx⟩ := hrel
  by_cases hlt : k < l.length
  ·obtain ⟨b, off, hA, hlb, hc⟩ := (h.chg RInt.mono (by decide) hx).int hlt
   subst hA
   have y0 := hb.cell (i := 0) (u := v) rfl
   obtain ⟨n, hn0, hn1⟩ : ∃ n : Nat, l[k] = (n : Int) ∧ n < 16777216 := by
    have := HN.out l[k] (List.getElem_mem hlt)
    exact ⟨l[k].toNat, by omega, by omega⟩
   rw [hn0] at hc
   obtain ⟨O, hO⟩ : ∃ O, O = out ++ nums (l.take k) := ⟨_, rfl⟩
   rw [← hO] at ho
   have HS := hid (show out ++ nums (l.take (k + 1)) = O ++ three n by rw [hO, nums_take l k hlt, hn0, List.append_assoc])
   have HLn := hid (show O.length + (three n).length ≤ 10000000 by
    rw [hO, List.length_append, nums_len, List.length_take, three_len]
    have := HL.out
    omega)
   clear hn0 hn1 hO
   have hxl := (Ext.refl wr).alloc (.cells #[.int .u8 ((n : Int) / 65536 % 256), .int .u8 ((n : Int) / 256 % 256), .int .u8 ((n : Int) % 256)] 5)
   have hL := (own_three wr base (Nat.le_trans (Nat.le_of_lt (Nat.lt_of_le_of_lt hp hb.lt)) (Nat.le_refl _)) (three n) #[.int .u8 ((n : Int) / 65536 % 256), .int .u8 ((n : Int) / 256 % 256), .int .u8 ((n : Int) % 256)] (by
    simp only [three, List.map_cons, List.map_nil, byteV_ofNat, Int.toNat_natCast]
    rfl) 3 rfl (by show 3 ≤ maxLen; unfold maxLen; omega)).sl base
   have ho1 := ho.ext (B := 0) RByte.mono hxl
   have hb1 := hb.ext hxl
   have hbs : base ≤ (wr.alloc (.cells #[.int .u8 ((n : Int) / 65536 % 256), .int .u8 ((n : Int) / 256 % 256), .int .u8 ((n : Int) % 256)] 5)).heap.size := Nat.le_trans (Nat.le_of_lt (Nat.lt_of_le_of_lt hp hb.lt)) hxl.size
   have hx1 := hx.trans (Chg.of_ext hxl)
   obtain ⟨A', c', rfl, _, _⟩ := ho.len
   clear hxl ho hb hx
   go_wp2_with (at_builtin; refine wpList_app (ys := three n) (c := 3) (B := base) rfl _ _ rfl ei_byte rfl ho1 (Nat.le_refl _) hbs rfl hL RByte.oneC RByte.mono (by have := HLn.out; unfold maxLen; omega) (by have := HLn.out; omega) ?_; intro v2 w2 ho2 hc2 hb2 _; obtain ⟨A2, c2, rfl, _, _⟩ := ho2.len; have hbk := hb1.chg hc2 (by decide); have y1 := hbk.cell (i := 0) (u := .slice A' O.length c') rfl; have y2 := hbk.frozen 0)
   go_roundw
   case rel =>
    refine ⟨k + 1, hlt, by go_num, ⟨hp, _, hbk.set 0 _, ?_⟩, ?_⟩
    ·rw [HS.out]
     rw [List.length_append] at ho2
     exact ho2.chgT (B := base) RByte.mono (by decide) ((Chg.refl (ts := [213]) w2).setCell (p := ⟨p, 0, none⟩) hbk.ty (by simp) _ hp)
    ·exact (hx1.trans (hc2.more (by simp))).setCell (p := ⟨p, 0, none⟩) hbk.ty (by simp) _ hp
   case measure => simp [intOf]; omega
  ·obtain rfl : k = l.length := by omega
   go_wp2_with fail
   go_end0
   rw [List.take_length] at ho
   exact ⟨rfl, ⟨hp, v, hb, ho⟩, hx⟩
set_option maxRecDepth 100000 in
set_option maxHeartbeats 1000000 in
theorem wire_text (base p : Nat) (s : ByteArray) (out : List UInt8) (w : World) (hw : Wr base p w out) (hs : s.size ≤ 100) (hl : out.length ≤ 9000000) :
  Calls Tryz.prog 127 #[.pointer (some ⟨p, 0, none⟩), .string s] w fun e w' => e = .returned (.tuple #[]) ∧ Wr base p w' (out ++ textB s) ∧ Chg base [5, 213] w w' := by
 have HS := hid hs
 have HL := hid hl
 clear hs hl
 have hp := hw.1
 have hx := (Ext.refl w).alloc (.cells #[.int .i64 s.size] 3)
 have hbs : base ≤ w.heap.size := by
  obtain ⟨h1, v, h2, _⟩ := hw
  exact Nat.le_trans (Nat.le_of_lt (Nat.lt_of_le_of_lt h1 h2.lt)) (Nat.le_refl _)
 go_enter Tryz.func127, Tryz.ntmps127
 go_wp2_with fail
 have hI : Sl base 3 RInt 1 (w.alloc (.cells #[.int .i64 s.size] 3)) (some ⟨w.heap.size, 0, none⟩) [(s.size : Int)] := Sl.one (cs := [.int .i64 s.size]) rfl rfl rfl
 refine (wire_nums base p (some ⟨w.heap.size, 0, none⟩) 1 [(s.size : Int)] out _ (hw.ext hx) hI (by have := HL.out; simp; omega) (by have := HS.out; simp; omega)).mono ?_
 rintro e w1 ⟨rfl, ⟨_, v, hb, ho⟩, hc⟩
 obtain ⟨O, hO⟩ : ∃ O, O = out ++ nums [(s.size : Int)] := ⟨_, rfl⟩
 rw [← hO] at ho
 have HOL := hid (show O.length + s.size ≤ 10000000 by
  rw [hO, List.length_append, nums_len]
  have := HS.out
  have := HL.out
  simp; omega)
 have HOE := hid (show out ++ textB s = O ++ s.data.toList by rw [hO, textB, nums_cons, List.append_assoc]; simp [nums])
 have hcc := (Chg.of_ext (B := base) (ts := [5, 213]) hx).trans hc
 have y0 := hb.cell (i := 0) (u := v) rfl
 have hbs1 : base ≤ w1.heap.size := Nat.le_trans hbs (Nat.le_trans hx.size hc.size)
 obtain ⟨A1, c1, rfl, _, _⟩ := ho.len
 clear hw hx hI hc hO
 go_wp2_with (at_builtin; refine wpList_appS (B := base) rfl _ _ rfl rfl ho (Nat.le_refl _) hbs1 rfl (by have := HOL.out; omega) ?_; intro v2 w2 ho2 hc2 hb2; obtain ⟨A2, c2, rfl, _, _⟩ := ho2.len; have hbk := hb.chg hc2 (by decide); have y1 := hbk.cell (i := 0) (u := .slice A1 O.length c1) rfl; have y2 := hbk.frozen 0)
 go_end0
 refine ⟨rfl, ⟨hp, _, hbk.set 0 _, ?_⟩, ?_⟩
 ·rw [HOE.out]
  rw [List.length_append] at ho2
  exact ho2.chgT (B := base) RByte.mono (by decide) ((Chg.refl (ts := [213]) w2).setCell (p := ⟨p, 0, none⟩) hbk.ty (by simp) _ hp)
 ·exact (hcc.trans (hc2.more (by simp))).setCell (p := ⟨p, 0, none⟩) hbk.ty (by simp) _ hp
set_option maxRecDepth 100000 in
set_option maxHeartbeats 1000000 in
theorem wire_know (base p B : Nat) (k : Know) (Av : Option Addr) (cv : Nat) (Am : Option Addr) (cm : Nat) (out : List UInt8) (w : World) (hw : Wr base p w out) (hB : B ≤ base) (hi : InK B w Av Am k) (hk : KnowOk k) (hl : out.length ≤ 9000000) :
  Calls Tryz.prog 128 #[.pointer (some ⟨p, 0, none⟩), .agg #[.slice Av k.vec.length cv, .slice Am k.more.length cm]] w fun e w' => e = .returned (.tuple #[]) ∧ Wr base p w' (out ++ knowB k) ∧ Chg base [5, 213] w w' := by
 have HK := hid hk
 have HL := hid hl
 have HI := hid hi
 clear hk hl hi
 have hp := hw.1
 have hbs : base ≤ w.heap.size := by
  obtain ⟨h1, v, h2, _⟩ := hw
  exact Nat.le_trans (Nat.le_of_lt (Nat.lt_of_le_of_lt h1 h2.lt)) (Nat.le_refl _)
 have hx := ((Ext.refl w).alloc (.cells #[.slice Av k.vec.length cv, .slice Am k.more.length cm] 101)).alloc (.cells #[.int .i64 k.vec.length] 3)
 have hbk := (Blk.new w 101 #[.slice Av k.vec.length cv, .slice Am k.more.length cm]).ext ((Ext.refl _).alloc (.cells #[.int .i64 k.vec.length] 3))
 go_enter Tryz.func128, Tryz.ntmps128
 go_wp2_with fail
 have hI := ints_lit base [(k.vec.length : Int)] (rfl : (w.alloc (.cells #[.slice Av k.vec.length cv, .slice Am k.more.length cm] 101)).alloc (.cells #[.int .i64 k.vec.length] 3) = _) (World.size_alloc _ _).symm rfl
 refine (wire_nums base p _ 1 [(k.vec.length : Int)] out _ (hw.ext hx) hI (by have := HL.out; simp; omega) (by have := HK.out.vlen; simp; omega)).mono ?_
 rintro e w1 ⟨rfl, hw1, hc1⟩
 obtain ⟨O1, hO1⟩ : ∃ O, O = out ++ nums [(k.vec.length : Int)] := ⟨_, rfl⟩
 rw [← hO1] at hw1
 have HL1 := hid (show O1.length ≤ 9000010 by
  rw [hO1, List.length_append, nums_len]
  have := HL.out
  simp; omega)
 have hcc := (Chg.of_ext (B := base) (ts := [5, 213]) hx).trans hc1
 replace hbk := hbk.chg hc1 (by decide)
 have y0 := hbk.cell (i := 0) (u := .slice Av k.vec.length cv) rfl
 clear hw hx hI hc1
 go_wp2_with fail
 refine (wire_nums base p _ cv k.vec O1 _ hw1 (((HI.out.sv.old (fun _ _ h => h) hB).chg RInt.mono (by decide) hcc)) (by have := HL1.out; have := HK.out.vlen; omega) (fun n hn => by have := HK.out.vec n hn; omega)).mono ?_
 rintro e w2 ⟨rfl, hw2, hc2⟩
 replace hcc := hcc.trans hc2
 replace hbk := hbk.chg hc2 (by decide)
 obtain ⟨O2, hO2⟩ : ∃ O, O = O1 ++ nums k.vec := ⟨_, rfl⟩
 rw [← hO2] at hw2
 have HL2 := hid (show O2.length ≤ 9000100 by
  rw [hO2, List.length_append, nums_len]
  have := HL1.out
  have := HK.out.vlen
  omega)
 have y1 := hbk.cell (i := 1) (u := .slice Am k.more.length cm) rfl
 have hxa := (Ext.refl w2).alloc (.cells #[.int .i64 k.more.length] 3)
 clear hw1 hc2 y0
 go_wp2_with fail
 refine (wire_nums base p _ 1 [(k.more.length : Int)] O2 _ (hw2.ext hxa) (ints_lit base [(k.more.length : Int)] rfl rfl rfl) (by have := HL2.out; simp; omega) (by have := HK.out.mlen; simp; omega)).mono ?_
 rintro e w3 ⟨rfl, hw3, hc3⟩
 replace hcc := (hcc.trans (Chg.of_ext hxa)).trans hc3
 replace hbk := (hbk.ext hxa).chg hc3 (by decide)
 obtain ⟨O3, hO3⟩ : ∃ O, O = O2 ++ nums [(k.more.length : Int)] := ⟨_, rfl⟩
 rw [← hO3] at hw3
 have HL3 := hid (show O3.length ≤ 9000110 by
  rw [hO3, List.length_append, nums_len]
  have := HL2.out
  simp; omega)
 have HOE := hid (show out ++ knowB k = O3 ++ dotsB k.more by
  rw [hO3, hO2, hO1, knowB]
  simp [nums, List.append_assoc])
 have hm60 : k.more.length ≤ 60 := HK.out.mlen
 have y0 := hbk.cell (i := 1) (u := .slice Am k.more.length cm) rfl
 clear hw2 hc3 y1 hxa hO1 hO2 hO3
 go_wp2_with fail
 go_loopw [25] (fun i wr => ∃ j : Nat, j ≤ k.more.length ∧ i = .int .i64 j ∧ Wr base p wr (O3 ++ dotsB (k.more.take j)) ∧ Chg base [5, 213] w wr) (fun i _ => k.more.length - (intOf i).toNat)
 case atStart => exact ⟨0, Nat.zero_le _, rfl, by simpa [dotsB] using hw3, hcc⟩
 case round =>
  clear hw3 hcc hbk y0
  obtain ⟨j, hj, rfl, hw3, hcc⟩ := hrel
  by_cases hlt : j < k.more.length
  ·obtain ⟨b, off, hA, hlb, hc0, hc1⟩ := ((HI.out.sm.old (fun _ _ h => h) hB).chg RPair.mono (by decide) hcc).pair hlt
   subst hA
   have HD := hid (HK.out.more _ (List.getElem_mem hlt)).1
   have HS := hid (show O3 ++ dotsB (k.more.take (j + 1)) = (O3 ++ dotsB (k.more.take j)) ++ nums [k.more[j].site, k.more[j].count] by
    rw [dotsB, flat_take _ _ _ hlt, ← dotsB, List.append_assoc])
   obtain ⟨O4, hO4⟩ : ∃ O, O = O3 ++ dotsB (k.more.take j) := ⟨_, rfl⟩
   rw [← hO4] at hw3 HS
   have HL4 := hid (show O4.length ≤ 9100000 by
    rw [hO4, List.length_append]
    have h1 := dotsB_len (k.more.take j)
    rw [List.length_take] at h1
    have := HL3.out
    omega)
   obtain ⟨d, hd⟩ : ∃ d, d = k.more[j] := ⟨_, rfl⟩
   rw [← hd] at hc0 hc1 HD HS
   have hxa := ((Ext.refl wr).alloc (.cells #[.int .i64 d.site, .int .i64 d.count] 35)).alloc (.cells #[.int .i64 d.site, .int .i64 d.count] 3)
   clear hO4 hd
   go_wp2_with fail
   refine (wire_nums base p _ 2 [d.site, d.count] O4 _ (hw3.ext hxa) (ints_lit base [d.site, d.count] rfl (World.size_alloc _ _).symm rfl) (by have := HL4.out; simp; omega) (by have := dotOk_iff.1 HD.out; simp; omega)).mono ?_
   rintro e w4 ⟨rfl, hw4, hc4⟩
   rw [← HS.out] at hw4
   replace hcc := (hcc.trans (Chg.of_ext hxa)).trans hc4
   clear hw3 hc4 hxa
   go_wp2_with fail
   go_roundw
   case rel => exact ⟨j + 1, hlt, by go_num, hw4, hcc⟩
   case measure => simp [intOf]; omega
  ·obtain rfl : j = k.more.length := by omega
   rw [List.take_length, ← HOE.out] at hw3
   go_wp2_with fail
   go_end0
   exact ⟨rfl, hw3, hcc⟩
end Go.Proofs.YtngbfdogiciahaaGreat
