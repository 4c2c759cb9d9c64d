/- The walk of a Site's Make. -/
import Derived.Test.YtngbfdogiciahaaGreatShort
import Derived.Test.YtngbfdogiciahaaGreatJoinSiteY
import Derived.Test.YtngbfdogiciahaaGreatPutW
namespace Go.Proofs.YtngbfdogiciahaaGreat
open Go Go.RowKit
theorem make_no {s : SiteS} {id : ByteArray} {p : Point} {body e : Int} (h : makeErr s id p body = e) (he : e ≠ 0) : makeErr s id p body = e ∧ makeDot s id p body = ⟨0, 0⟩ ∧ makeS s id p body = s := by
 have h0 : makeErr s id p body ≠ 0 := by rw [h]; exact he
 unfold makeDot makeS
 rw [if_neg h0, if_neg h0]
 exact ⟨h, rfl, rfl⟩
theorem make_yes {s : SiteS} {id : ByteArray} {p : Point} {body : Int} (h : makeErr s id p body = 0) : makeDot s id p body = ⟨s.me, s.made + 1⟩ ∧ makeS s id p body = { s with shelf := putOut s.shelf (madeV s id p body), made := s.made + 1 } := by
 unfold makeDot makeS
 rw [if_pos h, if_pos h]
 exact ⟨rfl, rfl⟩
theorem res_made {w : World} {v : Value} {b : Nat} {x y : Value} {tmps : Array Value} (h8 : tmps.getD 8 undef = .pointer (some ⟨b, 0, none⟩)) (h9 : tmps.getD 9 undef = v) (c1 : w.cell? ⟨b, 0, none⟩ = some x) (c2 : w.cell? ⟨b, 1, none⟩ = some y) :
  (results Tryz.f35 tmps).run Tryz.prog w = .ok (.tuple #[.agg #[x, y], v]) w := by
 have h8' : tmps[8]?.getD undef = .pointer (some ⟨b, 0, none⟩) := by simpa using h8
 have h9' : tmps[9]?.getD undef = v := by simpa using h9
 simp [results, Tryz.results35, go_sem, h8', h9', c1, c2]
structure Z8 (B : Nat) (w w' : World) (b : Nat) : Prop where
 blk : Blk w b 35 #[.int .i64 0, .int .i64 0]
 other : ∀ k, k ≠ b → w'.heap[k]? = w.heap[k]?
 size : w.heap.size ≤ w'.heap.size
 hB : B ≤ b
theorem z8_two {B : Nat} {w : World} {b : Nat} (h : Blk w b 35 #[.int .i64 0, .int .i64 0]) (hB : B ≤ b) (x y : Value) : Z8 B w ((w.setCell ⟨b, 0, none⟩ x).setCell ⟨b, 1, none⟩ y) b :=
 ⟨h, fun k hk => (Below.heap_setCell _ _ _ k hk).trans (Below.heap_setCell _ _ _ k hk), by simp [World.setCell], hB⟩
theorem fr_two {r b : Nat} {a w : World} (h : Fr r a w) (hb : a.heap.size ≤ b) (x y : Value) : Fr r a ((w.setCell ⟨b, 0, none⟩ x).setCell ⟨b, 1, none⟩ y) := (h.setCell (p := ⟨b, 0, none⟩) hb x).setCell (p := ⟨b, 1, none⟩) hb y
theorem sl_z8 {α : Type} {B : Nat} {e : TypeId} {R : World → List Value → α → Prop} {sz : Nat} {w w' : World} {b8 : Nat} {A : Option Addr} {l : List α} (h : Sl B e R sz w A l) (z : Z8 B w w' b8)
  (hn : ∀ (i : Nat) (y : α) (off : Nat) (cs : List Value), l[i]? = some y → cs.length = sz → CellsAt w b8 (off + i * sz) cs → R w cs y → (b8 < B ∨ tyAt w b8 = some e) → False) (hR : ∀ y ∈ l, ∀ cs, R w cs y → R w' cs y) : Sl B e R sz w' A l := by
 intro i y hy
 obtain ⟨b, off, cs, hA, hb, hk, hl, hc, hr⟩ := h i y hy
 have hne : b ≠ b8 := by
  rintro rfl
  exact hn i y off cs hy hl hc hr hk
 have hblk := z.other b hne
 refine ⟨b, off, cs, hA, Nat.lt_of_lt_of_le hb z.size, hk.imp id (fun ht => by rw [tyAt_of hblk]; exact ht), hl, fun j u hu => (World.cell?_of_block (w := w) hblk).trans (hc j u hu), hR y (List.mem_of_getElem? hy) cs hr⟩
theorem sl_z8t {α : Type} {B : Nat} {e : TypeId} {R : World → List Value → α → Prop} {sz : Nat} {w w' : World} {b8 : Nat} {A : Option Addr} {l : List α} (h : Sl B e R sz w A l) (z : Z8 B w w' b8) (he : e ≠ 35) (hR : ∀ y ∈ l, ∀ cs, R w cs y → R w' cs y) : Sl B e R sz w' A l :=
 sl_z8 h z (fun i y off cs _ _ _ _ hk => by
  rcases hk with hk | hk
  ·exact absurd z.hB (by omega)
  ·rw [z.blk.ty] at hk
   injection hk with hk
   exact he hk.symm) hR
theorem dots_z8 {B : Nat} {w w' : World} {b8 : Nat} {A : Option Addr} {l : List Dot} (h : SlDots B w A l) (z : Z8 B w w' b8) (hl : ∀ d ∈ l, dotOk d = true) : SlDots B w' A l := by
 refine sl_z8 h z (fun i y off cs hy hlen hc hr _ => ?_) (fun _ _ _ h => h)
 have hd := (dotOk_iff.1 (hl y (List.mem_of_getElem? hy))).2.2.1
 rw [hr] at hc
 have h1 := hc 1 (.int .i64 y.count) rfl
 rw [World.cell?, z.blk] at h1
 have h2 : ∀ k : Nat, (#[.int .i64 0, .int .i64 0] : Array Value)[k]? = some (.int .i64 y.count) → y.count = 0 := by
  intro k hk
  match k, hk with
  | 0, hk => simp at hk; exact hk.symm
  | 1, hk => simp at hk; exact hk.symm
  | k + 2, hk => simp at hk
 have := h2 _ h1
 omega
theorem IsSl.z8t {α : Type} {B : Nat} {e : TypeId} {R : World → List Value → α → Prop} {sz : Nat} {w w' : World} {b8 : Nat} {v : Value} {l : List α} (h : IsSl B e R sz w v l) (z : Z8 B w w' b8) (he : e ≠ 35) (hR : ∀ y ∈ l, ∀ cs, R w cs y → R w' cs y) : IsSl B e R sz w' v l := by
 obtain ⟨A, c, h1, h2, h3, h4⟩ := h
 exact ⟨A, c, h1, h2, h3, sl_z8t h4 z he hR⟩
theorem IsDots.z8 {B : Nat} {w w' : World} {b8 : Nat} {v : Value} {l : List Dot} (h : IsDots B w v l) (z : Z8 B w w' b8) (hl : ∀ d ∈ l, dotOk d = true) : IsDots B w' v l := by
 obtain ⟨A, c, h1, h2, h3, h4⟩ := h
 exact ⟨A, c, h1, h2, h3, dots_z8 h4 z hl⟩
theorem boxes_z8 {B : Nat} {w w' : World} {b8 : Nat} {A : Option Addr} {l : List Box} (h : SlBoxes B w A l) (z : Z8 B w w' b8) : SlBoxes B w' A l := by
 refine sl_z8t h z (by decide) ?_
 rintro y _ cs ⟨v, rfl, hv⟩
 exact ⟨v, rfl, hv.z8t z (by decide) (fun _ _ _ h => h)⟩
theorem vers_z8 {B : Nat} {w w' : World} {b8 : Nat} {A : Option Addr} {l : List Version} (h : SlVers B w A l) (z : Z8 B w w' b8) (hl : ∀ v ∈ l, VerOk v) : SlVers B w' A l := by
 refine sl_z8t h z (by decide) ?_
 rintro y hy cs ⟨a, m, rfl, ha, hm, hz⟩
 exact ⟨a, m, rfl, ha.z8t z (by decide) (fun _ _ _ h => h), hm.z8 z (fun d hd => ((hl y hy).k.more d hd).1), hz⟩
theorem parts_z8 {B : Nat} {w w' : World} {b8 : Nat} {A : Option Addr} {l : List Part} (h : SlParts B w A l) (z : Z8 B w w' b8) (hl : ∀ v ∈ l, PartOk v) : SlParts B w' A l := by
 refine sl_z8t h z (by decide) ?_
 rintro y hy cs ⟨f, a, m, rfl, hf, ha, hm⟩
 refine ⟨f, a, m, rfl, ?_, ha.z8t z (by decide) (fun _ _ _ h => h), hm.z8 z (fun d hd => ((hl y hy).k.more d hd).1)⟩
 obtain ⟨A', c', h1, h2, h3, h4⟩ := hf
 exact ⟨A', c', h1, h2, h3, boxes_z8 h4 z⟩
theorem SiteAt.z8 {B : Nat} {w w' : World} {r b8 : Nat} {Af : Option Addr} {cf : Nat} {Ax : Option Addr} {cx : Nat} {Ap : Option Addr} {cp : Nat} {s : SiteS} (h : SiteAt B w r Af cf Ax cx Ap cp s) (hok : SiteOk s) (z : Z8 B w w' b8) (hne : r ≠ b8) : SiteAt B w' r Af cf Ax cx Ap cp s :=
 ⟨(z.other r hne).trans h.blk, boxes_z8 h.sf z, vers_z8 h.sx z hok.shelf.all, parts_z8 h.sp z hok.parts⟩
theorem InK.old {B : Nat} {w : World} {Av Am : Option Addr} {k : Know} (h : InK 0 w Av Am k) : InK B w Av Am k := ⟨h.lv, h.lm, h.sv.old (fun _ _ h => h) (Nat.zero_le _), h.sm.old (fun _ _ h => h) (Nat.zero_le _)⟩
set_option maxRecDepth 100000 in
set_option maxHeartbeats 8000000 in
theorem site_Make (B : Nat) (r : Nat) (s : SiteS) (id : ByteArray) (p : Point) (body : Int) (w : World) (hB : B ≤ w.heap.size) (hBr : B ≤ r) (hok : SiteOk s) (hz : id.size ≤ maxLen) (h : IsSite B w r s) :
  Calls Tryz.prog 35 #[.pointer (some ⟨r, 0, none⟩), .string id, .agg #[.int .i64 p.tags, .int .i64 p.num], .int .i64 body] w fun e w' => e = .returned (.tuple #[.agg #[.int .i64 (makeDot s id p body).site, .int .i64 (makeDot s id p body).count], .int .i64 (makeErr s id p body)]) ∧ IsSite B w' r (makeS s id p body) ∧ Fr r w w' := by
 have hrl0 := h.lt
 obtain ⟨Af, cf, Ax, cx, Ap, cp, hsite⟩ := h
 have HB := hid hB
 have HBR := hid hBr
 have HOK := hid hok
 have hx := ((Ext.refl w).alloc (.cells #[.int .i64 p.tags, .int .i64 p.num] 40)).alloc (.cells #[.int .i64 0, .int .i64 0] 35)
 have hb6 := (Blk.new w 40 #[.int .i64 p.tags, .int .i64 p.num]).alloc (.cells #[.int .i64 0, .int .i64 0] 35)
 have hb8 := Blk.new (w.alloc (.cells #[.int .i64 p.tags, .int .i64 p.num] 40)) 35 #[.int .i64 0, .int .i64 0]
 rw [show (w.alloc (.cells #[.int .i64 p.tags, .int .i64 p.num] 40)).heap.size = w.heap.size + 1 by simp] at hb8
 replace hsite := hsite.ext hx
 have m0 := hok.made0
 have m1 := hok.made1
 have hmw : IntKind.i64.wrap (s.made + 1) = s.made + 1 := by rw [IntKind.wrap_i64]; omega
 have HMD := hid (show makeErr s id p body = if idOk id = true then (if (pointOk p && bodyOk body) = true then (if s.made = 1000 then 2 else if pastErr s.shelf id = 0 then putErr s.shelf (madeV s id p body) else pastErr s.shelf id) else 1) else 3 from rfl)
 have HBD := hid (body_two body)
 clear hB hBr hok
 go_enter Tryz.func35, Tryz.ntmps35
 go_wp2_with fail
 refine (shelf_Id id _).mono ?_
 rintro e w1 ⟨rfl, hx1⟩
 replace hb6 := hb6.ext hx1
 replace hb8 := hb8.ext hx1
 replace hsite := hsite.ext hx1
 replace hx := hx.trans hx1
 clear hx1
 obtain ⟨b6, hb6d⟩ : ∃ b, b = w.heap.size := ⟨_, rfl⟩
 obtain ⟨b8, hb8d⟩ : ∃ b, b = w.heap.size + 1 := ⟨_, rfl⟩
 have HN8 := hid (show b8 ≠ r by omega)
 have HW8 := hid (show w.heap.size ≤ b8 by omega)
 have HBb8 := hid (show B ≤ b8 by have := HB.out; omega)
 rw [← hb8d, ← hb6d]
 rw [← hb6d] at hb6
 rw [← hb8d] at hb8
 clear hb6d hb8d
 cases hi1 : idOk id
 ·have HNO := hid (make_no (e := 3) (by rw [HMD.out, hi1]; rfl) (by decide))
  clear hi1
  have y0 := hb8.cell (i := 0) (u := .int .i64 0) rfl
  have y1 := hb8.cell (i := 1) (u := .int .i64 0) rfl
  have z0 := hb8.frozen 0
  have z1 := hb8.frozen 1
  go_wp2_with fail
  refine bodyPost_ret (v := .tuple #[.agg #[.int .i64 0, .int .i64 0], .int .i64 3]) (res_made (b := b8) rfl rfl ?_ ?_) rfl ⟨by rw [HNO.out.1, HNO.out.2.1] <;> rfl, ?_, ?_⟩
  ·go_simp
  ·go_simp
  ·rw [HNO.out.2.2]; exact (hsite.z8 HOK.out (z8_two hb8 HBb8.out _ _) HN8.out.symm).is
  ·exact fr_two (Fr.of_ext hx) HW8.out _ _
 ·have HID := hid hi1
  clear hi1
  have p0 := hb6.cell (i := 0) (u := .int .i64 p.tags) rfl
  have p1 := hb6.cell (i := 1) (u := .int .i64 p.num) rfl
  have hb6l := hb6.lt
  go_wp2_with fail
  refine (filter_Point p _).mono ?_
  rintro e w2 ⟨rfl, hx2⟩
  replace hb6 := hb6.ext hx2
  replace hb8 := hb8.ext hx2
  replace hsite := hsite.ext hx2
  replace hx := hx.trans hx2
  clear hx2 p0 p1 hb6l
  cases hp1 : pointOk p
  ·have HNO := hid (make_no (e := 1) (by rw [HMD.out, if_pos HID.out, hp1]; rfl) (by decide))
   clear hp1
   have y0 := hb8.cell (i := 0) (u := .int .i64 0) rfl
   have y1 := hb8.cell (i := 1) (u := .int .i64 0) rfl
   have z0 := hb8.frozen 0
   have z1 := hb8.frozen 1
   go_wp2_with fail
   refine bodyPost_ret (v := .tuple #[.agg #[.int .i64 0, .int .i64 0], .int .i64 1]) (res_made (b := b8) rfl rfl ?_ ?_) rfl ⟨by rw [HNO.out.1, HNO.out.2.1] <;> rfl, ?_, ?_⟩
   ·go_simp
   ·go_simp
   ·rw [HNO.out.2.2]; exact (hsite.z8 HOK.out (z8_two hb8 HBb8.out _ _) HN8.out.symm).is
   ·exact fr_two (Fr.of_ext hx) HW8.out _ _
  ·have HP := hid hp1
   clear hp1
   by_cases hbn : body < 0
   ·have hbn' : decide (body < 0) = true := decide_eq_true hbn
    have HNO := hid (make_no (e := 1) (by rw [HMD.out, if_pos HID.out, HP.out, HBD.out, hbn']; rfl) (by decide))
    clear hbn
    have y0 := hb8.cell (i := 0) (u := .int .i64 0) rfl
    have y1 := hb8.cell (i := 1) (u := .int .i64 0) rfl
    have z0 := hb8.frozen 0
    have z1 := hb8.frozen 1
    go_wp2_with fail
    refine bodyPost_ret (v := .tuple #[.agg #[.int .i64 0, .int .i64 0], .int .i64 1]) (res_made (b := b8) rfl rfl ?_ ?_) rfl ⟨by rw [HNO.out.1, HNO.out.2.1] <;> rfl, ?_, ?_⟩
    ·go_simp
    ·go_simp
    ·rw [HNO.out.2.2]; exact (hsite.z8 HOK.out (z8_two hb8 HBb8.out _ _) HN8.out.symm).is
    ·exact fr_two (Fr.of_ext hx) HW8.out _ _
   ·have hbn' : decide (body < 0) = false := decide_eq_false hbn
    by_cases hbm : 1000000 < body
    ·have hbm' : decide (1000000 < body) = true := decide_eq_true hbm
     have HNO := hid (make_no (e := 1) (by rw [HMD.out, if_pos HID.out, HP.out, HBD.out, hbn', hbm']; rfl) (by decide))
     clear hbn hbm
     have y0 := hb8.cell (i := 0) (u := .int .i64 0) rfl
     have y1 := hb8.cell (i := 1) (u := .int .i64 0) rfl
     have z0 := hb8.frozen 0
     have z1 := hb8.frozen 1
     go_wp2_with fail
     refine bodyPost_ret (v := .tuple #[.agg #[.int .i64 0, .int .i64 0], .int .i64 1]) (res_made (b := b8) rfl rfl ?_ ?_) rfl ⟨by rw [HNO.out.1, HNO.out.2.1] <;> rfl, ?_, ?_⟩
     ·go_simp
     ·go_simp
     ·rw [HNO.out.2.2]; exact (hsite.z8 HOK.out (z8_two hb8 HBb8.out _ _) HN8.out.symm).is
     ·exact fr_two (Fr.of_ext hx) HW8.out _ _
    ·have hbm' : decide (1000000 < body) = false := decide_eq_false hbm
     have HBK := hid (show (pointOk p && bodyOk body) = true by rw [HP.out, HBD.out, hbn', hbm']; rfl)
     clear hbn hbm
     have q1 := hsite.blk.cell (i := 1) (u := .int .i64 s.made) rfl
     have hrl := hsite.blk.lt
     by_cases hmd : s.made = 1000
     ·have hmd' : (s.made == 1000) = true := by rw [hmd]; rfl
      have HNO := hid (make_no (e := 2) (by rw [HMD.out, if_pos HID.out, if_pos HBK.out, if_pos hmd]) (by decide))
      clear hmd
      have y0 := hb8.cell (i := 0) (u := .int .i64 0) rfl
      have y1 := hb8.cell (i := 1) (u := .int .i64 0) rfl
      have z0 := hb8.frozen 0
      have z1 := hb8.frozen 1
      go_wp2_with fail
      refine bodyPost_ret (v := .tuple #[.agg #[.int .i64 0, .int .i64 0], .int .i64 2]) (res_made (b := b8) rfl rfl ?_ ?_) rfl ⟨by rw [HNO.out.1, HNO.out.2.1] <;> rfl, ?_, ?_⟩
      ·go_simp
      ·go_simp
      ·rw [HNO.out.2.2]; exact (hsite.z8 HOK.out (z8_two hb8 HBb8.out _ _) HN8.out.symm).is
      ·exact fr_two (Fr.of_ext hx) HW8.out _ _
     ·have hmd' : (s.made == 1000) = false := by rw [beq_eq_false_iff_ne]; exact hmd
      have HMM := hid (show makeErr s id p body = if pastErr s.shelf id = 0 then putErr s.shelf (madeV s id p body) else pastErr s.shelf id by rw [HMD.out, if_pos HID.out, if_pos HBK.out, if_neg hmd])
      clear hmd
      have q4 := hsite.blk.cell (i := 4) (u := .slice Ax s.shelf.length cx) rfl
      go_wp2_with fail
      refine (shelf_Past B Ax cx s.shelf id _ (Nat.le_trans HB.out hx.size) (by have := HOK.out.shelf.len; unfold maxLen; omega) hsite.sx).mono ?_
      rintro e w2b ⟨x2, rfl, hk, hx2⟩
      obtain ⟨A2, c2, A3, c3, rfl, k1, k2, k3, k4, hk⟩ := hk
      have HCK := hid (show ((madeV s id p body).past.vec.length ≤ c2 ∧ c2 ≤ maxLen) ∧ ((madeV s id p body).past.more.length ≤ c3 ∧ c3 ≤ maxLen) ∧ (madeV s id p body).id.size ≤ maxLen from ⟨⟨k1, k2⟩, ⟨k3, k4⟩, hz⟩)
      replace hk := hk.old (B := B)
      replace hb6 := hb6.ext hx2
      replace hb8 := hb8.ext hx2
      replace hsite := hsite.ext hx2
      replace hx := hx.trans hx2
      clear hx2 q1 q4 hrl k1 k2 k3 k4
      by_cases hpe : pastErr s.shelf id = 0
      ·rw [hpe]
       have HME := hid (show makeErr s id p body = putErr s.shelf (madeV s id p body) by rw [HMM.out, if_pos hpe])
       clear hpe
       have hxk := (Ext.refl w2b).alloc (.cells #[.slice A2 (pastKn s.shelf id).vec.length c2, .slice A3 (pastKn s.shelf id).more.length c3] 101)
       have hb10 := Blk.new w2b 101 #[.slice A2 (pastKn s.shelf id).vec.length c2, .slice A3 (pastKn s.shelf id).more.length c3]
       obtain ⟨w3, hw3⟩ : ∃ w3, w3 = w2b.alloc (.cells #[.slice A2 (pastKn s.shelf id).vec.length c2, .slice A3 (pastKn s.shelf id).more.length c3] 101) := ⟨_, rfl⟩
       obtain ⟨b10, hb10d⟩ : ∃ b, b = w2b.heap.size := ⟨_, rfl⟩
       have HW3 := hid hw3
       have HB10D := hid hb10d
       rw [← hw3] at hxk hb10
       rw [← hb10d] at hb10
       replace hb6 := hb6.ext hxk
       replace hb8 := hb8.ext hxk
       replace hsite := hsite.ext hxk
       replace hk := hk.ext hxk
       replace hx := hx.trans hxk
       clear hxk hw3 hb10d
       have hone : (#[.slice A2 (pastKn s.shelf id).vec.length c2, .slice A3 (pastKn s.shelf id).more.length c3] : Array Value).size = 2 := rfl
       go_wp2_with fail
       rw [← HW3.out, ← HB10D.out]
       obtain ⟨w10, hw10⟩ : ∃ w, w = w3 := ⟨_, rfl⟩
       rw [← hw10] at hsite hb6 hb8 hb10 hk hx ⊢
       clear hw10
       have HAll := hid (fun w' (x : Ext w10 w') => show w'.cell? ⟨r, 0, none⟩ = some (.int .i64 s.me) ∧ w'.cell? ⟨r, 1, none⟩ = some (.int .i64 s.made) from ⟨(hsite.ext x).blk.cell rfl, (hsite.ext x).blk.cell rfl⟩)
       have HRL := hid (Nat.lt_of_lt_of_le hrl0 hx.size)
       have HS := hid hsite
       have HB6 := hid hb6
       have HB8 := hid hb8
       have HB10 := hid hb10
       have HK := hid hk
       have HX := hid hx
       clear hsite hb6 hb8 hb10 hk hx
       go_wp2_with fail
       have hyn := (Ext.refl w10).drew
       refine wp_region_held_drew (S := fun w' => w'.cell? ⟨r, 0, none⟩ = some (.int .i64 s.me) ∧ w'.cell? ⟨r, 1, none⟩ = some (.int .i64 s.made)) (by kernel_rfl) (HAll.out _ hyn) (fun hHeld => ?_)
       obtain ⟨wc, hwc⟩ : ∃ wc, wc = w10.drew := ⟨_, rfl⟩
       rw [← hwc] at hHeld hyn ⊢
       clear hwc
       refine tk 0 ?_ rfl (by kernel_rfl) (fun _ _ _ h => h) (by rfl) ?_ (by assumption) ?_
       rotate_left
       ·intro w' hSw; (try dsimp only at hSw); go_simp <;> with_reducible rfl
       simp only [gq]; try simp only [pq]
       refine tk 1 ?_ rfl (by kernel_rfl) (fun _ _ _ h => h) (by rfl) ?_ (by assumption) ?_
       rotate_left
       ·intro w' hSw; (try dsimp only at hSw); go_simp <;> with_reducible rfl
       simp only [gq]; try simp only [pq]
       refine tk 2 ?_ rfl (by kernel_rfl) (fun _ _ _ h => h) (by rfl) ?_ (by assumption) ?_
       rotate_left
       ·intro w' hSw; (try dsimp only at hSw); go_simp <;> with_reducible rfl
       simp only [gq]; try simp only [pq]
       refine tk 3 ?_ rfl (by kernel_rfl) (fun _ _ _ h => h) (by rfl) ?_ (by assumption) ?_
       rotate_left
       ·intro w' hSw; (try dsimp only at hSw); go_simp <;> with_reducible rfl
       simp only [gq]; try simp only [pq]
       refine tk 4 ?_ rfl (by kernel_rfl) (fun _ _ _ h => h) (by rfl) ?_ (by assumption) ?_
       rotate_left
       ·intro w' hSw; (try dsimp only at hSw); go_simp <;> with_reducible rfl
       simp only [gq]; try simp only [pq]
       refine tk 5 ?_ rfl (by kernel_rfl) (fun _ _ _ h => h) (by rfl) ?_ (by assumption) ?_
       rotate_left
       ·intro w' hSw; (try dsimp only at hSw); go_simp <;> with_reducible rfl
       simp only [gq]; try simp only [pq]
       refine tk 6 ?_ rfl (by kernel_rfl) (fun _ _ _ h => h) (by rfl) ?_ (by assumption) ?_
       rotate_left
       ·intro w' hSw; (try dsimp only at hSw); go_simp <;> with_reducible rfl
       simp only [gq]; try simp only [pq]
       refine tk 7 ?_ rfl (by kernel_rfl) (fun _ _ _ h => h) (by rfl) ?_ (by assumption) ?_
       rotate_left
       ·intro w' hSw; (try dsimp only at hSw); go_simp <;> with_reducible rfl
       simp only [gq]; try simp only [pq]
       refine tk 8 ?_ rfl (by kernel_rfl) (fun _ _ _ h => h) (by rfl) ?_ (by assumption) ?_
       rotate_left
       ·intro w' hSw; (try dsimp only at hSw); go_simp <;> with_reducible rfl
       simp only [gq]; try simp only [pq]
       refine tk 9 ?_ rfl (by kernel_rfl) (fun _ _ _ h => h) (by rfl) ?_ (by assumption) ?_
       rotate_left
       ·intro w' hSw; (try dsimp only at hSw); go_simp <;> with_reducible rfl
       simp only [gq]; try simp only [pq]
       refine wpAnyH_ready (rs := [10]) (by kernel_rfl) (by simp) ?_
       refine AllReadyH.cons rfl (fun K hK => ?_) AllReadyH.nil
       simp only [gq]
       go_simp
       have hb12 := Blk.new wc 35 #[.int .i64 0, .int .i64 0]
       have hxa := (Ext.refl wc).alloc (.cells #[.int .i64 0, .int .i64 0] 35)
       have hge := hyn.size
       replace hyn := hyn.trans hxa
       obtain ⟨wn, hwn⟩ : ∃ wn, wn = wc.alloc (.cells #[.int .i64 0, .int .i64 0] 35) := ⟨_, rfl⟩
       obtain ⟨b12, hb12d⟩ : ∃ b, b = wc.heap.size := ⟨_, rfl⟩
       rw [← hwn] at hyn hb12
       rw [← hwn, ← hb12d]
       rw [← hb12d] at hb12 hge
       clear hxa hwn hb12d
       obtain ⟨wc, rfl⟩ : ∃ wc', wc' = wn := ⟨_, rfl⟩
       refine hK.out _ _ (HAll.out _ hyn) (fun hHeld => ?_)
       clear hK K
       try simp only [pq]
       refine wpAnyH_ready (rs := [11]) (by kernel_rfl) (by simp) ?_
       refine AllReadyH.cons rfl (fun K hK => ?_) AllReadyH.nil
       simp only [gq]
       have y0 := hb12.cell (i := 0) (u := .int .i64 0) rfl
       have y1 := hb12.cell (i := 1) (u := .int .i64 0) rfl
       have z0 := hb12.frozen 0
       have z1 := hb12.frozen 1
       go_simp
       have hyz := (hyn.setCell (p := ⟨b12, 0, none⟩) hge (.int .i64 s.me)).setCell (p := ⟨b12, 1, none⟩) hge (.int .i64 (s.made + 1))
       have hb9 : Blk ((wc.setCell ⟨b12, 0, none⟩ (.int .i64 s.me)).setCell ⟨b12, 1, none⟩ (.int .i64 (s.made + 1))) b12 35 #[.int .i64 s.me, .int .i64 (s.made + 1)] := by simpa using (hb12.set 0 (.int .i64 s.me)).set 1 (.int .i64 (s.made + 1))
       clear y0 y1 z0 z1
       obtain ⟨wn, hwn⟩ : ∃ wn, wn = (wc.setCell ⟨b12, 0, none⟩ (.int .i64 s.me)).setCell ⟨b12, 1, none⟩ (.int .i64 (s.made + 1)) := ⟨_, rfl⟩
       rw [← hwn] at hyz hb9 ⊢
       clear hwn hyn hb12
       refine hK.out _ _ (HAll.out _ hyz) (fun hHeld => ?_)
       clear hK K
       try simp only [pq]
       refine wpAnyH_done (by kernel_rfl) ?_ _
       clear hHeld HAll
       have hsite := HS.out.ext hyz
       have hb6 := HB6.out.ext hyz
       have hb8 := HB8.out.ext hyz
       have hb10 := HB10.out.ext hyz
       have hk := HK.out.ext hyz
       have hx := HX.out.trans hyz
       have hg12 := hge
       clear HS HB6 HB8 HB10 HK HX hyz hge
       obtain ⟨w11, hw11⟩ : ∃ w, w = wn := ⟨_, rfl⟩
       rw [← hw11] at hsite hb6 hb8 hb10 hb9 hk hx ⊢
       clear hw11
       have HN12 := hid (show b12 ≠ r by have := HRL.out; omega)
       have HB11 := hid (Nat.le_trans HB.out hx.size)
       have HAll := hid (fun w' (x : Ext w11 w') => show w'.cell? ⟨r, 4, none⟩ = some (.slice Ax s.shelf.length cx) ∧ w'.cell? ⟨b12, 0, none⟩ = some (.int .i64 s.me) ∧ w'.cell? ⟨b12, 1, none⟩ = some (.int .i64 (s.made + 1)) ∧ w'.cell? ⟨b6, 0, none⟩ = some (.int .i64 p.tags) ∧ w'.cell? ⟨b6, 1, none⟩ = some (.int .i64 p.num) ∧ w'.cell? ⟨b10, 0, none⟩ = some (.slice A2 (pastKn s.shelf id).vec.length c2) ∧ w'.cell? ⟨b10, 1, none⟩ = some (.slice A3 (pastKn s.shelf id).more.length c3) from ⟨(hsite.ext x).blk.cell rfl, (hb9.ext x).cell rfl, (hb9.ext x).cell rfl, (hb6.ext x).cell rfl, (hb6.ext x).cell rfl, (hb10.ext x).cell rfl, (hb10.ext x).cell rfl⟩)
       have HS := hid hsite
       have HB6 := hid hb6
       have HB8 := hid hb8
       have HB10 := hid hb10
       have HB12 := hid hb9
       have HK := hid hk
       have HX := hid hx
       clear hsite hb6 hb8 hb10 hb9 hk hx hg12
       go_wp2_with fail
       have hyn := (Ext.refl w11).drew
       refine wp_region_held_drew (S := fun w' => w'.cell? ⟨r, 4, none⟩ = some (.slice Ax s.shelf.length cx) ∧ w'.cell? ⟨b12, 0, none⟩ = some (.int .i64 s.me) ∧ w'.cell? ⟨b12, 1, none⟩ = some (.int .i64 (s.made + 1)) ∧ w'.cell? ⟨b6, 0, none⟩ = some (.int .i64 p.tags) ∧ w'.cell? ⟨b6, 1, none⟩ = some (.int .i64 p.num) ∧ w'.cell? ⟨b10, 0, none⟩ = some (.slice A2 (pastKn s.shelf id).vec.length c2) ∧ w'.cell? ⟨b10, 1, none⟩ = some (.slice A3 (pastKn s.shelf id).more.length c3)) (by kernel_rfl) (HAll.out _ hyn) (fun hHeld => ?_)
       obtain ⟨wc, hwc⟩ : ∃ wc, wc = w11.drew := ⟨_, rfl⟩
       rw [← hwc] at hHeld hyn ⊢
       clear hwc
       refine tk 0 ?_ rfl (by kernel_rfl) (fun _ _ _ h => h) (by rfl) ?_ (by assumption) ?_
       rotate_left
       ·intro w' hSw; (try dsimp only at hSw); go_simp <;> with_reducible rfl
       simp only [gq]; try simp only [pq]
       refine tk 1 ?_ rfl (by kernel_rfl) (fun _ _ _ h => h) (by rfl) ?_ (by assumption) ?_
       rotate_left
       ·intro w' hSw; (try dsimp only at hSw); go_simp <;> with_reducible rfl
       simp only [gq]; try simp only [pq]
       refine tk 2 ?_ rfl (by kernel_rfl) (fun _ _ _ h => h) (by rfl) ?_ (by assumption) ?_
       rotate_left
       ·intro w' hSw; (try dsimp only at hSw); go_simp <;> with_reducible rfl
       simp only [gq]; try simp only [pq]
       refine tk 3 ?_ rfl (by kernel_rfl) (fun _ _ _ h => h) (by rfl) ?_ (by assumption) ?_
       rotate_left
       ·intro w' hSw; (try dsimp only at hSw); go_simp <;> with_reducible rfl
       simp only [gq]; try simp only [pq]
       refine tk 4 ?_ rfl (by kernel_rfl) (fun _ _ _ h => h) (by rfl) ?_ (by assumption) ?_
       rotate_left
       ·intro w' hSw; (try dsimp only at hSw); go_simp <;> with_reducible rfl
       simp only [gq]; try simp only [pq]
       refine tk 5 ?_ rfl (by kernel_rfl) (fun _ _ _ h => h) (by rfl) ?_ (by assumption) ?_
       rotate_left
       ·intro w' hSw; (try dsimp only at hSw); go_simp <;> with_reducible rfl
       simp only [gq]; try simp only [pq]
       refine tk 6 ?_ rfl (by kernel_rfl) (fun _ _ _ h => h) (by rfl) ?_ (by assumption) ?_
       rotate_left
       ·intro w' hSw; (try dsimp only at hSw); go_simp <;> with_reducible rfl
       simp only [gq]; try simp only [pq]
       refine tk 7 ?_ rfl (by kernel_rfl) (fun _ _ _ h => h) (by rfl) ?_ (by assumption) ?_
       rotate_left
       ·intro w' hSw; (try dsimp only at hSw); go_simp <;> with_reducible rfl
       simp only [gq]; try simp only [pq]
       refine tk 8 ?_ rfl (by kernel_rfl) (fun _ _ _ h => h) (by rfl) ?_ (by assumption) ?_
       rotate_left
       ·intro w' hSw; (try dsimp only at hSw); go_simp <;> with_reducible rfl
       simp only [gq]; try simp only [pq]
       refine tk 9 ?_ rfl (by kernel_rfl) (fun _ _ _ h => h) (by rfl) ?_ (by assumption) ?_
       rotate_left
       ·intro w' hSw; (try dsimp only at hSw); go_simp <;> with_reducible rfl
       simp only [gq]; try simp only [pq]
       refine wpAnyH_ready (rs := [10]) (by kernel_rfl) (by simp) ?_
       refine AllReadyH.cons rfl (fun K hK => ?_) AllReadyH.nil
       simp only [gq]
       go_simp
       refine (shelf_Put B Ax cx s.shelf (madeV s id p body) A2 c2 A3 c3 wc (Nat.le_trans HB11.out hyn.size) (by have := HOK.out.shelf.len; unfold maxLen; omega) ((HS.out.ext hyn).sx) ⟨HCK.out.1, HCK.out.2.1, HCK.out.2.2, HK.out.ext hyn⟩).mono ?_
       rintro e wn ⟨v10, rfl, hv10, hxa⟩
       dsimp only
       obtain ⟨A10, c10, rfl, _, _, hv10⟩ := hv10
       replace hyn := hyn.trans hxa
       clear hxa
       obtain ⟨wc, rfl⟩ : ∃ wc', wc' = wn := ⟨_, rfl⟩
       refine hK.out _ _ (HAll.out _ hyn) (fun hHeld => ?_)
       clear hK K
       try simp only [pq]
       refine tk 11 ?_ rfl (by kernel_rfl) (fun _ _ _ h => h) (by rfl) ?_ (by assumption) ?_
       rotate_left
       ·intro w' hSw; (try dsimp only at hSw); go_simp <;> with_reducible rfl
       simp only [gq]; try simp only [pq]
       refine tk 12 ?_ rfl (by kernel_rfl) (fun _ _ _ h => h) (by rfl) ?_ (by assumption) ?_
       rotate_left
       ·intro w' hSw; (try dsimp only at hSw); go_simp <;> with_reducible rfl
       simp only [gq]; try simp only [pq]
       refine tk 13 ?_ rfl (by kernel_rfl) (fun _ _ _ h => h) (by rfl) ?_ (by assumption) ?_
       rotate_left
       ·intro w' hSw; (try dsimp only at hSw); go_simp <;> with_reducible rfl
       simp only [gq]; try simp only [pq]
       refine tk 14 ?_ rfl (by kernel_rfl) (fun _ _ _ h => h) (by rfl) ?_ (by assumption) ?_
       rotate_left
       ·intro w' hSw; (try dsimp only at hSw); go_simp <;> with_reducible rfl
       simp only [gq]; try simp only [pq]
       refine tk 15 ?_ rfl (by kernel_rfl) (fun _ _ _ h => h) (by rfl) ?_ (by assumption) ?_
       rotate_left
       ·intro w' hSw; (try dsimp only at hSw); go_simp <;> with_reducible rfl
       simp only [gq]; try simp only [pq]
       refine wpAnyH_done (by kernel_rfl) ?_ _
       clear hHeld HAll
       have hsite := HS.out.ext hyn
       have hb8 := HB8.out.ext hyn
       have hb12 := HB12.out.ext hyn
       have hx := HX.out.trans hyn
       clear HS HB6 HB8 HB10 HB12 HK HX hyn
       obtain ⟨E, hE⟩ : ∃ E, E = putErr s.shelf (madeV s id p body) := ⟨_, rfl⟩
       obtain ⟨L, hL⟩ : ∃ L, L = putOut s.shelf (madeV s id p body) := ⟨_, rfl⟩
       rw [← hL] at hv10
       rw [← hE, ← hL]
       have y0 := hb8.cell (i := 0) (u := .int .i64 0) rfl
       have y1 := hb8.cell (i := 1) (u := .int .i64 0) rfl
       have z0 := hb8.frozen 0
       have z1 := hb8.frozen 1
       have HR := hid hL
       have HEE := hid hE
       clear hL hE
       by_cases h0 : E = 0
       ·subst h0
        have HMK := hid (HME.out.trans HEE.out.symm)
        have u0 := hb12.cell (i := 0) (u := .int .i64 s.me) rfl
        have u1 := hb12.cell (i := 1) (u := .int .i64 (s.made + 1)) rfl
        have q1 := hsite.blk.cell (i := 1) (u := .int .i64 s.made) rfl
        have q4 := hsite.blk.cell (i := 4) (u := .slice Ax s.shelf.length cx) rfl
        have f1 := hsite.blk.frozen 1
        have f4 := hsite.blk.frozen 4
        have hs8 := (hsite.setShelf HBR.out (c := c10) hv10).setMade HBR.out (s.made + 1)
        have hf8 := ((Fr.of_ext (r := r) hx).setR 4 (.slice A10 L.length c10)).setR 1 (.int .i64 (s.made + 1))
        have hb88 := (hb8.far (p := ⟨r, 4, none⟩) HN8.out (.slice A10 L.length c10)).far (p := ⟨r, 1, none⟩) HN8.out (.int .i64 (s.made + 1))
        have hn8 := HN8.out
        have hn12 := HN12.out
        go_wp2_with fail
        have HYES := hid (make_yes HMK.out)
        refine bodyPost_ret (v := .tuple #[.agg #[.int .i64 s.me, .int .i64 (s.made + 1)], .int .i64 0]) (res_made (b := b8) rfl rfl ?_ ?_) rfl ⟨by rw [HYES.out.1, HMK.out] <;> rfl, ?_, ?_⟩
        ·go_simp
        ·go_simp
        ·rw [HYES.out.2, ← HR.out]
         have hok9 : SiteOk { s with shelf := L, made := s.made + 1 } := by have := makeS_ok HOK.out id p body; rw [HYES.out.2, ← HR.out] at this; exact this
         exact (hs8.z8 hok9 (z8_two hb88 HBb8.out _ _) HN8.out.symm).is
        ·exact fr_two hf8 HW8.out _ _
       ·have hne : (E != 0) = true := by simpa using h0
        have HMK := hid (make_no (HME.out.trans HEE.out.symm) h0)
        clear h0
        go_wp2_with fail
        refine bodyPost_ret (v := .tuple #[.agg #[.int .i64 0, .int .i64 0], .int .i64 E]) (res_made (b := b8) rfl rfl ?_ ?_) rfl ⟨by rw [HMK.out.1, HMK.out.2.1] <;> rfl, ?_, ?_⟩
        ·go_simp
        ·go_simp
        ·rw [HMK.out.2.2]; exact (hsite.z8 HOK.out (z8_two hb8 HBb8.out _ _) HN8.out.symm).is
        ·exact fr_two (Fr.of_ext hx) HW8.out _ _
      ·have hne : (pastErr s.shelf id != 0) = true := by simpa using hpe
       have HNO := hid (make_no (by rw [HMM.out, if_neg hpe]) hpe)
       have hxk := (Ext.refl w2b).alloc (.cells #[.slice A2 (pastKn s.shelf id).vec.length c2, .slice A3 (pastKn s.shelf id).more.length c3] 101)
       replace hb8 := hb8.ext hxk
       replace hsite := hsite.ext hxk
       replace hx := hx.trans hxk
       clear hpe hxk
       have y0 := hb8.cell (i := 0) (u := .int .i64 0) rfl
       have y1 := hb8.cell (i := 1) (u := .int .i64 0) rfl
       have z0 := hb8.frozen 0
       have z1 := hb8.frozen 1
       go_wp2_with fail
       refine bodyPost_ret (v := .tuple #[.agg #[.int .i64 0, .int .i64 0], .int .i64 (pastErr s.shelf id)]) (res_made (b := b8) rfl rfl ?_ ?_) rfl ⟨by rw [HNO.out.1, HNO.out.2.1] <;> rfl, ?_, ?_⟩
       ·go_simp
       ·go_simp
       ·rw [HNO.out.2.2]; exact (hsite.z8 HOK.out (z8_two hb8 HBb8.out _ _) HN8.out.symm).is
       ·exact fr_two (Fr.of_ext hx) HW8.out _ _
end Go.Proofs.YtngbfdogiciahaaGreat
