/- How a town lies in memory, and the walks of its calls that turn at most a site. -/
import Derived.Test.YtngbfdogiciahaaGreatShort
import Derived.Test.YtngbfdogiciahaaGreatJoinTopG
import Derived.Test.YtngbfdogiciahaaGreatJoinTopF
namespace Go.Proofs.YtngbfdogiciahaaGreat
open Go Go.RowKit
theorem ei_bls : ElemInfo Tryz.prog 43 4 1 1 := ElemInfo.mk_ (z := .bool false) Tryz.underlying43 (by kernel_rfl) rfl (by decide)
def RLet (B : Nat) (w : World) (cs : List Value) : LetS → Prop
 | .ask tw a => ∃ r Af cf Ap cp, cs = [.int .i64 (tw : Int), .pointer (some ⟨r, 0, none⟩), .pointer none] ∧ Blk w r 68 #[.int .i64 a.site, .int .i64 a.stamp, .slice Af a.filter.length cf, .slice Ap a.parts.length cp] ∧ InA B w Af cf Ap cp a
 | .bat tw b => ∃ r Ax cx Ag cg Ap cp, cs = [.int .i64 (tw : Int), .pointer none, .pointer (some ⟨r, 0, none⟩)] ∧ Blk w r 90 #[.int .i64 b.site, .int .i64 b.stamp, .slice Ax b.vers.length cx, .slice Ag b.gone.length cg, .slice Ap b.parts.length cp] ∧ InB B w Ax cx Ag cg Ap cp b
theorem RLet.mono {B : Nat} {ts : List TypeId} (h : ∀ t ∈ [68, 90, 137, 142, 181, 3, 35, 151, 103], t ∉ ts) : Mono B ts (RLet B) := by
 have n1 := h 68 (by decide)
 have n2 := h 90 (by decide)
 have n3 := h 137 (by decide)
 have n4 := h 142 (by decide)
 have n5 := h 181 (by decide)
 have n6 := h 3 (by decide)
 have n7 := h 35 (by decide)
 have n8 := h 151 (by decide)
 have n9 := h 103 (by decide)
 intro w w' cs x hc hx
 cases x with
 | ask tw a =>
  obtain ⟨r, Af, cf, Ap, cp, h1, h2, h3⟩ := hx
  exact ⟨r, Af, cf, Ap, cp, h1, h2.chg hc n1, h3.lf, h3.lp, h3.sf.chg (RBox.mono n3) n4 hc, h3.sp.chg (RPart.mono (by assumption) (by assumption) (by assumption) (by assumption)) n5 hc⟩
 | bat tw b =>
  obtain ⟨r, Ax, cx, Ag, cg, Ap, cp, h1, h2, h3⟩ := hx
  exact ⟨r, Ax, cx, Ag, cg, Ap, cp, h1, h2.chg hc n2, h3.lx, h3.lg, h3.lp, h3.sx.chg (RVer.mono (by assumption) (by assumption)) n8 hc, h3.sg.chg (RGone.mono (by assumption) (by assumption)) n9 hc, h3.sp.chg (RPart.mono (by assumption) (by assumption) (by assumption) (by assumption)) n5 hc⟩
theorem RLet.monoE {B : Nat} : Mono B [] (RLet B) := RLet.mono (by simp)
theorem RLet.oneC {B : Nat} : OneC (RLet B) := by
 rintro w cs x h u hu
 cases x with
 | ask tw a =>
  obtain ⟨r, Af, cf, Ap, cp, rfl, _, _⟩ := h
  simp at hu
  rcases hu with rfl | rfl | rfl <;> rfl
 | bat tw b =>
  obtain ⟨r, Ax, cx, Ag, cg, Ap, cp, rfl, _, _⟩ := h
  simp at hu
  rcases hu with rfl | rfl | rfl <;> rfl
def RBl (_ : World) (cs : List Value) (b : Bool) : Prop := cs = [.bool b]
theorem RBl.mono {B : Nat} {ts : List TypeId} : Mono B ts RBl := fun _ _ _ _ _ h => h
theorem RBl.oneC : OneC RBl := by
 rintro w cs x rfl u hu
 simp at hu; subst hu; rfl
structure TownAt (B : Nat) (w : World) (rT : Nat) (rs : List Nat) (L : List SiteS) (W : List LetS) (As : Option Addr) (cs : Nat) (v : Value) : Prop where
 hB : B ≤ rT
 blk : Blk w rT 135 #[.slice As L.length cs, v]
 cap : L.length ≤ cs
 sp : SlPtrs B w As rs
 sites : Sites B w rs L
 way : Own (RLet B) 3 147 w B v W
def IsTown (B : Nat) (w : World) (rT : Nat) (rs : List Nat) (L : List SiteS) (W : List LetS) : Prop := ∃ As cs v, TownAt B w rT rs L W As cs v
theorem Own.frS {α : Type} {R : World → List Value → α → Prop} {sz : Nat} {e : TypeId} {w w' : World} {base B r : Nat} {v : Value} {l : List α} {t : TypeId} (m : Mono B [t] R) (h : Own R sz e w base v l) (x : Fr r w w') (ht : tyAt w r = some t) (hB : B ≤ r) (he : e ≠ t) : Own R sz e w' base v l := by
 refine h.chg m (x.chg ht hB) fun g hg => x.block g (h.lt hg).2 ?_
 rintro rfl
 rcases h.at_ with ⟨rfl, _⟩ | ⟨g', c, rfl, _, _, hty, _⟩
 ·cases hg
 ·injection hg with hg
  subst hg
  rw [ht] at hty
  injection hty with hty
  exact he hty.symm
theorem Own.chgW {α : Type} {R : World → List Value → α → Prop} {sz : Nat} {e : TypeId} {w w' : World} {base B : Nat} {v : Value} {l : List α} {ts : List TypeId} (m : Mono B ts R) (h : Own R sz e w base v l) (x : Chg B ts w w') (he : e ∉ ts) : Own R sz e w' base v l := by
 refine h.chg m x fun g hg => x.block g (h.lt hg).2 (.inr fun t ht h2 => ?_)
 rcases h.at_ with ⟨rfl, _⟩ | ⟨g', c, rfl, _, _, hty, _⟩
 ·cases hg
 ·injection hg with hg
  subst hg
  rw [hty] at h2
  injection h2 with h2
  exact he (h2 ▸ ht)
section
variable {B : Nat} {w w' : World} {rT r i : Nat} {rs : List Nat} {L : List SiteS} {W : List LetS} {As : Option Addr} {cs : Nat} {v : Value} {s s' : SiteS}
theorem TownAt.is {B : Nat} {w : World} {rT : Nat} {rs : List Nat} {L : List SiteS} {W : List LetS} {As : Option Addr} {cs : Nat} {v : Value} (h : TownAt B w rT rs L W As cs v) : IsTown B w rT rs L W := ⟨As, cs, v, h⟩
theorem TownAt.ext (h : TownAt B w rT rs L W As cs v) (x : Ext w w') : TownAt B w' rT rs L W As cs v := ⟨h.hB, h.blk.ext x, h.cap, h.sp.ext RPtr.mono x, h.sites.ext x, h.way.ext RLet.monoE x⟩
theorem IsTown.ext (h : IsTown B w rT rs L W) (x : Ext w w') : IsTown B w' rT rs L W := let ⟨_, _, _, h⟩ := h; (h.ext x).is
theorem IsTown.len (h : IsTown B w rT rs L W) : rs.length = L.length := let ⟨_, _, _, h⟩ := h; h.sites.len
theorem IsTown.hB (h : IsTown B w rT rs L W) : B ≤ rT := let ⟨_, _, _, h⟩ := h; h.hB
theorem TownAt.site (h : TownAt B w rT rs L W As cs v) (hr : rs[i]? = some r) (hs : L[i]? = some s) (x : Fr r w w') (hn : IsSite B w' r s') : TownAt B w' rT rs (L.set i s') W As cs v := by
 have hi := h.sites.at_ i r s hr hs
 have hty := hi.2.ty
 have hc := x.chg hty hi.1
 refine ⟨h.hB, ?_, by rw [List.length_set]; exact h.cap, h.sp.chg RPtr.mono (by decide) hc, h.sites.set hr hs x hn, h.way.frS (RLet.mono (by decide)) x hty hi.1 (by decide)⟩
 rw [List.length_set]
 refine x.blkO h.blk ?_
 rintro rfl
 rw [h.blk.ty] at hty
 exact absurd hty (by decide)
theorem IsTown.site (h : IsTown B w rT rs L W) (hr : rs[i]? = some r) (hs : L[i]? = some s) (x : Fr r w w') (hn : IsSite B w' r s') : IsTown B w' rT rs (L.set i s') W := let ⟨_, _, _, h⟩ := h; (h.site hr hs x hn).is
theorem TownAt.ptr (h : TownAt B w rT rs L W As cs v) (hr : rs[i]? = some r) (hs : L[i]? = some s) : ∃ bs os, As = some ⟨bs, os, none⟩ ∧ bs ≠ r ∧ rT ≠ r ∧ B ≤ r ∧ w.cell? ⟨bs, os + i, none⟩ = some (.pointer (some ⟨r, 0, none⟩)) ∧ bs < w.heap.size ∧ i < L.length := by
 have hi := h.sites.at_ i r s hr hs
 have hty := hi.2.ty
 obtain ⟨hil, hir⟩ := List.getElem?_eq_some_iff.1 hr
 obtain ⟨b, off, u, h1, h2, hk, h3, h4, rfl⟩ := h.sp i _ hr
 have h5 := h4 0 _ rfl
 rw [Nat.mul_one, Nat.add_zero] at h5
 refine ⟨b, off, h1, ?_, ?_, hi.1, h5, h2, (List.getElem?_eq_some_iff.1 hs).1⟩
 ·rintro rfl
  rcases hk with hk | hk
  ·have := hi.1; omega
  ·rw [hty] at hk; exact absurd hk (by decide)
 ·rintro rfl
  rw [h.blk.ty] at hty
  exact absurd hty (by decide)
end
theorem res_townMade {w : World} {v : Value} {b : Nat} {x y : Value} {tmps : Array Value} (h8 : tmps.getD 10 undef = .pointer (some ⟨b, 0, none⟩)) (h9 : tmps.getD 11 undef = v) (c1 : w.cell? ⟨b, 0, none⟩ = some x) (c2 : w.cell? ⟨b, 1, none⟩ = some y) :
  (results Tryz.f14 tmps).run Tryz.prog w = .ok (.tuple #[.agg #[x, y], v]) w := by
 have h8' : tmps[10]?.getD undef = .pointer (some ⟨b, 0, none⟩) := by simpa using h8
 have h9' : tmps[11]?.getD undef = v := by simpa using h9
 simp [results, Tryz.results14, go_sem, h8', h9', c1, c2]
def isI (n : Nat) (i : Int) : Bool := decide (0 ≤ i ∧ i < (n : Int))
theorem isI_yes {n i : Nat} (h : i < n) : isI n (i : Int) = true := by unfold isI; rw [decide_eq_true_eq]; omega
set_option maxRecDepth 100000 in
theorem town_is (rT : Nat) (As : Option Addr) (n cs : Nat) (i : Int) (w : World) (h : w.cell? ⟨rT, 0, none⟩ = some (.slice As n cs)) :
  Calls Tryz.prog 73 #[.pointer (some ⟨rT, 0, none⟩), .int .i64 i] w fun e w' => e = .returned (.bool (isI n i)) ∧ w' = w := by
 have HI := hid (show isI n i = decide (0 ≤ i ∧ i < (n : Int)) from rfl)
 by_cases h0 : 0 ≤ i
 ·have hd : decide (0 ≤ i) = true := decide_eq_true h0
  have HA := hid (show isI n i = decide (i < (n : Int)) by rw [HI.out]; simp [h0])
  clear h0
  go_enter Tryz.func73, Tryz.ntmps73
  go_wp2_with fail
  go_ret
  exact ⟨ret_bool HA.out.symm, rfl⟩
 ·have hd : decide (0 ≤ i) = false := decide_eq_false h0
  have HA := hid (show isI n i = false by rw [HI.out]; simp [h0])
  clear h0
  go_enter Tryz.func73, Tryz.ntmps73
  go_wp2_with fail
  go_ret
  exact ⟨ret_bool HA.out.symm, rfl⟩
set_option maxRecDepth 100000 in
set_option maxHeartbeats 4000000 in
theorem town_Want (B rT : Nat) (rs : List Nat) (L : List SiteS) (W : List LetS) (i r : Nat) (s : SiteS) (A : Option Addr) (c : Nat) (f : List Box) (w : World) (hB : B ≤ w.heap.size) (h : IsTown B w rT rs L W) (hr : rs[i]? = some r) (hs : L[i]? = some s) (hok : SiteOk s) (hst : s.stamp < 1000000000) (hl : f.length ≤ maxLen) (hf : SlBoxes B w A f) :
  Calls Tryz.prog 15 #[.pointer (some ⟨rT, 0, none⟩), .int .i64 (i : Int), .slice A f.length c] w fun e w' => e = .returned (.int .i64 (filterCheck f)) ∧ IsSite B w' r (wantS s f) ∧ Fr r w w' := by
 obtain ⟨As, cs, v, h⟩ := h
 obtain ⟨bs, os, rfl, _, _, hBr, hp, hbl, hil⟩ := h.ptr hr hs
 have HIS := hid (h.sites.at_ i r s hr hs)
 have hq := h.blk.cell (i := 0) (u := .slice (some ⟨bs, os, none⟩) L.length cs) rfl
 have hrl := h.blk.lt
 have hcap := h.cap
 obtain ⟨n, hn⟩ : ∃ n, n = L.length := ⟨_, rfl⟩
 rw [← hn] at hq hil hcap
 have hii : (i : Int) < (n : Int) := by omega
 have HYes := hid (isI_yes hil)
 clear hn h hr hs hil
 go_enter Tryz.func15, Tryz.ntmps15
 go_wp2_with fail
 refine (town_is rT (some ⟨bs, os, none⟩) n cs (i : Int) w hq).mono ?_
 rw [HYes.out]
 rintro e w' ⟨rfl, rfl⟩
 go_wp2_with fail
 refine (site_Want B r s A c f w' hB HIS.out.1 hok hst hl HIS.out.2 hf).mono ?_
 rintro e w2 ⟨rfl, hs2, hf2⟩
 go_wp2_with fail
 go_ret
 exact ⟨rfl, hs2, hf2⟩
set_option maxRecDepth 100000 in
set_option maxHeartbeats 4000000 in
theorem town_Shelf (B rT : Nat) (rs : List Nat) (L : List SiteS) (W : List LetS) (i r : Nat) (s : SiteS) (w : World) (hB : B ≤ w.heap.size) (h : IsTown B w rT rs L W) (hr : rs[i]? = some r) (hs : L[i]? = some s) (hok : SiteOk s) :
  Calls Tryz.prog 21 #[.pointer (some ⟨rT, 0, none⟩), .int .i64 (i : Int)] w fun e w' => ∃ v, e = .returned (.tuple #[v, .int .i64 0]) ∧ IsVers B w' v s.shelf ∧ Ext w w' := by
 obtain ⟨As, cs, v, h⟩ := h
 obtain ⟨bs, os, rfl, _, _, hBr, hp, hbl, hil⟩ := h.ptr hr hs
 have HIS := hid (h.sites.at_ i r s hr hs)
 have hq := h.blk.cell (i := 0) (u := .slice (some ⟨bs, os, none⟩) L.length cs) rfl
 have hrl := h.blk.lt
 have hcap := h.cap
 obtain ⟨n, hn⟩ : ∃ n, n = L.length := ⟨_, rfl⟩
 rw [← hn] at hq hil hcap
 have hii : (i : Int) < (n : Int) := by omega
 have HYes := hid (isI_yes hil)
 clear hn h hr hs hil
 go_enter Tryz.func21, Tryz.ntmps21
 go_wp2_with fail
 refine (town_is rT (some ⟨bs, os, none⟩) n cs (i : Int) w hq).mono ?_
 rw [HYes.out]
 rintro e w' ⟨rfl, rfl⟩
 go_wp2_with fail
 refine (site_Shelf B r s w' hB hok HIS.out.2).mono ?_
 rintro e w2 ⟨v2, rfl, hv2, hx2⟩
 go_wp2_with fail
 go_ret2
 exact ⟨v2, rfl, hv2, hx2⟩
set_option maxRecDepth 100000 in
set_option maxHeartbeats 8000000 in
theorem town_Make (B rT : Nat) (rs : List Nat) (L : List SiteS) (W : List LetS) (i r : Nat) (s : SiteS) (id : ByteArray) (p : Point) (body : Int) (w : World) (hB : B ≤ w.heap.size) (h : IsTown B w rT rs L W) (hr : rs[i]? = some r) (hs : L[i]? = some s) (hok : SiteOk s) (hz : id.size ≤ maxLen) :
  Calls Tryz.prog 14 #[.pointer (some ⟨rT, 0, none⟩), .int .i64 (i : Int), .string id, .agg #[.int .i64 p.tags, .int .i64 p.num], .int .i64 body] w fun e w' => e = .returned (.tuple #[.agg #[.int .i64 (makeDot s id p body).site, .int .i64 (makeDot s id p body).count], .int .i64 (makeErr s id p body)]) ∧ IsSite B w' r (makeS s id p body) ∧ Fr r w w' := by
 obtain ⟨As, cs, v, h⟩ := h
 obtain ⟨bs, os, rfl, hn1, hn2, hBr, hp, hbl, hil⟩ := h.ptr hr hs
 have HIS := hid (h.sites.at_ i r s hr hs)
 have hq := h.blk.cell (i := 0) (u := .slice (some ⟨bs, os, none⟩) L.length cs) rfl
 have hrl := h.blk.lt
 have hcap := h.cap
 have HTB := hid h.blk
 obtain ⟨n, hn⟩ : ∃ n, n = L.length := ⟨_, rfl⟩
 rw [← hn] at hq hil hcap HTB
 have hii : (i : Int) < (n : Int) := by omega
 have HYes := hid (isI_yes hil)
 have HB := hid hB
 have HOK := hid hok
 have HZ := hid hz
 have HAll := hid (fun w' (x : Fr r w w') => show w'.cell? ⟨rT, 0, none⟩ = some (.slice (some ⟨bs, os, none⟩) n cs) ∧ w'.cell? ⟨bs, os + i, none⟩ = some (.pointer (some ⟨r, 0, none⟩)) from by
  refine ⟨(x.blkO HTB.out hn2).cell rfl, ?_⟩
  exact (World.cell?_of_block (w := w) (x.block bs hbl hn1)).trans hp)
 have hlr := HIS.out.2.lt
 have HN8 := hid (show w.heap.size ≠ r by omega)
 have hx8 := (Ext.refl w).alloc (.cells #[.int .i64 p.tags, .int .i64 p.num] 40)
 have hb8 := Blk.new w 40 #[.int .i64 p.tags, .int .i64 p.num]
 obtain ⟨w8, hw8⟩ : ∃ w8, w8 = w.alloc (.cells #[.int .i64 p.tags, .int .i64 p.num] 40) := ⟨_, rfl⟩
 have HW8 := hid hw8
 rw [← hw8] at hx8 hb8
 have hx10 := (Ext.refl w8).alloc (.cells #[.int .i64 0, .int .i64 0] 35)
 have hb10 := Blk.new w8 35 #[.int .i64 0, .int .i64 0]
 obtain ⟨w10, hw10⟩ : ∃ w10, w10 = w8.alloc (.cells #[.int .i64 0, .int .i64 0] 35) := ⟨_, rfl⟩
 have HW10 := hid hw10
 rw [← hw10] at hx10 hb10
 obtain ⟨b8, hb8d⟩ : ∃ b, b = w.heap.size := ⟨_, rfl⟩
 have HB8D := hid hb8d
 obtain ⟨b10, hb10d⟩ : ∃ b, b = b8 + 1 := ⟨_, rfl⟩
 have HB10D := hid hb10d
 have hb10e : w8.heap.size = b10 := by rw [hb10d, hb8d, HW8.out]; simp
 rw [← hb8d] at hb8
 rw [hb10e] at hb10
 have HN8 := hid (show b8 ≠ r by rw [hb8d]; omega)
 have HN10 := hid (show b10 ≠ r by have := hx8.size; omega)
 have HG10 := hid (show w.heap.size ≤ b10 by have := hx8.size; omega)
 have hb8' := hb8.ext hx10
 have HX10 := hid (hx8.trans hx10)
 have HQ := hid (And.intro hq hp)
 clear hw8 hw10 hb8d hb10d hb10e hn h hr hs hil hlr hB hok hz hb8 hx8 hx10 hq hp
 have hq := (HAll.out w10 (Fr.of_ext HX10.out)).1
 have hrl10 : rT < w10.heap.size := Nat.lt_of_lt_of_le hrl HX10.out.size
 clear hrl
 go_enter Tryz.func14, Tryz.ntmps14
 go_wp2_with fail
 rw [← HW8.out, ← HW10.out, ← HB8D.out, ← HB10D.out]
 refine (town_is rT (some ⟨bs, os, none⟩) n cs (i : Int) w10 hq).mono ?_
 rw [HYes.out]
 rintro e w' ⟨rfl, hw'⟩
 subst hw'
 clear hq
 go_wp2_with fail
 have HB8 := hid (fun w2 (x : Fr r w' w2) => x.blkO hb8' HN8.out)
 have HB10 := hid (fun w2 (x : Ext w' w2) => hb10.ext x)
 have HS0 := hid (fun w2 (x : Ext w' w2) => (HIS.out.2.ext HX10.out).ext x)
 have hyn := (Ext.refl w').drew
 have hfr : Fr r w w'.drew := Fr.of_ext (HX10.out.trans hyn)
 refine wp_region_held_drew (S := fun w' => w'.cell? ⟨rT, 0, none⟩ = some (.slice (some ⟨bs, os, none⟩) n cs) ∧ w'.cell? ⟨bs, os + i, none⟩ = some (.pointer (some ⟨r, 0, none⟩))) (by kernel_rfl) (HAll.out _ hfr) (fun hHeld => ?_)
 obtain ⟨wc, hwc⟩ : ∃ wc, wc = w'.drew := ⟨_, rfl⟩
 rw [← hwc] at hHeld hfr hyn ⊢
 clear hwc hb8' hb10
 refine tk 0 ?_ rfl (by kernel_rfl) (fun _ _ _ h => h) (by rfl) ?_ (by assumption) ?_
 rotate_left
 ·intro w' hSw; (try dsimp only at hSw); go_simp <;> with_reducible rfl
 simp only [gq]; try simp only [pq]
 refine tk 1 ?_ rfl (by kernel_rfl) (fun _ _ _ h => h) (by rfl) ?_ (by assumption) ?_
 rotate_left
 ·intro w' hSw; (try dsimp only at hSw); go_simp <;> with_reducible rfl
 simp only [gq]; try simp only [pq]
 refine tk 2 ?_ rfl (by kernel_rfl) (fun _ _ _ h => h) (by rfl) ?_ (by assumption) ?_
 rotate_left
 ·intro w' hSw; (try dsimp only at hSw); go_simp <;> with_reducible rfl
 simp only [gq]; try simp only [pq]
 refine tk 3 ?_ rfl (by kernel_rfl) (fun _ _ _ h => h) (by rfl) ?_ (by assumption) ?_
 rotate_left
 ·intro w' hSw; (try dsimp only at hSw); go_simp <;> with_reducible rfl
 simp only [gq]; try simp only [pq]
 refine tk 4 ?_ rfl (by kernel_rfl) (fun _ _ _ h => h) (by rfl) ?_ (by assumption) ?_
 rotate_left
 ·intro w' hSw; (try dsimp only at hSw); go_simp <;> with_reducible rfl
 simp only [gq]; try simp only [pq]
 refine tk 5 ?_ rfl (by kernel_rfl) (fun _ _ _ h => h) (by rfl) ?_ (by assumption) ?_
 rotate_left
 ·intro w' hSw; (try dsimp only at hSw); go_simp <;> with_reducible rfl
 simp only [gq]; try simp only [pq]
 refine tk 6 ?_ rfl (by kernel_rfl) (fun _ _ _ h => h) (by rfl) ?_ (by assumption) ?_
 rotate_left
 ·intro w' hSw; (try dsimp only at hSw); go_simp <;> with_reducible rfl
 simp only [gq]; try simp only [pq]
 refine tk 7 ?_ rfl (by kernel_rfl) (fun _ _ _ h => h) (by rfl) ?_ (by assumption) ?_
 rotate_left
 ·intro w' hSw; (try dsimp only at hSw); go_simp <;> with_reducible rfl
 simp only [gq]; try simp only [pq]
 refine tk 9 ?_ rfl (by kernel_rfl) (fun _ _ _ h => h) (by rfl) ?_ (by assumption) ?_
 rotate_left
 ·intro w' hSw; (try dsimp only at hSw); go_simp <;> with_reducible rfl
 simp only [gq]; try simp only [pq]
 refine wpAnyH_ready (rs := [8]) (by kernel_rfl) (by simp) ?_
 refine AllReadyH.cons rfl (fun K hK => ?_) AllReadyH.nil
 simp only [gq]
 have hb8 := HB8.out wc (Fr.of_ext hyn)
 have y0 := hb8.cell (i := 0) (u := .int .i64 p.tags) rfl
 have y1 := hb8.cell (i := 1) (u := .int .i64 p.num) rfl
 go_simp
 clear y0 y1 hb8
 refine hK.out _ _ (HAll.out _ hfr) (fun hHeld => ?_)
 clear hK K
 try simp only [pq]
 refine wpAnyH_ready (rs := [10]) (by kernel_rfl) (by simp) ?_
 refine AllReadyH.cons rfl (fun K hK => ?_) AllReadyH.nil
 simp only [gq]
 go_simp
 refine (site_Make B r s id p body wc (Nat.le_trans HB.out hfr.size) HIS.out.1 HOK.out HZ.out (HS0.out _ hyn)).mono ?_
 rintro e wn ⟨rfl, hsn, hfm⟩
 dsimp only
 have hb10 := hfm.blkO (HB10.out _ hyn) HN10.out
 replace hfr := hfr.trans hfm
 clear hfm hyn
 obtain ⟨wc, rfl⟩ : ∃ wc', wc' = wn := ⟨_, rfl⟩
 refine hK.out _ _ (HAll.out _ hfr) (fun hHeld => ?_)
 clear hK K
 try simp only [pq]
 refine tk 11 ?_ rfl (by kernel_rfl) (fun _ _ _ h => h) (by rfl) ?_ (by assumption) ?_
 rotate_left
 ·intro w' hSw; (try dsimp only at hSw); go_simp <;> with_reducible rfl
 simp only [gq]; try simp only [pq]
 refine tk 12 ?_ rfl (by kernel_rfl) (fun _ _ _ h => h) (by rfl) ?_ (by assumption) ?_
 rotate_left
 ·intro w' hSw; (try dsimp only at hSw); go_simp <;> with_reducible rfl
 simp only [gq]; try simp only [pq]
 refine wpAnyH_ready (rs := [13]) (by kernel_rfl) (by simp) ?_
 refine AllReadyH.cons rfl (fun K hK => ?_) AllReadyH.nil
 simp only [gq]
 have y0 := hb10.cell (i := 0) (u := .int .i64 0) rfl
 have y1 := hb10.cell (i := 1) (u := .int .i64 0) rfl
 have z0 := hb10.frozen 0
 have z1 := hb10.frozen 1
 go_simp
 have hz := fr_two hfr HG10.out (.int .i64 (makeDot s id p body).site) (.int .i64 (makeDot s id p body).count)
 have hs2 := isSite_z8 hsn (makeS_ok HOK.out _ _ _) (z8_two hb10 (Nat.le_trans HB.out HG10.out) (.int .i64 (makeDot s id p body).site) (.int .i64 (makeDot s id p body).count)) HN10.out.symm
 have hb2 := (hb10.set 0 (.int .i64 (makeDot s id p body).site)).set 1 (.int .i64 (makeDot s id p body).count)
 clear y0 y1 z0 z1
 obtain ⟨wn, hwn⟩ : ∃ wn, wn = (wc.setCell ⟨b10, 0, none⟩ (.int .i64 (makeDot s id p body).site)).setCell ⟨b10, 1, none⟩ (.int .i64 (makeDot s id p body).count) := ⟨_, rfl⟩
 rw [← hwn] at hz hs2 hb2 ⊢
 clear hwn hfr hsn hb10
 refine hK.out _ _ (HAll.out _ hz) (fun hHeld => ?_)
 clear hK K
 try simp only [pq]
 refine tk 14 ?_ rfl (by kernel_rfl) (fun _ _ _ h => h) (by rfl) ?_ (by assumption) ?_
 rotate_left
 ·intro w' hSw; (try dsimp only at hSw); go_simp <;> with_reducible rfl
 simp only [gq]; try simp only [pq]
 refine wpAnyH_done (by kernel_rfl) ?_ _
 clear hHeld HAll
 have hb3 : Blk wn b10 35 #[.int .i64 (makeDot s id p body).site, .int .i64 (makeDot s id p body).count] := by simpa using hb2
 clear hb2
 go_wp2_with fail
 refine bodyPost_ret (v := .tuple #[.agg #[.int .i64 (makeDot s id p body).site, .int .i64 (makeDot s id p body).count], .int .i64 (makeErr s id p body)]) (res_townMade (b := b10) rfl rfl (hb3.cell rfl) (hb3.cell rfl)) rfl ⟨rfl, hs2, hz⟩
set_option maxRecDepth 100000 in
set_option maxHeartbeats 4000000 in
theorem town_Way (B rT : Nat) (rs : List Nat) (L : List SiteS) (W : List LetS) (w : World) (hB : B ≤ w.heap.size) (h : IsTown B w rT rs L W) (hW : W.length ≤ 60) :
  Calls Tryz.prog 17 #[.pointer (some ⟨rT, 0, none⟩)] w fun e w' => ∃ v, e = .returned v ∧ IsSl B 4 RBl 1 w' v (W.map LetS.isB) ∧ Ext w w' := by
 obtain ⟨As, cs, v, h⟩ := h
 obtain ⟨Aw, cw, rfl, hw1, hw2⟩ := h.way.len
 have hq := h.blk.cell (i := 1) (u := .slice Aw W.length cw) rfl
 have hrl := h.blk.lt
 have HS := hid (h.way.sl B)
 have HB := hid hB
 clear h hB
 go_enter Tryz.func17, Tryz.ntmps17
 go_wp2_with fail
 clear hq
 go_loopw [3, 11] (fun o i wr => ∃ (k : Nat) (bl : List Bool), k ≤ W.length ∧ i = .int .i64 k ∧ Own RBl 1 4 wr w.heap.size o bl ∧ Hid (bl = (W.take k).map LetS.isB) ∧ Ext w wr) (fun _ i _ => W.length - (intOf i).toNat)
 case atStart => exact ⟨0, [], Nat.zero_le _, rfl, Own.nil, hid rfl, Ext.refl _⟩
 case round =>
  obtain ⟨k, bl, hk, rfl, ho, HBL, hx⟩ := hrel
  by_cases hlt : k < W.length
  ·obtain ⟨b, off, cl, rfl, hb, hcl, hcs, hR⟩ := (HS.out.ext RLet.monoE hx).at_ hlt
   have hr : wr.rangeAt b (off + k * 3) cl := hcs
   have hll : bl.length ≤ 60 := by rw [HBL.out]; simp; omega
   have HNX := hid (show bl ++ [W[k].isB] = (W.take (k + 1)).map LetS.isB by rw [List.take_succ_eq_append_getElem hlt, List.map_append, HBL.out]; rfl)
   have hbw : w.heap.size ≤ wr.heap.size := hx.size
   obtain ⟨t, p1, p, rfl, hp⟩ : ∃ (t : Int) (p1 p : Option Addr), cl = [.int .i64 t, .pointer p1, .pointer p] ∧ (p != none) = W[k].isB := by
    cases hw : W[k] with
    | ask tw a => rw [hw] at hR; obtain ⟨r, Af, cf, Ap, cp, he, _⟩ := hR; exact ⟨_, _, _, he, rfl⟩
    | bat tw b => rw [hw] at hR; obtain ⟨r, Ax, cx, Ag, cg, Ap, cp, he, _⟩ := hR; exact ⟨_, _, _, he, rfl⟩
   clear hcs hR hb
   generalize W[k].isB = b at hp HNX
   cases p with
   | none =>
    obtain rfl : b = false := by rw [← hp]; rfl
    have hxl := (Ext.refl wr).alloc (.cells #[.int .i64 t, .pointer p1, .pointer none] 147)
    have hbu := Blk.new wr 147 #[.int .i64 t, .pointer p1, .pointer none]
    have y2 := hbu.cell (i := 2) (u := .pointer none) rfl
    have hltu := hbu.lt
    have hxb := hxl.trans ((Ext.refl _).alloc (.cells #[.bool false] 4))
    have hone : Sl 0 4 RBl 1 ((wr.alloc (.cells #[.int .i64 t, .pointer p1, .pointer none] 147)).alloc (.cells #[.bool false] 4)) (some ⟨(wr.alloc (.cells #[.int .i64 t, .pointer p1, .pointer none] 147)).heap.size, 0, none⟩) [false] := Sl.one (R := RBl) (B := 0) (cs := [.bool false]) rfl rfl rfl
    rw [show (wr.alloc (.cells #[.int .i64 t, .pointer p1, .pointer none] 147)).heap.size = wr.heap.size + 1 by simp] at hone
    have ho2 := ho.ext (B := 0) RBl.mono hxb
    have hbs := Nat.le_trans hbw hxb.size
    go_wp2_with (first | (with_reducible refine wpList_loadL (o := ⟨some 14, _, _, _, _, _⟩) ri_let _ rfl rfl rfl hr hcl ?_) | (at_builtin; refine wpList_app (ys := [false]) (c := 1) (B := 0) rfl _ _ rfl ei_bls rfl ho2 (Nat.zero_le _) hbs rfl hone RBl.oneC RBl.mono (by simp [maxLen]; omega) (by simp; omega) ?_; intro v5 w5 ho5 hc5 hb5 hg5))
    have hx5 := (hx.trans hxb).below hb5 (Nat.le_refl _)
    clear hc5 hb5 hg5 ho2 hone hxb hxl hbu y2 ho hr
    go_roundw
    case rel => exact ⟨k + 1, bl ++ [false], hlt, by go_num, ho5, HNX, hx5⟩
    case measure => simp [intOf]; omega
   | some q =>
    obtain rfl : b = true := by rw [← hp]; rfl
    have hxl := (Ext.refl wr).alloc (.cells #[.int .i64 t, .pointer p1, .pointer (some q)] 147)
    have hbu := Blk.new wr 147 #[.int .i64 t, .pointer p1, .pointer (some q)]
    have y2 := hbu.cell (i := 2) (u := .pointer (some q)) rfl
    have hltu := hbu.lt
    have hxb := hxl.trans ((Ext.refl _).alloc (.cells #[.bool true] 4))
    have hone : Sl 0 4 RBl 1 ((wr.alloc (.cells #[.int .i64 t, .pointer p1, .pointer (some q)] 147)).alloc (.cells #[.bool true] 4)) (some ⟨(wr.alloc (.cells #[.int .i64 t, .pointer p1, .pointer (some q)] 147)).heap.size, 0, none⟩) [true] := Sl.one (R := RBl) (B := 0) (cs := [.bool true]) rfl rfl rfl
    rw [show (wr.alloc (.cells #[.int .i64 t, .pointer p1, .pointer (some q)] 147)).heap.size = wr.heap.size + 1 by simp] at hone
    have ho2 := ho.ext (B := 0) RBl.mono hxb
    have hbs := Nat.le_trans hbw hxb.size
    go_wp2_with (first | (with_reducible refine wpList_loadL (o := ⟨some 14, _, _, _, _, _⟩) ri_let _ rfl rfl rfl hr hcl ?_) | (at_builtin; refine wpList_app (ys := [true]) (c := 1) (B := 0) rfl _ _ rfl ei_bls rfl ho2 (Nat.zero_le _) hbs rfl hone RBl.oneC RBl.mono (by simp [maxLen]; omega) (by simp; omega) ?_; intro v5 w5 ho5 hc5 hb5 hg5))
    have hx5 := (hx.trans hxb).below hb5 (Nat.le_refl _)
    clear hc5 hb5 hg5 ho2 hone hxb hxl hbu y2 ho hr
    go_roundw
    case rel => exact ⟨k + 1, bl ++ [true], hlt, by go_num, ho5, HNX, hx5⟩
    case measure => simp [intOf]; omega
  ·obtain rfl : k = W.length := by omega
   have HE := hid (show bl = W.map LetS.isB by rw [HBL.out, List.take_length])
   go_wp2_with fail
   go_ret
   refine ⟨_, rfl, ?_, hx⟩
   rw [← HE.out]
   exact ho.isSl B
end Go.Proofs.YtngbfdogiciahaaGreat
