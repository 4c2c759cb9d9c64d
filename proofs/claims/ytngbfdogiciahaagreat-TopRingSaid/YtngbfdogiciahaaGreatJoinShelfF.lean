/- Several texts in one: data, readings, plain laws, walks. No condition. -/
import Derived.Test.YtngbfdogiciahaaGreatShelfE
import Derived.Test.YtngbfdogiciahaaGreatJoinKnG
import Derived.Test.YtngbfdogiciahaaGreatJoinKnW
import Derived.Test.YtngbfdogiciahaaGreatBase
namespace Go.Proofs.YtngbfdogiciahaaGreat
open Go Go.RowKit
set_option maxHeartbeats 1000000 in
theorem ref_SameVersion (B1 B2 : Nat) (v : Version) (Aa : Option Addr) (ca : Nat) (Ma : Option Addr) (da : Nat) (Ab : Option Addr) (cb : Nat) (Mb : Option Addr) (db : Nat) (w : World) (ha : InV B1 w Aa ca Ma da v) (hb : InV B2 w Ab cb Mb db v) :
  Calls Tryz.prog 76 #[.agg #[.string v.id, .int .i64 v.dot.site, .int .i64 v.dot.count, .int .i64 v.pt.tags, .int .i64 v.pt.num, .int .i64 v.body, .slice Aa v.past.vec.length ca, .slice Ma v.past.more.length da], .agg #[.string v.id, .int .i64 v.dot.site, .int .i64 v.dot.count, .int .i64 v.pt.tags, .int .i64 v.pt.num, .int .i64 v.body, .slice Ab v.past.vec.length cb, .slice Mb v.past.more.length db]] w fun e w' => e = .returned (.bool true) ∧ Ext w w' := by
 have hx0 := ((Ext.refl w).alloc (.cells #[.string v.id, .int .i64 v.dot.site, .int .i64 v.dot.count, .int .i64 v.pt.tags, .int .i64 v.pt.num, .int .i64 v.body, .slice Aa v.past.vec.length ca, .slice Ma v.past.more.length da] 151)).alloc (.cells #[.string v.id, .int .i64 v.dot.site, .int .i64 v.dot.count, .int .i64 v.pt.tags, .int .i64 v.pt.num, .int .i64 v.body, .slice Ab v.past.vec.length cb, .slice Mb v.past.more.length db] 151)
 have HA := hid ha
 have HB := hid hb
 clear ha hb
 have h1 : (v.id.toList == v.id.toList) = true := by simp
 go_enter Tryz.func76, Tryz.ntmps76
 go_wp2_with fail
 refine (ref_SameKnow B1 B2 v.past v.past Aa ca Ma da Ab cb Mb db _ (HA.out.k.ext hx0) (HB.out.k.ext hx0)).mono ?_
 rintro e w1 ⟨rfl, hx1⟩
 have hd : decide (v.past = v.past) = true := decide_eq_true rfl
 go_wp2_with fail
 go_ret
 exact ⟨rfl, hx0.trans hx1⟩
set_option maxRecDepth 100000 in
set_option maxHeartbeats 1000000 in
theorem equal_vers (B1 B2 : Nat) (A1 : Option Addr) (c1 : Nat) (A2 : Option Addr) (c2 : Nat) (l : List Version) (w : World) (hl : l.length ≤ maxLen) (h : SlVers B1 w A1 l) (g : SlVers B2 w A2 l) :
  Calls Tryz.prog 75 #[.slice A1 l.length c1, .slice A2 l.length c2, .func (.func 76) #[] #[]] w fun e w' => e = .returned (.bool true) ∧ Ext w w' := by
 unfold maxLen at hl
 have hll : (l.length : Int) ≤ 9223372036854775807 := by omega
 go_enter Tryz.func75, Tryz.ntmps75
 go_wp2_with fail
 go_loopw [17] (fun i wr => ∃ k : Nat, k ≤ l.length ∧ i = .int .i64 k ∧ Ext w wr) (fun i _ => l.length - (intOf i).toNat)
 case atStart => exact ⟨0, Nat.zero_le _, rfl, Ext.refl _⟩
 case round =>
  obtain ⟨k, hk, rfl, hx⟩ := hrel
  by_cases hlt : k < l.length
  ·obtain ⟨b, off, Av, cv, Am, cm, rfl, hb, hr, hI⟩ := (h.ext RVer.monoE hx).ver hlt
   obtain ⟨b', off', Bv, dv, Bm, dm, rfl, hb', hr', hJ⟩ := (g.ext RVer.monoE hx).ver hlt
   have HI := hid hI
   have HJ := hid hJ
   have hxl := (Ext.refl wr).alloc (.cells #[.string l[k].id, .int .i64 l[k].dot.site, .int .i64 l[k].dot.count, .int .i64 l[k].pt.tags, .int .i64 l[k].pt.num, .int .i64 l[k].body, .slice Av l[k].past.vec.length cv, .slice Am l[k].past.more.length cm] 151)
   have hr2 := rangeAt_ext hxl hr'
   have hxm := hxl.alloc (.cells #[.string l[k].id, .int .i64 l[k].dot.site, .int .i64 l[k].dot.count, .int .i64 l[k].pt.tags, .int .i64 l[k].pt.num, .int .i64 l[k].body, .slice Bv l[k].past.vec.length dv, .slice Bm l[k].past.more.length dm] 151)
   have hsz : ([.string l[k].id, .int .i64 l[k].dot.site, .int .i64 l[k].dot.count, .int .i64 l[k].pt.tags, .int .i64 l[k].pt.num, .int .i64 l[k].body, .slice Av l[k].past.vec.length cv, .slice Am l[k].past.more.length cm] : List Value).length = 8 := rfl
   have hsz2 : ([.string l[k].id, .int .i64 l[k].dot.site, .int .i64 l[k].dot.count, .int .i64 l[k].pt.tags, .int .i64 l[k].pt.num, .int .i64 l[k].body, .slice Bv l[k].past.vec.length dv, .slice Bm l[k].past.more.length dm] : List Value).length = 8 := rfl
   clear hI hJ hr'
   go_wp2_with (first | (with_reducible refine wpList_loadL (o := ⟨some 21, _, _, _, _, _⟩) ri_ver _ rfl rfl rfl hr hsz ?_) | (with_reducible refine wpList_loadL (o := ⟨some 25, _, _, _, _, _⟩) ri_ver _ rfl rfl rfl hr2 hsz2 ?_))
   clear hr hr2 hsz hsz2
   refine (ref_SameVersion B1 B2 l[k] Av cv Am cm Bv dv Bm dm _ (HI.out.ext hxm) (HJ.out.ext hxm)).mono ?_
   rintro e w1 ⟨rfl, hx1⟩
   have hxx := hx.trans (hxm.trans hx1)
   clear hx hxm hxl hx1
   go_wp2_with fail
   go_roundw
   case rel => exact ⟨k + 1, hlt, by go_num, hxx⟩
   case measure => simp [intOf]; omega
  ·obtain rfl : k = l.length := by omega
   go_wp2_with fail
   go_ret
   exact ⟨rfl, hx⟩
theorem ref_SameShelf (B1 B2 : Nat) (A1 : Option Addr) (c1 : Nat) (A2 : Option Addr) (c2 : Nat) (l : List Version) (w : World) (hl : l.length ≤ maxLen) (h : SlVers B1 w A1 l) (g : SlVers B2 w A2 l) :
  Calls Tryz.prog 22 #[.slice A1 l.length c1, .slice A2 l.length c2] w fun e w' => e = .returned (.bool true) ∧ Ext w w' := by
 go_enter Tryz.func22, Tryz.ntmps22
 go_wp2_with fail
 refine (equal_vers B1 B2 A1 c1 A2 c2 l _ hl h g).mono ?_
 rintro e w1 ⟨rfl, hx⟩
 go_wp2_with fail
 go_ret
 exact ⟨rfl, hx⟩
end Go.Proofs.YtngbfdogiciahaaGreat
namespace Go.Proofs.YtngbfdogiciahaaGreat
open Go Go.RowKit
set_option maxRecDepth 100000 in
set_option maxHeartbeats 2000000 in
theorem shelf_Copied (B : Nat) (A : Option Addr) (c : Nat) (l : List Version) (w : World) (hB : B ≤ w.heap.size) (hl : l.length ≤ 10000) (hok : ∀ v ∈ l, VerOk v) (h : SlVers B w A l) :
  Calls Tryz.prog 80 #[.slice A l.length c] w fun e w' => ∃ v, e = .returned v ∧ Own (RVer B) 8 151 w' w.heap.size v l ∧ Ext w w' := by
 have HOK := hid hok
 clear hok
 have hll : (l.length : Int) ≤ 10000 := by omega
 go_enter Tryz.func80, Tryz.ntmps80
 go_wp2_with fail
 go_loopw [3, 8] (fun o i wr => ∃ k : Nat, k ≤ l.length ∧ i = .int .i64 k ∧ Own (RVer B) 8 151 wr w.heap.size o (l.take k) ∧ Ext w wr) (fun _ i _ => l.length - (intOf i).toNat)
 case atStart => exact ⟨0, Nat.zero_le _, rfl, Own.nil, Ext.refl _⟩
 case round =>
  obtain ⟨k, hk, rfl, ho, hx⟩ := hrel
  by_cases hlt : k < l.length
  ·obtain ⟨b, off, Av, cv, Am, cm, rfl, hb, hr, hI⟩ := (h.ext RVer.monoE hx).ver hlt
   have HI := hid hI
   clear hI
   have HO := hid (HOK.out _ (List.getElem_mem hlt))
   have HTk := hid (show l.take (k + 1) = l.take k ++ [l[k]] from List.take_succ_eq_append_getElem hlt)
   have HLen := hid (show (l.take k).length ≤ 10000 by have := List.length_take_le k l; omega)
   have hsz : ([.string l[k].id, .int .i64 l[k].dot.site, .int .i64 l[k].dot.count, .int .i64 l[k].pt.tags, .int .i64 l[k].pt.num, .int .i64 l[k].body, .slice Av l[k].past.vec.length cv, .slice Am l[k].past.more.length cm] : List Value).length = 8 := rfl
   have hxa := (Ext.refl wr).alloc (.cells #[.string l[k].id, .int .i64 l[k].dot.site, .int .i64 l[k].dot.count, .int .i64 l[k].pt.tags, .int .i64 l[k].pt.num, .int .i64 l[k].body, .slice Av l[k].past.vec.length cv, .slice Am l[k].past.more.length cm] 151)
   go_wp2_with (with_reducible refine wpList_loadL (o := ⟨some 11, _, _, _, _, _⟩) ri_ver _ rfl rfl rfl hr hsz ?_)
   clear hr hsz
   refine (know_Copied B l[k].past Av cv Am cm _ (Nat.le_trans hB (hx.trans hxa).size) (by have := HO.out.k.vlen; have := HO.out.k.mlen; omega) (HI.out.k.ext hxa)).mono ?_
   rintro e w1 ⟨v, rfl, hv, hx1⟩
   obtain ⟨A2, c2, A3, c3, rfl, b1, b2, b3, b4, hk1⟩ := hv
   have p0 : w1.cell? ⟨wr.heap.size, 0, none⟩ = some (.string l[k].id) := hx1.cell (by go_simp)
   have p1 : w1.cell? ⟨wr.heap.size, 1, none⟩ = some (.int .i64 l[k].dot.site) := hx1.cell (by go_simp)
   have p2 : w1.cell? ⟨wr.heap.size, 2, none⟩ = some (.int .i64 l[k].dot.count) := hx1.cell (by go_simp)
   have p3 : w1.cell? ⟨wr.heap.size, 3, none⟩ = some (.int .i64 l[k].pt.tags) := hx1.cell (by go_simp)
   have p4 : w1.cell? ⟨wr.heap.size, 4, none⟩ = some (.int .i64 l[k].pt.num) := hx1.cell (by go_simp)
   have p5 : w1.cell? ⟨wr.heap.size, 5, none⟩ = some (.int .i64 l[k].body) := hx1.cell (by go_simp)
   have p6 : w1.cell? ⟨wr.heap.size, 6, none⟩ = some (.slice Av l[k].past.vec.length cv) := hx1.cell (by go_simp)
   have p7 : w1.cell? ⟨wr.heap.size, 7, none⟩ = some (.slice Am l[k].past.more.length cm) := hx1.cell (by go_simp)
   have z6 : w1.frozen? ⟨wr.heap.size, 6, none⟩ = false := by rw [hx1.frozenAt (by simp)]; go_simp
   have z7 : w1.frozen? ⟨wr.heap.size, 7, none⟩ = false := by rw [hx1.frozenAt (by simp)]; go_simp
   have pt : tyAt w1 wr.heap.size = some 151 := by rw [tyAt_of (hx1.blockAt (by simp))]; unfold tyAt; rw [heap_alloc_new]
   have hz : wr.heap.size < w1.heap.size := World.block_lt_of_cell? _ _ p0
   have hwr := hx.size
   have hxr := hxa.trans hx1
   clear hxa hx1
   have pt2 : tyAt (w1.setCell ⟨wr.heap.size, 6, none⟩ (.slice A2 l[k].past.vec.length c2)) wr.heap.size = some 151 := tyAt_setCells wr.heap.size 151 [.slice A2 l[k].past.vec.length c2] 6 w1 pt
   have hs2 : Ext wr ((w1.setCell ⟨wr.heap.size, 6, none⟩ (.slice A2 l[k].past.vec.length c2)).setCell ⟨wr.heap.size, 7, none⟩ (.slice A3 l[k].past.more.length c3)) := (hxr.setCell (Nat.le_refl _) _).setCell (Nat.le_refl _) _
   have hs3 : Chg B [151] w1 ((w1.setCell ⟨wr.heap.size, 6, none⟩ (.slice A2 l[k].past.vec.length c2)).setCell ⟨wr.heap.size, 7, none⟩ (.slice A3 l[k].past.more.length c3)) := ((Chg.refl w1).setCell (p := ⟨wr.heap.size, 6, none⟩) pt (by simp) _ (by show B ≤ wr.heap.size; omega)).setCell (p := ⟨wr.heap.size, 7, none⟩) pt2 (by simp) _ (by show B ≤ wr.heap.size; omega)
   have hk2 := hk1.chg hs3 (by decide) (by decide)
   have hV : InV B ((w1.setCell ⟨wr.heap.size, 6, none⟩ (.slice A2 l[k].past.vec.length c2)).setCell ⟨wr.heap.size, 7, none⟩ (.slice A3 l[k].past.more.length c3)) A2 c2 A3 c3 l[k] := ⟨⟨b1, b2⟩, ⟨b3, b4⟩, HI.out.lid, hk2⟩
   have hxw := hx.trans hs2
   have hxa := (Ext.refl ((w1.setCell ⟨wr.heap.size, 6, none⟩ (.slice A2 l[k].past.vec.length c2)).setCell ⟨wr.heap.size, 7, none⟩ (.slice A3 l[k].past.more.length c3))).alloc (.cells #[.string l[k].id, .int .i64 l[k].dot.site, .int .i64 l[k].dot.count, .int .i64 l[k].pt.tags, .int .i64 l[k].pt.num, .int .i64 l[k].body, .slice A2 l[k].past.vec.length c2, .slice A3 l[k].past.more.length c3] 151)
   have hone : SlVers B (((w1.setCell ⟨wr.heap.size, 6, none⟩ (.slice A2 l[k].past.vec.length c2)).setCell ⟨wr.heap.size, 7, none⟩ (.slice A3 l[k].past.more.length c3)).alloc (.cells #[.string l[k].id, .int .i64 l[k].dot.site, .int .i64 l[k].dot.count, .int .i64 l[k].pt.tags, .int .i64 l[k].pt.num, .int .i64 l[k].body, .slice A2 l[k].past.vec.length c2, .slice A3 l[k].past.more.length c3] 151)) (some ⟨w1.heap.size, 0, none⟩) [l[k]] := by
    have := Sl.one (R := RVer B) (B := B) (e := 151) (sz := 8) (w := ((w1.setCell ⟨wr.heap.size, 6, none⟩ (.slice A2 l[k].past.vec.length c2)).setCell ⟨wr.heap.size, 7, none⟩ (.slice A3 l[k].past.more.length c3))) (cs := [.string l[k].id, .int .i64 l[k].dot.site, .int .i64 l[k].dot.count, .int .i64 l[k].pt.tags, .int .i64 l[k].pt.num, .int .i64 l[k].body, .slice A2 l[k].past.vec.length c2, .slice A3 l[k].past.more.length c3]) (y := l[k]) rfl rfl (hV.ext hxa).rver
    rwa [World.size_setCell, World.size_setCell] at this
   have ho2 := ho.ext RVer.monoE (hs2.trans hxa)
   have hxw2 := hxw.trans hxa
   clear hs2 hs3 hk2 hV hxw hxa hk1 ho hx hxr pt pt2
   go_wp2_with (at_builtin; refine wpList_app (ys := [l[k]]) (c := 1) (B := B) rfl _ _ rfl ei_ver rfl ho2 hB hxw2.size rfl hone RVer.oneC (RVer.mono (by decide) (by decide)) (by have := HLen.out; simp [maxLen]; omega) (by have := HLen.out; simp; omega) ?_; intro v5 w5 ho5 hc5 hb5 hg5)
   have hxw5 := hxw2.below hb5 (Nat.le_refl _)
   clear hc5 hb5 hg5 ho2 hone hxw2
   go_roundw
   case rel => exact ⟨k + 1, hlt, by go_num, by rw [HTk.out]; exact ho5, hxw5⟩
   case measure => simp [intOf]; omega
  ·obtain rfl : k = l.length := by omega
   rw [List.take_length] at ho
   go_wp2_with fail
   go_ret
   exact ⟨_, rfl, ho, hx⟩
end Go.Proofs.YtngbfdogiciahaaGreat
namespace Go.Proofs.YtngbfdogiciahaaGreat
open Go Go.RowKit
theorem wp_storeRow {P : Program} {o : Oper} {a : Act} {w : World} {Q : Exit → Act → World → Prop} {K : Act → World → Prop} {t : TypeId} {n : Nat} (ri : RowInfo P t n) (x y : Operand) (ho : o.op = .store t x y) {b : Nat} (hx : a.eval x = .pointer (some ⟨b, 0, none⟩)) {cs old : Array Value} (hy : a.eval y = .agg cs)
  (hb : Blk w b t old) (hn : cs.size = n) (hold : old.size = n) (h1 : cs.all (·.oneCell') = true)
  (h : ∀ w', Below b w w' → Blk w' b t cs → w'.heap.size = w.heap.size → (∀ k, k ≠ b → w'.heap[k]? = w.heap[k]?) → K (a.put o.dst undef) w') : o.wp P a w K Q := by
 obtain ⟨_, hi⟩ := ri
 have hother : ∀ k, k ≠ b → (w.setRow b cs).heap[k]? = w.heap[k]? := fun k hk => setRow_other w b k cs (by omega)
 exact wp_store_row t x y ho b cs hx hy t old hb (by rw [hn]; exact hi) (by omega) h1
  (h _ ⟨rfl, rfl, rfl, by simp, fun k hk => hother k (by omega)⟩ (setRow_heap w b old _ t _ hb) (by simp) hother)
theorem chg_row {B g : Nat} {t : TypeId} {w w' : World} {old : Array Value} (hb : Blk w g t old) (x : Below g w w') (ho : ∀ k, k ≠ g → w'.heap[k]? = w.heap[k]?) (hB : B ≤ g) : Chg B [t] w w' :=
 ⟨x.os, x.tape, x.output, x.size, fun k _ hc => ho k (by
  rintro rfl
  rcases hc with hc | hc
  ·omega
  ·exact hc t (by simp) hb.ty)⟩
end Go.Proofs.YtngbfdogiciahaaGreat
