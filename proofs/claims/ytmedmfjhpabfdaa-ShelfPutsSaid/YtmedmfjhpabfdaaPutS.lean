/- The walk of reedref.Put's comparison, and what sort.SliceStable asks, at versions. -/
import Derived.Test.YtmedmfjhpabfdaaSrtV
import Derived.Test.YtmedmfjhpabfdaaShelfC
import Derived.Test.YtmedmfjhpabfdaaQrow
import Derived.Test.YtmedmfjhpabfdaaPutP
namespace Go.Proofs.Ytmedmfjhpabfdaa
open Go Go.RowKit

/-- the row that is sorted: n versions in the block g, which the variable in the block r holds. -/
structure StV (B : Nat) (w0 : World) (g n c r : Nat) (d : List Version) (w : World) : Prop where
  len : d.length = n
  ext : Ext w0 w
  own : Own (RVer B) 8 46 w w0.heap.size (.slice (some ⟨g, 0, none⟩) n c) d
  var : Blk w r 22 #[.slice (some ⟨g, 0, none⟩) n c]
theorem StV.at_ {B : Nat} {w0 : World} {g n c r : Nat} {d : List Version} {w : World} (h : StV B w0 g n c r d w) {i : Nat} (hi : i < d.length) : ∃ Av cv Am cm, w.rangeAt g (i * 8) [.string d[i].id, .int .i64 d[i].dot.site, .int .i64 d[i].dot.count, .int .i64 d[i].pt.tags, .int .i64 d[i].pt.num, .int .i64 d[i].body, .slice Av d[i].past.vec.length cv, .slice Am d[i].past.more.length cm] := by
  obtain ⟨b, off, Av, cv, Am, cm, hA, _, hr, _⟩ := Sl.ver (B := B) (l := d) (w := w) (A := some ⟨g, 0, none⟩) (h.own.sl B) hi
  injection hA with hA
  injection hA with h1 h2
  subst h1 h2
  rw [Nat.zero_add] at hr
  exact ⟨Av, cv, Am, cm, hr⟩
theorem StV.extn {B : Nat} {w0 : World} {g n c r : Nat} {d : List Version} {w w' : World} (h : StV B w0 g n c r d w) (x : Ext w w') : StV B w0 g n c r d w' := ⟨h.len, h.ext.trans x, h.own.ext RVer.monoE x, h.var.ext x⟩

set_option maxRecDepth 100000 in
set_option maxHeartbeats 2000000 in
theorem less_1 (B : Nat) (w0 : World) (g n c r : Nat) (d : List Version) (w : World) (i j : Nat) (hi : i < d.length) (hj : j < d.length) (h : StV B w0 g n c r d w) :
    Calls Try.prog 85 #[.int .i64 (i : Int), .int .i64 (j : Int), .pointer (some ⟨r, 0, none⟩)] w fun e w' => e = .returned (.bool (verLt d[i] d[j])) ∧ Ext w w' := by
  obtain ⟨Ai, ci, Mi, di, hri⟩ := h.at_ hi
  obtain ⟨Aj, cj, Mj, dj, hrj⟩ := h.at_ hj
  have hv := h.var
  have hl := h.len
  have hin : (i : Int) < (n : Int) := by omega
  have hjn : (j : Int) < (n : Int) := by omega
  have hin' : i < n := by omega
  have hjn' : j < n := by omega
  have HC := hid (fun w' => ref_ahead d[i] d[j] Ai ci Mi di Aj cj Mj dj w')
  generalize d[i] = y at hri HC ⊢
  generalize d[j] = z at hrj HC ⊢
  have HAll := hid (fun w' (x : Ext w w') => show w'.cell? ⟨r, 0, none⟩ = some (.slice (some ⟨g, 0, none⟩) n c) from (hv.ext x).cell rfl)
  have HWI := hid (fun w' (x : Ext w w') => show w'.rangeAt g (i * 8) (#[.string y.id, .int .i64 y.dot.site, .int .i64 y.dot.count, .int .i64 y.pt.tags, .int .i64 y.pt.num, .int .i64 y.body, .slice Ai y.past.vec.length ci, .slice Mi y.past.more.length di] : Array Value).toList from rangeAt_ext x hri)
  have HWJ := hid (fun w' (x : Ext w w') => show w'.rangeAt g (j * 8) (#[.string z.id, .int .i64 z.dot.site, .int .i64 z.dot.count, .int .i64 z.pt.tags, .int .i64 z.pt.num, .int .i64 z.body, .slice Aj z.past.vec.length cj, .slice Mj z.past.more.length dj] : Array Value).toList from rangeAt_ext x hrj)
  clear h hri hrj hv hl
  go_enter Try.func85, Try.ntmps85
  go_wp2_with fail
  refine wq_region (fun w' => Ext w w') (by kernel_rfl) (by kernel_rfl) (Ext.refl _).drew ?_
  refine wq_get (v := ?_) (fun w' hw' => ?_) ?_
  rotate_left
  · have hA := HAll.out w' hw'
    go_split_ands
    first
      | (go_simp; done)
      | (go_simp; with_reducible rfl)
  try simp only [Act.put, List.setIfInBounds_toArray, List.set_cons_zero, List.set_cons_succ]
  refine wq_get (v := ?_) (fun w' hw' => ?_) ?_
  rotate_left
  · have hA := HAll.out w' hw'
    go_split_ands
    first
      | (go_simp; done)
      | (go_simp; with_reducible rfl)
  try simp only [Act.put, List.setIfInBounds_toArray, List.set_cons_zero, List.set_cons_succ]
  refine wq_get (v := ?_) (fun w' hw' => ?_) ?_
  rotate_left
  · have hA := HAll.out w' hw'
    go_split_ands
    first
      | (go_simp; done)
      | (go_simp; with_reducible rfl)
  try simp only [Act.put, List.setIfInBounds_toArray, List.set_cons_zero, List.set_cons_succ]
  refine wq_loadRow ri_ver (by rfl) HWI.out rfl ?_
  try simp only [Act.put, List.setIfInBounds_toArray, List.set_cons_zero, List.set_cons_succ]
  refine wq_get (v := ?_) (fun w' hw' => ?_) ?_
  rotate_left
  · have hA := HAll.out w' hw'
    go_split_ands
    first
      | (go_simp; done)
      | (go_simp; with_reducible rfl)
  try simp only [Act.put, List.setIfInBounds_toArray, List.set_cons_zero, List.set_cons_succ]
  refine wq_get (v := ?_) (fun w' hw' => ?_) ?_
  rotate_left
  · have hA := HAll.out w' hw'
    go_split_ands
    first
      | (go_simp; done)
      | (go_simp; with_reducible rfl)
  try simp only [Act.put, List.setIfInBounds_toArray, List.set_cons_zero, List.set_cons_succ]
  refine wq_get (v := ?_) (fun w' hw' => ?_) ?_
  rotate_left
  · have hA := HAll.out w' hw'
    go_split_ands
    first
      | (go_simp; done)
      | (go_simp; with_reducible rfl)
  try simp only [Act.put, List.setIfInBounds_toArray, List.set_cons_zero, List.set_cons_succ]
  refine wq_loadRow ri_ver (by rfl) HWJ.out rfl ?_
  try simp only [Act.put, List.setIfInBounds_toArray, List.set_cons_zero, List.set_cons_succ]
  refine wq_call Try.call82 (by rfl) (fun w' x => (HC.out w').mono fun _ _ h => ⟨h.1, x.trans h.2⟩) ?_
  try simp only [Act.put, List.setIfInBounds_toArray, List.set_cons_zero, List.set_cons_succ]
  refine wq_get (v := ?_) (fun w' hw' => ?_) ?_
  rotate_left
  · have hA := HAll.out w' hw'
    go_split_ands
    first
      | (go_simp; done)
      | (go_simp; with_reducible rfl)
  try simp only [Act.put, List.setIfInBounds_toArray, List.set_cons_zero, List.set_cons_succ]
  refine wq_nil ?_
  intro w25 hyn
  go_wp2_with fail
  go_ret
  exact ⟨rfl, hyn⟩

theorem stv_swap {B : Nat} {w0 : World} {g n c r : Nat} (hrg : r ≠ g) {P : List Version} {x : Version} {M : List Version} {y : Version} {S : List Version} {w w' : World} (h : StV B w0 g n c r (P ++ x :: (M ++ y :: S)) w)
    (ho : Own (RVer B) 8 46 w' w0.heap.size (.slice (some ⟨g, 0, none⟩) (P ++ y :: (M ++ x :: S)).length c) (P ++ y :: (M ++ x :: S))) (hg : w.grownBy w' (some g)) : StV B w0 g n c r (P ++ y :: (M ++ x :: S)) w' ∧ Chg 0 [46] w w' := by
  have hn : (P ++ y :: (M ++ x :: S)).length = n := by rw [← h.len]; simp
  rw [hn] at ho
  refine ⟨⟨hn, ?_, ho, (hg.block r h.var.lt (fun e => hrg (by injection e))).trans h.var⟩, ?_⟩
  · exact h.ext.below (h.own.below_of (v := .slice (some ⟨g, 0, none⟩) n c) hg h.ext.size) (Nat.le_refl _)
  · exact h.own.chg_of (B := 0) (Nat.zero_le _) hg

theorem srtr_ver (B : Nat) (w0 : World) (g n c r : Nat) (hB : B ≤ w0.heap.size) (hrg : r ≠ g) :
    Srtr verLt 85 170 #[.pointer (some ⟨r, 0, none⟩)] #[.slice (some ⟨g, 0, none⟩) n c, typeHandle Try.prog 46] (StV B w0 g n c r) where
  hg := Try.call85
  ext _ _ _ h x := h.extn x
  lessA P x M y S w i j hi hj h := by
    subst hi
    have hj' : j = ((P.length + 1 + M.length : Nat) : Int) := by rw [hj]; push_cast; rfl
    subst hj'
    have h1 : P.length < (P ++ x :: (M ++ y :: S)).length := by simp
    have h2 : P.length + 1 + M.length < (P ++ x :: (M ++ y :: S)).length := by simp; omega
    have e1 : (P ++ x :: (M ++ y :: S))[P.length] = x := by have := get_mid P x (M ++ y :: S); rw [List.getElem?_eq_getElem h1] at this; injection this
    have e2 : (P ++ x :: (M ++ y :: S))[P.length + 1 + M.length] = y := by have := get_mid2 P x M y S; rw [List.getElem?_eq_getElem h2] at this; injection this
    refine (less_1 B w0 g n c r _ w P.length (P.length + 1 + M.length) h1 h2 h).mono ?_
    rintro e w' ⟨rfl, hx⟩
    rw [e1, e2]
    exact ⟨rfl, h.extn hx, Chg.of_ext hx⟩
  lessB P x M y S w i j hi hj h := by
    subst hi
    have hj' : j = ((P.length + 1 + M.length : Nat) : Int) := by rw [hj]; push_cast; rfl
    subst hj'
    have h1 : P.length < (P ++ x :: (M ++ y :: S)).length := by simp
    have h2 : P.length + 1 + M.length < (P ++ x :: (M ++ y :: S)).length := by simp; omega
    have e1 : (P ++ x :: (M ++ y :: S))[P.length] = x := by have := get_mid P x (M ++ y :: S); rw [List.getElem?_eq_getElem h1] at this; injection this
    have e2 : (P ++ x :: (M ++ y :: S))[P.length + 1 + M.length] = y := by have := get_mid2 P x M y S; rw [List.getElem?_eq_getElem h2] at this; injection this
    refine (less_1 B w0 g n c r _ w (P.length + 1 + M.length) P.length h2 h1 h).mono ?_
    rintro e w' ⟨rfl, hx⟩
    rw [e1, e2]
    exact ⟨rfl, h.extn hx, Chg.of_ext hx⟩
  swapA P x M y S w i j hi hj h := by
    subst hi
    have hj' : j = ((P.length + 1 + M.length : Nat) : Int) := by rw [hj]; push_cast; rfl
    subst hj'
    have hl := h.len
    have h1 : P.length < n := by rw [← hl]; simp
    have h2 : P.length + 1 + M.length < n := by rw [← hl]; simp; omega
    have ho := h.own
    rw [← hl] at ho
    obtain ⟨X, Y, hX, hY, hRX, hRY, cX, cY, hf, ⟨a1, a2⟩, _⟩ := own_swap (B := B) (RVer.mono (by decide) (by decide)) hB ho
    obtain ⟨b1, b2⟩ := stv_swap hrg h a1 a2
    refine ⟨_, ?_, b1, b2⟩
    have hrun := Lib.run_swap_cells (P := Try.prog) false 46 tVer info_ver agg_ver g 0 n c P.length (P.length + 1 + M.length) h1 h2 X Y (by rw [hX, size_ver]) (by rw [hY, size_ver]) (RVer.oneC _ _ _ hRX) (RVer.oneC _ _ _ hRY) w (by rw [size_ver]; intro k u hk; rw [Nat.zero_add]; exact cX k u hk) (by rw [size_ver]; intro k u hk; rw [Nat.zero_add]; exact cY k u hk) (fun k _ => hf _) (fun k _ => hf _)
    rw [size_ver, Nat.zero_add, Nat.zero_add] at hrun
    rw [run_callFunc_extern Try.func170 (by kernel_rfl) (by kernel_rfl) (by kernel_rfl) (e := Extern.ReflectliteSwapper.swap false) (by kernel_rfl)]
    rw [show (#[.int .i64 (P.length : Int), .int .i64 ((P.length + 1 + M.length : Nat) : Int)] ++ #[.slice (some ⟨g, 0, none⟩) n c, typeHandle Try.prog 46] : Array Value) = #[.int .i64 (P.length : Int), .int .i64 ((P.length + 1 + M.length : Nat) : Int), .slice (some ⟨g, 0, none⟩) n c, typeHandle Try.prog 46] from rfl, hrun]
    rfl
  swapB P x M y S w i j hi hj h := by
    subst hi
    have hj' : j = ((P.length + 1 + M.length : Nat) : Int) := by rw [hj]; push_cast; rfl
    subst hj'
    have hl := h.len
    have h1 : P.length < n := by rw [← hl]; simp
    have h2 : P.length + 1 + M.length < n := by rw [← hl]; simp; omega
    have ho := h.own
    rw [← hl] at ho
    obtain ⟨X, Y, hX, hY, hRX, hRY, cX, cY, hf, _, ⟨a1, a2⟩⟩ := own_swap (B := B) (RVer.mono (by decide) (by decide)) hB ho
    obtain ⟨b1, b2⟩ := stv_swap hrg h a1 a2
    refine ⟨_, ?_, b1, b2⟩
    have hrun := Lib.run_swap_cells (P := Try.prog) false 46 tVer info_ver agg_ver g 0 n c (P.length + 1 + M.length) P.length h2 h1 Y X (by rw [hY, size_ver]) (by rw [hX, size_ver]) (RVer.oneC _ _ _ hRY) (RVer.oneC _ _ _ hRX) w (by rw [size_ver]; intro k u hk; rw [Nat.zero_add]; exact cY k u hk) (by rw [size_ver]; intro k u hk; rw [Nat.zero_add]; exact cX k u hk) (fun k _ => hf _) (fun k _ => hf _)
    rw [size_ver, Nat.zero_add, Nat.zero_add] at hrun
    rw [run_callFunc_extern Try.func170 (by kernel_rfl) (by kernel_rfl) (by kernel_rfl) (e := Extern.ReflectliteSwapper.swap false) (by kernel_rfl)]
    rw [show (#[.int .i64 ((P.length + 1 + M.length : Nat) : Int), .int .i64 (P.length : Int)] ++ #[.slice (some ⟨g, 0, none⟩) n c, typeHandle Try.prog 46] : Array Value) = #[.int .i64 ((P.length + 1 + M.length : Nat) : Int), .int .i64 (P.length : Int), .slice (some ⟨g, 0, none⟩) n c, typeHandle Try.prog 46] from rfl, hrun]
    rfl
/-- one version: nothing is compared, nothing changes places. -/
theorem srtr_one (B : Nat) (w0 : World) (g c r : Nat) (sf : FuncId) (sb : Array Value) : Srtr verLt 85 sf #[.pointer (some ⟨r, 0, none⟩)] sb (StV B w0 g 1 c r) where
  hg := Try.call85
  ext _ _ _ h x := h.extn x
  lessA P x M y S w i j _ _ h := by have := h.len; simp at this; omega
  lessB P x M y S w i j _ _ h := by have := h.len; simp at this; omega
  swapA P x M y S w i j _ _ h := by have := h.len; simp at this; omega
  swapB P x M y S w i j _ _ h := by have := h.len; simp at this; omega

/-- the document's sort of versions. -/
theorem sort_ver (B : Nat) (w0 : World) (g n c r : Nat) (l : List Version) (w : World) (hB : B ≤ w0.heap.size) (hrg : r ≠ g) (hn : n ≤ 1000) (h0 : 0 < n) (h : StV B w0 g n c r l w) :
    Calls Try.prog 84 #[.iface 22 (.slice (some ⟨g, 0, none⟩) n c), .func (.func 85) #[] #[.pointer (some ⟨r, 0, none⟩)]] w fun e w' => e = .returned (.tuple #[]) ∧ ∃ m, m.Perm l ∧ Srt verLt m ∧ StV B w0 g n c r m w' := by
  have hl := h.len
  by_cases h2 : 2 ≤ n
  · have := slice_stable (srtr_ver B w0 g n c r hB hrg) ordVer (some ⟨g, 0, none⟩) c l w (by omega) h (fun w => by
      rw [hl, Lib.run_swapper_slice 22 46 tVers tVer info_vers desc_vers info_ver 25 kind_ver (some ⟨g, 0, none⟩) n c 170 (by rw [swapper_many n h2]; kernel_rfl) w, swapper_many n h2]
      rfl)
    rw [hl] at this
    exact this
  · obtain rfl : n = 1 := by omega
    have := slice_stable (srtr_one B w0 g c r 163 #[]) ordVer (some ⟨g, 0, none⟩) c l w (by omega) h (fun w => by
      rw [hl, Lib.run_swapper_slice 22 46 tVers tVer info_vers desc_vers info_ver 25 kind_ver (some ⟨g, 0, none⟩) 1 c 163 (by rw [swapper_one]; kernel_rfl) w, swapper_one]
      rfl)
    rw [hl] at this
    exact this
end Go.Proofs.Ytmedmfjhpabfdaa
