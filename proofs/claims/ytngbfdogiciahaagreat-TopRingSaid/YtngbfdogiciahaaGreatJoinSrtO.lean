/- Several texts in one: data, readings, plain laws, walks. No condition. -/
import Derived.Test.YtngbfdogiciahaaGreatSrtP
import Derived.Laws.OwnMore
import Derived.Laws.IdiomCopy
import Derived.Test.YtngbfdogiciahaaGreatRowV
import Derived.Lib.AppendZerosOnto
import Derived.Lib.Overlaps
import Derived.Deep.RegionLaw
import Derived.Test.YtngbfdogiciahaaGreatProg
namespace Go.Proofs.YtngbfdogiciahaaGreat
open Go Go.RowKit
def setL : List Value → Nat → List Value → List Value
 | l, _, [] => l
 | l, o, v :: r => setL (l.set o v) (o + 1) r
theorem setL_mid : ∀ (Y P X S : List Value), X.length = Y.length → setL (P ++ (X ++ S)) P.length Y = P ++ (Y ++ S)
 | [], P, X, S, h => by rw [List.eq_nil_of_length_eq_zero h]; rfl
 | y :: Y, P, x :: X, S, h => by
  have := setL_mid Y (P ++ [y]) X S (by simpa using h)
  rw [setL, List.cons_append, List.set_append_right _ _ (Nat.le_refl _), Nat.sub_self, List.set_cons_zero]
  rw [List.length_append, List.length_singleton, List.append_assoc] at this
  rw [show P ++ y :: (X ++ S) = P ++ ([y] ++ (X ++ S)) from rfl, this]
  simp
section
variable {w : World} {base n cap g : Nat} {e : TypeId} {sz : Nat}
theorem owns_setCells : ∀ (vs : List Value) (o : Nat) (w : World) (xs : List Value), w.ownsRow base e sz (.slice (some ⟨g, 0, none⟩) n cap) n xs → (w.setCells g o vs).ownsRow base e sz (.slice (some ⟨g, 0, none⟩) n cap) n (setL xs o vs) ∧ w.grownBy (w.setCells g o vs) (some g)
 | [], o, w, xs, h => ⟨h, World.grownBy.refl w _⟩
 | v :: r, o, w, xs, h => by
  obtain ⟨h1, g1⟩ := h.stored o v
  obtain ⟨h2, g2⟩ := owns_setCells r (o + 1) _ _ h1
  exact ⟨h2, g1.trans g2⟩
end
end Go.Proofs.YtngbfdogiciahaaGreat
namespace Go.Proofs.YtngbfdogiciahaaGreat
open Go Go.RowKit
section
variable {P : Program}
theorem run_copyK (w : World) (dT sT ty elem : TypeId) (b o dLen dCap : Nat) (a : Addr) (sLen sCap sz n : Nat) (cs : List Value)
  (hu : P.underlying dT = some (.slice elem)) (hs : (P.info? elem).map (·.size) = some sz) (hn : Nat.min sLen dLen = n) (hl : cs.length = n * sz)
  (hsrc : ∀ j v, cs[j]? = some v → w.cell? (a.add j) = some v) (hc : ∀ j, j < cs.length → (w.cell? ⟨b, o + j, none⟩).isSome = true) (hf : ∀ j, j < cs.length → w.frozen? ⟨b, o + j, none⟩ = false) (h1 : ∀ v ∈ cs, v.oneCell' = true) :
  (Builtin.copy_ #[dT, sT] ty #[.slice (some ⟨b, o, none⟩) dLen dCap, .slice (some a) sLen sCap]).run P w = .ok (goInt n) (w.setCells b o cs) := by
 have hlo := run_loadCells_list (P := P) w a cs hsrc
 have hst := run_storeCells_cells (P := P) b o cs 0 w (by simpa using hc) (by simpa using hf) h1
 cases hq : P.info? elem with
 | none => simp [hq] at hs
 | some i =>
  have hi : i.size = sz := by simpa [hq] using hs
  rw [hl] at hlo
  simp [Builtin.copy_, run_underlying hu, Builtin.lenOf, Builtin.firstCells, sizeOf, typeInfo, hq, hi, hn, hlo, hst]
theorem wp_copyK {o : Oper} {a : Act} (w : World) {Q : Exit → Act → World → Prop} {K : Act → World → Prop} (d s : Operand) (t t' : TypeId)
  (ho : o.op = .call { callee := .builtin .copy, args := #[d, s], argTypes := #[t, t'] }) (v u : Value) (hd : a.eval d = v) (hs : a.eval s = u) {v' : Value} {w' : World}
  (hr : (Builtin.copy_ #[t, t'] o.type #[v, u]).run P w = .ok v' w') (h : K (a.put o.dst v') w') : o.wp P a w K Q := by
 unfold Oper.wp execOp
 simp only [ho, resolve, invoke, builtin, Sem.run_bind, Sem.run_pure, Result.andThen_ok, List.map_toArray, List.map_cons, List.map_nil, hd, hs, hr]
 exact h
theorem wpList_copyK (w : World) {ops : Array Oper} {rest : List Oper} {o : Oper} {a : Act} {Q : Exit → Act → World → Prop} (hgd : o.guard = none) (d s : Operand) (t t' : TypeId)
  (ho : o.op = .call { callee := .builtin .copy, args := #[d, s], argTypes := #[t, t'] }) (v u : Value) (hd : a.eval d = v) (hs : a.eval s = u) {v' : Value} {w' : World}
  (hr : (Builtin.copy_ #[t, t'] o.type #[v, u]).run P w = .ok v' w') (h : wpList P ops Q rest (a.put o.dst v') w') : wpList P ops Q (o :: rest) a w :=
 wpList_plain hgd fun _ hK => wp_copyK w d s t t' ho v u hd hs hr (hK _ _ h)
theorem step_copyK {ops : Array Oper} {o : Oper} {a : Act} {w : World} {K : Act → World → Prop} {Q : Exit → Act → World → Prop} {E : Prop}
  (hg : o.guard = none) (d x : Operand) (dT sT : TypeId) (hop : o.op = Op.call { callee := Callee.builtin Builtin.copy, args := #[d, x], argTypes := #[dT, sT] })
  (v u : Value) (hd : a.eval d = v) (hx : a.eval x = u) {v' : Value} {w' : World} (hr : (Builtin.copy_ #[dT, sT] o.type #[v, u]).run P w = .ok v' w') (hK : K (a.put o.dst v') w') :
  if Region.wanted o (yielded ops a.tmps) = true then Oper.wp P o a w K Q else E := by
 have hw : Region.wanted o (yielded ops a.tmps) = true := by simp [Region.wanted, hg]
 rw [if_pos hw]
 exact wp_copyK w d x dT sT hop v u hd hx hr hK
theorem wp_runA {o : Oper} {a : Act} (w : World) {Q : Exit → Act → World → Prop} {K : Act → World → Prop} (d s : Operand) (t t' : TypeId)
  (ho : o.op = .call { callee := .builtin .append, args := #[d, s], argTypes := #[t, t'] }) (v u : Value) (hd : a.eval d = v) (hs : a.eval s = u) {v' : Value} {w' : World}
  (hr : (Builtin.append_ #[t, t'] o.type #[v, u]).run P w = .ok v' w') (h : K (a.put o.dst v') w') : o.wp P a w K Q := by
 unfold Oper.wp execOp
 simp only [ho, resolve, invoke, builtin, Sem.run_bind, Sem.run_pure, Result.andThen_ok, List.map_toArray, List.map_cons, List.map_nil, hd, hs, hr]
 exact h
theorem wpList_runA (w : World) {ops : Array Oper} {rest : List Oper} {o : Oper} {a : Act} {Q : Exit → Act → World → Prop} (hgd : o.guard = none) (d s : Operand) (t t' : TypeId)
  (ho : o.op = .call { callee := .builtin .append, args := #[d, s], argTypes := #[t, t'] }) (v u : Value) (hd : a.eval d = v) (hs : a.eval s = u) {v' : Value} {w' : World}
  (hr : (Builtin.append_ #[t, t'] o.type #[v, u]).run P w = .ok v' w') (h : wpList P ops Q rest (a.put o.dst v') w') : wpList P ops Q (o :: rest) a w :=
 wpList_plain hgd fun _ hK => wp_runA w d s t t' ho v u hd hs hr (hK _ _ h)
end
section
variable {w : World} {base n c g : Nat} {e : TypeId} {sz : Nat} {xs : List Value}
theorem owns_more (h : w.ownsRow base e sz (.slice (some ⟨g, 0, none⟩) n c) n xs) (hc : n + 1 ≤ c) : ∃ E : List Value, E.length = sz ∧ w.ownsRow base e sz (.slice (some ⟨g, 0, none⟩) (n + 1) c) (n + 1) (xs ++ E) := by
 obtain ⟨hl, h⟩ := h
 rcases h with ⟨h, _⟩ | ⟨g', c', cur, hv, hb, hg, h1, h2, h3, h4⟩
 ·cases h
 ·injection hv with hA _ hcc
  subst hcc
  have hm : (n + 1) * sz = n * sz + sz := by rw [Nat.succ_mul]
  have hle : (n + 1) * sz ≤ cur.toList.length := by rw [Array.length_toList, h3]; exact Nat.mul_le_mul_right _ hc
  have e1 : xs ++ (cur.toList.take ((n + 1) * sz)).drop (n * sz) = cur.toList.take ((n + 1) * sz) := by
   have := List.take_append_drop (n * sz) (cur.toList.take ((n + 1) * sz))
   rw [List.take_take, Nat.min_eq_left (by omega), h4] at this
   exact this
  refine ⟨(cur.toList.take ((n + 1) * sz)).drop (n * sz), by rw [List.length_drop, List.length_take]; omega, ?_, .inr ⟨g', c, cur, by rw [hA], hb, hg, hc, h2, h3, e1.symm⟩⟩
  rw [e1, List.length_take]
  omega
theorem owns_cell (h : w.ownsRow base e sz (.slice (some ⟨g, 0, none⟩) n c) n xs) (j : Nat) (u : Value) (hj : xs[j]? = some u) : w.cell? ⟨g, j, none⟩ = some u := by
 have := h.cells (g := g) rfl j u hj
 have e1 : (⟨g, 0, none⟩ : Addr).add j = ⟨g, j, none⟩ := by unfold Addr.add; split <;> simp_all
 rwa [e1] at this
theorem owns_isSome (h : w.ownsRow base e sz (.slice (some ⟨g, 0, none⟩) n c) n xs) {j : Nat} (hj : j < n * sz) : (w.cell? ⟨g, j, none⟩).isSome = true := by
 rw [owns_cell h j (xs[j]'(by rw [h.1]; exact hj)) (List.getElem?_eq_getElem _)]; rfl
theorem owns_fz (h : w.ownsRow base e sz (.slice (some ⟨g, 0, none⟩) n c) n xs) (o : Nat) : w.frozen? ⟨g, o, none⟩ = false := by
 obtain ⟨_, h⟩ := h
 rcases h with ⟨h, _⟩ | ⟨g', c', cur, hv, hb, hg, _⟩
 ·cases h
 ·injection hv with hA
  injection hA with hA
  injection hA with hA
  subst hA
  simp [World.frozen?, hg]
theorem owns_shape (h : w.ownsRow base e sz (.slice (some ⟨g, 0, none⟩) n c) n xs) : w.shape? g = some (e, c * sz) := by
 obtain ⟨_, h⟩ := h
 rcases h with ⟨h, _⟩ | ⟨g', c', cur, hv, hb, hg, _, _, h3, _⟩
 ·cases h
 ·injection hv with hA _ hcc
  injection hA with hA
  injection hA with hA
  subst hA hcc
  unfold World.shape?
  rw [hg]
  simp [h3]
theorem ins_room {E X : List Value} {i : Nat} (h : w.ownsRow base e sz (.slice (some ⟨g, 0, none⟩) (n + 1) c) (n + 1) (xs ++ E)) (hxs : xs.length = n * sz) (hE : E.length = sz) (hX : X.length = sz) (hi : i < n) :
  ((w.setCells g ((i + 1) * sz) (xs.drop (i * sz))).setCells g (i * sz) X).ownsRow base e sz (.slice (some ⟨g, 0, none⟩) (n + 1) c) (n + 1) (xs.take (i * sz) ++ (X ++ xs.drop (i * sz))) ∧
  (w.setCells g ((i + 1) * sz) (xs.drop (i * sz))).ownsRow base e sz (.slice (some ⟨g, 0, none⟩) (n + 1) c) (n + 1) (xs.take (i * sz) ++ ((xs.drop (i * sz)).take sz ++ xs.drop (i * sz))) ∧
  w.grownBy ((w.setCells g ((i + 1) * sz) (xs.drop (i * sz))).setCells g (i * sz) X) (some g) := by
 have hm : (i + 1) * sz = i * sz + sz := by rw [Nat.succ_mul]
 have hm2 : (i + 1) * sz ≤ n * sz := Nat.mul_le_mul_right _ hi
 obtain ⟨a1, g1⟩ := owns_setCells (xs.drop (i * sz)) ((i + 1) * sz) w _ h
 have e1 : xs ++ E = (xs.take (i * sz) ++ (xs.drop (i * sz)).take sz) ++ (((xs.drop (i * sz)).drop sz ++ E) ++ []) := by
  rw [List.append_nil, ← List.append_assoc, List.append_assoc (xs.take (i * sz)), List.take_append_drop, List.take_append_drop]
 have hl1 : (xs.take (i * sz) ++ (xs.drop (i * sz)).take sz).length = (i + 1) * sz := by
  rw [List.length_append, List.length_take, List.length_take, List.length_drop]; omega
 rw [e1, ← hl1, setL_mid _ _ _ _ (by rw [List.length_append, List.length_drop, hE, List.length_drop]; omega), hl1] at a1
 rw [List.append_nil, List.append_assoc] at a1
 obtain ⟨a2, g2⟩ := owns_setCells X (i * sz) _ _ a1
 have hl2 : (xs.take (i * sz)).length = i * sz := by rw [List.length_take]; omega
 have e2 := setL_mid X (xs.take (i * sz)) ((xs.drop (i * sz)).take sz) (xs.drop (i * sz)) (by rw [List.length_take, List.length_drop, hX]; omega)
 rw [hl2] at e2
 rw [e2] at a2
 exact ⟨a2, a1, g1.trans g2⟩
theorem ins_new {W : World} {N G : Nat} {Z X : List Value} {i : Nat} (h : W.ownsRow base e sz (.slice (some ⟨N, 0, none⟩) (n + 1) G) (n + 1) (xs.take (i * sz) ++ Z)) (hxs : xs.length = n * sz) (hZ : Z.length = (n + 1 - i) * sz) (hX : X.length = sz) (hi : i < n) :
  (W.setCells N (i * sz) X).ownsRow base e sz (.slice (some ⟨N, 0, none⟩) (n + 1) G) (n + 1) (xs.take (i * sz) ++ (X ++ Z.drop sz)) ∧
  ((W.setCells N (i * sz) X).setCells N ((i + 1) * sz) (xs.drop (i * sz))).ownsRow base e sz (.slice (some ⟨N, 0, none⟩) (n + 1) G) (n + 1) (xs.take (i * sz) ++ (X ++ xs.drop (i * sz))) := by
 have hm : (i + 1) * sz = i * sz + sz := by rw [Nat.succ_mul]
 have hm2 : (i + 1) * sz ≤ n * sz := Nat.mul_le_mul_right _ hi
 have hm3 : (n + 1 - i) * sz + i * sz = n * sz + sz := by rw [← Nat.add_mul, show n + 1 - i + i = n + 1 by omega, Nat.succ_mul]
 obtain ⟨a1, _⟩ := owns_setCells X (i * sz) W _ h
 have hl2 : (xs.take (i * sz)).length = i * sz := by rw [List.length_take]; omega
 have e1 : xs.take (i * sz) ++ Z = xs.take (i * sz) ++ (Z.take sz ++ Z.drop sz) := by rw [List.take_append_drop]
 have e2 := setL_mid X (xs.take (i * sz)) (Z.take sz) (Z.drop sz) (by rw [List.length_take, hX]; omega)
 rw [hl2] at e2
 rw [e1, e2] at a1
 obtain ⟨a2, _⟩ := owns_setCells (xs.drop (i * sz)) ((i + 1) * sz) _ _ a1
 have e3 := setL_mid (xs.drop (i * sz)) (xs.take (i * sz) ++ X) (Z.drop sz) [] (by rw [List.length_drop, List.length_drop]; omega)
 rw [List.append_nil, List.append_nil, List.length_append, hl2, hX, ← hm, List.append_assoc, List.append_assoc] at e3
 rw [e3] at a2
 exact ⟨a1, a2⟩
end
theorem heap_setCells_congr (g : Nat) : ∀ (vs : List Value) (o : Nat) (w w2 : World), w.heap = w2.heap → (w.setCells g o vs).heap = (w2.setCells g o vs).heap
 | [], _, _, _, h => h
 | v :: r, o, w, w2, h => by
  rw [World.setCells, World.setCells]
  refine heap_setCells_congr g r (o + 1) _ _ ?_
  unfold World.setCell
  rw [h]
theorem owns_congr {w w2 : World} {base n : Nat} {e : TypeId} {sz : Nat} {v : Value} {xs : List Value} (h : w.heap = w2.heap) (k : w.ownsRow base e sz v n xs) : w2.ownsRow base e sz v n xs := by
 unfold World.ownsRow at k ⊢
 rw [← h]
 exact k
theorem Sl.ofBlkX {α : Type} {R : World → List Value → α → Prop} {B sz : Nat} {e : TypeId} {w : World} {b : Nat} {cs : Array Value} {x : α} (h : Blk w b e cs) (hl : cs.size = sz) (hR : R w cs.toList x) : Sl B e R sz w (some ⟨b, 0, none⟩) [x] := by
 intro i y hi
 match i, hi with
 | 0, hi =>
  simp at hi; subst hi
  exact ⟨b, 0, cs.toList, rfl, h.lt, .inr h.ty, by simp [hl], fun j u hj => by rw [Nat.zero_mul, Nat.zero_add]; exact h.cell (by rwa [Array.getElem?_toList] at hj), hR⟩
theorem insL_get {α β : Type} {Q : β → α → Prop} {X : β} {x : α} {xs : List β} {l : List α} {i : Nat} (hl : xs.length = l.length) (hi : i ≤ l.length) (hX : Q X x) (h : ∀ (k : Nat) (cs : β) (y : α), xs[k]? = some cs → l[k]? = some y → Q cs y) :
  ∀ (k : Nat) (cs : β) (y : α), (xs.take i ++ X :: xs.drop i)[k]? = some cs → (l.take i ++ x :: l.drop i)[k]? = some y → Q cs y := by
 intro k cs y h1 h2
 have l1 : (xs.take i).length = i := by rw [List.length_take]; omega
 have l2 : (l.take i).length = i := by rw [List.length_take]; omega
 rcases Nat.lt_trichotomy k i with g | g | g
 ·rw [List.getElem?_append_left (by omega), List.getElem?_take, if_pos g] at h1 h2
  exact h k cs y h1 h2
 ·subst g
  rw [List.getElem?_append_right (by omega), l1, Nat.sub_self] at h1
  rw [List.getElem?_append_right (by omega), l2, Nat.sub_self] at h2
  simp at h1 h2
  subst h1 h2
  exact hX
 ·obtain ⟨j, rfl⟩ : ∃ j, k = i + 1 + j := ⟨k - i - 1, by omega⟩
  rw [List.getElem?_append_right (by omega), l1, show i + 1 + j - i = j + 1 by omega, List.getElem?_cons_succ, List.getElem?_drop] at h1
  rw [List.getElem?_append_right (by omega), l2, show i + 1 + j - i = j + 1 by omega, List.getElem?_cons_succ, List.getElem?_drop] at h2
  exact h (i + j) cs y h1 h2
theorem flat_take8 {α : Type} {sz : Nat} : ∀ (xs : List (List α)) (i : Nat), (∀ cs ∈ xs, cs.length = sz) → i ≤ xs.length → (xs.take i).flatten = xs.flatten.take (i * sz) ∧ (xs.drop i).flatten = xs.flatten.drop (i * sz)
 | xs, 0, _, _ => by simp
 | [], i + 1, _, h => by simp at h
 | x :: r, i + 1, hl, h => by
  obtain ⟨a, b⟩ := flat_take8 r i (fun c hc => hl c (by simp [hc])) (by simpa using h)
  have hx := hl x (by simp)
  rw [Nat.succ_mul, Nat.add_comm (i * sz) sz]
  refine ⟨?_, ?_⟩
  ·rw [List.take_succ_cons, List.flatten_cons, List.flatten_cons, List.take_append, a, hx, Nat.add_sub_cancel_left, List.take_of_length_le (l := x) (by omega)]
  ·rw [List.drop_succ_cons, List.flatten_cons, List.drop_append, b, hx, Nat.add_sub_cancel_left, show x.drop (sz + i * sz) = [] from List.drop_eq_nil_of_le (by omega), List.nil_append]
end Go.Proofs.YtngbfdogiciahaaGreat
namespace Go.Proofs.YtngbfdogiciahaaGreat
open Go Go.RowKit
theorem sz_ver : (Tryz.prog.info? 151).map (·.size) = some 8 := by kernel_rfl
theorem info_verZ : (Tryz.prog.info? 151).map (fun i => (i.zero, i.size, i.bytes)) = some (some (.agg #[.string ⟨#[]⟩, .int .i64 0, .int .i64 0, .int .i64 0, .int .i64 0, .int .i64 0, .slice none 0 0, .slice none 0 0]), 8, 104) := by kernel_rfl
set_option maxRecDepth 100000 in
set_option maxHeartbeats 4000000 in
theorem insert_ver (B base : Nat) (v : Value) (l : List Version) (i : Nat) (x : Version) (X : List Value) (vb : Nat) (w : World) (hB : B ≤ base) (hb : base ≤ w.heap.size) (hl : l.length ≤ 1000) (hi : i ≤ l.length) (hown : Own (RVer B) 8 151 w base v l)
  (hx : Blk w vb 151 X.toArray) (hX : X.length = 8) (hR : RVer B w X x) (hne : ∀ g, v.ownBlock = some g → g ≠ vb) :
  Calls Tryz.prog 155 #[v, .int .i64 (i : Int), .slice (some ⟨vb, 0, none⟩) 1 1] w fun e w' => ∃ v', e = .returned v' ∧ Own (RVer B) 8 151 w' base v' (l.take i ++ x :: l.drop i) ∧ Below base w w' := by
 have hone : SlVers B w (some ⟨vb, 0, none⟩) [x] := Sl.ofBlkX hx (by simp [hX]) (by simpa using hR)
 have h1X : ∀ u ∈ X, u.oneCell' = true := RVer.oneC _ _ _ hR
 obtain ⟨A, c, rfl, hlc, hcm⟩ := hown.len
 by_cases hin : i = l.length
 ·subst hin
  have HT := hid (show l.take l.length ++ x :: l.drop l.length = l ++ [x] by simp)
  cases A with
  | none =>
   rcases hown.at_ with ⟨hv, rfl⟩ | ⟨g, c', hv, _⟩
   ·injection hv with _ _ hv
    subst hv
    go_enter Tryz.func155, Tryz.ntmps155
    go_wp2_with (at_builtin; refine wpList_app (ys := [x]) (c := 1) (B := B) rfl _ _ rfl ei_ver rfl hown hB hb rfl hone RVer.oneC (RVer.mono (by decide) (by decide)) (by simp [maxLen]) (by simp) ?_; intro v5 w5 ho5 hc5 hb5 hg5)
    go_ret
    exact ⟨v5, rfl, ho5, hb5⟩
   ·cases hv
  | some a =>
   rcases hown.at_ with ⟨hv, _⟩ | ⟨g, c', hv, hbg, hgw, _⟩
   ·cases hv
   ·injection hv with hA _ hcc
    injection hA with hA
    subst hA hcc
    have hcl : (l.length : Int) ≤ (c : Int) := by omega
    go_enter Tryz.func155, Tryz.ntmps155
    by_cases hcl2 : c = l.length
    ·subst hcl2
     go_wp2_with (at_builtin; refine wpList_app (ys := [x]) (c := 1) (B := B) rfl _ _ rfl ei_ver rfl hown hB hb rfl hone RVer.oneC (RVer.mono (by decide) (by decide)) (by simp [maxLen]; omega) (by simp; omega) ?_; intro v5 w5 ho5 hc5 hb5 hg5)
     go_ret
     exact ⟨v5, rfl, by first | exact ho5 | (rw [HT.out]; exact ho5), hb5⟩
    ·have hne1 : ¬ (c : Int) = (l.length : Int) := by omega
     go_wp2_with (at_builtin; refine wpList_app (ys := [x]) (c := 1) (B := B) rfl _ _ rfl ei_ver rfl hown hB hb rfl hone RVer.oneC (RVer.mono (by decide) (by decide)) (by simp [maxLen]; omega) (by simp; omega) ?_; intro v5 w5 ho5 hc5 hb5 hg5)
     go_ret
     exact ⟨v5, rfl, by first | exact ho5 | (rw [HT.out]; exact ho5), hb5⟩
 ·have HSelf := hid (fun w' (hg : w.grownBy w' (Value.slice A l.length c).ownBlock) => (show Chg B [151] w w' ∧ Below base w w' from ⟨hown.chg_of hB hg, hown.below_of hg hb⟩))
  obtain ⟨xs, hxl, hxR, ho⟩ := hown
  have hlt : i < l.length := by omega
  have hall : ∀ cs ∈ xs, cs.length = 8 := by
   intro cs hcs
   obtain ⟨k, hk, rfl⟩ := List.getElem_of_mem hcs
   exact (hxR k _ _ (List.getElem?_eq_getElem hk) (List.getElem?_eq_getElem (by omega))).1
  have h1c : ∀ u ∈ xs.flatten, u.oneCell' = true := by
   intro u hu
   obtain ⟨cs, hcs, hu⟩ := List.mem_flatten.1 hu
   obtain ⟨k, hk, rfl⟩ := List.getElem_of_mem hcs
   exact RVer.oneC _ _ _ (hxR k _ _ (List.getElem?_eq_getElem hk) (List.getElem?_eq_getElem (by omega))).2 u hu
  obtain ⟨g, rfl, hbg, hgw⟩ : ∃ g, A = some ⟨g, 0, none⟩ ∧ base ≤ g ∧ g < w.heap.size := by
   rcases ho.2 with ⟨_, hn⟩ | ⟨g, c', cur, hv, hbg, hg, _⟩
   ·omega
   ·injection hv with hA
    exact ⟨g, hA, hbg, (Array.getElem?_eq_some_iff.1 hg).1⟩
  have hgv : g ≠ vb := hne g rfl
  have hfl : xs.flatten.length = l.length * 8 := ho.1
  obtain ⟨hft, hfd⟩ := flat_take8 xs i hall (by omega)
  have HFlat := hid (show (xs.take i ++ X :: xs.drop i).flatten = xs.flatten.take (i * 8) ++ (X ++ xs.flatten.drop (i * 8)) by rw [List.flatten_append, List.flatten_cons, hft, hfd])
  have HLen := hid (show (xs.take i ++ X :: xs.drop i).length = (l.take i ++ x :: l.drop i).length ∧ (l.take i ++ x :: l.drop i).length = l.length + 1 by simp only [List.length_append, List.length_cons, List.length_take, List.length_drop]; omega)
  have HGet := hid (fun (w' : World) (hx' : Mono B [151] (RVer B)) (hc' : Chg B [151] w w') => insL_get (Q := fun cs y => cs.length = 8 ∧ RVer B w' cs y) (X := X) (x := x) (xs := xs) (l := l) (i := i) hxl (by omega) ⟨hX, hx' _ _ _ _ hc' hR⟩ (fun k cs y a b => ⟨(hxR k cs y a b).1, hx' _ _ _ _ hc' (hxR k cs y a b).2⟩))
  have HFin := hid (fun (w' : World) (N G : Nat) (hc' : Chg B [151] w w') (ho' : w'.ownsRow base 151 8 (.slice (some ⟨N, 0, none⟩) (l.length + 1) G) (l.length + 1) (xs.flatten.take (i * 8) ++ (X ++ xs.flatten.drop (i * 8)))) => show Own (RVer B) 8 151 w' base (.slice (some ⟨N, 0, none⟩) (l.length + 1) G) (l.take i ++ x :: l.drop i) from ⟨xs.take i ++ X :: xs.drop i, HLen.out.1, HGet.out w' (RVer.mono (by decide) (by decide)) hc', by rw [HLen.out.2, HFlat.out]; exact ho'⟩)
  obtain ⟨cs, hcs⟩ : ∃ cs, cs = xs.flatten := ⟨_, rfl⟩
  rw [← hcs] at ho h1c hfl HFin
  have HCS := hid hcs
  clear hcs
  clear HGet HLen HFlat hft hfd hxR hall hone hR
  obtain ⟨n, hn⟩ : ∃ n, n = l.length := ⟨_, rfl⟩
  rw [← hn] at ho hfl HFin hlc hlt hl
  rw [← hn]
  have HN := hid hn
  clear hin hi hxl hn
  have mixed : Tryz.prog.follows .mixedOrders = true := by kernel_rfl
  have hz2 : ¬ ((i : Int) = (n : Int)) := by omega
  have hin : i ≤ n := by omega
  have hw1 : IntKind.i64.wrap ((i : Int) + 1) = (i : Int) + 1 := by rw [IntKind.wrap_i64]; omega
  have hb1 : (0 : Int) ≤ (i : Int) + 1 := by omega
  have htn : ((i : Int) + 1).toNat = i + 1 := by omega
  have hci : ¬ (c = i) := by omega
  have hdl : (cs.drop (i * 8)).length = (n - i) * 8 := by rw [List.length_drop, hfl, Nat.sub_mul]
  have hXc : ∀ j u, X[j]? = some u → w.cell? ⟨vb, j, none⟩ = some u := fun j u h => hx.cell (by rw [List.getElem?_toArray]; exact h)
  have hCc : ∀ j u, cs[j]? = some u → w.cell? ⟨g, j, none⟩ = some u := fun j u h => owns_cell ho j u h
  by_cases hroom : n + 1 ≤ c
  ·obtain ⟨E, hE, hom⟩ := owns_more ho hroom
   obtain ⟨r1, r2, r3⟩ := ins_room (w := w.drew) hom hfl hE hX hlt
   have hsa : w.shape? vb = some (151, X.length) := by unfold World.shape?; rw [hx]; simp
   have hsb := owns_shape ho
   have hov : ∀ lb cb, (callFunc 194 #[.slice (some ⟨vb, 0, none⟩) 1 1, .slice (some ⟨g, (i + 1) * 8, none⟩) lb cb]).run Tryz.prog w = .ok (.value (.bool false)) w := fun lb cb => by
    rw [run_callFunc_extern Tryz.func194 (by kernel_rfl) (by kernel_rfl) (by kernel_rfl) (e := Extern.SlicesOverlaps.overlaps #[48, 48] #[4]) (by kernel_rfl),
     Lib.run_overlaps_apart w 48 4 151 Tryz.underlying48 8 (fun w => by kernel_rfl) ⟨vb, 0, none⟩ ⟨g, (i + 1) * 8, none⟩ 1 1 lb cb (fun e => hgv e.symm) 151 151 X.length (c * 8) hsa hsb (by omega) (hx.frozen _) (hx.frozen _)]
    rfl
   have hroomI : ¬ ((c : Int) < (n : Int) + 1) := by omega
   have hcp1 : ∀ ty dc sc, (Builtin.copy_ #[48, 48] ty #[.slice (some ⟨g, (i + 1) * 8, none⟩) (n - i) dc, .slice (some ⟨g, i * 8, none⟩) (n + 1 - i) sc]).run Tryz.prog w.drew = .ok (goInt ((n - i : Nat) : Int)) (w.drew.setCells g ((i + 1) * 8) (cs.drop (i * 8))) := fun ty dc sc =>
    run_copyK w.drew _ _ ty 151 g ((i + 1) * 8) (n - i) dc ⟨g, i * 8, none⟩ (n + 1 - i) sc 8 (n - i) (cs.drop (i * 8)) Tryz.underlying48 sz_ver (by simp only [Nat.min_def]; split <;> omega) hdl
     (fun j u hj => by rw [Addr.add_lit]; exact hCc (i * 8 + j) u (by rwa [List.getElem?_drop] at hj))
     (fun j hj => by rw [hdl] at hj; exact owns_isSome hom (by omega)) (fun j hj => owns_fz ho _) (fun u hu => h1c u (List.mem_of_mem_drop hu))
   obtain ⟨W1, hW1⟩ : ∃ W1, W1 = w.drew.setCells g ((i + 1) * 8) (cs.drop (i * 8)) := ⟨_, rfl⟩
   have hW1' := hid hW1
   rw [← hW1] at hcp1 r1 r2 r3
   have hvW : ∀ j u, X[j]? = some u → W1.cell? ⟨vb, j, none⟩ = some u := fun j u h => by
    rw [hW1, World.cell?_setCells_out g _ _ _ _ (fun h _ => absurd h.symm hgv)]
    exact hXc j u h
   have hcp2 : ∀ ty dc, (Builtin.copy_ #[48, 48] ty #[.slice (some ⟨g, i * 8, none⟩) (n + 1 - i) dc, .slice (some ⟨vb, 0, none⟩) 1 1]).run Tryz.prog W1 = .ok (goInt ((1 : Nat) : Int)) (W1.setCells g (i * 8) X) := fun ty dc =>
    run_copyK W1 _ _ ty 151 g (i * 8) (n + 1 - i) dc ⟨vb, 0, none⟩ 1 1 8 1 X Tryz.underlying48 sz_ver (by simp only [Nat.min_def]; split <;> omega) (by rw [hX])
     (fun j u hj => by rw [Addr.add_lit, Nat.zero_add]; exact hvW j u hj)
     (fun j hj => owns_isSome r2 (by omega)) (fun j hj => owns_fz r2 _) h1X
   have hb2 : ¬ (c = i + 1) := by omega
   have hb3 : (i : Int) ≤ (n : Int) + 1 := by omega
   clear hXc hCc hW1 r2 hom hE
   go_enter Tryz.func155, Tryz.ntmps155
   go_wp2_with (simp only [hov])
   go_region_law_o (refine step_copyK rfl _ _ 48 48 rfl _ _ (by simp [Act.eval, Act.put]) (by simp [Act.eval, Act.put]) (hcp1 _ _ _) ?_)
   go_wp2_with (at_builtin; refine wpList_copyK _ rfl _ _ 48 48 rfl _ _ rfl rfl (hcp2 _ _) ?_)
   go_ret
   have hgr : w.grownBy (W1.setCells g (i * 8) X) (some g) := ⟨r3.os, r3.tape, r3.output, r3.size, r3.block⟩
   obtain ⟨hch, hbe⟩ := HSelf.out _ hgr
   exact ⟨.slice (some ⟨g, 0, none⟩) (n + 1) c, rfl, by first | exact HFin.out _ g c hch r1 | (have := HFin.out _ g c hch r1; rw [hW1'.out] at this; exact this), by first | exact hbe | (rw [hW1'.out] at hbe; exact hbe)⟩
  ·obtain ⟨i0, hi0, hz0, hzs, hzb⟩ : ∃ i0, Tryz.prog.info? 151 = some i0 ∧ i0.zero = some (.agg #[.string ⟨#[]⟩, .int .i64 0, .int .i64 0, .int .i64 0, .int .i64 0, .int .i64 0, .slice none 0 0, .slice none 0 0]) ∧ i0.size = 8 ∧ i0.bytes = 104 := by
    have := info_verZ
    cases h : Tryz.prog.info? 151 with
    | none => rw [h] at this; cases this
    | some i0 =>
     rw [h] at this
     simp only [Option.map_some, Option.some.injEq, Prod.mk.injEq] at this
     exact ⟨i0, rfl, this.1, this.2.1, this.2.2⟩
   have hz3 : (c : Int) < (n : Int) + 1 := by omega
   have hkk : (n : Int) + 1 - (i : Int) = ((n + 1 - i : Nat) : Int) := by omega
   have hik : i + (n + 1 - i) = n + 1 := by omega
   have hold : (Builtin.firstCells i0.size i (.slice (some ⟨g, 0, none⟩) i c)).run Tryz.prog w.drew = .ok (cs.take (i * 8)).toArray w.drew := by
    rw [hzs]
    exact run_firstCells_some w.drew 8 i ⟨g, 0, none⟩ i c (cs.take (i * 8)) (by rw [List.length_take]; omega) (fun j u hj => by
     rw [Addr.add_lit, Nat.zero_add]
     rw [List.getElem?_take] at hj
     split at hj
     ·exact hCc j u hj
     ·cases hj)
   obtain ⟨G, hG⟩ : ∃ G, G = grownCap w (n + 1) c 151 := ⟨_, rfl⟩
   have hGn : n + 1 ≤ G := by rw [hG]; exact grownCap_ge w _ _ _
   have hGm : G ≤ maxLen := by rw [hG]; exact grownCap_le_maxLen w (n + 1) c _ (by unfold maxLen; omega)
   obtain ⟨ROW, hROW⟩ : ∃ ROW : Array Value, ROW = (cs.take (i * 8)).toArray ++ Builtin.zeroCells (.agg #[.string ⟨#[]⟩, .int .i64 0, .int .i64 0, .int .i64 0, .int .i64 0, .int .i64 0, .slice none 0 0, .slice none 0 0] : Value).cells (n + 1 - i) ++ Builtin.zeroCells (.agg #[.string ⟨#[]⟩, .int .i64 0, .int .i64 0, .int .i64 0, .int .i64 0, .int .i64 0, .slice none 0 0, .slice none 0 0] : Value).cells (G - (n + 1)) := ⟨_, rfl⟩
   have hrz : ∀ ty, (Builtin.append_ #[48, 3] ty #[.slice (some ⟨g, 0, none⟩) i c, .int .i64 ((n : Int) + 1 - (i : Int))]).run Tryz.prog w = .ok (.slice (some ⟨w.heap.size, 0, none⟩) (n + 1) G) (w.drew.alloc (.cells ROW 151)) := fun ty => by
    have h := Lib.run_append_grow_zeros w 48 3 ty 151 i0 _ .i64 .i64 Tryz.underlying48 Tryz.underlying3 hi0 hz0 (some ⟨g, 0, none⟩) i c (cs.take (i * 8)) hold (n + 1 - i) (by omega) (by omega) (by omega) (by omega) (by rw [hzb]; omega) (by rw [hzb, hik]; exact growslice_fits (by omega) (by omega))
    rw [hik, ← hG, ← hROW] at h
    rw [hkk]
    exact h
   have hzc : (.agg #[.string ⟨#[]⟩, .int .i64 0, .int .i64 0, .int .i64 0, .int .i64 0, .int .i64 0, .slice none 0 0, .slice none 0 0] : Value).cells.size = 8 := rfl
   have hZ1 : (Builtin.zeroCells (.agg #[.string ⟨#[]⟩, .int .i64 0, .int .i64 0, .int .i64 0, .int .i64 0, .int .i64 0, .slice none 0 0, .slice none 0 0] : Value).cells (n + 1 - i)).toList.length = (n + 1 - i) * 8 := by rw [zeroCells_len, hzc]
   have hZ2 : (Builtin.zeroCells (.agg #[.string ⟨#[]⟩, .int .i64 0, .int .i64 0, .int .i64 0, .int .i64 0, .int .i64 0, .slice none 0 0, .slice none 0 0] : Value).cells (G - (n + 1))).toList.length = (G - (n + 1)) * 8 := by rw [zeroCells_len, hzc]
   have hP : (cs.take (i * 8)).length = i * 8 := by rw [List.length_take]; omega
   have hRL : ROW.toList = (cs.take (i * 8) ++ (Builtin.zeroCells (.agg #[.string ⟨#[]⟩, .int .i64 0, .int .i64 0, .int .i64 0, .int .i64 0, .int .i64 0, .slice none 0 0, .slice none 0 0] : Value).cells (n + 1 - i)).toList) ++ (Builtin.zeroCells (.agg #[.string ⟨#[]⟩, .int .i64 0, .int .i64 0, .int .i64 0, .int .i64 0, .int .i64 0, .slice none 0 0, .slice none 0 0] : Value).cells (G - (n + 1))).toList := by rw [hROW]; simp
   have hRs : ROW.size = G * 8 := by
    rw [← Array.length_toList, hRL, List.length_append, List.length_append, hZ1, hZ2, hP]
    omega
   obtain ⟨Z, hZ⟩ : ∃ Z, Z = (Builtin.zeroCells (.agg #[.string ⟨#[]⟩, .int .i64 0, .int .i64 0, .int .i64 0, .int .i64 0, .int .i64 0, .slice none 0 0, .slice none 0 0] : Value).cells (n + 1 - i)).toList := ⟨_, rfl⟩
   rw [← hZ] at hZ1 hRL
   obtain ⟨W1, hW1⟩ : ∃ W1, W1 = w.drew.alloc (.cells ROW 151) := ⟨_, rfl⟩
   have hoW : W1.ownsRow base 151 8 (.slice (some ⟨w.heap.size, 0, none⟩) (n + 1) G) (n + 1) (cs.take (i * 8) ++ Z) := by
    refine ⟨by rw [List.length_append, hP, hZ1]; omega, .inr ⟨w.heap.size, G, ROW, rfl, hb, by rw [hW1]; exact heap_alloc_new w.drew _, hGn, hGm, hRs, ?_⟩⟩
    rw [hRL]
    exact List.take_left' (by rw [List.length_append, hP, hZ1]; omega)
   obtain ⟨n1, n2⟩ := ins_new (W := W1) (xs := cs) hoW hfl hZ1 hX hlt
   have hxW : Ext w W1 := by rw [hW1]; exact (Ext.refl w).drew.alloc _
   have hgN : g ≠ w.heap.size := by omega
   have hvW : ∀ j u, X[j]? = some u → W1.cell? ⟨vb, j, none⟩ = some u := fun j u h => hxW.cell (hXc j u h)
   have hcpA : ∀ (W : World), (∀ x, W.cell? x = W1.cell? x) → (∀ x, W.frozen? x = W1.frozen? x) → ∀ ty dc, (Builtin.copy_ #[48, 48] ty #[.slice (some ⟨w.heap.size, i * 8, none⟩) (n + 1 - i) dc, .slice (some ⟨vb, 0, none⟩) 1 1]).run Tryz.prog W = .ok (goInt ((1 : Nat) : Int)) (W.setCells w.heap.size (i * 8) X) := fun W hWc hWf ty dc =>
    run_copyK W _ _ ty 151 w.heap.size (i * 8) (n + 1 - i) dc ⟨vb, 0, none⟩ 1 1 8 1 X Tryz.underlying48 sz_ver (by simp only [Nat.min_def]; split <;> omega) (by rw [hX])
     (fun j u hj => by rw [Addr.add_lit, Nat.zero_add, hWc]; exact hvW j u hj)
     (fun j hj => by rw [hWc]; exact owns_isSome hoW (by omega)) (fun j hj => by rw [hWf]; exact owns_fz hoW _) h1X
   have hcpB : ∀ (W : World), (∀ x, W.cell? x = (W1.setCells w.heap.size (i * 8) X).cell? x) → (∀ x, W.frozen? x = (W1.setCells w.heap.size (i * 8) X).frozen? x) → ∀ ty dc sc, (Builtin.copy_ #[48, 48] ty #[.slice (some ⟨w.heap.size, (i + 1) * 8, none⟩) (n - i) dc, .slice (some ⟨g, i * 8, none⟩) (n - i) sc]).run Tryz.prog W = .ok (goInt ((n - i : Nat) : Int)) (W.setCells w.heap.size ((i + 1) * 8) (cs.drop (i * 8))) := fun W hWc hWf ty dc sc =>
    run_copyK W _ _ ty 151 w.heap.size ((i + 1) * 8) (n - i) dc ⟨g, i * 8, none⟩ (n - i) sc 8 (n - i) (cs.drop (i * 8)) Tryz.underlying48 sz_ver (by simp only [Nat.min_def]; split <;> omega) hdl
     (fun j u hj => by
      rw [Addr.add_lit, hWc, World.cell?_setCells_out w.heap.size _ _ _ _ (fun h _ => absurd h hgN)]
      exact hxW.cell (hCc (i * 8 + j) u (by rwa [List.getElem?_drop] at hj)))
     (fun j hj => by rw [hWc]; rw [hdl] at hj; exact owns_isSome n1 (by omega)) (fun j hj => by rw [hWf]; exact owns_fz n1 _) (fun u hu => h1c u (List.mem_of_mem_drop hu))
   have hGi : ¬ (G = i) := by omega
   have hGi1 : ¬ (G = i + 1) := by omega
   have hGiI : ¬ ((G : Int) = (i : Int) + 1) := by omega
   have hG63 : (G : Int) ≤ 9223372036854775807 := by unfold maxLen at hGm; omega
   have hGb : (i : Int) + 1 ≤ (n : Int) + 1 := by omega
   have HW1 := hid hW1
   rw [hW1] at hcpA hcpB
   have hE1 : ∀ x, ((w.alloc (.cells ROW 151)).drew).cell? x = (w.drew.alloc (.cells ROW 151)).cell? x := fun x => rfl
   have hE2 : ∀ x, ((w.alloc (.cells ROW 151)).drew).frozen? x = (w.drew.alloc (.cells ROW 151)).frozen? x := fun x => rfl
   have hF1 : ∀ x, (((w.alloc (.cells ROW 151)).drew.setCells w.heap.size (i * 8) X).drew).cell? x = ((w.drew.alloc (.cells ROW 151)).setCells w.heap.size (i * 8) X).cell? x := fun x => rfl
   have hF2 : ∀ x, (((w.alloc (.cells ROW 151)).drew.setCells w.heap.size (i * 8) X).drew).frozen? x = ((w.drew.alloc (.cells ROW 151)).setCells w.heap.size (i * 8) X).frozen? x := fun x => rfl
   clear hkk hik hold hROW hG hRL hRs hzc hZ1 hZ2 hP hZ hoW n1 hvW hXc hCc hW1
   go_enter Tryz.func155, Tryz.ntmps155
   go_wp2_with (first
    | (at_builtin; refine wpList_runA _ rfl _ _ _ _ rfl _ _ rfl rfl (hrz _) ?_)
    | (at_builtin; refine wpList_copyK _ rfl _ _ 48 48 rfl _ _ rfl rfl (hcpA _ hE1 hE2 _ _) ?_)
    | (at_builtin; refine wpList_copyK _ rfl _ _ 48 48 rfl _ _ rfl rfl (hcpB _ (fun _ => rfl) (fun _ => rfl) _ _ _) ?_))
   go_region_law_o (refine step_copyK rfl _ _ 48 48 rfl (.slice (some ⟨w.heap.size, (i + 1) * 8, none⟩) (n - i) (G - (i + 1))) (.slice (some ⟨g, i * 8, none⟩) (n - i) (c - i)) (by simp [Act.eval, Act.put]) (by simp [Act.eval, Act.put]) (hcpB _ hF1 hF2 3 (G - (i + 1)) (c - i)) ?_)
   go_wp2
   go_ret
   have hxF : Ext w ((((w.alloc (.cells ROW 151)).drew.setCells w.heap.size (i * 8) X).drew).setCells w.heap.size ((i + 1) * 8) (cs.drop (i * 8))) := below_setCells (Ext.drew (below_setCells (((Ext.refl w).alloc _).drew) (Nat.le_refl _) _ _)) (Nat.le_refl _) _ _
   refine ⟨.slice (some ⟨w.heap.size, 0, none⟩) (n + 1) G, rfl, HFin.out _ w.heap.size G (Chg.of_ext hxF) (owns_congr ?_ n2), Below.mono hxF hb⟩
   rw [HW1.out]
   exact heap_setCells_congr _ _ _ _ _ (heap_setCells_congr _ _ _ _ _ rfl)
end Go.Proofs.YtngbfdogiciahaaGreat
