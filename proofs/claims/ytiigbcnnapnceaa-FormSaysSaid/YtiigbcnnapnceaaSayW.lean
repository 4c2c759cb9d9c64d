/- The walks of the reference's Says: a map of what is known, and a closure that calls itself. -/
import Derived.Test.YtiigbcnnapnceaaFormP
import Derived.Test.YtiigbcnnapnceaaFilR
import Derived.Test.YtiigbcnnapnceaaMapI
import Derived.Deep.RegionHeld3
namespace Go.Proofs.Ytiigbcnnapnceaa
open Go Go.RowKit

abbrev SlNodes (B : Nat) := Sl B 95 RNode 3
/-- what an entry of the map says. -/
def Told (l : List Node) (k : Nat) (v : Value) : Prop := v = .agg (rowB 512 (sayAt l k))
/-- what the closure finds: its three cells, the sentence. -/
structure SayEnv (B : Nat) (w : World) (r bk bl bs : Nat) (A : Option Addr) (c : Nat) (l : List Node) : Prop where
  known : w.cell? ⟨bk, 0, none⟩ = some (.map (some r))
  list : w.cell? ⟨bl, 0, none⟩ = some (.slice A l.length c)
  says : w.cell? ⟨bs, 0, none⟩ = some (.func (.func 67) #[] #[.pointer (some ⟨bk, 0, none⟩), .pointer (some ⟨bl, 0, none⟩), .pointer (some ⟨bs, 0, none⟩)])
  nodes : SlNodes B w A l
theorem SayEnv.fr {B : Nat} {w w' : World} {r bk bl bs : Nat} {A : Option Addr} {c : Nat} {l : List Node} {R : Nat → Value → Prop} (h : SayEnv B w r bk bl bs A c l) (x : Fr r w w') (hm : MapR w r R) : SayEnv B w' r bk bl bs A c l :=
  ⟨x.cell hm h.known, x.cell hm h.list, x.cell hm h.says, h.nodes.fr (by omega) x hm fun _ _ hq => hq⟩
theorem um_known : Try.prog.underlying 104 = some (.map 3 31) := Try.underlying104

theorem say_k2 (vals : List PSet) (n : Node) (t : Nat) (hk : n.kind = 2) (ha : n.a = t) (j : Nat) : nodeSay vals n j = bitb (j / 32) t := by simp [nodeSay, hk, ha]
theorem say_k3 (vals : List PSet) (n : Node) (hk : n.kind = 3) (j : Nat) : nodeSay vals n j = betw ((j : Int) % 32) n.a (n.b - 1) := by
  have : (n.a ≤ ((j % 32 : Nat) : Int) ∧ ((j % 32 : Nat) : Int) < n.b) = (n.a ≤ (j : Int) % 32 ∧ (j : Int) % 32 ≤ n.b - 1) := by rw [eq_iff_iff]; omega
  simp only [nodeSay, hk, betw, this]
  rfl
theorem say_k4 (l : List Node) (i a : Nat) (n : Node) (hi : i ≤ l.length) (ha : a < i) (hk : n.kind = 4) (hn : n.a = a) (j : Nat) : nodeSay (sayL (l.take i)) n j = !sayAt l a j := by
  have := sayL_take l i a hi ha
  simp only [nodeSay, hk, hn, Int.toNat_natCast, this]
  rfl
theorem say_k5 (l : List Node) (i a b : Nat) (n : Node) (hi : i ≤ l.length) (ha : a < i) (hb : b < i) (hk : n.kind = 5) (hn : n.a = a) (hm : n.b = b) (j : Nat) : nodeSay (sayL (l.take i)) n j = (sayAt l a j && sayAt l b j) := by
  have h1 := sayL_take l i a hi ha
  have h2 := sayL_take l i b hi hb
  simp only [nodeSay, hk, hn, hm, Int.toNat_natCast, h1, h2]
  rfl
theorem say_k6 (l : List Node) (i a b : Nat) (n : Node) (hi : i ≤ l.length) (ha : a < i) (hb : b < i) (hk : n.kind = 6) (hn : n.a = a) (hm : n.b = b) (j : Nat) : nodeSay (sayL (l.take i)) n j = (sayAt l a j || sayAt l b j) := by
  have h1 := sayL_take l i a hi ha
  have h2 := sayL_take l i b hi hb
  simp only [nodeSay, hk, hn, hm, Int.toNat_natCast, h1, h2]
  rfl
theorem Blk.cells_set {b : Nat} {e : TypeId} : ∀ (vs : List Value) (o : Nat) (w : World) (cs : Array Value), Blk w b e cs → ∃ ds : Array Value, Blk (w.setCells b o vs) b e ds ∧ ds.size = cs.size
  | [], _, _, cs, h => ⟨cs, h, rfl⟩
  | v :: r, o, w, cs, h => by
    obtain ⟨ds, h1, h2⟩ := Blk.cells_set r (o + 1) _ _ (h.set o v)
    exact ⟨ds, h1, by rw [h2]; simp⟩
theorem Blk.set_all {w : World} {b : Nat} {e : TypeId} {cs : Array Value} (h : Blk w b e cs) (vs : List Value) (hl : vs.length = cs.size) : Blk (w.setCells b 0 vs) b e vs.toArray := by
  obtain ⟨ds, h1, h2⟩ := Blk.cells_set vs 0 w cs h
  have h3 : ds = vs.toArray := by
    apply Array.ext
    · simp [h2, hl]
    · intro j hj1 hj2
      have hj : j < vs.length := by simpa using hj2
      have c1 := h1.cell (i := j) (Array.getElem?_eq_getElem hj1)
      have c2 := World.cell?_setCells_in b vs 0 w (fun q hq => by rw [Nat.zero_add, h.cell (Array.getElem?_eq_getElem (show q < cs.size by omega))]; rfl) j hj
      rw [Nat.zero_add] at c2
      exact (Option.some.inj (c1.symm.trans c2)).trans (by simp)
  rw [← h3]
  exact h1
theorem Blk.there {w : World} {b : Nat} {e : TypeId} {cs : Array Value} (h : Blk w b e cs) {n : Nat} (hn : n = cs.size) : w.there b 0 n := fun j hj => by
  rw [Nat.zero_add]
  exact ⟨by rw [h.cell (Array.getElem?_eq_getElem (show j < cs.size by omega))]; rfl, h.frozen j⟩
theorem Blk.rangeL {w : World} {b : Nat} {e : TypeId} {cs : List Value} (h : Blk w b e cs.toArray) : w.rangeAt b 0 cs := fun j v hv => by
  rw [Nat.zero_add]
  exact h.cell (by simpa using hv)
theorem Fr.setCells {r : Nat} {a : World} {b : Nat} (hb : a.heap.size ≤ b) : ∀ (vs : List Value) (o : Nat) (w : World), Fr r a w → Fr r a (w.setCells b o vs)
  | [], _, _, h => h
  | v :: vs, o, _, h => Fr.setCells hb vs (o + 1) _ (h.setCell (p := ⟨b, o, none⟩) hb v)
theorem heap_setCells_far (b : Nat) : ∀ (vs : List Value) (o : Nat) (w : World) (k : Nat), k ≠ b → (w.setCells b o vs).heap[k]? = w.heap[k]?
  | [], _, _, _, _ => rfl
  | v :: vs, o, w, k, h => (heap_setCells_far b vs (o + 1) _ k h).trans (Below.heap_setCell w _ v k h)

theorem there_of {w : World} {b : Nat} {e : TypeId} (h : ∃ ds, Blk w b e ds ∧ ds.size = 512) : w.there b 0 512 := by
  obtain ⟨ds, h1, h2⟩ := h
  exact h1.there h2.symm
theorem blk_fr {r : Nat} {w w' : World} {b : Nat} {e : TypeId} {R : Nat → Value → Prop} (x : Fr r w w') (hm : MapR w r R) (h : ∃ ds, Blk w b e ds ∧ ds.size = 512) : ∃ ds, Blk w' b e ds ∧ ds.size = 512 := by
  obtain ⟨ds, h1, h2⟩ := h
  exact ⟨ds, x.blk hm h1, h2⟩
theorem blk_ext {w w' : World} {b : Nat} {e : TypeId} (x : Ext w w') (h : ∃ ds, Blk w b e ds ∧ ds.size = 512) : ∃ ds, Blk w' b e ds ∧ ds.size = 512 := by
  obtain ⟨ds, h1, h2⟩ := h
  exact ⟨ds, h1.ext x, h2⟩
theorem blk_ne {r : Nat} {w : World} {b : Nat} {e : TypeId} {R : Nat → Value → Prop} (hm : MapR w r R) (h : ∃ ds, Blk w b e ds ∧ ds.size = 512) : r ≠ b := by
  obtain ⟨ds, h1, h2⟩ := h
  exact (Fr.ne hm (h1.cell (i := 0) (Array.getElem?_eq_getElem (by omega)))).symm
theorem say_store {r n9 : Nat} {wv w' : World} {T : TypeId} {R : Nat → Value → Prop} {c0 c1 c2 : World → Prop} (hn : wv.heap.size = n9) (h0 : ∀ w', Fr r wv w' → c0 w') (h1 : ∀ w', Fr r wv w' → c1 w') (h2 : ∀ w', Fr r wv w' → c2 w') (hy : Fr r wv w') (hm : MapR w' r R) (hb : ∃ ds, Blk w' n9 T ds ∧ ds.size = 512) (cr : List Value) :
    Fr r wv (w'.setCells n9 0 cr) ∧ MapR (w'.setCells n9 0 cr) r R ∧ (∃ ds, Blk (w'.setCells n9 0 cr) n9 T ds ∧ ds.size = 512) ∧ c0 (w'.setCells n9 0 cr) ∧ c1 (w'.setCells n9 0 cr) ∧ c2 (w'.setCells n9 0 cr) ∧ (w'.setCells n9 0 cr).there n9 0 512 := by
  have hy' : Fr r wv (w'.setCells n9 0 cr) := Fr.setCells (by omega) cr 0 w' hy
  have hm' : MapR (w'.setCells n9 0 cr) r R := hm.at_ (heap_setCells_far n9 cr 0 w' r (blk_ne hm hb))
  have hb' : ∃ ds, Blk (w'.setCells n9 0 cr) n9 T ds ∧ ds.size = 512 := by
    obtain ⟨ds, h1, h2⟩ := hb
    obtain ⟨es, h3, h4⟩ := Blk.cells_set cr 0 w' ds h1
    exact ⟨es, h3, h4.trans h2⟩
  exact ⟨hy', hm', hb', h0 _ hy', h1 _ hy', h2 _ hy', there_of hb'⟩

/-- what a call of the closure keeps to. -/
def SayOk (B : Nat) (l : List Node) (i : Nat) : Prop := ∀ (w : World) (r bk bl bs : Nat) (A : Option Addr) (c : Nat) (p : Nat → Prop), SayEnv B w r bk bl bs A c l → MapR w r (fun k v => Told l k v ∧ p k) →
  Calls Try.prog 67 #[.int .i64 i, .pointer (some ⟨bk, 0, none⟩), .pointer (some ⟨bl, 0, none⟩), .pointer (some ⟨bs, 0, none⟩)] w fun e w' => e = .returned (.agg (rowB 512 (sayAt l i))) ∧ Fr r w w' ∧ MapR w' r (fun k v => Told l k v ∧ (p k ∨ k ≤ i))


theorem say1 (a b : Bool) (wn : World) : Calls Try.prog 68 #[.bool a, .bool b] wn fun e w' => e = .returned (.bool (!a)) ∧ wn = w' := by
  go_enter Try.func68, Try.ntmps68
  go_wp2_with fail
  go_ret
  exact ⟨rfl, rfl⟩
theorem say2 (a b : Bool) (wn : World) : Calls Try.prog 69 #[.bool a, .bool b] wn fun e w' => e = .returned (.bool (a && b)) ∧ wn = w' := by
  cases a
  all_goals
    go_enter Try.func69, Try.ntmps69
    go_wp2_with fail
    go_ret
    exact ⟨ret_bool (by simp), rfl⟩
theorem say3 (a b : Bool) (wn : World) : Calls Try.prog 70 #[.bool a, .bool b] wn fun e w' => e = .returned (.bool (a || b)) ∧ wn = w' := by
  cases a
  all_goals
    go_enter Try.func70, Try.ntmps70
    go_wp2_with fail
    go_ret
    exact ⟨ret_bool (by simp), rfl⟩
theorem wp_storeArr {P : Program} {o : Oper} {a : Act} {w : World} {Q : Exit → Act → World → Prop} {K : Act → World → Prop} {t : TypeId} {n : Nat} (ai : ArrInfo P t n) (x y : Operand) (ho : o.op = .store t x y) {b : Nat} (hx : a.eval x = .pointer (some ⟨b, 0, none⟩)) {cs old : Array Value} (hy : a.eval y = .agg cs)
    (hb : Blk w b t old) (hn : cs.size = n) (hold : old.size = n) (h1 : cs.all (·.oneCell') = true)
    (h : ∀ w', Below b w w' → Blk w' b t cs → w'.heap.size = w.heap.size → (∀ k, k ≠ b → w'.heap[k]? = w.heap[k]?) → K (a.put o.dst undef) w') : o.wp P a w K Q := by
  obtain ⟨_, hi⟩ := ai
  have hother : ∀ k, k ≠ b → (w.setRow b cs).heap[k]? = w.heap[k]? := fun k hk => setRow_other w b k cs (by omega)
  exact wp_store_row t x y ho b cs hx hy t old hb (by rw [hn]; exact hi) (by omega) h1
    (h _ ⟨rfl, rfl, rfl, by simp, fun k hk => hother k (by omega)⟩ (setRow_heap w b old _ t _ hb) (by simp) hother)
theorem each_say4r (x : Nat → Bool) (w : World) :
    Calls Try.prog 30 #[.agg (rowB 512 x), .agg (rowB 512 fun _ => false), .func (.func 68) #[] #[]] w fun e w' => e = .returned (.agg (rowB 512 fun j => !x j)) ∧ Ext w w' :=
  ref_Each 68 (fun a _ => !a) x (fun _ => false) w Try.call68 say1
theorem each_say5 {x y : Nat → Bool} (cr : List Value) (hcr : cr = (rowB 512 fun j => x j && y j).toList) (w : World) :
    Calls Try.prog 30 #[.agg (rowB 512 x), .agg (rowB 512 y), .func (.func 69) #[] #[]] w fun e w' => e = .returned (.agg cr.toArray) ∧ Ext w w' := by
  have e2 : cr.toArray = rowB 512 (fun j => x j && y j) := by rw [hcr, Array.toArray_toList]
  rw [e2]
  exact ref_Each 69 (fun a b => a && b) x y w Try.call69 say2
theorem each_say6 {x y : Nat → Bool} (cr : List Value) (hcr : cr = (rowB 512 fun j => x j || y j).toList) (w : World) :
    Calls Try.prog 30 #[.agg (rowB 512 x), .agg (rowB 512 y), .func (.func 70) #[] #[]] w fun e w' => e = .returned (.agg cr.toArray) ∧ Ext w w' := by
  have e2 : cr.toArray = rowB 512 (fun j => x j || y j) := by rw [hcr, Array.toArray_toList]
  rw [e2]
  exact ref_Each 70 (fun a b => a || b) x y w Try.call70 say3

set_option maxRecDepth 100000 in
set_option maxHeartbeats 4000000 in
theorem says_try (B : Nat) (l : List Node) (i : Nat) (hl30 : l.length ≤ 30) (hi : i < l.length) (hn : nodeErr i l[i] = 0) (hih : ∀ j, j < i → SayOk B l j) : SayOk B l i := by
  intro w r bk bl bs A c p henv hmap
  have hlt31 := hl30
  go_enter Try.func67, Try.ntmps67
  go_upto_region 1 with ((with_reducible refine wpList_allocArr (o := ⟨some 5, _, _, _, _, _⟩) zi_points rfl rfl ?_); intro w1 hx1 hb5 hs1)
  have hm1 := hmap.ext hx1
  have hf1 : Fr r w w1 := .of_ext hx1
  have hr := hmap.lt
  replace henv := henv.fr hf1 hmap
  obtain ⟨e1, e2, e3, e4⟩ := henv
  rcases run_lookupI (P := Try.prog) um_known Try.underlying3 hm1 i (zi_points w1) with ⟨v, hv, hlk⟩ | ⟨hm2, hlk⟩
  · obtain ⟨hv, _⟩ := hv
    unfold Told at hv
    subst hv
    go_wp2_with (first
      | ((with_reducible refine at_op (some 14) (.lookup _ _ _ _) ?_); refine wpList_lookupI rfl _ _ _ rfl rfl rfl hlk ?_)
      | ((with_reducible refine wpList_allocArr (o := ⟨some 6, _, _, _, _, _⟩) zi_points rfl rfl ?_); intro w2 hx2 hb2 hs2)
      | ((with_reducible refine at_op none (.store _ (.tmp 6) _) ?_); refine wpList_storeArr ai_points _ _ rfl rfl rfl rfl hb2 (rowB_size _ _) (rowB_size _ _) (rowB_all _ _) ?_; intro w3 hx3 hb3 hs3 ho3; rw [hs1] at hb3)
      | ((with_reducible refine wpList_loadArr (o := ⟨some 18, _, _, _, _, _⟩) ai_points _ rfl rfl rfl hb3 (rowB_size _ _) ?_))
      | ((with_reducible refine wp_loadArr (o := ⟨some 18, _, _, _, _, _⟩) ai_points _ rfl rfl hb3 (rowB_size _ _) ?_))
      | ((with_reducible refine at_op none (.store _ (.tmp 5) _) ?_); refine wpList_storeArr ai_points _ _ rfl rfl rfl rfl ((hb5.ext hx2).other ho3 (by omega)) (rowB_size _ _) (rowB_size _ _) (rowB_all _ _) ?_; intro w4 hx4 hb4 hs4 ho4))
    have hxx : Ext w1 w3 := hx2.below hx3 (Nat.le_refl _)
    have hff : Fr r w w4 := (hf1.trans (.of_ext hxx)).below hx4 (Nat.le_refl _)
    refine ret_arr rfl ai_points rfl hb4 (rowB_size _ _) rfl ⟨rfl, hff, ?_⟩
    exact ((hm1.ext hxx).at_ (hx4.block r hr)).imp fun k v h => ⟨h.1, .inl h.2⟩
  · go_upto_region 4 with (first
      | ((with_reducible refine at_op (some 14) (.lookup _ _ _ _) ?_); refine wpList_lookupI rfl _ _ _ rfl rfl rfl hlk ?_)
      | ((with_reducible refine wpList_allocArr (o := ⟨some 6, _, _, _, _, _⟩) zi_points rfl rfl ?_); intro w2 hx2 hb2 hs2)
      | ((with_reducible refine at_op none (.store _ (.tmp 6) _) ?_); refine wpList_storeArr ai_points _ _ rfl rfl rfl rfl hb2 (rowB_size _ _) (rowB_size _ _) (rowB_all _ _) ?_; intro w3 hx3 hb3 hs3 ho3))
    have hxx : Ext w1 w3 := hx2.below hx3 (Nat.le_refl _)
    have hm3 := hm2.ext hxx
    have hf3 : Fr r w w3 := hf1.trans (.of_ext hxx)
    replace hb5 := hb5.ext hxx
    replace e1 := hxx.cell e1
    replace e2 := hxx.cell e2
    replace e3 := hxx.cell e3
    replace e4 := e4.ext RTrip.mono hxx
    clear hx2 hx3 hb2 hb3 hs2 hs3 ho3 hxx hx1 hmap hm1 hf1 hm2
    obtain ⟨b, off, rfl, hbl, g0, g1, g2⟩ := e4.trip hi
    have HS := hid (sayAt_node l i hi)
    have HPP := hid (show ∀ k, (p k) → p k ∨ k ≤ i from fun k h => .inl h)
    rcases nodeErr_cases hn with hq | ⟨hq, ha0, ha3⟩ | ⟨hq, ha0, hb32, hab⟩ | ⟨hq, ha0, hai⟩ | ⟨hq, ha0, hai, hb0, hbi⟩
    · have HQ := hid hq
      rw [hq] at g0
      clear hq
      have i1 := e1
      have i2 := e2
      have i3 := e3
      have h5w := hb5
      go_upto_region 6 with ((with_reducible refine wpList_allocArr (o := ⟨some 9, _, _, _, _, _⟩) zi_points rfl rfl ?_); intro w5 hx5 hb9 hs5)
      have hn9 : (w3.alloc (.cells #[.int .i64 1, .int .i64 l[i].a, .int .i64 l[i].b] 95)).heap.size = w3.heap.size + 1 := by simp
      rw [hn9] at hb9
      go_wp2_with fail
      go_loopw [23] (fun x ws => ∃ k : Nat, k ≤ 512 ∧ x = .int .i64 k ∧ Blk ws (w3.heap.size + 1) 31 (rowB 512 fun j => decide (j < k) && true) ∧ Ext (w3.alloc (.cells #[.int .i64 1, .int .i64 l[i].a, .int .i64 l[i].b] 95)) ws) (fun x _ => 512 - (intOf x).toNat)
      case atStart =>
        refine ⟨0, by omega, rfl, ?_, hx5⟩
        rwa [rowB_congr (q := fun j => decide (j < 0) && true) (fun j _ => by simp)] at hb9
      case round =>
        clear hb9 hx5 hs5
        obtain ⟨k, hk, rfl, hb9, hxl⟩ := hrel
        have c0 : wr.cell? ⟨w3.heap.size, 0, none⟩ = some (.int .i64 1) := hxl.cell (by go_simp)
        have c1 : wr.cell? ⟨w3.heap.size, 1, none⟩ = some (.int .i64 l[i].a) := hxl.cell (by go_simp)
        have c2 : wr.cell? ⟨w3.heap.size, 2, none⟩ = some (.int .i64 l[i].b) := hxl.cell (by go_simp)
        by_cases hlk2 : k < 512
        · have k0 : (0 : Int) ≤ k := by omega
          have k4 : (k : Int) < 512 := by omega
          have hck := hb9.cell (rowB_get _ hlk2)
          have hzk := hb9.frozen k
          go_wp2_with fail
          have hs' := hb9.setB k true
          go_roundw
          case rel =>
            refine ⟨k + 1, by omega, by go_num, ?_, hxl.setCell (by rw [hn9]; exact Nat.le_refl _) _⟩
            rwa [rowB_congr (q := fun j => decide (j < k + 1) && true) (fun j _ => by
              by_cases hj : j = k
              · subst hj; simp
              · rw [if_neg hj]
                have : (decide (j < k) : Bool) = decide (j < k + 1) := by rw [decide_eq_decide]; omega
                rw [this])] at hs'
          case measure => simp [intOf]; omega
        · obtain rfl : k = 512 := by omega
          have hxw : Ext w3 wr := ((Ext.refl w3).alloc _).trans hxl
          have hfz : Fr r w wr := hf3.trans (.of_ext hxw)
          have hmz := hm3.ext hxw
          replace e1 := hxw.cell e1
          replace e2 := hxw.cell e2
          replace e3 := hxw.cell e3
          replace hb5 := hb5.ext hxw
          rw [rowB_congr (q := sayAt l i) (fun j hj => by simp [hj]; rw [HS.out]; simp [nodeSay, HQ.out])] at hb9
          rw [show ((512 : Nat) : Int) = 512 from rfl]
          obtain ⟨wu, hup, hmu, hfu, hsu⟩ := run_updateI (P := Try.prog) um_known Try.underlying3 hmz (.agg (rowB 512 (sayAt l i)))
          have hb9u := hfu.blk hmz hb9
          have hb5u := hfu.blk hmz hb5
          go_wp2_with (first
            | ((with_reducible refine wpList_loadArr (o := ⟨some 95, _, _, _, _, _⟩) ai_points _ rfl rfl rfl hb9 (rowB_size _ _) ?_))
            | ((with_reducible refine wp_loadArr (o := ⟨some 95, _, _, _, _, _⟩) ai_points _ rfl rfl hb9 (rowB_size _ _) ?_))
            | ((with_reducible refine at_op none (.mapUpdate _ _ _ _) ?_); refine wpList_updateI rfl _ _ _ _ rfl rfl rfl rfl hup ?_)
            | ((with_reducible refine wpList_loadArr (o := ⟨some 96, _, _, _, _, _⟩) ai_points _ rfl rfl rfl hb9u (rowB_size _ _) ?_))
            | ((with_reducible refine wp_loadArr (o := ⟨some 96, _, _, _, _, _⟩) ai_points _ rfl rfl hb9u (rowB_size _ _) ?_))
            | ((with_reducible refine at_op none (.store _ (.tmp 5) _) ?_); refine wpList_storeArr ai_points _ _ rfl rfl rfl rfl hb5u (rowB_size _ _) (rowB_size _ _) (rowB_all _ _) ?_; intro w9 hx9 hb9z hs9 ho9))
          refine ret_arr rfl ai_points rfl hb9z (rowB_size _ _) rfl ⟨rfl, (hfz.trans hfu).below hx9 (Nat.le_refl _), ?_⟩
          refine (hmu.at_ (hx9.block r hr)).imp fun k v h => ?_
          rcases h with h | ⟨rfl, rfl⟩
          · exact ⟨h.1, HPP.out k h.2⟩
          · exact ⟨rfl, .inr (Nat.le_refl _)⟩
    · have HQ := hid hq
      rw [hq] at g0
      obtain ⟨t, ht⟩ := Int.eq_ofNat_of_zero_le ha0
      have HT := hid ht
      rw [ht] at g1 ha3
      have t0 : (0 : Int) ≤ t := by omega
      clear ht ha0
      clear hq
      have i1 := e1
      have i2 := e2
      have i3 := e3
      have h5w := hb5
      go_upto_region 6 with ((with_reducible refine wpList_allocArr (o := ⟨some 9, _, _, _, _, _⟩) zi_points rfl rfl ?_); intro w5 hx5 hb9 hs5)
      have hn9 : (w3.alloc (.cells #[.int .i64 2, .int .i64 (t : Int), .int .i64 l[i].b] 95)).heap.size = w3.heap.size + 1 := by simp
      rw [hn9] at hb9
      go_wp2_with fail
      go_loopw [23] (fun x ws => ∃ k : Nat, k ≤ 512 ∧ x = .int .i64 k ∧ Blk ws (w3.heap.size + 1) 31 (rowB 512 fun j => decide (j < k) && bitb (j / 32) t) ∧ Ext (w3.alloc (.cells #[.int .i64 2, .int .i64 (t : Int), .int .i64 l[i].b] 95)) ws) (fun x _ => 512 - (intOf x).toNat)
      case atStart =>
        refine ⟨0, by omega, rfl, ?_, hx5⟩
        rwa [rowB_congr (q := fun j => decide (j < 0) && bitb (j / 32) t) (fun j _ => by simp)] at hb9
      case round =>
        clear hb9 hx5 hs5
        obtain ⟨k, hk, rfl, hb9, hxl⟩ := hrel
        have c0 : wr.cell? ⟨w3.heap.size, 0, none⟩ = some (.int .i64 2) := hxl.cell (by go_simp)
        have c1 : wr.cell? ⟨w3.heap.size, 1, none⟩ = some (.int .i64 (t : Int)) := hxl.cell (by go_simp)
        have c2 : wr.cell? ⟨w3.heap.size, 2, none⟩ = some (.int .i64 l[i].b) := hxl.cell (by go_simp)
        by_cases hlk2 : k < 512
        · have k0 : (0 : Int) ≤ k := by omega
          have k4 : (k : Int) < 512 := by omega
          have hck := hb9.cell (rowB_get _ hlk2)
          have hzk := hb9.frozen k
          have x2 : Int.tdiv (k : Int) 32 = ((k / 32 : Nat) : Int) := tdiv_nat k 32
          have x3 : Int.tmod ((k : Int) / 32 / 2 ^ t) 2 = if bitb (k / 32) t then 1 else 0 := by rw [show (k : Int) / 32 = ((k / 32 : Nat) : Int) by omega]; exact bit_int (k / 32) t
          cases hB : bitb (k / 32) t
          · have HB := hid hB
            rw [hB] at x3
            simp only [Bool.false_eq_true, if_false] at x3
            clear hB
            go_wp2_with fail
            have hs' := hb9.setB k false
            go_roundw
            case rel =>
              refine ⟨k + 1, by omega, by go_num, ?_, hxl.setCell (by rw [hn9]; exact Nat.le_refl _) _⟩
              rwa [rowB_congr (q := fun j => decide (j < k + 1) && bitb (j / 32) t) (fun j _ => by
                by_cases hj : j = k
                · subst hj; rw [HB.out]; simp
                · rw [if_neg hj]
                  have : (decide (j < k) : Bool) = decide (j < k + 1) := by rw [decide_eq_decide]; omega
                  rw [this])] at hs'
            case measure => simp [intOf]; omega
          · have HB := hid hB
            rw [hB] at x3
            simp only [if_true] at x3
            clear hB
            go_wp2_with fail
            have hs' := hb9.setB k true
            go_roundw
            case rel =>
              refine ⟨k + 1, by omega, by go_num, ?_, hxl.setCell (by rw [hn9]; exact Nat.le_refl _) _⟩
              rwa [rowB_congr (q := fun j => decide (j < k + 1) && bitb (j / 32) t) (fun j _ => by
                by_cases hj : j = k
                · subst hj; rw [HB.out]; simp
                · rw [if_neg hj]
                  have : (decide (j < k) : Bool) = decide (j < k + 1) := by rw [decide_eq_decide]; omega
                  rw [this])] at hs'
            case measure => simp [intOf]; omega
        · obtain rfl : k = 512 := by omega
          have hxw : Ext w3 wr := ((Ext.refl w3).alloc _).trans hxl
          have hfz : Fr r w wr := hf3.trans (.of_ext hxw)
          have hmz := hm3.ext hxw
          replace e1 := hxw.cell e1
          replace e2 := hxw.cell e2
          replace e3 := hxw.cell e3
          replace hb5 := hb5.ext hxw
          rw [rowB_congr (q := sayAt l i) (fun j hj => by simp [hj]; rw [HS.out, say_k2 _ _ t HQ.out HT.out])] at hb9
          rw [show ((512 : Nat) : Int) = 512 from rfl]
          obtain ⟨wu, hup, hmu, hfu, hsu⟩ := run_updateI (P := Try.prog) um_known Try.underlying3 hmz (.agg (rowB 512 (sayAt l i)))
          have hb9u := hfu.blk hmz hb9
          have hb5u := hfu.blk hmz hb5
          go_wp2_with (first
            | ((with_reducible refine wpList_loadArr (o := ⟨some 95, _, _, _, _, _⟩) ai_points _ rfl rfl rfl hb9 (rowB_size _ _) ?_))
            | ((with_reducible refine wp_loadArr (o := ⟨some 95, _, _, _, _, _⟩) ai_points _ rfl rfl hb9 (rowB_size _ _) ?_))
            | ((with_reducible refine at_op none (.mapUpdate _ _ _ _) ?_); refine wpList_updateI rfl _ _ _ _ rfl rfl rfl rfl hup ?_)
            | ((with_reducible refine wpList_loadArr (o := ⟨some 96, _, _, _, _, _⟩) ai_points _ rfl rfl rfl hb9u (rowB_size _ _) ?_))
            | ((with_reducible refine wp_loadArr (o := ⟨some 96, _, _, _, _, _⟩) ai_points _ rfl rfl hb9u (rowB_size _ _) ?_))
            | ((with_reducible refine at_op none (.store _ (.tmp 5) _) ?_); refine wpList_storeArr ai_points _ _ rfl rfl rfl rfl hb5u (rowB_size _ _) (rowB_size _ _) (rowB_all _ _) ?_; intro w9 hx9 hb9z hs9 ho9))
          refine ret_arr rfl ai_points rfl hb9z (rowB_size _ _) rfl ⟨rfl, (hfz.trans hfu).below hx9 (Nat.le_refl _), ?_⟩
          refine (hmu.at_ (hx9.block r hr)).imp fun k v h => ?_
          rcases h with h | ⟨rfl, rfl⟩
          · exact ⟨h.1, HPP.out k h.2⟩
          · exact ⟨rfl, .inr (Nat.le_refl _)⟩
    · have HQ := hid hq
      rw [hq] at g0
      clear hq
      have i1 := e1
      have i2 := e2
      have i3 := e3
      have h5w := hb5
      go_upto_region 6 with ((with_reducible refine wpList_allocArr (o := ⟨some 9, _, _, _, _, _⟩) zi_points rfl rfl ?_); intro w5 hx5 hb9 hs5)
      have hn9 : (w3.alloc (.cells #[.int .i64 3, .int .i64 l[i].a, .int .i64 l[i].b] 95)).heap.size = w3.heap.size + 1 := by simp
      rw [hn9] at hb9
      go_wp2_with fail
      go_loopw [23] (fun x ws => ∃ k : Nat, k ≤ 512 ∧ x = .int .i64 k ∧ Blk ws (w3.heap.size + 1) 31 (rowB 512 fun j => decide (j < k) && betw ((j : Int) % 32) l[i].a (l[i].b - 1)) ∧ Ext (w3.alloc (.cells #[.int .i64 3, .int .i64 l[i].a, .int .i64 l[i].b] 95)) ws) (fun x _ => 512 - (intOf x).toNat)
      case atStart =>
        refine ⟨0, by omega, rfl, ?_, hx5⟩
        rwa [rowB_congr (q := fun j => decide (j < 0) && betw ((j : Int) % 32) l[i].a (l[i].b - 1)) (fun j _ => by simp)] at hb9
      case round =>
        clear hb9 hx5 hs5
        obtain ⟨k, hk, rfl, hb9, hxl⟩ := hrel
        have c0 : wr.cell? ⟨w3.heap.size, 0, none⟩ = some (.int .i64 3) := hxl.cell (by go_simp)
        have c1 : wr.cell? ⟨w3.heap.size, 1, none⟩ = some (.int .i64 l[i].a) := hxl.cell (by go_simp)
        have c2 : wr.cell? ⟨w3.heap.size, 2, none⟩ = some (.int .i64 l[i].b) := hxl.cell (by go_simp)
        by_cases hlk2 : k < 512
        · have k0 : (0 : Int) ≤ k := by omega
          have k4 : (k : Int) < 512 := by omega
          have hck := hb9.cell (rowB_get _ hlk2)
          have hzk := hb9.frozen k
          have x2 : Int.tmod (k : Int) 32 = ((k % 32 : Nat) : Int) := tmod_nat k 32
          go_wp2_with fail
          refine (ref_within _ _ _ _).mono ?_
          rintro e w7 ⟨rfl, rfl⟩
          cases hB : betw ((k : Int) % 32) l[i].a (l[i].b - 1)
          · have HB := hid hB
            clear hB
            go_wp2_with fail
            have hs' := hb9.setB k false
            go_roundw
            case rel =>
              refine ⟨k + 1, by omega, by go_num, ?_, hxl.setCell (by rw [hn9]; exact Nat.le_refl _) _⟩
              rwa [rowB_congr (q := fun j => decide (j < k + 1) && betw ((j : Int) % 32) l[i].a (l[i].b - 1)) (fun j _ => by
                by_cases hj : j = k
                · subst hj; rw [HB.out]; simp
                · rw [if_neg hj]
                  have : (decide (j < k) : Bool) = decide (j < k + 1) := by rw [decide_eq_decide]; omega
                  rw [this])] at hs'
            case measure => simp [intOf]; omega
          · have HB := hid hB
            clear hB
            go_wp2_with fail
            have hs' := hb9.setB k true
            go_roundw
            case rel =>
              refine ⟨k + 1, by omega, by go_num, ?_, hxl.setCell (by rw [hn9]; exact Nat.le_refl _) _⟩
              rwa [rowB_congr (q := fun j => decide (j < k + 1) && betw ((j : Int) % 32) l[i].a (l[i].b - 1)) (fun j _ => by
                by_cases hj : j = k
                · subst hj; rw [HB.out]; simp
                · rw [if_neg hj]
                  have : (decide (j < k) : Bool) = decide (j < k + 1) := by rw [decide_eq_decide]; omega
                  rw [this])] at hs'
            case measure => simp [intOf]; omega
        · obtain rfl : k = 512 := by omega
          have hxw : Ext w3 wr := ((Ext.refl w3).alloc _).trans hxl
          have hfz : Fr r w wr := hf3.trans (.of_ext hxw)
          have hmz := hm3.ext hxw
          replace e1 := hxw.cell e1
          replace e2 := hxw.cell e2
          replace e3 := hxw.cell e3
          replace hb5 := hb5.ext hxw
          rw [rowB_congr (q := sayAt l i) (fun j hj => by simp [hj]; rw [HS.out, say_k3 _ _ HQ.out])] at hb9
          rw [show ((512 : Nat) : Int) = 512 from rfl]
          obtain ⟨wu, hup, hmu, hfu, hsu⟩ := run_updateI (P := Try.prog) um_known Try.underlying3 hmz (.agg (rowB 512 (sayAt l i)))
          have hb9u := hfu.blk hmz hb9
          have hb5u := hfu.blk hmz hb5
          go_wp2_with (first
            | ((with_reducible refine wpList_loadArr (o := ⟨some 95, _, _, _, _, _⟩) ai_points _ rfl rfl rfl hb9 (rowB_size _ _) ?_))
            | ((with_reducible refine wp_loadArr (o := ⟨some 95, _, _, _, _, _⟩) ai_points _ rfl rfl hb9 (rowB_size _ _) ?_))
            | ((with_reducible refine at_op none (.mapUpdate _ _ _ _) ?_); refine wpList_updateI rfl _ _ _ _ rfl rfl rfl rfl hup ?_)
            | ((with_reducible refine wpList_loadArr (o := ⟨some 96, _, _, _, _, _⟩) ai_points _ rfl rfl rfl hb9u (rowB_size _ _) ?_))
            | ((with_reducible refine wp_loadArr (o := ⟨some 96, _, _, _, _, _⟩) ai_points _ rfl rfl hb9u (rowB_size _ _) ?_))
            | ((with_reducible refine at_op none (.store _ (.tmp 5) _) ?_); refine wpList_storeArr ai_points _ _ rfl rfl rfl rfl hb5u (rowB_size _ _) (rowB_size _ _) (rowB_all _ _) ?_; intro w9 hx9 hb9z hs9 ho9))
          refine ret_arr rfl ai_points rfl hb9z (rowB_size _ _) rfl ⟨rfl, (hfz.trans hfu).below hx9 (Nat.le_refl _), ?_⟩
          refine (hmu.at_ (hx9.block r hr)).imp fun k v h => ?_
          rcases h with h | ⟨rfl, rfl⟩
          · exact ⟨h.1, HPP.out k h.2⟩
          · exact ⟨rfl, .inr (Nat.le_refl _)⟩
    · have HQ := hid hq
      rw [hq] at g0
      obtain ⟨a, hta⟩ := Int.eq_ofNat_of_zero_le ha0
      have HA := hid hta
      rw [hta] at g1 hai
      have haN : a < i := by omega
      have a0 : (0 : Int) ≤ a := by omega
      clear hta ha0
      clear hq
      have i1 := e1
      have i2 := e2
      have i3 := e3
      have h5w := hb5
      go_upto_region 6 with ((with_reducible refine wpList_allocArr (o := ⟨some 9, _, _, _, _, _⟩) zi_points rfl rfl ?_); intro w5 hx5 hb9 hs5)
      have hn9 : (w3.alloc (.cells #[.int .i64 4, .int .i64 (a : Int), .int .i64 l[i].b] 95)).heap.size = w3.heap.size + 1 := by simp
      rw [hn9] at hb9
      go_wp2_with fail
      go_loopw [23] (fun x ws => ∃ k : Nat, k ≤ 512 ∧ x = .int .i64 k ∧ Blk ws (w3.heap.size + 1) 31 (rowB 512 fun j => decide (j < k) && false) ∧ Ext (w3.alloc (.cells #[.int .i64 4, .int .i64 (a : Int), .int .i64 l[i].b] 95)) ws) (fun x _ => 512 - (intOf x).toNat)
      case atStart =>
        refine ⟨0, by omega, rfl, ?_, hx5⟩
        rwa [rowB_congr (q := fun j => decide (j < 0) && false) (fun j _ => by simp)] at hb9
      case round =>
        clear hb9 hx5 hs5
        obtain ⟨k, hk, rfl, hb9, hxl⟩ := hrel
        have c0 : wr.cell? ⟨w3.heap.size, 0, none⟩ = some (.int .i64 4) := hxl.cell (by go_simp)
        have c1 : wr.cell? ⟨w3.heap.size, 1, none⟩ = some (.int .i64 (a : Int)) := hxl.cell (by go_simp)
        have c2 : wr.cell? ⟨w3.heap.size, 2, none⟩ = some (.int .i64 l[i].b) := hxl.cell (by go_simp)
        by_cases hlk2 : k < 512
        · have k0 : (0 : Int) ≤ k := by omega
          have k4 : (k : Int) < 512 := by omega
          have hck := hb9.cell (rowB_get _ hlk2)
          have hzk := hb9.frozen k
          go_wp2_with fail
          have hs' := hb9.setB k false
          go_roundw
          case rel =>
            refine ⟨k + 1, by omega, by go_num, ?_, hxl.setCell (by rw [hn9]; exact Nat.le_refl _) _⟩
            rwa [rowB_congr (q := fun j => decide (j < k + 1) && false) (fun j _ => by
              by_cases hj : j = k
              · subst hj; simp
              · rw [if_neg hj]
                have : (decide (j < k) : Bool) = decide (j < k + 1) := by rw [decide_eq_decide]; omega
                rw [this])] at hs'
          case measure => simp [intOf]; omega
        · obtain rfl : k = 512 := by omega
          have hxw : Ext w3 wr := ((Ext.refl w3).alloc _).trans hxl
          have hfz : Fr r w wr := hf3.trans (.of_ext hxw)
          have hmz := hm3.ext hxw
          replace e1 := hxw.cell e1
          replace e2 := hxw.cell e2
          replace e3 := hxw.cell e3
          replace hb5 := hb5.ext hxw
          rw [rowB_congr (q := fun _ => false) (fun j hj => by simp [hj])] at hb9
          rw [show ((512 : Nat) : Int) = 512 from rfl]
          obtain ⟨wv, hwv⟩ : ∃ wv, wv = w3.alloc (.cells #[.int .i64 4, .int .i64 (a : Int), .int .i64 l[i].b] 95) := ⟨_, rfl⟩
          have hv3 : Ext w3 wv := by rw [hwv]; exact (Ext.refl w3).alloc _
          rw [← hwv] at hxl hn9
          have hmv := hm3.ext hv3
          have v1 : wv.cell? ⟨w3.heap.size, 1, none⟩ = some (.int .i64 (a : Int)) := by rw [hwv]; go_simp
          have HB5 := hid (fun w' (x : Fr r wv w') => x.blk hmv (h5w.ext hv3))
          have HC0 := hid (fun w' (x : Fr r wv w') => x.cell hmv (hv3.cell i3))
          have HC1 := hid (fun w' (x : Fr r wv w') => x.cell hmv v1)
          have HENV := hid (fun w' (x : Fr r wv w') => (SayEnv.mk (hv3.cell i1) (hv3.cell i2) (hv3.cell i3) (e4.ext RTrip.mono hv3) : SayEnv B wv r bk bl bs _ c l).fr x hmv)
          have HE1 := hid (fun w' (x : Fr r wv w') => x.cell hmv (hv3.cell i1))
          have HFv := hid (hf3.trans (.of_ext hv3))
          have HN9 := hid hn9
          have HEach := hid (fun w' => each_say4r (sayAt l a) w')
          have HIA := hid (hih a haN)
          have hyn : Fr r wv wr.drew := .of_ext (hxl.drew)
          have hmn : MapR wr.drew r (fun k v => Told l k v ∧ ((p k ∨ k < i) ∧ k ≠ i)) := (hmz.ext (Ext.refl wr).drew).imp fun k v h => ⟨h.1.1, .inl h.1.2, h.2⟩
          have hbn := hb9.ext (Ext.refl wr).drew
          go_upto_region 13 with fail
          clear hb9 hb5 e1 e2 e3 c0 c1 c2 hmz hfz hxw hxl hih hm3 hf3 hwv hv3 hmv v1 h5w i1 i2 i3 hn9
          refine wp_region_held_drew (S := fun w' => Fr r wv w' ∧ w'.cell? ⟨bs, 0, none⟩ = some (.func (.func 67) #[] #[.pointer (some ⟨bk, 0, none⟩), .pointer (some ⟨bl, 0, none⟩), .pointer (some ⟨bs, 0, none⟩)]) ∧ w'.cell? ⟨w3.heap.size, 1, none⟩ = some (.int .i64 (a : Int))) (by kernel_rfl) ⟨hyn, HC0.out _ hyn, HC1.out _ hyn⟩ (fun hHeld => ?_)
          refine wpAnyH_take (i := 0) (oi := ⟨some 65, .load 105 (.tmp 3), 105, "low.go:186", #[], none⟩) (v := ?_) rfl (by kernel_rfl) (by kernel_rfl) (by kernel_rfl) (fun _ _ _ h => h) (Or.inl ⟨by rfl, ?_⟩) (by assumption) ?_
          rotate_left
          · intro w' hSw
            try dsimp only at hSw
            first
              | (go_simp; done)
              | (go_simp; with_reducible rfl)
          try simp only [Act.put, List.setIfInBounds_toArray, List.set_cons_zero, List.set_cons_succ]
          refine wpAnyH_take (i := 1) (oi := ⟨some 66, .fieldAddr 95 (.tmp 8) 1, 0, "low.go:186", #[], none⟩) (v := ?_) rfl (by kernel_rfl) (by kernel_rfl) (by kernel_rfl) (fun _ _ _ h => h) (Or.inl ⟨by rfl, ?_⟩) (by assumption) ?_
          rotate_left
          · intro w' hSw
            try dsimp only at hSw
            first
              | (go_simp; done)
              | (go_simp; with_reducible rfl)
          try simp only [Act.put, List.setIfInBounds_toArray, List.set_cons_zero, List.set_cons_succ]
          refine wpAnyH_take (i := 2) (oi := ⟨some 67, .load 3 (.tmp 66), 3, "low.go:186", #[⟨1, .data⟩], none⟩) (v := ?_) rfl (by kernel_rfl) (by kernel_rfl) (by kernel_rfl) (fun _ _ _ h => h) (Or.inl ⟨by rfl, ?_⟩) (by assumption) ?_
          rotate_left
          · intro w' hSw
            try dsimp only at hSw
            first
              | (go_simp; done)
              | (go_simp; with_reducible rfl)
          try simp only [Act.put, List.setIfInBounds_toArray, List.set_cons_zero, List.set_cons_succ]
          refine wpAnyH_ready (rs := [3, 4]) (by kernel_rfl) (by simp) ?_
          refine AllReadyH.cons (o := ⟨some 68, .call { callee := .value (.tmp 65), args := #[.tmp 67], argTypes := #[3] }, 31, "low.go:186", #[⟨0, .data⟩, ⟨2, .data⟩], none⟩) rfl (fun K hK => ?_) ?_
          · go_simp
            refine (HIA.out _ r bk bl bs _ c (fun k => (p k ∨ k < i) ∧ k ≠ i) (HENV.out _ hyn) hmn).mono ?_
            rintro e w8 ⟨rfl, hfn, hmx⟩
            dsimp only
            replace hbn := hfn.blk hmn hbn
            replace hyn := hyn.trans hfn
            replace hmn := hmx.imp (S := fun k v => Told l k v ∧ ((p k ∨ k < i) ∧ k ≠ i)) fun k v h => ⟨h.1, h.2.elim id fun hk => ⟨.inr (by omega), by omega⟩⟩
            refine hK.out _ _ ⟨hyn, HC0.out _ hyn, HC1.out _ hyn⟩ (fun hHeld => ?_)
            clear hK K
            try simp only [Act.put, List.setIfInBounds_toArray, List.set_cons_zero, List.set_cons_succ]
            refine wpAnyH_ready (rs := [4]) (by kernel_rfl) (by simp) ?_
            refine AllReadyH.cons (o := ⟨some 69, .load 31 (.tmp 9), 31, "low.go:186", #[], none⟩) rfl (fun K hK => ?_) AllReadyH.nil
            simp only [Region.wanted, if_true]
            refine wp_loadArr ai_points _ rfl rfl hbn (rowB_size _ _) ?_
            refine hK.out _ _ ⟨hyn, HC0.out _ hyn, HC1.out _ hyn⟩ (fun hHeld => ?_)
            clear hK K
            try simp only [Act.put, List.setIfInBounds_toArray, List.set_cons_zero, List.set_cons_succ]
            refine wpAnyH_ready (rs := [5]) (by kernel_rfl) (by simp) ?_
            refine AllReadyH.cons (o := ⟨some 70, .call { callee := .value (.func 30), args := #[.tmp 68, .tmp 69, .func 68], argTypes := #[31, 31, 56] }, 31, "low.go:186", #[⟨3, .data⟩, ⟨4, .data⟩, ⟨3, .chain⟩], none⟩) rfl (fun K hK => ?_) AllReadyH.nil
            go_simp
            refine (HEach.out _).mono ?_
            rintro e w10 ⟨rfl, hxn⟩
            dsimp only
            replace hbn := hbn.ext hxn
            replace hyn := hyn.trans (.of_ext hxn)
            replace hmn := hmn.ext hxn
            refine hK.out _ _ ⟨hyn, HC0.out _ hyn, HC1.out _ hyn⟩ (fun hHeld => ?_)
            clear hK K
            try simp only [Act.put, List.setIfInBounds_toArray, List.set_cons_zero, List.set_cons_succ]
            refine wpAnyH_ready (rs := [6]) (by kernel_rfl) (by simp) ?_
            refine AllReadyH.cons (o := ⟨none, .store 31 (.tmp 9) (.tmp 70), 0, "low.go:186", #[⟨5, .data⟩, ⟨5, .chain⟩, ⟨0, .phase⟩, ⟨1, .phase⟩, ⟨2, .phase⟩, ⟨3, .phase⟩, ⟨4, .phase⟩, ⟨5, .phase⟩], none⟩) rfl (fun K hK => ?_) AllReadyH.nil
            have hne := (Fr.ne hmn (hbn.cell (rowB_get (fun _ => false) (show 0 < 512 by omega)))).symm
            simp only [Region.wanted, if_true]
            with_reducible refine wp_storeArr (b := w3.heap.size + 1) (cs := rowB 512 fun j => !sayAt l a j) (old := rowB 512 fun _ => false) (n := 512) (t := 31) ai_points (.tmp 9) (.tmp 70) rfl ?_ ?_ hbn (rowB_size _ _) (rowB_size _ _) (rowB_all _ _) ?_
            · rfl
            · rfl
            intro w11 hx11 hb9 hs11 ho11
            replace hmn := hmn.at_ (ho11 r hne)
            replace hyn := hyn.below hx11 (by have := HN9.out; omega)
            refine hK.out _ _ ⟨hyn, HC0.out _ hyn, HC1.out _ hyn⟩ (fun hHeld => ?_)
            clear hK K
            try simp only [Act.put]
            refine wpAnyH_done (by kernel_rfl) ?_ _
            rw [rowB_congr (q := sayAt l i) (fun j _ => by rw [HS.out, say_k4 l i a _ (by omega) haN HQ.out HA.out])] at hb9
            have hmz := hmn.imp (S := fun k v => (Told l k v ∧ (p k ∨ k < i)) ∧ k ≠ i) fun k v h => ⟨⟨h.1, h.2.1⟩, h.2.2⟩
            have hb5 := HB5.out _ hyn
            have e1 := HE1.out _ hyn
            have hfz := HFv.out.trans hyn
            have HPP := hid (fun k (h : p k ∨ k < i) => (show p k ∨ k ≤ i from h.elim .inl fun h => .inr (Nat.le_of_lt h)))
            clear hyn hmn hbn HIA HEach HENV HC0 HC1 hx11 hs11 ho11 hHeld
            obtain ⟨wu, hup, hmu, hfu, hsu⟩ := run_updateI (P := Try.prog) um_known Try.underlying3 hmz (.agg (rowB 512 (sayAt l i)))
            have hb9u := hfu.blk hmz hb9
            have hb5u := hfu.blk hmz hb5
            go_wp2_with (first
              | ((with_reducible refine wpList_loadArr (o := ⟨some 95, _, _, _, _, _⟩) ai_points _ rfl rfl rfl hb9 (rowB_size _ _) ?_))
              | ((with_reducible refine wp_loadArr (o := ⟨some 95, _, _, _, _, _⟩) ai_points _ rfl rfl hb9 (rowB_size _ _) ?_))
              | ((with_reducible refine at_op none (.mapUpdate _ _ _ _) ?_); refine wpList_updateI rfl _ _ _ _ rfl rfl rfl rfl hup ?_)
              | ((with_reducible refine wpList_loadArr (o := ⟨some 96, _, _, _, _, _⟩) ai_points _ rfl rfl rfl hb9u (rowB_size _ _) ?_))
              | ((with_reducible refine wp_loadArr (o := ⟨some 96, _, _, _, _, _⟩) ai_points _ rfl rfl hb9u (rowB_size _ _) ?_))
              | ((with_reducible refine at_op none (.store _ (.tmp 5) _) ?_); refine wpList_storeArr ai_points _ _ rfl rfl rfl rfl hb5u (rowB_size _ _) (rowB_size _ _) (rowB_all _ _) ?_; intro w9 hx9 hb9z hs9 ho9))
            refine ret_arr rfl ai_points rfl hb9z (rowB_size _ _) rfl ⟨rfl, (hfz.trans hfu).below hx9 (Nat.le_refl _), ?_⟩
            refine (hmu.at_ (hx9.block r hr)).imp fun k v h => ?_
            rcases h with h | ⟨rfl, rfl⟩
            · exact ⟨h.1, HPP.out k h.2⟩
            · exact ⟨rfl, .inr (Nat.le_refl _)⟩
          refine AllReadyH.cons (o := ⟨some 69, .load 31 (.tmp 9), 31, "low.go:186", #[], none⟩) rfl (fun K hK => ?_) AllReadyH.nil
          simp only [Region.wanted, if_true]
          refine wp_loadArr ai_points _ rfl rfl hbn (rowB_size _ _) ?_
          refine hK.out _ _ ⟨hyn, HC0.out _ hyn, HC1.out _ hyn⟩ (fun hHeld => ?_)
          clear hK K
          try simp only [Act.put, List.setIfInBounds_toArray, List.set_cons_zero, List.set_cons_succ]
          refine wpAnyH_ready (rs := [3]) (by kernel_rfl) (by simp) ?_
          refine AllReadyH.cons (o := ⟨some 68, .call { callee := .value (.tmp 65), args := #[.tmp 67], argTypes := #[3] }, 31, "low.go:186", #[⟨0, .data⟩, ⟨2, .data⟩], none⟩) rfl (fun K hK => ?_) AllReadyH.nil
          go_simp
          refine (HIA.out _ r bk bl bs _ c (fun k => (p k ∨ k < i) ∧ k ≠ i) (HENV.out _ hyn) hmn).mono ?_
          rintro e w8 ⟨rfl, hfn, hmx⟩
          dsimp only
          replace hbn := hfn.blk hmn hbn
          replace hyn := hyn.trans hfn
          replace hmn := hmx.imp (S := fun k v => Told l k v ∧ ((p k ∨ k < i) ∧ k ≠ i)) fun k v h => ⟨h.1, h.2.elim id fun hk => ⟨.inr (by omega), by omega⟩⟩
          refine hK.out _ _ ⟨hyn, HC0.out _ hyn, HC1.out _ hyn⟩ (fun hHeld => ?_)
          clear hK K
          try simp only [Act.put, List.setIfInBounds_toArray, List.set_cons_zero, List.set_cons_succ]
          refine wpAnyH_ready (rs := [5]) (by kernel_rfl) (by simp) ?_
          refine AllReadyH.cons (o := ⟨some 70, .call { callee := .value (.func 30), args := #[.tmp 68, .tmp 69, .func 68], argTypes := #[31, 31, 56] }, 31, "low.go:186", #[⟨3, .data⟩, ⟨4, .data⟩, ⟨3, .chain⟩], none⟩) rfl (fun K hK => ?_) AllReadyH.nil
          go_simp
          refine (HEach.out _).mono ?_
          rintro e w10 ⟨rfl, hxn⟩
          dsimp only
          replace hbn := hbn.ext hxn
          replace hyn := hyn.trans (.of_ext hxn)
          replace hmn := hmn.ext hxn
          refine hK.out _ _ ⟨hyn, HC0.out _ hyn, HC1.out _ hyn⟩ (fun hHeld => ?_)
          clear hK K
          try simp only [Act.put, List.setIfInBounds_toArray, List.set_cons_zero, List.set_cons_succ]
          refine wpAnyH_ready (rs := [6]) (by kernel_rfl) (by simp) ?_
          refine AllReadyH.cons (o := ⟨none, .store 31 (.tmp 9) (.tmp 70), 0, "low.go:186", #[⟨5, .data⟩, ⟨5, .chain⟩, ⟨0, .phase⟩, ⟨1, .phase⟩, ⟨2, .phase⟩, ⟨3, .phase⟩, ⟨4, .phase⟩, ⟨5, .phase⟩], none⟩) rfl (fun K hK => ?_) AllReadyH.nil
          have hne := (Fr.ne hmn (hbn.cell (rowB_get (fun _ => false) (show 0 < 512 by omega)))).symm
          simp only [Region.wanted, if_true]
          with_reducible refine wp_storeArr (b := w3.heap.size + 1) (cs := rowB 512 fun j => !sayAt l a j) (old := rowB 512 fun _ => false) (n := 512) (t := 31) ai_points (.tmp 9) (.tmp 70) rfl ?_ ?_ hbn (rowB_size _ _) (rowB_size _ _) (rowB_all _ _) ?_
          · rfl
          · rfl
          intro w11 hx11 hb9 hs11 ho11
          replace hmn := hmn.at_ (ho11 r hne)
          replace hyn := hyn.below hx11 (by have := HN9.out; omega)
          refine hK.out _ _ ⟨hyn, HC0.out _ hyn, HC1.out _ hyn⟩ (fun hHeld => ?_)
          clear hK K
          try simp only [Act.put]
          refine wpAnyH_done (by kernel_rfl) ?_ _
          rw [rowB_congr (q := sayAt l i) (fun j _ => by rw [HS.out, say_k4 l i a _ (by omega) haN HQ.out HA.out])] at hb9
          have hmz := hmn.imp (S := fun k v => (Told l k v ∧ (p k ∨ k < i)) ∧ k ≠ i) fun k v h => ⟨⟨h.1, h.2.1⟩, h.2.2⟩
          have hb5 := HB5.out _ hyn
          have e1 := HE1.out _ hyn
          have hfz := HFv.out.trans hyn
          have HPP := hid (fun k (h : p k ∨ k < i) => (show p k ∨ k ≤ i from h.elim .inl fun h => .inr (Nat.le_of_lt h)))
          clear hyn hmn hbn HIA HEach HENV HC0 HC1 hx11 hs11 ho11 hHeld
          obtain ⟨wu, hup, hmu, hfu, hsu⟩ := run_updateI (P := Try.prog) um_known Try.underlying3 hmz (.agg (rowB 512 (sayAt l i)))
          have hb9u := hfu.blk hmz hb9
          have hb5u := hfu.blk hmz hb5
          go_wp2_with (first
            | ((with_reducible refine wpList_loadArr (o := ⟨some 95, _, _, _, _, _⟩) ai_points _ rfl rfl rfl hb9 (rowB_size _ _) ?_))
            | ((with_reducible refine wp_loadArr (o := ⟨some 95, _, _, _, _, _⟩) ai_points _ rfl rfl hb9 (rowB_size _ _) ?_))
            | ((with_reducible refine at_op none (.mapUpdate _ _ _ _) ?_); refine wpList_updateI rfl _ _ _ _ rfl rfl rfl rfl hup ?_)
            | ((with_reducible refine wpList_loadArr (o := ⟨some 96, _, _, _, _, _⟩) ai_points _ rfl rfl rfl hb9u (rowB_size _ _) ?_))
            | ((with_reducible refine wp_loadArr (o := ⟨some 96, _, _, _, _, _⟩) ai_points _ rfl rfl hb9u (rowB_size _ _) ?_))
            | ((with_reducible refine at_op none (.store _ (.tmp 5) _) ?_); refine wpList_storeArr ai_points _ _ rfl rfl rfl rfl hb5u (rowB_size _ _) (rowB_size _ _) (rowB_all _ _) ?_; intro w9 hx9 hb9z hs9 ho9))
          refine ret_arr rfl ai_points rfl hb9z (rowB_size _ _) rfl ⟨rfl, (hfz.trans hfu).below hx9 (Nat.le_refl _), ?_⟩
          refine (hmu.at_ (hx9.block r hr)).imp fun k v h => ?_
          rcases h with h | ⟨rfl, rfl⟩
          · exact ⟨h.1, HPP.out k h.2⟩
          · exact ⟨rfl, .inr (Nat.le_refl _)⟩
    · rcases hq with hq | hq
      · have HQ := hid hq
        rw [hq] at g0
        obtain ⟨a, hta⟩ := Int.eq_ofNat_of_zero_le ha0
        have HA := hid hta
        rw [hta] at g1 hai
        have haN : a < i := by omega
        have a0 : (0 : Int) ≤ a := by omega
        clear hta ha0
        obtain ⟨b, htb⟩ := Int.eq_ofNat_of_zero_le hb0
        have HBB := hid htb
        rw [htb] at g2 hbi
        have hbN : b < i := by omega
        have b0 : (0 : Int) ≤ b := by omega
        clear htb hb0
        clear hq
        have i1 := e1
        have i2 := e2
        have i3 := e3
        have h5w := hb5
        go_upto_region 6 with ((with_reducible refine wpList_allocArr (o := ⟨some 9, _, _, _, _, _⟩) zi_points rfl rfl ?_); intro w5 hx5 hb9 hs5)
        have hn9 : (w3.alloc (.cells #[.int .i64 5, .int .i64 (a : Int), .int .i64 (b : Int)] 95)).heap.size = w3.heap.size + 1 := by simp
        rw [hn9] at hb9
        go_wp2_with fail
        go_loopw [23] (fun x ws => ∃ k : Nat, k ≤ 512 ∧ x = .int .i64 k ∧ Blk ws (w3.heap.size + 1) 31 (rowB 512 fun j => decide (j < k) && false) ∧ Ext (w3.alloc (.cells #[.int .i64 5, .int .i64 (a : Int), .int .i64 (b : Int)] 95)) ws) (fun x _ => 512 - (intOf x).toNat)
        case atStart =>
          refine ⟨0, by omega, rfl, ?_, hx5⟩
          rwa [rowB_congr (q := fun j => decide (j < 0) && false) (fun j _ => by simp)] at hb9
        case round =>
          clear hb9 hx5 hs5
          obtain ⟨k, hk, rfl, hb9, hxl⟩ := hrel
          have c0 : wr.cell? ⟨w3.heap.size, 0, none⟩ = some (.int .i64 5) := hxl.cell (by go_simp)
          have c1 : wr.cell? ⟨w3.heap.size, 1, none⟩ = some (.int .i64 (a : Int)) := hxl.cell (by go_simp)
          have c2 : wr.cell? ⟨w3.heap.size, 2, none⟩ = some (.int .i64 (b : Int)) := hxl.cell (by go_simp)
          by_cases hlk2 : k < 512
          · have k0 : (0 : Int) ≤ k := by omega
            have k4 : (k : Int) < 512 := by omega
            have hck := hb9.cell (rowB_get _ hlk2)
            have hzk := hb9.frozen k
            go_wp2_with fail
            have hs' := hb9.setB k false
            go_roundw
            case rel =>
              refine ⟨k + 1, by omega, by go_num, ?_, hxl.setCell (by rw [hn9]; exact Nat.le_refl _) _⟩
              rwa [rowB_congr (q := fun j => decide (j < k + 1) && false) (fun j _ => by
                by_cases hj : j = k
                · subst hj; simp
                · rw [if_neg hj]
                  have : (decide (j < k) : Bool) = decide (j < k + 1) := by rw [decide_eq_decide]; omega
                  rw [this])] at hs'
            case measure => simp [intOf]; omega
          · obtain rfl : k = 512 := by omega
            have hxw : Ext w3 wr := ((Ext.refl w3).alloc _).trans hxl
            have hfz : Fr r w wr := hf3.trans (.of_ext hxw)
            have hmz := hm3.ext hxw
            replace e1 := hxw.cell e1
            replace e2 := hxw.cell e2
            replace e3 := hxw.cell e3
            replace hb5 := hb5.ext hxw
            rw [rowB_congr (q := fun _ => false) (fun j hj => by simp [hj])] at hb9
            rw [show ((512 : Nat) : Int) = 512 from rfl]
            obtain ⟨cz, hcz⟩ : ∃ cs : List Value, cs = (rowB 512 fun _ => false).toList := ⟨_, rfl⟩
            obtain ⟨cr, hcr⟩ : ∃ cs : List Value, cs = (rowB 512 (fun j => sayAt l a j && sayAt l b j)).toList := ⟨_, rfl⟩
            have hu := Try.underlying31
            have hi1 : (Try.prog.info? 31).map (·.size) = some cz.length := by rw [hcz, Array.length_toList, rowB_size]; exact ai_points.2
            have hi2 : (Try.prog.info? 31).map (·.size) = some cr.length := by rw [hcr, Array.length_toList, rowB_size]; exact ai_points.2
            have hlr : cr.length = 512 := by rw [hcr, Array.length_toList, rowB_size]
            have hor : ∀ v ∈ cr, v.oneCell' = true := fun v hv => by
              rw [hcr] at hv
              exact (Array.all_eq_true_iff_forall_mem.1 (rowB_all 512 _)) v (by simpa using hv)
            have HEach := hid (fun w' => each_say5 cr  hcr  w')
            obtain ⟨wv, hwv⟩ : ∃ wv, wv = w3.alloc (.cells #[.int .i64 5, .int .i64 (a : Int), .int .i64 (b : Int)] 95) := ⟨_, rfl⟩
            have hv3 : Ext w3 wv := by rw [hwv]; exact (Ext.refl w3).alloc _
            rw [← hwv] at hxl hn9
            have hmv := hm3.ext hv3
            have v1 : wv.cell? ⟨w3.heap.size, 1, none⟩ = some (.int .i64 (a : Int)) := by rw [hwv]; go_simp
            have v2 : wv.cell? ⟨w3.heap.size, 2, none⟩ = some (.int .i64 (b : Int)) := by rw [hwv]; go_simp
            have HB5 := hid (fun w' (x : Fr r wv w') => x.blk hmv (h5w.ext hv3))
            have HC0 := hid (fun w' (x : Fr r wv w') => x.cell hmv (hv3.cell i3))
            have HC1 := hid (fun w' (x : Fr r wv w') => x.cell hmv v1)
            have HC2 := hid (fun w' (x : Fr r wv w') => x.cell hmv v2)
            have HENV := hid (fun w' (x : Fr r wv w') => (SayEnv.mk (hv3.cell i1) (hv3.cell i2) (hv3.cell i3) (e4.ext RTrip.mono hv3) : SayEnv B wv r bk bl bs _ c l).fr x hmv)
            have HFv := hid (hf3.trans (.of_ext hv3))
            have HN9 := hid hn9
            have HCr := hid hcr
            have HLR := hid hlr
            have HE1 := hid (fun w' (x : Fr r wv w') => x.cell hmv (hv3.cell i1))
            have HIA := hid (hih a haN)
            have HIB := hid (hih b hbN)
            have hyn : Fr r wv wr.drew := .of_ext (hxl.drew)
            have hmn : MapR wr.drew r (fun k v => Told l k v ∧ ((p k ∨ k < i) ∧ k ≠ i)) := (hmz.ext (Ext.refl wr).drew).imp fun k v h => ⟨h.1.1, .inl h.1.2, h.2⟩
            have hbn : ∃ ds, Blk wr.drew (w3.heap.size + 1) 31 ds ∧ ds.size = 512 := ⟨_, hb9.ext (Ext.refl wr).drew, rowB_size _ _⟩
            go_upto_region 15 with fail
            clear hcr hb9 hb5 e1 e2 e3 c0 c1 c2 hmz hfz hxw hxl hih hm3 hf3 hwv hv3 hmv v1 v2 h5w i1 i2 i3 hn9
            go_region_held3 (fun w' => Fr r wv w' ∧ MapR w' r (fun k v => Told l k v ∧ ((p k ∨ k < i) ∧ k ≠ i)) ∧ (∃ ds, Blk w' (w3.heap.size + 1) 31 ds ∧ ds.size = 512) ∧ w'.cell? ⟨bs, 0, none⟩ = some (.func (.func 67) #[] #[.pointer (some ⟨bk, 0, none⟩), .pointer (some ⟨bl, 0, none⟩), .pointer (some ⟨bs, 0, none⟩)]) ∧
                w'.cell? ⟨w3.heap.size, 1, none⟩ = some (.int .i64 (a : Int)) ∧ w'.cell? ⟨w3.heap.size, 2, none⟩ = some (.int .i64 (b : Int)) ∧ w'.there (w3.heap.size + 1) 0 512)
              (first
                | exact ⟨hyn, hmn, hbn, HC0.out _ hyn, HC1.out _ hyn, HC2.out _ hyn, there_of hbn⟩
                | (exact say_store HN9.out HC0.out HC1.out HC2.out hyn hmn hbn cr))
              (first
                | (go_at_call_of 67 (Value.int IntKind.i64 (a : Int)); refine (HIA.out _ r bk bl bs _ c (fun k => (p k ∨ k < i) ∧ k ≠ i) (HENV.out _ hyn) hmn).mono ?_; rintro e w8 ⟨rfl, hfn, hmx⟩; have hbn := blk_fr hfn hmn hbn; have hyn := Fr.trans hyn hfn; have hmn := hmx.imp (S := fun k v => Told l k v ∧ ((p k ∨ k < i) ∧ k ≠ i)) fun k v h => ⟨h.1, h.2.elim id fun hk => ⟨.inr (by omega), by omega⟩⟩)
                | (go_at_call_of 67 (Value.int IntKind.i64 (b : Int)); refine (HIB.out _ r bk bl bs _ c (fun k => (p k ∨ k < i) ∧ k ≠ i) (HENV.out _ hyn) hmn).mono ?_; rintro e w9 ⟨rfl, hfn, hmx⟩; have hbn := blk_fr hfn hmn hbn; have hyn := Fr.trans hyn hfn; have hmn := hmx.imp (S := fun k v => Told l k v ∧ ((p k ∨ k < i) ∧ k ≠ i)) fun k v h => ⟨h.1, h.2.elim id fun hk => ⟨.inr (by omega), by omega⟩⟩)
                | (go_at_call 30; refine (HEach.out _).mono ?_; rintro e w10 ⟨rfl, hxn⟩; have hbn := blk_ext hxn hbn; have hyn := Fr.trans hyn (.of_ext hxn); have hmn := hmn.ext hxn))
            have hyz : Fr r wv (w10.setCells (w3.heap.size + 1) 0 cr) := Fr.setCells (by have := HN9.out; omega) cr 0 _ hyn
            have hmz := (hmn.at_ (heap_setCells_far (w3.heap.size + 1) cr 0 _ r (blk_ne hmn hbn))).imp (S := fun k v => (Told l k v ∧ (p k ∨ k < i)) ∧ k ≠ i) fun k v h => ⟨⟨h.1, h.2.1⟩, h.2.2⟩
            obtain ⟨ds, hd1, hd2⟩ := hbn
            have hb9 : Blk (w10.setCells (w3.heap.size + 1) 0 cr) (w3.heap.size + 1) 31 (rowB 512 (sayAt l i)) := by
              have h := hd1.set_all cr (by rw [HLR.out, hd2])
              have e : cr.toArray = rowB 512 (sayAt l i) := by
                rw [HCr.out, Array.toArray_toList]
                exact rowB_congr fun j _ => by rw [HS.out, say_k5 l i a b _ (by omega) haN hbN HQ.out HA.out HBB.out]
              rw [e] at h
              exact h
            obtain ⟨wz, hwz⟩ : ∃ wz, wz = w10.setCells (w3.heap.size + 1) 0 cr := ⟨_, rfl⟩
            rw [← hwz] at hyz hmz hb9 ⊢
            have hb5 := HB5.out wz hyz
            have e1 := HE1.out wz hyz
            have hfz := HFv.out.trans hyz
            have HPP := hid (fun k (h : p k ∨ k < i) => (show p k ∨ k ≤ i from h.elim .inl fun h => .inr (Nat.le_of_lt h)))
            clear hwz hd1 hd2 hyz hyn hmn hbn hor hlr hi1 hi2 HIA HEach HENV HC0 HC1 HC2
            obtain ⟨wu, hup, hmu, hfu, hsu⟩ := run_updateI (P := Try.prog) um_known Try.underlying3 hmz (.agg (rowB 512 (sayAt l i)))
            have hb9u := hfu.blk hmz hb9
            have hb5u := hfu.blk hmz hb5
            go_wp2_with (first
              | ((with_reducible refine wpList_loadArr (o := ⟨some 95, _, _, _, _, _⟩) ai_points _ rfl rfl rfl hb9 (rowB_size _ _) ?_))
              | ((with_reducible refine wp_loadArr (o := ⟨some 95, _, _, _, _, _⟩) ai_points _ rfl rfl hb9 (rowB_size _ _) ?_))
              | ((with_reducible refine at_op none (.mapUpdate _ _ _ _) ?_); refine wpList_updateI rfl _ _ _ _ rfl rfl rfl rfl hup ?_)
              | ((with_reducible refine wpList_loadArr (o := ⟨some 96, _, _, _, _, _⟩) ai_points _ rfl rfl rfl hb9u (rowB_size _ _) ?_))
              | ((with_reducible refine wp_loadArr (o := ⟨some 96, _, _, _, _, _⟩) ai_points _ rfl rfl hb9u (rowB_size _ _) ?_))
              | ((with_reducible refine at_op none (.store _ (.tmp 5) _) ?_); refine wpList_storeArr ai_points _ _ rfl rfl rfl rfl hb5u (rowB_size _ _) (rowB_size _ _) (rowB_all _ _) ?_; intro w9 hx9 hb9z hs9 ho9))
            refine ret_arr rfl ai_points rfl hb9z (rowB_size _ _) rfl ⟨rfl, (hfz.trans hfu).below hx9 (Nat.le_refl _), ?_⟩
            refine (hmu.at_ (hx9.block r hr)).imp fun k v h => ?_
            rcases h with h | ⟨rfl, rfl⟩
            · exact ⟨h.1, HPP.out k h.2⟩
            · exact ⟨rfl, .inr (Nat.le_refl _)⟩
      · have HQ := hid hq
        rw [hq] at g0
        obtain ⟨a, hta⟩ := Int.eq_ofNat_of_zero_le ha0
        have HA := hid hta
        rw [hta] at g1 hai
        have haN : a < i := by omega
        have a0 : (0 : Int) ≤ a := by omega
        clear hta ha0
        obtain ⟨b, htb⟩ := Int.eq_ofNat_of_zero_le hb0
        have HBB := hid htb
        rw [htb] at g2 hbi
        have hbN : b < i := by omega
        have b0 : (0 : Int) ≤ b := by omega
        clear htb hb0
        clear hq
        have i1 := e1
        have i2 := e2
        have i3 := e3
        have h5w := hb5
        go_upto_region 6 with ((with_reducible refine wpList_allocArr (o := ⟨some 9, _, _, _, _, _⟩) zi_points rfl rfl ?_); intro w5 hx5 hb9 hs5)
        have hn9 : (w3.alloc (.cells #[.int .i64 6, .int .i64 (a : Int), .int .i64 (b : Int)] 95)).heap.size = w3.heap.size + 1 := by simp
        rw [hn9] at hb9
        go_wp2_with fail
        go_loopw [23] (fun x ws => ∃ k : Nat, k ≤ 512 ∧ x = .int .i64 k ∧ Blk ws (w3.heap.size + 1) 31 (rowB 512 fun j => decide (j < k) && false) ∧ Ext (w3.alloc (.cells #[.int .i64 6, .int .i64 (a : Int), .int .i64 (b : Int)] 95)) ws) (fun x _ => 512 - (intOf x).toNat)
        case atStart =>
          refine ⟨0, by omega, rfl, ?_, hx5⟩
          rwa [rowB_congr (q := fun j => decide (j < 0) && false) (fun j _ => by simp)] at hb9
        case round =>
          clear hb9 hx5 hs5
          obtain ⟨k, hk, rfl, hb9, hxl⟩ := hrel
          have c0 : wr.cell? ⟨w3.heap.size, 0, none⟩ = some (.int .i64 6) := hxl.cell (by go_simp)
          have c1 : wr.cell? ⟨w3.heap.size, 1, none⟩ = some (.int .i64 (a : Int)) := hxl.cell (by go_simp)
          have c2 : wr.cell? ⟨w3.heap.size, 2, none⟩ = some (.int .i64 (b : Int)) := hxl.cell (by go_simp)
          by_cases hlk2 : k < 512
          · have k0 : (0 : Int) ≤ k := by omega
            have k4 : (k : Int) < 512 := by omega
            have hck := hb9.cell (rowB_get _ hlk2)
            have hzk := hb9.frozen k
            go_wp2_with fail
            have hs' := hb9.setB k false
            go_roundw
            case rel =>
              refine ⟨k + 1, by omega, by go_num, ?_, hxl.setCell (by rw [hn9]; exact Nat.le_refl _) _⟩
              rwa [rowB_congr (q := fun j => decide (j < k + 1) && false) (fun j _ => by
                by_cases hj : j = k
                · subst hj; simp
                · rw [if_neg hj]
                  have : (decide (j < k) : Bool) = decide (j < k + 1) := by rw [decide_eq_decide]; omega
                  rw [this])] at hs'
            case measure => simp [intOf]; omega
          · obtain rfl : k = 512 := by omega
            have hxw : Ext w3 wr := ((Ext.refl w3).alloc _).trans hxl
            have hfz : Fr r w wr := hf3.trans (.of_ext hxw)
            have hmz := hm3.ext hxw
            replace e1 := hxw.cell e1
            replace e2 := hxw.cell e2
            replace e3 := hxw.cell e3
            replace hb5 := hb5.ext hxw
            rw [rowB_congr (q := fun _ => false) (fun j hj => by simp [hj])] at hb9
            rw [show ((512 : Nat) : Int) = 512 from rfl]
            obtain ⟨cz, hcz⟩ : ∃ cs : List Value, cs = (rowB 512 fun _ => false).toList := ⟨_, rfl⟩
            obtain ⟨cr, hcr⟩ : ∃ cs : List Value, cs = (rowB 512 (fun j => sayAt l a j || sayAt l b j)).toList := ⟨_, rfl⟩
            have hu := Try.underlying31
            have hi1 : (Try.prog.info? 31).map (·.size) = some cz.length := by rw [hcz, Array.length_toList, rowB_size]; exact ai_points.2
            have hi2 : (Try.prog.info? 31).map (·.size) = some cr.length := by rw [hcr, Array.length_toList, rowB_size]; exact ai_points.2
            have hlr : cr.length = 512 := by rw [hcr, Array.length_toList, rowB_size]
            have hor : ∀ v ∈ cr, v.oneCell' = true := fun v hv => by
              rw [hcr] at hv
              exact (Array.all_eq_true_iff_forall_mem.1 (rowB_all 512 _)) v (by simpa using hv)
            have HEach := hid (fun w' => each_say6 cr  hcr  w')
            obtain ⟨wv, hwv⟩ : ∃ wv, wv = w3.alloc (.cells #[.int .i64 6, .int .i64 (a : Int), .int .i64 (b : Int)] 95) := ⟨_, rfl⟩
            have hv3 : Ext w3 wv := by rw [hwv]; exact (Ext.refl w3).alloc _
            rw [← hwv] at hxl hn9
            have hmv := hm3.ext hv3
            have v1 : wv.cell? ⟨w3.heap.size, 1, none⟩ = some (.int .i64 (a : Int)) := by rw [hwv]; go_simp
            have v2 : wv.cell? ⟨w3.heap.size, 2, none⟩ = some (.int .i64 (b : Int)) := by rw [hwv]; go_simp
            have HB5 := hid (fun w' (x : Fr r wv w') => x.blk hmv (h5w.ext hv3))
            have HC0 := hid (fun w' (x : Fr r wv w') => x.cell hmv (hv3.cell i3))
            have HC1 := hid (fun w' (x : Fr r wv w') => x.cell hmv v1)
            have HC2 := hid (fun w' (x : Fr r wv w') => x.cell hmv v2)
            have HENV := hid (fun w' (x : Fr r wv w') => (SayEnv.mk (hv3.cell i1) (hv3.cell i2) (hv3.cell i3) (e4.ext RTrip.mono hv3) : SayEnv B wv r bk bl bs _ c l).fr x hmv)
            have HFv := hid (hf3.trans (.of_ext hv3))
            have HN9 := hid hn9
            have HCr := hid hcr
            have HLR := hid hlr
            have HE1 := hid (fun w' (x : Fr r wv w') => x.cell hmv (hv3.cell i1))
            have HIA := hid (hih a haN)
            have HIB := hid (hih b hbN)
            have hyn : Fr r wv wr.drew := .of_ext (hxl.drew)
            have hmn : MapR wr.drew r (fun k v => Told l k v ∧ ((p k ∨ k < i) ∧ k ≠ i)) := (hmz.ext (Ext.refl wr).drew).imp fun k v h => ⟨h.1.1, .inl h.1.2, h.2⟩
            have hbn : ∃ ds, Blk wr.drew (w3.heap.size + 1) 31 ds ∧ ds.size = 512 := ⟨_, hb9.ext (Ext.refl wr).drew, rowB_size _ _⟩
            go_upto_region 17 with fail
            clear hcr hb9 hb5 e1 e2 e3 c0 c1 c2 hmz hfz hxw hxl hih hm3 hf3 hwv hv3 hmv v1 v2 h5w i1 i2 i3 hn9
            go_region_held3 (fun w' => Fr r wv w' ∧ MapR w' r (fun k v => Told l k v ∧ ((p k ∨ k < i) ∧ k ≠ i)) ∧ (∃ ds, Blk w' (w3.heap.size + 1) 31 ds ∧ ds.size = 512) ∧ w'.cell? ⟨bs, 0, none⟩ = some (.func (.func 67) #[] #[.pointer (some ⟨bk, 0, none⟩), .pointer (some ⟨bl, 0, none⟩), .pointer (some ⟨bs, 0, none⟩)]) ∧
                w'.cell? ⟨w3.heap.size, 1, none⟩ = some (.int .i64 (a : Int)) ∧ w'.cell? ⟨w3.heap.size, 2, none⟩ = some (.int .i64 (b : Int)) ∧ w'.there (w3.heap.size + 1) 0 512)
              (first
                | exact ⟨hyn, hmn, hbn, HC0.out _ hyn, HC1.out _ hyn, HC2.out _ hyn, there_of hbn⟩
                | (exact say_store HN9.out HC0.out HC1.out HC2.out hyn hmn hbn cr))
              (first
                | (go_at_call_of 67 (Value.int IntKind.i64 (a : Int)); refine (HIA.out _ r bk bl bs _ c (fun k => (p k ∨ k < i) ∧ k ≠ i) (HENV.out _ hyn) hmn).mono ?_; rintro e w8 ⟨rfl, hfn, hmx⟩; have hbn := blk_fr hfn hmn hbn; have hyn := Fr.trans hyn hfn; have hmn := hmx.imp (S := fun k v => Told l k v ∧ ((p k ∨ k < i) ∧ k ≠ i)) fun k v h => ⟨h.1, h.2.elim id fun hk => ⟨.inr (by omega), by omega⟩⟩)
                | (go_at_call_of 67 (Value.int IntKind.i64 (b : Int)); refine (HIB.out _ r bk bl bs _ c (fun k => (p k ∨ k < i) ∧ k ≠ i) (HENV.out _ hyn) hmn).mono ?_; rintro e w9 ⟨rfl, hfn, hmx⟩; have hbn := blk_fr hfn hmn hbn; have hyn := Fr.trans hyn hfn; have hmn := hmx.imp (S := fun k v => Told l k v ∧ ((p k ∨ k < i) ∧ k ≠ i)) fun k v h => ⟨h.1, h.2.elim id fun hk => ⟨.inr (by omega), by omega⟩⟩)
                | (go_at_call 30; refine (HEach.out _).mono ?_; rintro e w10 ⟨rfl, hxn⟩; have hbn := blk_ext hxn hbn; have hyn := Fr.trans hyn (.of_ext hxn); have hmn := hmn.ext hxn))
            have hyz : Fr r wv (w10.setCells (w3.heap.size + 1) 0 cr) := Fr.setCells (by have := HN9.out; omega) cr 0 _ hyn
            have hmz := (hmn.at_ (heap_setCells_far (w3.heap.size + 1) cr 0 _ r (blk_ne hmn hbn))).imp (S := fun k v => (Told l k v ∧ (p k ∨ k < i)) ∧ k ≠ i) fun k v h => ⟨⟨h.1, h.2.1⟩, h.2.2⟩
            obtain ⟨ds, hd1, hd2⟩ := hbn
            have hb9 : Blk (w10.setCells (w3.heap.size + 1) 0 cr) (w3.heap.size + 1) 31 (rowB 512 (sayAt l i)) := by
              have h := hd1.set_all cr (by rw [HLR.out, hd2])
              have e : cr.toArray = rowB 512 (sayAt l i) := by
                rw [HCr.out, Array.toArray_toList]
                exact rowB_congr fun j _ => by rw [HS.out, say_k6 l i a b _ (by omega) haN hbN HQ.out HA.out HBB.out]
              rw [e] at h
              exact h
            obtain ⟨wz, hwz⟩ : ∃ wz, wz = w10.setCells (w3.heap.size + 1) 0 cr := ⟨_, rfl⟩
            rw [← hwz] at hyz hmz hb9 ⊢
            have hb5 := HB5.out wz hyz
            have e1 := HE1.out wz hyz
            have hfz := HFv.out.trans hyz
            have HPP := hid (fun k (h : p k ∨ k < i) => (show p k ∨ k ≤ i from h.elim .inl fun h => .inr (Nat.le_of_lt h)))
            clear hwz hd1 hd2 hyz hyn hmn hbn hor hlr hi1 hi2 HIA HEach HENV HC0 HC1 HC2
            obtain ⟨wu, hup, hmu, hfu, hsu⟩ := run_updateI (P := Try.prog) um_known Try.underlying3 hmz (.agg (rowB 512 (sayAt l i)))
            have hb9u := hfu.blk hmz hb9
            have hb5u := hfu.blk hmz hb5
            go_wp2_with (first
              | ((with_reducible refine wpList_loadArr (o := ⟨some 95, _, _, _, _, _⟩) ai_points _ rfl rfl rfl hb9 (rowB_size _ _) ?_))
              | ((with_reducible refine wp_loadArr (o := ⟨some 95, _, _, _, _, _⟩) ai_points _ rfl rfl hb9 (rowB_size _ _) ?_))
              | ((with_reducible refine at_op none (.mapUpdate _ _ _ _) ?_); refine wpList_updateI rfl _ _ _ _ rfl rfl rfl rfl hup ?_)
              | ((with_reducible refine wpList_loadArr (o := ⟨some 96, _, _, _, _, _⟩) ai_points _ rfl rfl rfl hb9u (rowB_size _ _) ?_))
              | ((with_reducible refine wp_loadArr (o := ⟨some 96, _, _, _, _, _⟩) ai_points _ rfl rfl hb9u (rowB_size _ _) ?_))
              | ((with_reducible refine at_op none (.store _ (.tmp 5) _) ?_); refine wpList_storeArr ai_points _ _ rfl rfl rfl rfl hb5u (rowB_size _ _) (rowB_size _ _) (rowB_all _ _) ?_; intro w9 hx9 hb9z hs9 ho9))
            refine ret_arr rfl ai_points rfl hb9z (rowB_size _ _) rfl ⟨rfl, (hfz.trans hfu).below hx9 (Nat.le_refl _), ?_⟩
            refine (hmu.at_ (hx9.block r hr)).imp fun k v h => ?_
            rcases h with h | ⟨rfl, rfl⟩
            · exact ⟨h.1, HPP.out k h.2⟩
            · exact ⟨rfl, .inr (Nat.le_refl _)⟩

theorem says_ok (B : Nat) (l : List Node) (hf : FormOk l) : ∀ i, i < l.length → SayOk B l i := by
  intro i
  induction i using Nat.strongRecOn with
  | _ i ih => exact fun hi => says_try B l i hf.hi hi (hf.node i hi) fun j hj => ih j hj (by omega)

end Go.Proofs.Ytiigbcnnapnceaa
