/- The walks of the reference's Form and Formed. -/
import Derived.Test.YtmedmfjhpabfdaaKnU
import Derived.Test.YtmedmfjhpabfdaaKnT
namespace Go.Proofs.Ytmedmfjhpabfdaa
open Go Go.RowKit

def vecL (S : DSet) (j : Nat) : List Int := (List.range j).map fun s => (pre S s : Int)
def moreL (S : DSet) (j : Nat) : List Dot := (List.range j).flatMap fun s => moreOf S s
def moreTo (S : DSet) (s c : Nat) : List Dot := ((List.range c).filter fun c => decide (pre S s + 2 ≤ c) && S s c).map fun (c : Nat) => ⟨(s : Int), (c : Int)⟩
theorem vecL_succ (S : DSet) (j : Nat) : vecL S (j + 1) = vecL S j ++ [(pre S j : Int)] := by simp [vecL, List.range_succ]
theorem vecL_len (S : DSet) (j : Nat) : (vecL S j).length = j := by simp [vecL]
theorem moreL_succ (S : DSet) (j : Nat) : moreL S (j + 1) = moreL S j ++ moreOf S j := by simp [moreL, List.range_succ]
theorem moreTo_start (S : DSet) (s : Nat) : moreTo S s (pre S s + 2) = [] := by
  unfold moreTo
  rw [List.map_eq_nil_iff, List.filter_eq_nil_iff]
  intro c hc
  rw [List.mem_range] at hc
  simp; omega
theorem moreTo_yes (S : DSet) (s c : Nat) (hc : pre S s + 2 ≤ c) (h : S s c = true) : moreTo S s (c + 1) = moreTo S s c ++ [⟨(s : Int), (c : Int)⟩] := by
  unfold moreTo
  rw [List.range_succ, List.filter_append, List.map_append]
  simp [hc, h]
theorem moreTo_no (S : DSet) (s c : Nat) (h : S s c = false) : moreTo S s (c + 1) = moreTo S s c := by
  unfold moreTo
  rw [List.range_succ, List.filter_append, List.map_append]
  simp [h]
theorem moreTo_end (S : DSet) (s c : Nat) (h : c = 1001 ∨ (c = pre S s + 2 ∧ 1001 < c)) : moreTo S s c = moreOf S s := by
  rcases h with rfl | ⟨rfl, h⟩
  · rfl
  · rw [moreTo_start]
    unfold moreOf
    symm
    rw [List.map_eq_nil_iff, List.filter_eq_nil_iff]
    intro c hc
    rw [List.mem_range] at hc
    simp; omega
theorem moreTo_len (S : DSet) (s c : Nat) : (moreTo S s c).length ≤ c := by
  unfold moreTo
  rw [List.length_map]
  exact Nat.le_trans (List.length_filter_le _ _) (by simp)
theorem moreL_len (S : DSet) : ∀ j, (moreL S j).length ≤ 1001 * j
  | 0 => by simp [moreL]
  | j + 1 => by
    rw [moreL_succ, List.length_append]
    have h1 := moreL_len S j
    have h2 := moreTo_len S j 1001
    rw [moreTo_end S j 1001 (.inl rfl)] at h2
    omega
theorem Own.chgT {α : Type} {R : World → List Value → α → Prop} {sz B : Nat} {e : TypeId} {ts : List TypeId} {w w' : World} {base : Nat} {v : Value} {l : List α} (m : Mono B ts R) (h : Own R sz e w base v l) (he : e ∉ ts) (x : Chg B ts w w') : Own R sz e w' base v l := by
  refine h.chg m x fun g hg => x.block g (h.lt hg).2 (.inr fun t ht h2 => ?_)
  rcases h.at_ with ⟨rfl, _⟩ | ⟨g', c, rfl, _, _, hty, _⟩
  · simp [Value.ownBlock] at hg
  · simp [Value.ownBlock] at hg
    subst hg
    rw [hty] at h2
    injection h2 with h2
    exact he (h2 ▸ ht)
/-- where Form stands: its own copy, its result, the set that it builds. -/
structure FormEnv (S : DSet) (w wr : World) (vl : List Int) (ml : List Dot) : Prop where
  blk : Blk wr w.heap.size 83 (rowD S)
  r0 : wr.cell? ⟨w.heap.size + 1, 0, none⟩ = some (.slice none 0 0)
  r1 : wr.cell? ⟨w.heap.size + 1, 1, none⟩ = some (.slice none 0 0)
  y0 : wr.frozen? ⟨w.heap.size + 1, 0, none⟩ = false
  y1 : wr.frozen? ⟨w.heap.size + 1, 1, none⟩ = false
  z0 : wr.frozen? ⟨w.heap.size + 1 + 1, 0, none⟩ = false
  z1 : wr.frozen? ⟨w.heap.size + 1 + 1, 1, none⟩ = false
  x : Ext w wr
  vec : ∃ v, wr.cell? ⟨w.heap.size + 1 + 1, 0, none⟩ = some v ∧ Own RInt 1 3 wr (w.heap.size + 1 + 1 + 1) v vl
  more : ∃ m, wr.cell? ⟨w.heap.size + 1 + 1, 1, none⟩ = some m ∧ Own RDot 2 38 wr (w.heap.size + 1 + 1 + 1) m ml
theorem FormEnv.lt {S : DSet} {w wr : World} {vl : List Int} {ml : List Dot} (h : FormEnv S w wr vl ml) : w.heap.size + 1 + 1 < wr.heap.size := by
  obtain ⟨v, hv, _⟩ := h.vec
  exact World.block_lt_of_cell? _ _ hv
theorem FormEnv.ext {S : DSet} {w wr w' : World} {vl : List Int} {ml : List Dot} (h : FormEnv S w wr vl ml) (x : Ext wr w') : FormEnv S w w' vl ml := by
  have hlt := h.lt
  refine ⟨h.blk.ext x, x.cell h.r0, x.cell h.r1, (x.frozenAt (by show w.heap.size + 1 < _; omega)).trans h.y0, (x.frozenAt (by show w.heap.size + 1 < _; omega)).trans h.y1, (x.frozenAt hlt).trans h.z0, (x.frozenAt hlt).trans h.z1, h.x.trans x, ?_, ?_⟩
  · obtain ⟨v, h1, h2⟩ := h.vec
    exact ⟨v, x.cell h1, h2.ext (B := 0) RInt.mono x⟩
  · obtain ⟨m, h1, h2⟩ := h.more
    exact ⟨m, x.cell h1, h2.ext (B := 0) RPair.mono x⟩
/-- one field written anew, behind an append to its row. -/
theorem FormEnv.setVec {S : DSet} {w wr w1 w2 : World} {vl vl' : List Int} {ml : List Dot} {v : Value} (h : FormEnv S w wr vl ml) (x : Ext wr w1) (b : Below (w.heap.size + 1 + 1 + 1) w1 w2) (c : Chg (w.heap.size + 1 + 1 + 1) [3] w1 w2) (ho : Own RInt 1 3 w2 (w.heap.size + 1 + 1 + 1) v vl') : FormEnv S w (w2.setCell ⟨w.heap.size + 1 + 1, 0, none⟩ v) vl' ml := by
  have h1 := h.ext x
  obtain ⟨m, g1, g2⟩ := h1.more
  have hlt := h1.lt
  refine ⟨(h1.blk.below b (by omega)).far (by dsimp only; omega) _, cell_ne (by omega) ((Below.cell b (by show w.heap.size + 1 < _; omega)).trans h1.r0), cell_ne (by omega) ((Below.cell b (by show w.heap.size + 1 < _; omega)).trans h1.r1), (World.frozen?_setCell ..).trans ((Below.frozen b (by show w.heap.size + 1 < _; omega)).trans h1.y0), (World.frozen?_setCell ..).trans ((Below.frozen b (by show w.heap.size + 1 < _; omega)).trans h1.y1), (World.frozen?_setCell ..).trans ((Below.frozen b (by show w.heap.size + 1 + 1 < _; omega)).trans h1.z0), (World.frozen?_setCell ..).trans ((Below.frozen b (by show w.heap.size + 1 + 1 < _; omega)).trans h1.z1), (h1.x.below b (by omega)).setCell (by dsimp only; omega) _, ⟨v, ?_, ho.far (fun _ _ _ _ h => h) (by dsimp only; omega) _⟩, ⟨m, cell_off (by omega) ((Below.cell b (by show w.heap.size + 1 + 1 < _; omega)).trans g1), (g2.chgT RPair.mono (by decide) c).farPair (by dsimp only; omega) _⟩⟩
  obtain ⟨v0, g3, _⟩ := h1.vec
  exact World.cell?_setCell_same _ _ _ ((Below.cell b (by show w.heap.size + 1 + 1 < _; omega)).trans g3)
theorem FormEnv.setMore {S : DSet} {w wr w1 w2 : World} {vl : List Int} {ml ml' : List Dot} {m : Value} (h : FormEnv S w wr vl ml) (x : Ext wr w1) (b : Below (w.heap.size + 1 + 1 + 1) w1 w2) (c : Chg (w.heap.size + 1 + 1 + 1) [38] w1 w2) (ho : Own RDot 2 38 w2 (w.heap.size + 1 + 1 + 1) m ml') : FormEnv S w (w2.setCell ⟨w.heap.size + 1 + 1, 1, none⟩ m) vl ml' := by
  have h1 := h.ext x
  obtain ⟨v, g1, g2⟩ := h1.vec
  have hlt := h1.lt
  refine ⟨(h1.blk.below b (by omega)).far (by dsimp only; omega) _, cell_ne (by omega) ((Below.cell b (by show w.heap.size + 1 < _; omega)).trans h1.r0), cell_ne (by omega) ((Below.cell b (by show w.heap.size + 1 < _; omega)).trans h1.r1), (World.frozen?_setCell ..).trans ((Below.frozen b (by show w.heap.size + 1 < _; omega)).trans h1.y0), (World.frozen?_setCell ..).trans ((Below.frozen b (by show w.heap.size + 1 < _; omega)).trans h1.y1), (World.frozen?_setCell ..).trans ((Below.frozen b (by show w.heap.size + 1 + 1 < _; omega)).trans h1.z0), (World.frozen?_setCell ..).trans ((Below.frozen b (by show w.heap.size + 1 + 1 < _; omega)).trans h1.z1), (h1.x.below b (by omega)).setCell (by dsimp only; omega) _, ⟨v, cell_off (by omega) ((Below.cell b (by show w.heap.size + 1 + 1 < _; omega)).trans g1), (g2.chgT RInt.mono (by decide) c).far (fun _ _ _ _ h => h) (by dsimp only; omega) _⟩, ⟨m, ?_, ho.farPair (by dsimp only; omega) _⟩⟩
  obtain ⟨m0, g3, _⟩ := h1.more
  exact World.cell?_setCell_same _ _ _ ((Below.cell b (by show w.heap.size + 1 + 1 < _; omega)).trans g3)

theorem Sl.take {α : Type} {R : World → List Value → α → Prop} {sz B : Nat} {e : TypeId} {w : World} {A : Option Addr} {l : List α} (h : Sl B e R sz w A l) (n : Nat) : Sl B e R sz w A (l.take n) := by
  intro i x hx
  refine h i x ?_
  rw [List.getElem?_take] at hx
  split at hx
  · exact hx
  · cases hx
/-- behind the sites: n entries are left. -/
structure FormEnd (S : DSet) (w wr : World) (Av : Option Addr) (cv : Nat) (Am : Option Addr) (cm : Nat) (vl : List Int) (ml : List Dot) (n : Nat) : Prop where
  r0 : wr.cell? ⟨w.heap.size + 1, 0, none⟩ = some (.slice none 0 0)
  r1 : wr.cell? ⟨w.heap.size + 1, 1, none⟩ = some (.slice none 0 0)
  y0 : wr.frozen? ⟨w.heap.size + 1, 0, none⟩ = false
  y1 : wr.frozen? ⟨w.heap.size + 1, 1, none⟩ = false
  z0 : wr.frozen? ⟨w.heap.size + 1 + 1, 0, none⟩ = false
  x : Ext w wr
  k0 : wr.cell? ⟨w.heap.size + 1 + 1, 0, none⟩ = some (.slice Av n cv)
  k1 : wr.cell? ⟨w.heap.size + 1 + 1, 1, none⟩ = some (.slice Am ml.length cm)
  ov : Own RInt 1 3 wr (w.heap.size + 1 + 1 + 1) (.slice Av 5 cv) vl
  om : Own RDot 2 38 wr (w.heap.size + 1 + 1 + 1) (.slice Am ml.length cm) ml
theorem FormEnd.start {S : DSet} {w wr : World} {Av Am : Option Addr} {cv cm n : Nat} {vl vl' : List Int} {ml ml' : List Dot} (h : FormEnv S w wr vl' ml') (k0 : wr.cell? ⟨w.heap.size + 1 + 1, 0, none⟩ = some (.slice Av n cv)) (k1 : wr.cell? ⟨w.heap.size + 1 + 1, 1, none⟩ = some (.slice Am ml.length cm)) (ov : Own RInt 1 3 wr (w.heap.size + 1 + 1 + 1) (.slice Av 5 cv) vl) (om : Own RDot 2 38 wr (w.heap.size + 1 + 1 + 1) (.slice Am ml.length cm) ml) : FormEnd S w wr Av cv Am cm vl ml n :=
  ⟨h.r0, h.r1, h.y0, h.y1, h.z0, h.x, k0, k1, ov, om⟩
theorem FormEnd.ext {S : DSet} {w wr w' : World} {Av Am : Option Addr} {cv cm n : Nat} {vl : List Int} {ml : List Dot} (h : FormEnd S w wr Av cv Am cm vl ml n) (x : Ext wr w') : FormEnd S w w' Av cv Am cm vl ml n := by
  have hlt : w.heap.size + 1 + 1 < wr.heap.size := World.block_lt_of_cell? _ _ h.k0
  exact ⟨x.cell h.r0, x.cell h.r1, (x.frozenAt (by show w.heap.size + 1 < _; omega)).trans h.y0, (x.frozenAt (by show w.heap.size + 1 < _; omega)).trans h.y1, (x.frozenAt hlt).trans h.z0, h.x.trans x, x.cell h.k0, x.cell h.k1, h.ov.ext (B := 0) RInt.mono x, h.om.ext (B := 0) RPair.mono x⟩
theorem FormEnd.done {S : DSet} {w wr : World} {Av Am : Option Addr} {cv cm n : Nat} {vl : List Int} {ml : List Dot} (h : FormEnd S w wr Av cv Am cm vl ml n) (hl : vl.length = 5) (hn : n ≤ 5) (ht : trim vl = vl.take n) (hv : vl = vecL S 5) (hm : ml = moreL S 5) :
    let w' := (wr.setCell ⟨w.heap.size + 1, 0, none⟩ (.slice Av n cv)).setCell ⟨w.heap.size + 1, 1, none⟩ (.slice Am ml.length cm)
    w'.cell? ⟨w.heap.size + 1, 0, none⟩ = some (.slice Av n cv) ∧ w'.cell? ⟨w.heap.size + 1, 1, none⟩ = some (.slice Am ml.length cm) ∧ IsK 0 w' (.agg #[.slice Av n cv, .slice Am ml.length cm]) (formOf S) ∧ Ext w w' ∧ w'.cell? ⟨w.heap.size + 1 + 1, 0, none⟩ = some (.slice Av n cv) ∧ w'.cell? ⟨w.heap.size + 1 + 1, 1, none⟩ = some (.slice Am ml.length cm) := by
  intro w'
  have e : formOf S = ⟨vl.take n, ml⟩ := by rw [← ht, hv, hm]; rfl
  have el : (vl.take n).length = n := by rw [List.length_take]; omega
  obtain ⟨A, c, hA, hc1, hc2⟩ := h.ov.len
  injection hA with _ _ hA
  subst hA
  refine ⟨cell_off (by omega) (World.cell?_setCell_same _ _ _ h.r0), World.cell?_setCell_same _ _ _ (cell_off (by omega) h.r1), ?_, (h.x.setCell (by dsimp only; omega) _).setCell (by dsimp only; omega) _, cell_ne (by omega) (cell_ne (by omega) h.k0), cell_ne (by omega) (cell_ne (by omega) h.k1)⟩
  rw [e]
  have ov := (h.ov.far (p := ⟨w.heap.size + 1, 0, none⟩) (fun _ _ _ _ h => h) (by dsimp only; omega) (.slice Av n cv)).far (p := ⟨w.heap.size + 1, 1, none⟩) (fun _ _ _ _ h => h) (by dsimp only; omega) (.slice Am ml.length cm)
  have om := (h.om.farPair (p := ⟨w.heap.size + 1, 0, none⟩) (by dsimp only; omega) (.slice Av n cv)).farPair (p := ⟨w.heap.size + 1, 1, none⟩) (by dsimp only; omega) (.slice Am ml.length cm)
  exact IsK.of ⟨Av, cv, by rw [el], by rw [el]; omega, hc2, (ov.sl 0).take n⟩ (om.isSl 0)
theorem FormEnd.cut {S : DSet} {w wr : World} {Av Am : Option Addr} {cv cm n : Nat} {vl : List Int} {ml : List Dot} (h : FormEnd S w wr Av cv Am cm vl ml n) (k : Nat) : FormEnd S w (wr.setCell ⟨w.heap.size + 1 + 1, 0, none⟩ (.slice Av k cv)) Av cv Am cm vl ml k :=
  ⟨cell_ne (by omega) h.r0, cell_ne (by omega) h.r1, (World.frozen?_setCell ..).trans h.y0, (World.frozen?_setCell ..).trans h.y1, (World.frozen?_setCell ..).trans h.z0, h.x.setCell (by dsimp only; omega) _, World.cell?_setCell_same _ _ _ h.k0, cell_off (by omega) h.k1, h.ov.far (fun _ _ _ _ h => h) (by dsimp only; omega) _, h.om.farPair (by dsimp only; omega) _⟩

theorem res_form {w : World} {v : Value} {b : Nat} {x y : Value} {tmps : Array Value} (h4 : tmps.getD 2 undef = .pointer (some ⟨b, 0, none⟩)) (h5 : tmps.getD 3 undef = v) (c1 : w.cell? ⟨b, 0, none⟩ = some x) (c2 : w.cell? ⟨b, 1, none⟩ = some y) :
    (results Try.f115 tmps).run Try.prog w = .ok (.tuple #[.agg #[x, y], v]) w := by
  have h4' : tmps[2]?.getD undef = .pointer (some ⟨b, 0, none⟩) := by simpa using h4
  have h5' : tmps[3]?.getD undef = v := by simpa using h5
  simp [results, Try.results115, go_sem, h4', h5', c1, c2]

theorem res_formed {w : World} {v : Value} {b : Nat} {x y : Value} {tmps : Array Value} (h4 : tmps.getD 2 undef = .pointer (some ⟨b, 0, none⟩)) (h5 : tmps.getD 3 undef = v) (c1 : w.cell? ⟨b, 0, none⟩ = some x) (c2 : w.cell? ⟨b, 1, none⟩ = some y) :
    (results Try.f99 tmps).run Try.prog w = .ok (.tuple #[.agg #[x, y], v]) w := by
  have h4' : tmps[2]?.getD undef = .pointer (some ⟨b, 0, none⟩) := by simpa using h4
  have h5' : tmps[3]?.getD undef = v := by simpa using h5
  simp [results, Try.results99, go_sem, h4', h5', c1, c2]

set_option maxRecDepth 100000 in
set_option maxHeartbeats 4000000 in
theorem ref_Form (S : DSet) (w : World) :
    Calls Try.prog 115 #[.agg (rowD S)] w fun e w' => ∃ x, e = .returned (.tuple #[x, .bool (decide ((formOf S).more.length ≤ 60))]) ∧ IsK 0 w' x (formOf S) ∧ Ext w w' := by
  have henv : FormEnv S w (((w.alloc (.cells (rowD S) 83)).alloc (.cells #[.slice none 0 0, .slice none 0 0] 44)).alloc (.cells #[.slice none 0 0, .slice none 0 0] 44)) (vecL S 0) (moreL S 0) :=
    ⟨((Blk.new w _ _).alloc _).alloc _, by go_simp, by go_simp, by go_simp, by go_simp, by go_simp, by go_simp, (((Ext.refl w).alloc _).alloc _).alloc _, ⟨.slice none 0 0, by go_simp, Own.nil⟩, ⟨.slice none 0 0, by go_simp, Own.nil⟩⟩
  go_enter Try.func115, Try.ntmps115
  go_wp2_with fail
  go_loopw [9] (fun i wr => ∃ j : Nat, j ≤ 5 ∧ i = .int .i64 j ∧ FormEnv S w wr (vecL S j) (moreL S j)) (fun i _ => 5 - (intOf i).toNat)
  case atStart => exact ⟨0, Nat.zero_le _, rfl, henv⟩
  case round =>
    clear henv
    obtain ⟨j, hj, rfl, henv⟩ := hrel
    by_cases hlt : j < 5
    · have j0 : (0 : Int) ≤ j := by omega
      have j5 : (j : Int) < 5 := by omega
      have HJ := hid hlt
      clear hj
      go_wp2_with fail
      obtain ⟨wo, rfl⟩ : ∃ wo, wo = wr := ⟨_, rfl⟩
      go_loopw [6] (fun i wr => ∃ n : Nat, n ≤ 1000 ∧ i = .int .i64 n ∧ (∀ c, 1 ≤ c → c ≤ n → S j c = true) ∧ FormEnv S w wr (vecL S j) (moreL S j)) (fun i _ => 1000 - (intOf i).toNat)
      case atStart => exact ⟨0, Nat.zero_le _, rfl, fun c h1 h2 => absurd h1 (by omega), henv⟩
      case round =>
        clear henv
        obtain ⟨n, hn, rfl, hpre, henv⟩ := hrel
        have HPre := hid hpre
        clear hpre
        have hgo : n < 1000 ∧ S j (n + 1) = true ∨ pre S j = n := by
          by_cases h1 : n < 1000
          · cases h2 : S j (n + 1)
            · exact .inr (pre_unique S j n HPre.out hn fun _ => h2)
            · exact .inl ⟨h1, rfl⟩
          · exact .inr (pre_unique S j n HPre.out hn fun h => absurd h h1)
        by_cases h1 : n < 1000
        · have hn1 : (n : Int) < 1000 := by omega
          have HN1 := hid h1
          have hbk := henv.blk
          cases h2 : S j (n + 1)
          · have HP := hid (show pre S j = n from pre_unique S j n HPre.out hn fun _ => h2)
            have H2 := hid h2
            clear hgo h1 h2 HPre
            go_wp2_with ((with_reducible refine wpList_loadArr (o := ⟨some 15, _, _, _, _, _⟩) ai_dots _ rfl rfl rfl hbk (rowD_size _) ?_))
            refine (dots_Has S j (n + 1) wr HJ.out (by have := HN1.out; omega)).mono ?_
            rintro e w1 ⟨rfl, hx1⟩
            rw [H2.out]
            replace henv := henv.ext hx1
            clear hbk hx1
            obtain ⟨v0, k0, hov⟩ := henv.vec
            obtain ⟨A0, c0, rfl, _, _⟩ := hov.len
            have hvl := vecL_len S j
            have z0 := henv.z0
            have hlt3 := henv.lt
            have hxa := (Ext.refl w1).alloc (.cells #[.int .i64 (n : Int)] 3)
            have hova := hov.ext (B := 0) RInt.mono hxa
            have hone : SlInts 0 (w1.alloc (.cells #[.int .i64 (n : Int)] 3)) (some ⟨w1.heap.size, 0, none⟩) [(n : Int)] := Sl.one (cs := [.int .i64 (n : Int)]) rfl rfl rfl
            have k0a := hxa.cell k0
            have z0a := (hxa.frozenAt hlt3).trans z0
            have h63 : (vecL S j).length + [(n : Int)].length ≤ maxLen := by rw [hvl]; simp [maxLen]; omega
            have hby : ((vecL S j).length + [(n : Int)].length) * 8 ≤ 140737488355328 := by rw [hvl]; simp; omega
            have hsz : w.heap.size + 1 + 1 + 1 ≤ (w1.alloc (.cells #[.int .i64 (n : Int)] 3)).heap.size := by rw [World.size_alloc]; omega
            have HVN := hid (show vecL S j ++ [(n : Int)] = vecL S (j + 1) by rw [vecL_succ, HP.out])
            clear hvl z0
            go_wp2_with (at_builtin; refine wpList_app (c := 1) (ys := [(n : Int)]) (B := w.heap.size + 1 + 1 + 1) rfl _ _ rfl ei_int rfl hova (Nat.le_refl _) hsz rfl hone RInt.oneC RInt.mono h63 hby ?_; intro v2 w2 ho2 hch2 hb2 _; rw [HVN.out] at ho2; generalize hv3 : vecL S (j + 1) = vl' at ho2; obtain ⟨A2, c2, rfl, _, _⟩ := ho2.len; have k0b := (Below.cell hb2 (by show w.heap.size + 1 + 1 < _; omega)).trans k0a; have z0b := (Below.frozen hb2 (by show w.heap.size + 1 + 1 < _; omega)).trans z0a)
            have henv2 := henv.setVec hxa hb2 hch2 ho2
            clear henv
            have henv := henv2
            obtain ⟨w3, hw3⟩ : ∃ w3, w3 = w2.setCell ⟨w.heap.size + 1 + 1, 0, none⟩ (.slice A2 vl'.length c2) := ⟨_, rfl⟩
            rw [← hw3] at henv ⊢
            have HV3 := hid hv3.symm
            clear hv3
            clear henv2 k0 hov k0a z0a k0b z0b hxa hova hone hch2 hb2 ho2 hsz h63 hby hw3 hlt3
            obtain ⟨wo, rfl⟩ : ∃ wo, wo = w3 := ⟨_, rfl⟩
            rw [show vl' = vl' from rfl] at henv
            go_loopw [7] (fun i wr => ∃ c : Nat, n + 2 ≤ c ∧ (c ≤ 1001 ∨ c = n + 2) ∧ i = .int .i64 c ∧ FormEnv S w wr vl' (moreL S j ++ moreTo S j c)) (fun i _ => 1001 - (intOf i).toNat)
            case atStart => exact ⟨n + 2, Nat.le_refl _, .inr rfl, by go_num, by rw [← HP.out, moreTo_start, List.append_nil]; exact henv⟩
            case round =>
              clear henv
              obtain ⟨c, hc1, hc2, rfl, henv⟩ := hrel
              by_cases hcl : c ≤ 1000
              · have hci : (c : Int) ≤ 1000 := by omega
                have HC := hid hcl
                have HC1 := hid hc1
                have HML := hid (show (moreL S j ++ moreTo S j c).length ≤ 7000 by
                  rw [List.length_append]
                  have h1 := moreL_len S j
                  have h2 := moreTo_len S j c
                  have := HJ.out
                  omega)
                have hxb := (Ext.refl wr).alloc (.cells #[.int .i64 (j : Int), .int .i64 (c : Int)] 38)
                have henvb := henv.ext hxb
                have hbk := henvb.blk
                clear hc1 hc2
                go_wp2_with ((with_reducible refine wpList_loadArr (o := ⟨some 39, _, _, _, _, _⟩) ai_dots _ rfl rfl rfl hbk (rowD_size _) ?_))
                refine (dots_Has S j c _ HJ.out (by have := HC.out; omega)).mono ?_
                rintro e w4 ⟨rfl, hx4⟩
                replace henv := henvb.ext hx4
                have p0 : w4.cell? ⟨wr.heap.size, 0, none⟩ = some (.int .i64 (j : Int)) := hx4.cell (by go_simp)
                have p1 : w4.cell? ⟨wr.heap.size, 1, none⟩ = some (.int .i64 (c : Int)) := hx4.cell (by go_simp)
                clear hxb henvb hbk hx4
                cases hS : S j c
                · have HM1 := hid (moreTo_no S j c hS)
                  rw [← HM1.out] at henv
                  clear hS
                  go_wp2_with fail
                  go_roundw
                  case rel => exact ⟨c + 1, by have := HC1.out; omega, .inl (by have := HC.out; omega), by go_num, henv⟩
                  case measure => have := HC.out; simp [intOf]; omega
                · have HM1 := hid (show (moreL S j ++ moreTo S j c) ++ [(⟨(j : Int), (c : Int)⟩ : Dot)] = moreL S j ++ moreTo S j (c + 1) by rw [moreTo_yes S j c (by rw [HP.out]; exact HC1.out) hS, List.append_assoc])
                  generalize moreL S j ++ moreTo S j c = ml at *
                  clear hS
                  obtain ⟨v0, k0, hov⟩ := henv.more
                  obtain ⟨A0, c0, rfl, _, _⟩ := hov.len
                  have z0 := henv.z1
                  have hlt3 := henv.lt
                  have hxa := (Ext.refl w4).alloc (.cells #[.int .i64 (j : Int), .int .i64 (c : Int)] 38)
                  have hova := hov.ext (B := 0) RPair.mono hxa
                  have hone : SlDots 0 (w4.alloc (.cells #[.int .i64 (j : Int), .int .i64 (c : Int)] 38)) (some ⟨w4.heap.size, 0, none⟩) [(⟨(j : Int), (c : Int)⟩ : Dot)] := Sl.one (cs := [.int .i64 (j : Int), .int .i64 (c : Int)]) rfl rfl rfl
                  have k0a := hxa.cell k0
                  have z0a := (hxa.frozenAt hlt3).trans z0
                  have hsz : w.heap.size + 1 + 1 + 1 ≤ (w4.alloc (.cells #[.int .i64 (j : Int), .int .i64 (c : Int)] 38)).heap.size := by rw [World.size_alloc]; omega
                  have h63 : ml.length + [(⟨(j : Int), (c : Int)⟩ : Dot)].length ≤ maxLen := by have := HML.out; simp [maxLen]; omega
                  have hby : (ml.length + [(⟨(j : Int), (c : Int)⟩ : Dot)].length) * 16 ≤ 140737488355328 := by have := HML.out; simp; omega
                  clear z0
                  go_wp2_with (at_builtin; refine wpList_app (c := 1) (ys := [(⟨(j : Int), (c : Int)⟩ : Dot)]) (B := w.heap.size + 1 + 1 + 1) rfl _ _ rfl ei_dot rfl hova (Nat.le_refl _) hsz rfl hone RPair.oneC RPair.mono h63 hby ?_; intro v2 w5 ho2 hch2 hb2 _; rw [HM1.out] at ho2; generalize hm3 : moreL S j ++ moreTo S j (c + 1) = ml' at ho2; obtain ⟨A2, c2, rfl, _, _⟩ := ho2.len; have k0b := (Below.cell hb2 (by show w.heap.size + 1 + 1 < _; omega)).trans k0a; have z0b := (Below.frozen hb2 (by show w.heap.size + 1 + 1 < _; omega)).trans z0a)
                  have henv2 := henv.setMore hxa hb2 hch2 ho2
                  have HM3 := hid hm3.symm
                  clear hm3
                  clear henv
                  have henv := henv2
                  clear henv2 k0 hov k0a z0a k0b z0b hxa hova hone hch2 hb2 ho2 hsz h63 hby hlt3
                  go_wp2_with fail
                  go_roundw
                  case rel => exact ⟨c + 1, by have := HC1.out; omega, .inl (by have := HC.out; omega), by go_num, HM3.out ▸ henv⟩
                  case measure => have := HC.out; simp [intOf]; omega
              · have HE := hid (show moreL S j ++ moreTo S j c = moreL S (j + 1) by rw [moreTo_end S j c (by rw [HP.out]; omega), moreL_succ])
                rw [HE.out] at henv
                have hci : decide ((c : Int) ≤ 1000) = false := decide_eq_false (by omega)
                clear hc1 hc2 hcl
                go_wp2_with fail
                go_roundw
                case rel => exact ⟨j + 1, HJ.out, by go_num, HV3.out ▸ henv⟩
                case measure => have := HJ.out; simp [intOf]; omega
          · have H2 := hid h2
            have hnn : (n : Int) + 1 ≤ 1000 := by omega
            clear hgo h1 h2
            go_wp2_with ((with_reducible refine wpList_loadArr (o := ⟨some 15, _, _, _, _, _⟩) ai_dots _ rfl rfl rfl hbk (rowD_size _) ?_))
            refine (dots_Has S j (n + 1) wr HJ.out (by have := HN1.out; omega)).mono ?_
            rintro e w1 ⟨rfl, hx1⟩
            rw [H2.out]
            replace henv := henv.ext hx1
            clear hbk hx1
            go_wp2_with fail
            go_roundw
            case rel => exact ⟨n + 1, by have := HN1.out; omega, by go_num, fun c h1 h2 => by (by_cases h : c = n + 1); (rw [h]; exact H2.out); exact HPre.out c h1 (by omega), henv⟩
            case measure => have := HN1.out; simp [intOf]; omega
        · have HP := hid (show pre S j = n from pre_unique S j n HPre.out hn fun h => absurd h h1)
          have hn1 : decide ((n : Int) < 1000) = false := decide_eq_false (by omega)
          have hn2 : decide (n < 1000) = false := decide_eq_false (by omega)
          clear hgo h1 HPre
          obtain ⟨w1, rfl⟩ : ∃ w1, w1 = wr := ⟨_, rfl⟩
          obtain ⟨v0, k0, hov⟩ := henv.vec
          obtain ⟨A0, c0, rfl, _, _⟩ := hov.len
          have hvl := vecL_len S j
          have z0 := henv.z0
          have hlt3 := henv.lt
          have hxa := (Ext.refl w1).alloc (.cells #[.int .i64 (n : Int)] 3)
          have hova := hov.ext (B := 0) RInt.mono hxa
          have hone : SlInts 0 (w1.alloc (.cells #[.int .i64 (n : Int)] 3)) (some ⟨w1.heap.size, 0, none⟩) [(n : Int)] := Sl.one (cs := [.int .i64 (n : Int)]) rfl rfl rfl
          have k0a := hxa.cell k0
          have z0a := (hxa.frozenAt hlt3).trans z0
          have h63 : (vecL S j).length + [(n : Int)].length ≤ maxLen := by rw [hvl]; simp [maxLen]; omega
          have hby : ((vecL S j).length + [(n : Int)].length) * 8 ≤ 140737488355328 := by rw [hvl]; simp; omega
          have hsz : w.heap.size + 1 + 1 + 1 ≤ (w1.alloc (.cells #[.int .i64 (n : Int)] 3)).heap.size := by rw [World.size_alloc]; omega
          have HVN := hid (show vecL S j ++ [(n : Int)] = vecL S (j + 1) by rw [vecL_succ, HP.out])
          clear hvl z0
          go_wp2_with (at_builtin; refine wpList_app (c := 1) (ys := [(n : Int)]) (B := w.heap.size + 1 + 1 + 1) rfl _ _ rfl ei_int rfl hova (Nat.le_refl _) hsz rfl hone RInt.oneC RInt.mono h63 hby ?_; intro v2 w2 ho2 hch2 hb2 _; rw [HVN.out] at ho2; generalize hv3 : vecL S (j + 1) = vl' at ho2; obtain ⟨A2, c2, rfl, _, _⟩ := ho2.len; have k0b := (Below.cell hb2 (by show w.heap.size + 1 + 1 < _; omega)).trans k0a; have z0b := (Below.frozen hb2 (by show w.heap.size + 1 + 1 < _; omega)).trans z0a)
          have henv2 := henv.setVec hxa hb2 hch2 ho2
          clear henv
          have henv := henv2
          obtain ⟨w3, hw3⟩ : ∃ w3, w3 = w2.setCell ⟨w.heap.size + 1 + 1, 0, none⟩ (.slice A2 vl'.length c2) := ⟨_, rfl⟩
          rw [← hw3] at henv ⊢
          have HV3 := hid hv3.symm
          clear hv3
          clear henv2 k0 hov k0a z0a k0b z0b hxa hova hone hch2 hb2 ho2 hsz h63 hby hw3 hlt3
          obtain ⟨wo, rfl⟩ : ∃ wo, wo = w3 := ⟨_, rfl⟩
          rw [show vl' = vl' from rfl] at henv
          go_loopw [7] (fun i wr => ∃ c : Nat, n + 2 ≤ c ∧ (c ≤ 1001 ∨ c = n + 2) ∧ i = .int .i64 c ∧ FormEnv S w wr vl' (moreL S j ++ moreTo S j c)) (fun i _ => 1001 - (intOf i).toNat)
          case atStart => exact ⟨n + 2, Nat.le_refl _, .inr rfl, by go_num, by rw [← HP.out, moreTo_start, List.append_nil]; exact henv⟩
          case round =>
            clear henv
            obtain ⟨c, hc1, hc2, rfl, henv⟩ := hrel
            by_cases hcl : c ≤ 1000
            · have hci : (c : Int) ≤ 1000 := by omega
              have HC := hid hcl
              have HC1 := hid hc1
              have HML := hid (show (moreL S j ++ moreTo S j c).length ≤ 7000 by
                rw [List.length_append]
                have h1 := moreL_len S j
                have h2 := moreTo_len S j c
                have := HJ.out
                omega)
              have hxb := (Ext.refl wr).alloc (.cells #[.int .i64 (j : Int), .int .i64 (c : Int)] 38)
              have henvb := henv.ext hxb
              have hbk := henvb.blk
              clear hc1 hc2
              go_wp2_with ((with_reducible refine wpList_loadArr (o := ⟨some 39, _, _, _, _, _⟩) ai_dots _ rfl rfl rfl hbk (rowD_size _) ?_))
              refine (dots_Has S j c _ HJ.out (by have := HC.out; omega)).mono ?_
              rintro e w4 ⟨rfl, hx4⟩
              replace henv := henvb.ext hx4
              have p0 : w4.cell? ⟨wr.heap.size, 0, none⟩ = some (.int .i64 (j : Int)) := hx4.cell (by go_simp)
              have p1 : w4.cell? ⟨wr.heap.size, 1, none⟩ = some (.int .i64 (c : Int)) := hx4.cell (by go_simp)
              clear hxb henvb hbk hx4
              cases hS : S j c
              · have HM1 := hid (moreTo_no S j c hS)
                rw [← HM1.out] at henv
                clear hS
                go_wp2_with fail
                go_roundw
                case rel => exact ⟨c + 1, by have := HC1.out; omega, .inl (by have := HC.out; omega), by go_num, henv⟩
                case measure => have := HC.out; simp [intOf]; omega
              · have HM1 := hid (show (moreL S j ++ moreTo S j c) ++ [(⟨(j : Int), (c : Int)⟩ : Dot)] = moreL S j ++ moreTo S j (c + 1) by rw [moreTo_yes S j c (by rw [HP.out]; exact HC1.out) hS, List.append_assoc])
                generalize moreL S j ++ moreTo S j c = ml at *
                clear hS
                obtain ⟨v0, k0, hov⟩ := henv.more
                obtain ⟨A0, c0, rfl, _, _⟩ := hov.len
                have z0 := henv.z1
                have hlt3 := henv.lt
                have hxa := (Ext.refl w4).alloc (.cells #[.int .i64 (j : Int), .int .i64 (c : Int)] 38)
                have hova := hov.ext (B := 0) RPair.mono hxa
                have hone : SlDots 0 (w4.alloc (.cells #[.int .i64 (j : Int), .int .i64 (c : Int)] 38)) (some ⟨w4.heap.size, 0, none⟩) [(⟨(j : Int), (c : Int)⟩ : Dot)] := Sl.one (cs := [.int .i64 (j : Int), .int .i64 (c : Int)]) rfl rfl rfl
                have k0a := hxa.cell k0
                have z0a := (hxa.frozenAt hlt3).trans z0
                have hsz : w.heap.size + 1 + 1 + 1 ≤ (w4.alloc (.cells #[.int .i64 (j : Int), .int .i64 (c : Int)] 38)).heap.size := by rw [World.size_alloc]; omega
                have h63 : ml.length + [(⟨(j : Int), (c : Int)⟩ : Dot)].length ≤ maxLen := by have := HML.out; simp [maxLen]; omega
                have hby : (ml.length + [(⟨(j : Int), (c : Int)⟩ : Dot)].length) * 16 ≤ 140737488355328 := by have := HML.out; simp; omega
                clear z0
                go_wp2_with (at_builtin; refine wpList_app (c := 1) (ys := [(⟨(j : Int), (c : Int)⟩ : Dot)]) (B := w.heap.size + 1 + 1 + 1) rfl _ _ rfl ei_dot rfl hova (Nat.le_refl _) hsz rfl hone RPair.oneC RPair.mono h63 hby ?_; intro v2 w5 ho2 hch2 hb2 _; rw [HM1.out] at ho2; generalize hm3 : moreL S j ++ moreTo S j (c + 1) = ml' at ho2; obtain ⟨A2, c2, rfl, _, _⟩ := ho2.len; have k0b := (Below.cell hb2 (by show w.heap.size + 1 + 1 < _; omega)).trans k0a; have z0b := (Below.frozen hb2 (by show w.heap.size + 1 + 1 < _; omega)).trans z0a)
                have henv2 := henv.setMore hxa hb2 hch2 ho2
                have HM3 := hid hm3.symm
                clear hm3
                clear henv
                have henv := henv2
                clear henv2 k0 hov k0a z0a k0b z0b hxa hova hone hch2 hb2 ho2 hsz h63 hby hlt3
                go_wp2_with fail
                go_roundw
                case rel => exact ⟨c + 1, by have := HC1.out; omega, .inl (by have := HC.out; omega), by go_num, HM3.out ▸ henv⟩
                case measure => have := HC.out; simp [intOf]; omega
            · have HE := hid (show moreL S j ++ moreTo S j c = moreL S (j + 1) by rw [moreTo_end S j c (by rw [HP.out]; omega), moreL_succ])
              rw [HE.out] at henv
              have hci : decide ((c : Int) ≤ 1000) = false := decide_eq_false (by omega)
              clear hc1 hc2 hcl
              go_wp2_with fail
              go_roundw
              case rel => exact ⟨j + 1, HJ.out, by go_num, HV3.out ▸ henv⟩
              case measure => have := HJ.out; simp [intOf]; omega
    · obtain rfl : j = 5 := by omega
      clear hj hlt
      rw [show ((5 : Nat) : Int) = 5 from rfl]
      obtain ⟨v0, k0, hov⟩ := henv.vec
      obtain ⟨m0, k1, hom⟩ := henv.more
      obtain ⟨Av, cv, rfl, hvc, hvm⟩ := hov.len
      obtain ⟨Am, cm, rfl, hmc, hmm⟩ := hom.len
      have hvl := vecL_len S 5
      obtain ⟨vl, hvv⟩ : ∃ vl, vl = vecL S 5 := ⟨_, rfl⟩
      obtain ⟨ml, hml⟩ : ∃ ml, ml = moreL S 5 := ⟨_, rfl⟩
      rw [← hvv] at k0 hov hvc hvl
      rw [← hml] at k1 hom hmc
      have HVV := hid hvv
      have HML := hid hml
      have hmlen : ml.length ≤ 5005 := by rw [hml]; exact moreL_len S 5
      have HVL := hid hvl
      rw [hvl] at k0 hov hvc
      have henv0 := FormEnd.start henv k0 k1 hov hom
      clear henv k0 k1 hov hom hvv hml hvl
      go_wp2_with fail
      go_loopw [49] (fun _ wr => ∃ n : Nat, n ≤ 5 ∧ trim (vl.take n) = trim vl ∧ FormEnd S w wr Av cv Am cm vl ml n) (fun _ wr => match wr.cell? ⟨w.heap.size + 1 + 1, 0, none⟩ with | some (.slice _ n _) => n | _ => 0)
      case atStart => exact ⟨5, Nat.le_refl _, by rw [← HVL.out, List.take_length], henv0⟩
      case round =>
        clear henv0
        obtain ⟨n, hn, ht, henv⟩ := hrel
        have HT := hid ht
        have HN := hid hn
        clear ht
        have k0 := henv.k0
        have z0 := henv.z0
        have HE := hid henv
        have hncv : n ≤ cv := by omega
        clear henv
        by_cases hn0 : n = 0
        · have ep : decide ((0 : Int) < n) = false := decide_eq_false (by omega)
          have ep2 : decide (0 < n) = false := decide_eq_false (by omega)
          have HTT := hid (show trim vl = vl.take n by rw [← HT.out, hn0]; rfl)
          clear hn0
          go_wp2_with fail
          obtain ⟨wc, hwc⟩ : ∃ wc, wc = wr.drew := ⟨_, rfl⟩
          have hec := HE.out.ext (show Ext wr wc by rw [hwc]; exact (Ext.refl _).drew)
          have j0 := hec.k0
          have j1 := hec.k1
          have r0 := hec.r0
          have r1 := hec.r1
          have y0 := hec.y0
          have y1 := hec.y1
          have hdo := hec.done HVL.out HN.out HTT.out HVV.out HML.out
          obtain ⟨bb, hbb⟩ : ∃ bb, bb = decide (ml.length ≤ 60) := ⟨_, rfl⟩
          have eI : decide ((ml.length : Int) ≤ 60) = bb := by rw [hbb, decide_eq_decide]; omega
          have HBB := hid hbb
          have HDO := hid hdo
          clear k0 z0 hec hdo hbb
          refine wp_region_held_drew (S := fun w' => w'.cell? ⟨w.heap.size + 1 + 1, 0, none⟩ = some (.slice Av n cv) ∧ w'.cell? ⟨w.heap.size + 1 + 1, 1, none⟩ = some (.slice Am ml.length cm)) (by kernel_rfl) (by rw [← hwc]; exact ⟨j0, j1⟩) (fun hHeld => ?_)
          rw [← hwc] at hHeld ⊢
          clear hwc
          refine wpAnyH_take (i := 0) (oi := _) (v := ?_) rfl (by kernel_rfl) (by kernel_rfl) (by kernel_rfl) (fun _ _ _ h => h) (Or.inl ⟨by rfl, ?_⟩) (by assumption) ?_
          rotate_left
          · intro w' hSw
            try dsimp only at hSw
            first
              | (go_simp; done)
              | (go_simp; with_reducible rfl)
          simp only [List.getElem_toArray, List.getElem_cons_zero]
          try simp only [Act.put, List.setIfInBounds_toArray, List.set_cons_zero, List.set_cons_succ]
          refine wpAnyH_take (i := 1) (oi := _) (v := ?_) rfl (by kernel_rfl) (by kernel_rfl) (by kernel_rfl) (fun _ _ _ h => h) (Or.inl ⟨by rfl, ?_⟩) (by assumption) ?_
          rotate_left
          · intro w' hSw
            try dsimp only at hSw
            first
              | (go_simp; done)
              | (go_simp; with_reducible rfl)
          simp only [List.getElem_toArray, List.getElem_cons_zero, List.getElem_cons_succ]
          try simp only [Act.put, List.setIfInBounds_toArray, List.set_cons_zero, List.set_cons_succ]
          refine wpAnyH_take (i := 2) (oi := _) (v := ?_) rfl (by kernel_rfl) (by kernel_rfl) (by kernel_rfl) (fun _ _ _ h => h) (Or.inl ⟨by rfl, ?_⟩) (by assumption) ?_
          rotate_left
          · intro w' hSw
            try dsimp only at hSw
            first
              | (go_simp; done)
              | (go_simp; with_reducible rfl)
          simp only [List.getElem_toArray, List.getElem_cons_zero, List.getElem_cons_succ]
          try simp only [Act.put, List.setIfInBounds_toArray, List.set_cons_zero, List.set_cons_succ]
          refine wpAnyH_take (i := 3) (oi := _) (v := ?_) rfl (by kernel_rfl) (by kernel_rfl) (by kernel_rfl) (fun _ _ _ h => h) (Or.inl ⟨by rfl, ?_⟩) (by assumption) ?_
          rotate_left
          · intro w' hSw
            try dsimp only at hSw
            first
              | (go_simp; done)
              | (go_simp; with_reducible rfl)
          simp only [List.getElem_toArray, List.getElem_cons_zero, List.getElem_cons_succ]
          try simp only [Act.put, List.setIfInBounds_toArray, List.set_cons_zero, List.set_cons_succ]
          refine wpAnyH_take (i := 4) (oi := _) (v := ?_) rfl (by kernel_rfl) (by kernel_rfl) (by kernel_rfl) (fun _ _ _ h => h) (Or.inl ⟨by rfl, ?_⟩) (by assumption) ?_
          rotate_left
          · intro w' hSw
            try dsimp only at hSw
            first
              | (go_simp; done)
              | (go_simp; with_reducible rfl)
          simp only [List.getElem_toArray, List.getElem_cons_zero, List.getElem_cons_succ]
          try simp only [Act.put, List.setIfInBounds_toArray, List.set_cons_zero, List.set_cons_succ]
          refine wpAnyH_ready (rs := [5]) (by kernel_rfl) (by simp) ?_
          refine AllReadyH.cons rfl (fun K hK => ?_) AllReadyH.nil
          simp only [List.getElem_toArray, List.getElem_cons_zero, List.getElem_cons_succ]
          go_simp
          obtain ⟨f0, f1, hik, hxw, i0, i1⟩ := HDO.out
          refine hK.out _ _ ⟨i0, i1⟩ (fun hHeld => ?_)
          clear hK K
          try simp only [Act.put, List.setIfInBounds_toArray, List.set_cons_zero, List.set_cons_succ]
          refine wpAnyH_take (i := 6) (oi := _) (v := ?_) rfl (by kernel_rfl) (by kernel_rfl) (by kernel_rfl) (fun _ _ _ h => h) (Or.inl ⟨by rfl, ?_⟩) (by assumption) ?_
          rotate_left
          · intro w' hSw
            try dsimp only at hSw
            first
              | (go_simp; done)
              | (go_simp; with_reducible rfl)
          simp only [List.getElem_toArray, List.getElem_cons_zero, List.getElem_cons_succ]
          try simp only [Act.put, List.setIfInBounds_toArray, List.set_cons_zero, List.set_cons_succ]
          refine wpAnyH_done (by kernel_rfl) ?_ _
          go_wp2_with fail
          refine bodyPost_ret (v := .tuple #[.agg #[.slice Av n cv, .slice Am ml.length cm], .bool bb]) (res_form (b := w.heap.size + 1) rfl rfl f0 f1) rfl ⟨_, ?_, hik, hxw⟩
          rw [HBB.out, HML.out]
          rfl
        · have hl5 := HVL.out
          obtain ⟨b, off, rfl, _, g0⟩ := (HE.out.ov.sl 0).int (i := n - 1) (by omega)
          have hk : n - 1 < vl.length := by omega
          have HL := hid hk
          have HK := hid (show n - 1 + 1 = n by omega)
          generalize hy : vl[n - 1] = y at g0
          have HY := hid hy
          have en : ((n : Int) - 1) = ((n - 1 : Nat) : Int) := by omega
          have ez : (0 : Int) ≤ ((n - 1 : Nat) : Int) := by omega
          have el : ((n - 1 : Nat) : Int) < n := by omega
          have ec : ((n - 1 : Nat) : Int) ≤ cv := by omega
          have ep : decide ((0 : Int) < n) = true := decide_eq_true (by omega)
          have ep2 : decide (0 < n) = true := decide_eq_true (by omega)
          have HN0 := hid hn0
          clear hl5 hk hy
          by_cases h0 : y = 0
          · have HTT := hid (show trim (vl.take (n - 1)) = trim vl by
              have h := trim_zero HL.out (HY.out.trans h0)
              rw [HK.out] at h; rw [← h]; exact HT.out)
            subst h0
            clear hn0
            go_wp2_with fail
            go_roundw
            case rel => exact ⟨n - 1, by have := HN.out; omega, HTT.out, HE.out.cut (n - 1)⟩
            case measure =>
              rw [(HE.out.cut (n - 1)).k0, HE.out.k0]
              have := HN0.out
              show n - 1 < n
              omega
          · have h0' : (y == 0) = false := beq_eq_false_iff_ne.2 h0
            have HTT := hid (show trim vl = vl.take n by
              have h := trim_done HL.out (fun e => h0 (HY.out.symm.trans e))
              rw [HK.out] at h; rw [← HT.out]; exact h)
            clear h0 hn0
            go_wp2_with fail
            obtain ⟨wc, hwc⟩ : ∃ wc, wc = wr.drew := ⟨_, rfl⟩
            have hec := HE.out.ext (show Ext wr wc by rw [hwc]; exact (Ext.refl _).drew)
            have j0 := hec.k0
            have j1 := hec.k1
            have r0 := hec.r0
            have r1 := hec.r1
            have y0 := hec.y0
            have y1 := hec.y1
            have hdo := hec.done HVL.out HN.out HTT.out HVV.out HML.out
            obtain ⟨bb, hbb⟩ : ∃ bb, bb = decide (ml.length ≤ 60) := ⟨_, rfl⟩
            have eI : decide ((ml.length : Int) ≤ 60) = bb := by rw [hbb, decide_eq_decide]; omega
            have HBB := hid hbb
            have HDO := hid hdo
            clear k0 z0 hec hdo hbb
            refine wp_region_held_drew (S := fun w' => w'.cell? ⟨w.heap.size + 1 + 1, 0, none⟩ = some (.slice (some ⟨b, off, none⟩) n cv) ∧ w'.cell? ⟨w.heap.size + 1 + 1, 1, none⟩ = some (.slice Am ml.length cm)) (by kernel_rfl) (by rw [← hwc]; exact ⟨j0, j1⟩) (fun hHeld => ?_)
            rw [← hwc] at hHeld ⊢
            clear hwc
            refine wpAnyH_take (i := 0) (oi := _) (v := ?_) rfl (by kernel_rfl) (by kernel_rfl) (by kernel_rfl) (fun _ _ _ h => h) (Or.inl ⟨by rfl, ?_⟩) (by assumption) ?_
            rotate_left
            · intro w' hSw
              try dsimp only at hSw
              first
                | (go_simp; done)
                | (go_simp; with_reducible rfl)
            simp only [List.getElem_toArray, List.getElem_cons_zero]
            try simp only [Act.put, List.setIfInBounds_toArray, List.set_cons_zero, List.set_cons_succ]
            refine wpAnyH_take (i := 1) (oi := _) (v := ?_) rfl (by kernel_rfl) (by kernel_rfl) (by kernel_rfl) (fun _ _ _ h => h) (Or.inl ⟨by rfl, ?_⟩) (by assumption) ?_
            rotate_left
            · intro w' hSw
              try dsimp only at hSw
              first
                | (go_simp; done)
                | (go_simp; with_reducible rfl)
            simp only [List.getElem_toArray, List.getElem_cons_zero, List.getElem_cons_succ]
            try simp only [Act.put, List.setIfInBounds_toArray, List.set_cons_zero, List.set_cons_succ]
            refine wpAnyH_take (i := 2) (oi := _) (v := ?_) rfl (by kernel_rfl) (by kernel_rfl) (by kernel_rfl) (fun _ _ _ h => h) (Or.inl ⟨by rfl, ?_⟩) (by assumption) ?_
            rotate_left
            · intro w' hSw
              try dsimp only at hSw
              first
                | (go_simp; done)
                | (go_simp; with_reducible rfl)
            simp only [List.getElem_toArray, List.getElem_cons_zero, List.getElem_cons_succ]
            try simp only [Act.put, List.setIfInBounds_toArray, List.set_cons_zero, List.set_cons_succ]
            refine wpAnyH_take (i := 3) (oi := _) (v := ?_) rfl (by kernel_rfl) (by kernel_rfl) (by kernel_rfl) (fun _ _ _ h => h) (Or.inl ⟨by rfl, ?_⟩) (by assumption) ?_
            rotate_left
            · intro w' hSw
              try dsimp only at hSw
              first
                | (go_simp; done)
                | (go_simp; with_reducible rfl)
            simp only [List.getElem_toArray, List.getElem_cons_zero, List.getElem_cons_succ]
            try simp only [Act.put, List.setIfInBounds_toArray, List.set_cons_zero, List.set_cons_succ]
            refine wpAnyH_take (i := 4) (oi := _) (v := ?_) rfl (by kernel_rfl) (by kernel_rfl) (by kernel_rfl) (fun _ _ _ h => h) (Or.inl ⟨by rfl, ?_⟩) (by assumption) ?_
            rotate_left
            · intro w' hSw
              try dsimp only at hSw
              first
                | (go_simp; done)
                | (go_simp; with_reducible rfl)
            simp only [List.getElem_toArray, List.getElem_cons_zero, List.getElem_cons_succ]
            try simp only [Act.put, List.setIfInBounds_toArray, List.set_cons_zero, List.set_cons_succ]
            refine wpAnyH_ready (rs := [5]) (by kernel_rfl) (by simp) ?_
            refine AllReadyH.cons rfl (fun K hK => ?_) AllReadyH.nil
            simp only [List.getElem_toArray, List.getElem_cons_zero, List.getElem_cons_succ]
            go_simp
            obtain ⟨f0, f1, hik, hxw, i0, i1⟩ := HDO.out
            refine hK.out _ _ ⟨i0, i1⟩ (fun hHeld => ?_)
            clear hK K
            try simp only [Act.put, List.setIfInBounds_toArray, List.set_cons_zero, List.set_cons_succ]
            refine wpAnyH_take (i := 6) (oi := _) (v := ?_) rfl (by kernel_rfl) (by kernel_rfl) (by kernel_rfl) (fun _ _ _ h => h) (Or.inl ⟨by rfl, ?_⟩) (by assumption) ?_
            rotate_left
            · intro w' hSw
              try dsimp only at hSw
              first
                | (go_simp; done)
                | (go_simp; with_reducible rfl)
            simp only [List.getElem_toArray, List.getElem_cons_zero, List.getElem_cons_succ]
            try simp only [Act.put, List.setIfInBounds_toArray, List.set_cons_zero, List.set_cons_succ]
            refine wpAnyH_done (by kernel_rfl) ?_ _
            go_wp2_with fail
            refine bodyPost_ret (v := .tuple #[.agg #[.slice (some ⟨b, off, none⟩) n cv, .slice Am ml.length cm], .bool bb]) (res_form (b := w.heap.size + 1) rfl rfl f0 f1) rfl ⟨_, ?_, hik, hxw⟩
            rw [HBB.out, HML.out]
            rfl

theorem ref_Formed (S : DSet) (w : World) :
    Calls Try.prog 99 #[.agg (rowD S)] w fun e w' => ∃ x, e = .returned (.tuple #[x, .int .i64 (toldErr (formOf S))]) ∧ IsK 0 w' x (toldKn (formOf S)) ∧ Ext w w' := by
  have hx := ((Ext.refl w).alloc (.cells (rowD S) 83)).alloc (.cells #[.slice none 0 0, .slice none 0 0] 44)
  have hbk := (Blk.new w 83 (rowD S)).alloc (.cells #[.slice none 0 0, .slice none 0 0] 44)
  go_enter Try.func99, Try.ntmps99
  go_wp2_with ((with_reducible refine wpList_loadArr (o := ⟨some 7, _, _, _, _, _⟩) ai_dots _ rfl rfl rfl hbk (rowD_size _) ?_))
  refine (ref_Form S _).mono ?_
  rintro e w3 ⟨x, rfl, hk, hx3⟩
  have HK := hid hk
  obtain ⟨Av, cv, Am, cm, rfl, k1, k2, k3, k4, hin⟩ := hk
  have r0 : w3.cell? ⟨w.heap.size + 1, 0, none⟩ = some (.slice none 0 0) := hx3.cell (by go_simp)
  have r1 : w3.cell? ⟨w.heap.size + 1, 1, none⟩ = some (.slice none 0 0) := hx3.cell (by go_simp)
  have y0 : w3.frozen? ⟨w.heap.size + 1, 0, none⟩ = false := (hx3.frozenAt (by simp)).trans (by go_simp)
  have y1 : w3.frozen? ⟨w.heap.size + 1, 1, none⟩ = false := (hx3.frozenAt (by simp)).trans (by go_simp)
  have t0 : tyAt w3 (w.heap.size + 1) = some 44 := by
    rw [tyAt_of (hx3.blockAt (by simp))]
    have := heap_alloc_new (w.alloc (.cells (rowD S) 83)) (.cells #[.slice none 0 0, .slice none 0 0] 44)
    rw [World.size_alloc] at this
    unfold tyAt
    rw [this]
  have hlt : w.heap.size + 1 < w3.heap.size := World.block_lt_of_cell? _ _ r0
  have HX := hid (hx.trans hx3)
  obtain ⟨f, hf⟩ : ∃ f, f = formOf S := ⟨_, rfl⟩
  rw [← hf] at hin k1 k3 HK
  have HFF := hid hf
  rw [← hf]
  clear hf
  clear hx hx3 hbk
  have HT0 := hid t0
  have HIN := hid hin
  clear t0 hin
  by_cases hm : f.more.length ≤ 60
  · have HE := hid (show toldErr f = 0 from if_pos hm)
    have HF := hid (show toldKn f = f from if_pos hm)
    have hd : decide (f.more.length ≤ 60) = true := decide_eq_true hm
    clear hm
    go_wp2_with fail
    refine bodyPost_ret (v := .tuple #[.agg #[.slice Av f.vec.length cv, .slice Am f.more.length cm], .int .i64 0]) ?_ rfl ⟨.agg #[.slice Av f.vec.length cv, .slice Am f.more.length cm], by rw [← HFF.out, HE.out], ?_, ?_⟩
    · refine res_formed (b := w.heap.size + 1) rfl rfl ?_ ?_ <;> go_simp
    · rw [← HFF.out, HF.out]
      exact ⟨Av, cv, Am, cm, rfl, k1, k2, k3, k4, (HIN.out.chg (((Chg.refl (ts := [44]) _).setCell (p := ⟨w.heap.size + 1, 0, none⟩) HT0.out (by simp) _ (Nat.zero_le _)).setCell (p := ⟨w.heap.size + 1, 1, none⟩) (tyAt_put HT0.out) (by simp) _ (Nat.zero_le _)) (by decide) (by decide)).ext ((Ext.refl _).alloc _)⟩
    · exact ((HX.out.setCell (by dsimp only; omega) _).setCell (by dsimp only; omega) _).alloc _
  · have HE := hid (show toldErr f = 2 from if_neg hm)
    have HF := hid (show toldKn f = ⟨[], []⟩ from if_neg hm)
    have hd : decide (f.more.length ≤ 60) = false := decide_eq_false hm
    clear hm
    go_wp2_with fail
    refine bodyPost_ret (v := .tuple #[.agg #[.slice none 0 0, .slice none 0 0], .int .i64 2]) ?_ rfl ⟨.agg #[.slice none 0 0, .slice none 0 0], by rw [← HFF.out, HE.out], ?_, ?_⟩
    · refine res_formed (b := w.heap.size + 1) rfl rfl ?_ ?_ <;> go_simp
    · rw [← HFF.out, HF.out]
      exact IsK.empty
    · exact ((HX.out.setCell (by dsimp only; omega) _).setCell (by dsimp only; omega) _).alloc _

end Go.Proofs.Ytmedmfjhpabfdaa
