/- Several texts in one: data, readings, plain laws, walks. No condition. -/
import Derived.Test.YtngbfdogiciahaaGreatJoinKnU
import Derived.Test.YtngbfdogiciahaaGreatJoinKnV
import Derived.Test.YtngbfdogiciahaaGreatKnM
import Derived.Test.YtngbfdogiciahaaGreatWalks
import Derived.Test.YtngbfdogiciahaaGreatBase
import Derived.ChangeKeysEq
import Derived.Deep.RegionWith
import Derived.Deep.DeepCutAuto
import Derived.Deep.RegionHeld3
import Derived.Test.YtngbfdogiciahaaGreatJoinKnT
import Derived.Test.YtngbfdogiciahaaGreatJoinKnPl
import Derived.Test.YtngbfdogiciahaaGreatKnJ
namespace Go.Proofs.YtngbfdogiciahaaGreat
open Go Go.RowKit
def vecD (v : List Int) (j : Nat) : DSet := fun s c => decide (1 ≤ c) && decide (s < j) && decide ((c : Int) ≤ vecAt v s)
def vecD2 (v : List Int) (j c0 : Nat) : DSet := fun s c => vecD v j s c || (decide (s = j) && decide (1 ≤ c ∧ c < c0))
def moreD (v : List Int) (l : List Dot) (j : Nat) : DSet := fun s c => vecD v v.length s c || (l.take j).contains ⟨s, c⟩
theorem vecD_step (v : List Int) (j c0 : Nat) (h : 1 ≤ c0) : withD (vecD2 v j c0) j c0 = vecD2 v j (c0 + 1) := by
 funext s c
 simp only [withD, vecD2, Bool.or_assoc]
 congr 1
 rw [Bool.eq_iff_iff]
 simp only [Bool.or_eq_true, Bool.and_eq_true, decide_eq_true_eq]
 omega
theorem moreD_step (v : List Int) (l : List Dot) (j s c : Nat) (hj : j < l.length) (h : l[j] = ⟨(s : Int), (c : Int)⟩) : withD (moreD v l j) s c = moreD v l (j + 1) := by
 funext t d
 simp only [withD, moreD, Bool.or_assoc]
 congr 1
 rw [← List.take_append_getElem hj, h, Bool.eq_iff_iff]
 simp only [Bool.or_eq_true, Bool.and_eq_true, decide_eq_true_eq, List.contains_iff_mem, List.mem_append, List.mem_singleton, Dot.mk.injEq]
 by_cases hm : (⟨(t : Int), (d : Int)⟩ : Dot) ∈ l.take j
 ·simp [hm]
 ·simp only [hm, false_or]
  omega
theorem moreD_has (k : Know) (hk : KnowOk k) (s c : Nat) : moreD k.vec k.more k.more.length s c = hasK k s c := by
 rw [Bool.eq_iff_iff]
 simp only [moreD, vecD, hasK, List.take_length, Bool.or_eq_true, Bool.and_eq_true, decide_eq_true_eq, List.contains_iff_mem]
 constructor
 ·rintro (⟨⟨h1, _⟩, h3⟩ | h)
  ·exact ⟨h1, .inl h3⟩
  ·have := dotOk_iff.1 (hk.more _ h).1
   exact ⟨by simp only at this; omega, .inr h⟩
 ·rintro ⟨h1, h2 | h2⟩
  ·refine .inl ⟨⟨h1, ?_⟩, h2⟩
   apply Nat.lt_of_not_le
   intro hn
   rw [vecAt_out hn] at h2
   omega
  ·exact .inr h2
end Go.Proofs.YtngbfdogiciahaaGreat
namespace Go.Proofs.YtngbfdogiciahaaGreat
open Go Go.RowKit
theorem rangeAt_ext {w w' : World} {b o : Nat} {cs : List Value} (x : Ext w w') (h : w.rangeAt b o cs) : w'.rangeAt b o cs := fun j v hv => x.cell (h j v hv)
theorem Blk.range {w : World} {b : Nat} {e : TypeId} {cs : Array Value} (h : Blk w b e cs) : w.rangeAt b 0 cs.toList := fun j v hv => by
 rw [Nat.zero_add]
 exact h.cell (by rwa [Array.getElem?_toList] at hv)
end Go.Proofs.YtngbfdogiciahaaGreat
namespace Go.Proofs.YtngbfdogiciahaaGreat
open Go Go.RowKit
def underR (a b : RP) : Bool := eqD (andD a.K b.K) a.K && allTo (fun i => (a.P i && b.P i) == a.P i) 512
def noneR (p : RP) : Bool := allTo (fun i => p.P i == false) 512 || eqD p.K (fun _ _ => false)
end Go.Proofs.YtngbfdogiciahaaGreat
namespace Go.Proofs.YtngbfdogiciahaaGreat
open Go Go.RowKit
def vecL (S : DSet) (j : Nat) : List Int := (List.range j).map fun s => (pre S s : Int)
def moreL (S : DSet) (j : Nat) : List Dot := (List.range j).flatMap fun s => moreOf S s
theorem Own.chgT {α : Type} {R : World → List Value → α → Prop} {sz B : Nat} {e : TypeId} {ts : List TypeId} {w w' : World} {base : Nat} {v : Value} {l : List α} (m : Mono B ts R) (h : Own R sz e w base v l) (he : e ∉ ts) (x : Chg B ts w w') : Own R sz e w' base v l := by
 refine h.chg m x fun g hg => x.block g (h.lt hg).2 (.inr fun t ht h2 => ?_)
 rcases h.at_ with ⟨rfl, _⟩ | ⟨g', c, rfl, _, _, hty, _⟩
 ·simp [Value.ownBlock] at hg
 ·simp [Value.ownBlock] at hg
  subst hg
  rw [hty] at h2
  injection h2 with h2
  exact he (h2 ▸ ht)
structure FormEnv (S : DSet) (w wr : World) (vl : List Int) (ml : List Dot) : Prop where
 blk : Blk wr w.heap.size 184 (rowD S)
 r0 : wr.cell? ⟨w.heap.size + 1, 0, none⟩ = some (.slice none 0 0)
 r1 : wr.cell? ⟨w.heap.size + 1, 1, none⟩ = some (.slice none 0 0)
 y0 : wr.frozen? ⟨w.heap.size + 1, 0, none⟩ = false
 y1 : wr.frozen? ⟨w.heap.size + 1, 1, none⟩ = false
 z0 : wr.frozen? ⟨w.heap.size + 1 + 1, 0, none⟩ = false
 z1 : wr.frozen? ⟨w.heap.size + 1 + 1, 1, none⟩ = false
 x : Ext w wr
 vec : ∃ v, wr.cell? ⟨w.heap.size + 1 + 1, 0, none⟩ = some v ∧ Own RInt 1 3 wr (w.heap.size + 1 + 1 + 1) v vl
 more : ∃ m, wr.cell? ⟨w.heap.size + 1 + 1, 1, none⟩ = some m ∧ Own RDot 2 35 wr (w.heap.size + 1 + 1 + 1) m ml
theorem FormEnv.lt {S : DSet} {w wr : World} {vl : List Int} {ml : List Dot} (h : FormEnv S w wr vl ml) : w.heap.size + 1 + 1 < wr.heap.size := by
 obtain ⟨v, hv, _⟩ := h.vec
 exact World.block_lt_of_cell? _ _ hv
theorem FormEnv.ext {S : DSet} {w wr w' : World} {vl : List Int} {ml : List Dot} (h : FormEnv S w wr vl ml) (x : Ext wr w') : FormEnv S w w' vl ml := by
 have hlt := h.lt
 refine ⟨h.blk.ext x, x.cell h.r0, x.cell h.r1, (x.frozenAt (by show w.heap.size + 1 < _; omega)).trans h.y0, (x.frozenAt (by show w.heap.size + 1 < _; omega)).trans h.y1, (x.frozenAt hlt).trans h.z0, (x.frozenAt hlt).trans h.z1, h.x.trans x, ?_, ?_⟩
 ·obtain ⟨v, h1, h2⟩ := h.vec
  exact ⟨v, x.cell h1, h2.ext (B := 0) RInt.mono x⟩
 ·obtain ⟨m, h1, h2⟩ := h.more
  exact ⟨m, x.cell h1, h2.ext (B := 0) RPair.mono x⟩
theorem Sl.take {α : Type} {R : World → List Value → α → Prop} {sz B : Nat} {e : TypeId} {w : World} {A : Option Addr} {l : List α} (h : Sl B e R sz w A l) (n : Nat) : Sl B e R sz w A (l.take n) := by
 intro i x hx
 refine h i x ?_
 rw [List.getElem?_take] at hx
 split at hx
 ·exact hx
 ·cases hx
structure FormEnd (S : DSet) (w wr : World) (Av : Option Addr) (cv : Nat) (Am : Option Addr) (cm : Nat) (vl : List Int) (ml : List Dot) (n : Nat) : Prop where
 r0 : wr.cell? ⟨w.heap.size + 1, 0, none⟩ = some (.slice none 0 0)
 r1 : wr.cell? ⟨w.heap.size + 1, 1, none⟩ = some (.slice none 0 0)
 y0 : wr.frozen? ⟨w.heap.size + 1, 0, none⟩ = false
 y1 : wr.frozen? ⟨w.heap.size + 1, 1, none⟩ = false
 z0 : wr.frozen? ⟨w.heap.size + 1 + 1, 0, none⟩ = false
 x : Ext w wr
 k0 : wr.cell? ⟨w.heap.size + 1 + 1, 0, none⟩ = some (.slice Av n cv)
 k1 : wr.cell? ⟨w.heap.size + 1 + 1, 1, none⟩ = some (.slice Am ml.length cm)
 ov : Own RInt 1 3 wr (w.heap.size + 1 + 1 + 1) (.slice Av 5 cv) vl
 om : Own RDot 2 35 wr (w.heap.size + 1 + 1 + 1) (.slice Am ml.length cm) ml
theorem FormEnd.start {S : DSet} {w wr : World} {Av Am : Option Addr} {cv cm n : Nat} {vl vl' : List Int} {ml ml' : List Dot} (h : FormEnv S w wr vl' ml') (k0 : wr.cell? ⟨w.heap.size + 1 + 1, 0, none⟩ = some (.slice Av n cv)) (k1 : wr.cell? ⟨w.heap.size + 1 + 1, 1, none⟩ = some (.slice Am ml.length cm)) (ov : Own RInt 1 3 wr (w.heap.size + 1 + 1 + 1) (.slice Av 5 cv) vl) (om : Own RDot 2 35 wr (w.heap.size + 1 + 1 + 1) (.slice Am ml.length cm) ml) : FormEnd S w wr Av cv Am cm vl ml n :=
 ⟨h.r0, h.r1, h.y0, h.y1, h.z0, h.x, k0, k1, ov, om⟩
theorem FormEnd.ext {S : DSet} {w wr w' : World} {Av Am : Option Addr} {cv cm n : Nat} {vl : List Int} {ml : List Dot} (h : FormEnd S w wr Av cv Am cm vl ml n) (x : Ext wr w') : FormEnd S w w' Av cv Am cm vl ml n := by
 have hlt : w.heap.size + 1 + 1 < wr.heap.size := World.block_lt_of_cell? _ _ h.k0
 exact ⟨x.cell h.r0, x.cell h.r1, (x.frozenAt (by show w.heap.size + 1 < _; omega)).trans h.y0, (x.frozenAt (by show w.heap.size + 1 < _; omega)).trans h.y1, (x.frozenAt hlt).trans h.z0, h.x.trans x, x.cell h.k0, x.cell h.k1, h.ov.ext (B := 0) RInt.mono x, h.om.ext (B := 0) RPair.mono x⟩
theorem FormEnd.done {S : DSet} {w wr : World} {Av Am : Option Addr} {cv cm n : Nat} {vl : List Int} {ml : List Dot} (h : FormEnd S w wr Av cv Am cm vl ml n) (hl : vl.length = 5) (hn : n ≤ 5) (ht : trim vl = vl.take n) (hv : vl = vecL S 5) (hm : ml = moreL S 5) :
  let w' := (wr.setCell ⟨w.heap.size + 1, 0, none⟩ (.slice Av n cv)).setCell ⟨w.heap.size + 1, 1, none⟩ (.slice Am ml.length cm)
  w'.cell? ⟨w.heap.size + 1, 0, none⟩ = some (.slice Av n cv) ∧ w'.cell? ⟨w.heap.size + 1, 1, none⟩ = some (.slice Am ml.length cm) ∧ IsK 0 w' (.agg #[.slice Av n cv, .slice Am ml.length cm]) (formOf S) ∧ Ext w w' ∧ w'.cell? ⟨w.heap.size + 1 + 1, 0, none⟩ = some (.slice Av n cv) ∧ w'.cell? ⟨w.heap.size + 1 + 1, 1, none⟩ = some (.slice Am ml.length cm) := by
 intro w'
 have e : formOf S = ⟨vl.take n, ml⟩ := by rw [← ht, hv, hm]; rfl
 have el : (vl.take n).length = n := by rw [List.length_take]; omega
 obtain ⟨A, c, hA, hc1, hc2⟩ := h.ov.len
 injection hA with _ _ hA
 subst hA
 refine ⟨cell_off (by omega) (World.cell?_setCell_same _ _ _ h.r0), World.cell?_setCell_same _ _ _ (cell_off (by omega) h.r1), ?_, (h.x.setCell (by dsimp only; omega) _).setCell (by dsimp only; omega) _, cell_ne (by omega) (cell_ne (by omega) h.k0), cell_ne (by omega) (cell_ne (by omega) h.k1)⟩
 rw [e]
 have ov := (h.ov.far (p := ⟨w.heap.size + 1, 0, none⟩) (fun _ _ _ _ h => h) (by dsimp only; omega) (.slice Av n cv)).far (p := ⟨w.heap.size + 1, 1, none⟩) (fun _ _ _ _ h => h) (by dsimp only; omega) (.slice Am ml.length cm)
 have om := (h.om.farPair (p := ⟨w.heap.size + 1, 0, none⟩) (by dsimp only; omega) (.slice Av n cv)).farPair (p := ⟨w.heap.size + 1, 1, none⟩) (by dsimp only; omega) (.slice Am ml.length cm)
 exact IsK.of ⟨Av, cv, by rw [el], by rw [el]; omega, hc2, (ov.sl 0).take n⟩ (om.isSl 0)
end Go.Proofs.YtngbfdogiciahaaGreat
namespace Go.Proofs.YtngbfdogiciahaaGreat
open Go Go.RowKit
def MinOk (k l : Know) (j : Nat) (u : List Int) : Prop := u.length = 5 ∧ ∀ s : Nat, s < 5 → vecAt u s = if s < j then min (vecAt k.vec s) (vecAt l.vec s) else 0
theorem MinOk.start (k l : Know) : MinOk k l 0 [0, 0, 0, 0, 0] := by
 refine ⟨rfl, fun s hs => ?_⟩
 rw [if_neg (by omega)]
 match s, hs with
 | 0, _ => rfl
 | 1, _ => rfl
 | 2, _ => rfl
 | 3, _ => rfl
 | 4, _ => rfl
theorem MinOk.step {k l : Know} {j : Nat} {u : List Int} (h : MinOk k l j u) (hj : j < 5) : MinOk k l (j + 1) (u.set j (min (vecAt k.vec j) (vecAt l.vec j))) := by
 refine ⟨by simp [h.1], fun s hs => ?_⟩
 have e1 := vecAt_set u j s (min (vecAt k.vec j) (vecAt l.vec j)) (by omega) (by omega) (by simp [h.1]; omega)
 rw [Int.toNat_natCast] at e1
 rw [e1]
 by_cases e : s = j
 ·subst e
  rw [if_pos rfl, if_pos (by omega)]
 ·rw [if_neg (by omega), h.2 s hs]
  by_cases g : s < j
  ·rw [if_pos g, if_pos (by omega)]
  ·rw [if_neg g, if_neg (by omega)]
structure MeetEnv (w wr : World) (va0 va1 vb0 vb1 : Value) (g : Nat) (u : List Int) (vd : Value) (dl : List Dot) : Prop where
 a0 : wr.cell? ⟨w.heap.size, 0, none⟩ = some va0
 a1 : wr.cell? ⟨w.heap.size, 1, none⟩ = some va1
 b0 : wr.cell? ⟨w.heap.size + 1, 0, none⟩ = some vb0
 b1 : wr.cell? ⟨w.heap.size + 1, 1, none⟩ = some vb1
 r0 : wr.cell? ⟨w.heap.size + 2, 0, none⟩ = some (.slice none 0 0)
 r1 : wr.cell? ⟨w.heap.size + 2, 1, none⟩ = some (.slice none 0 0)
 y0 : wr.frozen? ⟨w.heap.size + 2, 0, none⟩ = false
 y1 : wr.frozen? ⟨w.heap.size + 2, 1, none⟩ = false
 ty : tyAt wr (w.heap.size + 2) = some 101
 row : Blk wr g 3 (rowI u)
 own : Own RDot 2 35 wr (w.heap.size + 3) vd dl
 x : Ext w wr
 hg : w.heap.size + 2 < g
theorem MeetEnv.lt {w wr : World} {va0 va1 vb0 vb1 : Value} {g : Nat} {u : List Int} {vd : Value} {dl : List Dot} (h : MeetEnv w wr va0 va1 vb0 vb1 g u vd dl) : w.heap.size + 2 < wr.heap.size := World.block_lt_of_cell? _ _ h.r0
theorem MeetEnv.ext {w wr w' : World} {va0 va1 vb0 vb1 : Value} {g : Nat} {u : List Int} {vd : Value} {dl : List Dot} (h : MeetEnv w wr va0 va1 vb0 vb1 g u vd dl) (x : Ext wr w') : MeetEnv w w' va0 va1 vb0 vb1 g u vd dl :=
 ⟨x.cell h.a0, x.cell h.a1, x.cell h.b0, x.cell h.b1, x.cell h.r0, x.cell h.r1, (x.frozenAt h.lt).trans h.y0, (x.frozenAt h.lt).trans h.y1, (tyAt_of (x.blockAt h.lt)).trans h.ty, h.row.ext x, h.own.ext (B := 0) RPair.mono x, h.x.trans x, h.hg⟩
theorem MeetEnv.setRow {w wr : World} {va0 va1 vb0 vb1 : Value} {g : Nat} {u : List Int} {vd : Value} {dl : List Dot} (h : MeetEnv w wr va0 va1 vb0 vb1 g u vd dl) (i : Nat) (n : Int) : MeetEnv w (wr.setCell ⟨g, i, none⟩ (.int .i64 n)) va0 va1 vb0 vb1 g (u.set i n) vd dl := by
 have hg := h.hg
 exact ⟨cell_ne (by omega) h.a0, cell_ne (by omega) h.a1, cell_ne (by omega) h.b0, cell_ne (by omega) h.b1, cell_ne (by omega) h.r0, cell_ne (by omega) h.r1, (World.frozen?_setCell ..).trans h.y0, (World.frozen?_setCell ..).trans h.y1,
  (tyAt_of (Below.heap_setCell wr ⟨g, i, none⟩ _ _ (by show w.heap.size + 2 ≠ g; omega))).trans h.ty, set_rowI h.row i n,
  h.own.chgT (B := 0) (ts := [3]) RPair.mono (by decide) ((Chg.refl wr).setCell (p := ⟨g, i, none⟩) h.row.ty (by simp) _ (Nat.zero_le _)), h.x.setCell (by show w.heap.size ≤ g; omega) _, h.hg⟩
end Go.Proofs.YtngbfdogiciahaaGreat
namespace Go.Proofs.YtngbfdogiciahaaGreat
open Go Go.RowKit
def rowN (S : DSet) (i : Nat) : Nat → Int
 | 0 => 0
 | k + 1 => rowN S i k + ones 64 (wordOf S i k)
def sizeN (S : DSet) : Nat → Int
 | 0 => 0
 | i + 1 => sizeN S i + rowN S i 16
theorem ones_bd : ∀ (f v : Nat), 0 ≤ ones f v ∧ ones f v ≤ f
 | 0, _ => by simp [ones]
 | f + 1, v => by
  have := ones_bd f (v / 2)
  rw [ones]
  split
  ·omega
  ·omega
theorem rowN_bd (S : DSet) (i : Nat) : ∀ k, 0 ≤ rowN S i k ∧ rowN S i k ≤ 64 * k
 | 0 => by simp [rowN]
 | k + 1 => by
  have h1 := rowN_bd S i k
  have h2 := ones_bd 64 (wordOf S i k)
  rw [rowN]; omega
theorem sizeN_bd (S : DSet) : ∀ i, 0 ≤ sizeN S i ∧ sizeN S i ≤ 1024 * i
 | 0 => by simp [sizeN]
 | i + 1 => by
  have h1 := sizeN_bd S i
  have h2 := rowN_bd S i 16
  rw [sizeN]; omega
end Go.Proofs.YtngbfdogiciahaaGreat
namespace Go.Proofs.YtngbfdogiciahaaGreat
open Go
theorem countTo_plus (p : Nat → Bool) (m : Nat) : ∀ n, countTo p (m + n) = countTo p m + countTo (fun b => p (m + b)) n
 | 0 => by simp [countTo]
 | n + 1 => by
  rw [← Nat.add_assoc, countTo, countTo_plus p m n, countTo]
  omega
theorem ones_word (S : DSet) (i k : Nat) : ones 64 (wordOf S i k) = countTo (fun b => S i (64 * k + b)) 64 := by
 rw [ones_count 64 _ (wordOf_lt S i k)]
 apply countTo_congr
 intro b hb
 simp only [wordOf, testBit_ofBits, decide_eq_true hb, Bool.true_and]
theorem rowN_count (S : DSet) (i : Nat) : ∀ k, rowN S i k = countTo (S i) (64 * k)
 | 0 => rfl
 | k + 1 => by rw [rowN, rowN_count S i k, ones_word, Nat.mul_succ, countTo_plus]
theorem countTo_with (p : Nat → Bool) (c : Nat) (h : p c = false) : ∀ n, c < n → countTo (fun b => p b || decide (b = c)) n = countTo p n + 1
 | 0, hc => absurd hc (by omega)
 | n + 1, hc => by
  rw [countTo, countTo]
  by_cases e : c = n
  ·subst e
   rw [countTo_congr (q := p) (fun b hb => by rw [decide_eq_false (show ¬ b = c by omega), Bool.or_false])]
   simp [h]
  ·rw [countTo_with p c h n (by omega), decide_eq_false (show ¬ n = c by omega), Bool.or_false]
   omega
theorem sizeN_congr {S T : DSet} : ∀ n, (∀ s, s < n → ∀ c, c < 1024 → S s c = T s c) → sizeN S n = sizeN T n
 | 0, _ => rfl
 | n + 1, h => by
  rw [sizeN, sizeN, sizeN_congr n (fun s hs => h s (by omega)), rowN_count, rowN_count, countTo_congr (fun c hc => h n (by omega) c hc)]
theorem sizeN_with (S : DSet) (s c : Nat) (hc : c < 1024) (h : S s c = false) : ∀ n, s < n → sizeN (withD S s c) n = sizeN S n + 1
 | 0, hs => absurd hs (by omega)
 | n + 1, hs => by
  rw [sizeN, sizeN]
  by_cases e : s = n
  ·subst e
   rw [sizeN_congr (T := S) s (fun t ht d _ => by simp only [withD]; rw [decide_eq_false (show ¬ t = s by omega)]; simp), rowN_count, rowN_count,
    countTo_congr (q := fun b => S s b || decide (b = c)) (fun b _ => by simp [withD]), countTo_with (S s) c h _ (by omega)]
   omega
  ·rw [sizeN_with S s c hc h n (by omega), rowN_count, rowN_count, countTo_congr (q := S n) (fun b _ => by simp only [withD]; rw [decide_eq_false (show ¬ n = s by omega)]; simp)]
   omega
theorem size_vec2 (v : List Int) (j : Nat) (hj : j < 5) : ∀ m, m ≤ 1000 → sizeN (vecD2 v j (m + 1)) 5 = sizeN (vecD v j) 5 + m
 | 0, _ => by
  rw [sizeN_congr (T := vecD v j) 5 (fun s _ c _ => by
   have : decide (1 ≤ c ∧ c < 0 + 1) = false := decide_eq_false (by omega)
   simp only [vecD2, this, Bool.and_false, Bool.or_false])]
  simp
 | m + 1, hm => by
  rw [← vecD_step v j (m + 1) (by omega), sizeN_with _ _ _ (by omega) (by
   simp [vecD2, vecD]) 5 hj, size_vec2 v j hj m (by omega)]
  push_cast
  omega
theorem size_vec (v : List Int) (hl : v.length ≤ 5) (hv : ∀ n ∈ v, 0 ≤ n ∧ n ≤ 1000) : ∀ j, j ≤ v.length → sizeN (vecD v j) 5 = (v.take j).sum
 | 0, _ => by
  rw [sizeN_congr (T := fun _ _ => false) 5 (fun s _ c _ => by simp [vecD])]
  rfl
 | j + 1, hj => by
  have hjl : j < v.length := by omega
  obtain ⟨h0, h1⟩ := hv _ (List.getElem_mem hjl)
  obtain ⟨m, hm⟩ := Int.eq_ofNat_of_zero_le h0
  rw [hm] at h1
  rw [sizeN_congr (T := vecD2 v j (m + 1)) 5 (fun s _ c _ => by
   have hv := vecAt_in hjl
   rw [hm] at hv
   rw [Bool.eq_iff_iff]
   simp only [vecD2, vecD, Bool.or_eq_true, Bool.and_eq_true, decide_eq_true_eq]
   by_cases e : s = j
   ·subst e; omega
   ·omega), size_vec2 v j (by omega) m (by omega), size_vec v hl hv j (by omega), sum_succ v j hjl, hm]
theorem size_more (k : Know) (hk : KnowOk k) : ∀ j, j ≤ k.more.length → sizeN (moreD k.vec k.more j) 5 = sizeN (vecD k.vec k.vec.length) 5 + j
 | 0, _ => by
  rw [sizeN_congr (T := vecD k.vec k.vec.length) 5 (fun s _ c _ => by simp [moreD])]
  simp
 | j + 1, hj => by
  have hjl : j < k.more.length := by omega
  obtain ⟨hd, hg⟩ := hk.more _ (List.getElem_mem hjl)
  obtain ⟨o1, o2, o3, o4⟩ := dotOk_iff.1 hd
  obtain ⟨s, hs⟩ := Int.eq_ofNat_of_zero_le o1
  obtain ⟨c, hc⟩ := Int.eq_ofNat_of_zero_le (Int.le_trans (show (0 : Int) ≤ 1 by omega) o3)
  rw [hs] at o1 o2 hg
  rw [hc] at o3 o4 hg
  have hdot : k.more[j] = (⟨(s : Int), (c : Int)⟩ : Dot) := Dot.ext' hs hc
  rw [← moreD_step k.vec k.more j s c hjl hdot, sizeN_with _ _ _ (by omega) (by
   rw [← Bool.not_eq_true]
   simp only [moreD, vecD, Bool.or_eq_true, Bool.and_eq_true, decide_eq_true_eq, List.contains_iff_mem]
   rintro (⟨_, h⟩ | h)
   ·omega
   ·obtain ⟨i, hi, e⟩ := List.getElem_of_mem h
    rw [List.length_take] at hi
    rw [List.getElem_take] at e
    have := hk.sorted.lt_at (show i < j by omega) hjl
    rw [e, hdot, dlt_irrefl] at this
    cases this) 5 (by omega), size_more k hk j (by omega)]
  push_cast
  omega
theorem size_has (k : Know) (hk : KnowOk k) : sizeN (hasK k) 5 = countK k := by
 rw [← sizeN_congr (S := moreD k.vec k.more k.more.length) 5 (fun s _ c _ => moreD_has k hk s c), size_more k hk _ (Nat.le_refl _), size_vec k.vec hk.vlen hk.vec _ (Nat.le_refl _), List.take_length, countK, if_pos (knowCheck_iff.2 hk)]
 omega
end Go.Proofs.YtngbfdogiciahaaGreat
