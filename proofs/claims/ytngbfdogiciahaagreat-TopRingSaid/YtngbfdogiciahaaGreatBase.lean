/- Base: Rep, Data, SpanP, CubeP, FilP, FilQ, KnowP, Open, OpenP, Arr, FilD, KnD, Qext, QextV, KnL, KnowQ, OwnE, Agg, Row, Make, Step in one text: data, readings, plain laws, small walks. No condition. -/
import Derived.ChangeOld
import Derived.ChangeSame
import Derived.Deep.Draws
import Derived.Deep.Fields
import Derived.Deep.MidRow
import Derived.Deep.QuietTactic
import Derived.Deep.RegionLaw
import Derived.Deep.Slices
import Derived.Deep.WholeRow
import Derived.Great.BuildSlice
import Derived.Laws.BitsAllLaws
import Derived.Laws.MakeOwn
import Derived.Laws.Tables
import Derived.Lib.AppendZeros
import Derived.Lib.SmallJoins
import Derived.Maps.AppendAt
import Derived.OpenShut
import Derived.ProofKit
import Derived.ShutString
import Derived.Test.YtngbfdogiciahaaGreatChecked
import Derived.Test.YtngbfdogiciahaaGreatProg
import Derived.WalkKit
namespace Go.Proofs.YtngbfdogiciahaaGreat
open Go Go.RowKit
theorem hid {p : Prop} (h : p) : Hid p := h
theorem ret_bool {a b : Bool} (h : a = b) : Ending.returned (.bool a) = .returned (.bool b) := by rw [h]
theorem ret_int {k : IntKind} {a b : Int} (h : a = b) : Ending.returned (.int k a) = .returned (.int k b) := by rw [h]
theorem len_beq {α : Type} [DecidableEq α] (l : List α) : ((l.length : Int) == 0) = decide (l = []) := by
 cases l with
 | nil => simp
 | cons a l => simp; omega
def Ext (w w' : World) : Prop := Below w.heap.size w w'
namespace Ext
variable {a b c w : World}
theorem refl (w : World) : Ext w w := Below.refl _ _
theorem size (h : Ext a b) : a.heap.size ≤ b.heap.size := Below.size h
theorem trans (h : Ext a b) (k : Ext b c) : Ext a c := Below.trans h (Below.mono k h.size)
theorem alloc (h : Ext a w) (o : Obj) : Ext a (w.alloc o) := Below.alloc h h.size o
theorem drew (h : Ext a w) : Ext a w.drew := Below.drew h
theorem drewN (h : Ext a w) (n : Nat) : Ext a (w.drewN n) := by
 obtain ⟨h1, h2, h3, h4, h5⟩ := h
 exact ⟨h1, h2, h3, h4, h5⟩
theorem setCell (h : Ext a w) {p : Addr} (hp : a.heap.size ≤ p.block) (u : Value) : Ext a (w.setCell p u) := Below.setCell h hp u
theorem below {B : Nat} (h : Ext a w) (k : Below B w b) (hB : a.heap.size ≤ B) : Ext a b := Below.trans h (Below.mono k hB)
theorem cellAt (h : Ext a w) {k o : Nat} (hb : k < a.heap.size) : w.cell? ⟨k, o, none⟩ = a.cell? ⟨k, o, none⟩ := Below.cell (p := ⟨k, o, none⟩) h hb
theorem cell (h : Ext a w) {p : Addr} {u : Value} (hc : a.cell? p = some u) : w.cell? p = some u := (Below.cell h (World.block_lt_of_cell? _ p hc)).trans hc
theorem frozenAt (h : Ext a w) {k o : Nat} (hb : k < a.heap.size) : w.frozen? ⟨k, o, none⟩ = a.frozen? ⟨k, o, none⟩ := Below.frozen (p := ⟨k, o, none⟩) h hb
theorem blockAt (h : Ext a w) {k : Nat} (hb : k < a.heap.size) : w.heap[k]? = a.heap[k]? := Below.block h k hb
theorem cells (h : Ext a w) : ∀ k o, k < a.heap.size → w.cell? ⟨k, o, none⟩ = a.cell? ⟨k, o, none⟩ := fun _ _ hb => h.cellAt hb
end Ext
def tyAt (w : World) (k : Nat) : Option TypeId := match w.heap[k]? with | some (.cells _ e _) => some e | _ => none
theorem tyAt_of {w w' : World} {k : Nat} (h : w'.heap[k]? = w.heap[k]?) : tyAt w' k = tyAt w k := by unfold tyAt; rw [h]
structure Chg (B : Nat) (ts : List TypeId) (w w' : World) : Prop where
 os : w'.os = w.os
 tape : w'.tape = w.tape
 output : w'.output = w.output
 size : w.heap.size ≤ w'.heap.size
 block : ∀ k, k < w.heap.size → (k < B ∨ ∀ t ∈ ts, tyAt w k ≠ some t) → w'.heap[k]? = w.heap[k]?
namespace Chg
variable {B : Nat} {ts us : List TypeId} {a b c w w' : World}
theorem of_ext (h : Ext a b) : Chg B ts a b := ⟨Below.os h, Below.tape h, Below.output h, h.size, fun _ hk _ => h.blockAt hk⟩
theorem refl (w : World) : Chg B ts w w := of_ext (Ext.refl w)
theorem more (h : Chg B ts a b) (hs : ∀ t ∈ ts, t ∈ us) : Chg B us a b := ⟨h.os, h.tape, h.output, h.size, fun k hk hc => h.block k hk (hc.imp id fun g t ht => g t (hs t ht))⟩
theorem trans (h : Chg B ts a b) (k : Chg B ts b c) : Chg B ts a c := by
 refine ⟨k.os.trans h.os, k.tape.trans h.tape, k.output.trans h.output, Nat.le_trans h.size k.size, fun i hi hc => ?_⟩
 have h1 := h.block i hi hc
 refine (k.block i (Nat.lt_of_lt_of_le hi h.size) ?_).trans h1
 rcases hc with hc | hc
 ·exact .inl hc
 ·exact .inr fun t ht => by rw [tyAt_of h1]; exact hc t ht
theorem cell (h : Chg B ts a b) {k o : Nat} {u : Value} (hk : k < B ∨ ∀ t ∈ ts, tyAt a k ≠ some t) (hc : a.cell? ⟨k, o, none⟩ = some u) : b.cell? ⟨k, o, none⟩ = some u :=
 (World.cell?_of_block (w := a) (h.block k (World.block_lt_of_cell? _ _ hc) hk)).trans hc
theorem ext (h : Chg B ts a b) (hB : a.heap.size ≤ B) : Ext a b := ⟨h.os, h.tape, h.output, h.size, fun k hk => h.block k hk (.inl (by omega))⟩
theorem setCell (h : Chg B ts a w) {p : Addr} {t : TypeId} (ht : tyAt w p.block = some t) (hm : t ∈ ts) (u : Value) (hB : B ≤ p.block) : Chg B ts a (w.setCell p u) := by
 refine h.trans ⟨rfl, rfl, rfl, by simp [World.setCell], fun k hk hc => Below.heap_setCell _ _ _ _ ?_⟩
 rintro rfl
 rcases hc with hc | hc
 ·omega
 ·exact hc t hm ht
end Chg
def CellsAt (w : World) (b off : Nat) (cs : List Value) : Prop := ∀ j u, cs[j]? = some u → w.cell? ⟨b, off + j, none⟩ = some u
def Okb (B : Nat) (e : TypeId) (w : World) (b : Nat) : Prop := b < B ∨ tyAt w b = some e
def Sl {α : Type} (B : Nat) (e : TypeId) (R : World → List Value → α → Prop) (sz : Nat) (w : World) (A : Option Addr) (l : List α) : Prop :=
 ∀ i x, l[i]? = some x → ∃ b off cs, A = some ⟨b, off, none⟩ ∧ b < w.heap.size ∧ Okb B e w b ∧ cs.length = sz ∧ CellsAt w b (off + i * sz) cs ∧ R w cs x
def IsSl {α : Type} (B : Nat) (e : TypeId) (R : World → List Value → α → Prop) (sz : Nat) (w : World) (v : Value) (l : List α) : Prop :=
 ∃ A c, v = .slice A l.length c ∧ l.length ≤ c ∧ c ≤ maxLen ∧ Sl B e R sz w A l
def Mono {α : Type} (B : Nat) (ts : List TypeId) (R : World → List Value → α → Prop) : Prop := ∀ (w w' : World) (cs : List Value) (x : α), Chg B ts w w' → R w cs x → R w' cs x
theorem CellsAt.chg {w w' : World} {B : Nat} {ts : List TypeId} {b off : Nat} {cs : List Value} (h : CellsAt w b off cs) (x : Chg B ts w w') (hb : b < B ∨ ∀ t ∈ ts, tyAt w b ≠ some t) : CellsAt w' b off cs :=
 fun j u hj => x.cell hb (h j u hj)
section
variable {α : Type} {B : Nat} {e : TypeId} {ts : List TypeId} {R : World → List Value → α → Prop} {sz : Nat} {w w' : World} {A : Option Addr} {v : Value} {l : List α}
theorem Sl.chg (m : Mono B ts R) (he : e ∉ ts) (h : Sl B e R sz w A l) (x : Chg B ts w w') : Sl B e R sz w' A l := by
 intro i y hy
 obtain ⟨b, off, cs, hA, hb, hk, hl, hc, hR⟩ := h i y hy
 have ho : b < B ∨ ∀ t ∈ ts, tyAt w b ≠ some t := by
  rcases hk with hk | hk
  ·exact .inl hk
  ·refine .inr fun t ht h2 => ?_
   rw [hk] at h2
   injection h2 with h2
   exact he (h2 ▸ ht)
 refine ⟨b, off, cs, hA, Nat.lt_of_lt_of_le hb x.size, ?_, hl, hc.chg x ho, m _ _ _ _ x hR⟩
 rcases hk with hk | hk
 ·exact .inl hk
 ·exact .inr ((tyAt_of (x.block b hb ho)).trans hk)
theorem Sl.ext (m : Mono B [] R) (h : Sl B e R sz w A l) (x : Ext w w') : Sl B e R sz w' A l := h.chg m (by simp) (.of_ext x)
theorem IsSl.chg (m : Mono B ts R) (he : e ∉ ts) (h : IsSl B e R sz w v l) (x : Chg B ts w w') : IsSl B e R sz w' v l := by
 obtain ⟨A, c, hv, h1, h2, hs⟩ := h
 exact ⟨A, c, hv, h1, h2, hs.chg m he x⟩
theorem IsSl.ext (m : Mono B [] R) (h : IsSl B e R sz w v l) (x : Ext w w') : IsSl B e R sz w' v l := h.chg m (by simp) (.of_ext x)
theorem Sl.nil : Sl B e R sz w A ([] : List α) := by
 intro i x h; simp at h
theorem IsSl.nil : IsSl B e R sz w (.slice none 0 0) ([] : List α) := ⟨none, 0, rfl, Nat.le_refl _, Nat.zero_le _, Sl.nil⟩
theorem Sl.at_ (h : Sl B e R sz w A l) {i : Nat} (hi : i < l.length) :
  ∃ b off cs, A = some ⟨b, off, none⟩ ∧ b < w.heap.size ∧ cs.length = sz ∧ CellsAt w b (off + i * sz) cs ∧ R w cs l[i] := by
 obtain ⟨b, off, cs, h1, h2, _, h3, h4, h5⟩ := h i _ (List.getElem?_eq_getElem hi)
 exact ⟨b, off, cs, h1, h2, h3, h4, h5⟩
theorem Sl.old {B' : Nat} (m : ∀ cs x, R w cs x → R w cs x) (h : Sl B e R sz w A l) (hB : B ≤ B') : Sl B' e R sz w A l := by
 intro i y hy
 obtain ⟨b, off, cs, hA, hb, hk, hl, hc, hR⟩ := h i y hy
 exact ⟨b, off, cs, hA, hb, hk.imp (fun h => by omega) id, hl, hc, m _ _ hR⟩
end
def RInt (_ : World) (cs : List Value) (n : Int) : Prop := cs = [.int .i64 n]
theorem RInt.mono {B : Nat} {ts : List TypeId} : Mono B ts RInt := fun _ _ _ _ _ h => h
theorem Sl.int {B : Nat} {e : TypeId} {w : World} {A : Option Addr} {l : List Int} (h : Sl B e RInt 1 w A l) {i : Nat} (hi : i < l.length) : ∃ b off, A = some ⟨b, off, none⟩ ∧ b < w.heap.size ∧ w.cell? ⟨b, off + i, none⟩ = some (.int .i64 l[i]) := by
 obtain ⟨b, off, cs, hA, hb, _, hc, rfl⟩ := h.at_ hi
 have := hc 0 _ rfl
 simp only [Nat.mul_one, Nat.add_zero] at this
 exact ⟨b, off, hA, hb, this⟩
def RPair {α : Type} (f g : α → Int) (_ : World) (cs : List Value) (x : α) : Prop := cs = [.int .i64 (f x), .int .i64 (g x)]
theorem RPair.mono {α : Type} {f g : α → Int} {B : Nat} {ts : List TypeId} : Mono B ts (RPair f g) := fun _ _ _ _ _ h => h
theorem Sl.pair {α : Type} {f g : α → Int} {B : Nat} {e : TypeId} {w : World} {A : Option Addr} {l : List α} (h : Sl B e (RPair f g) 2 w A l) {i : Nat} (hi : i < l.length) :
  ∃ b off, A = some ⟨b, off, none⟩ ∧ b < w.heap.size ∧ w.cell? ⟨b, off + i * 2, none⟩ = some (.int .i64 (f l[i])) ∧ w.cell? ⟨b, off + i * 2 + 1, none⟩ = some (.int .i64 (g l[i])) := by
 obtain ⟨b, off, cs, hA, hb, _, hc, rfl⟩ := h.at_ hi
 have h0 := hc 0 _ rfl
 have h1 := hc 1 _ rfl
 simp only [Nat.add_zero] at h0
 exact ⟨b, off, hA, hb, h0, h1⟩
def RTrip {α : Type} (f g k : α → Int) (_ : World) (cs : List Value) (x : α) : Prop := cs = [.int .i64 (f x), .int .i64 (g x), .int .i64 (k x)]
theorem RTrip.mono {α : Type} {f g k : α → Int} {B : Nat} {ts : List TypeId} : Mono B ts (RTrip f g k) := fun _ _ _ _ _ h => h
def Own {α : Type} (R : World → List Value → α → Prop) (sz : Nat) (e : TypeId) (w : World) (base : Nat) (v : Value) (l : List α) : Prop :=
 ∃ xs : List (List Value), xs.length = l.length ∧ (∀ (i : Nat) (cs : List Value) (x : α), xs[i]? = some cs → l[i]? = some x → cs.length = sz ∧ R w cs x) ∧ w.ownsRow base e sz v l.length xs.flatten
theorem flatten_get {α : Type} (sz : Nat) : ∀ (xs : List (List α)) (_ : ∀ cs ∈ xs, cs.length = sz) (i j : Nat) (cs : List α), xs[i]? = some cs → j < sz → xs.flatten[i * sz + j]? = cs[j]? := by
 intro xs
 induction xs with
 | nil => intro _ i j cs h; simp at h
 | cons y ys ih =>
  intro hl i j cs h hj
  have hy : y.length = sz := hl y (by simp)
  rw [List.flatten_cons]
  cases i with
  | zero =>
   simp at h; subst h
   rw [Nat.zero_mul, Nat.zero_add, List.getElem?_append_left (by omega)]
  | succ i =>
   have h' : ys[i]? = some cs := by simpa using h
   rw [List.getElem?_append_right (by rw [hy, Nat.succ_mul]; omega), hy]
   have e : (i + 1) * sz + j - sz = i * sz + j := by rw [Nat.succ_mul]; omega
   rw [e]
   exact ih (fun c hc => hl c (by simp [hc])) i j cs h' hj
theorem flatten_back {α : Type} (sz : Nat) (hsz : 0 < sz) : ∀ (xs : List (List α)) (_ : ∀ cs ∈ xs, cs.length = sz) (q : Nat) (u : α), xs.flatten[q]? = some u → ∃ cs, xs[q / sz]? = some cs ∧ cs[q % sz]? = some u := by
 intro xs hl q u hq
 have hlen : ∀ (ys : List (List α)), (∀ cs ∈ ys, cs.length = sz) → ys.flatten.length = ys.length * sz := by
  intro ys
  induction ys with
  | nil => simp
  | cons y ys ih => intro h; simp [h y (by simp), ih (fun c hc => h c (by simp [hc])), Nat.succ_mul, Nat.add_comm]
 have hq1 : q < xs.length * sz := by rw [← hlen xs hl]; exact (List.getElem?_eq_some_iff.1 hq).1
 have hd : q / sz < xs.length := Nat.div_lt_of_lt_mul (by rw [Nat.mul_comm]; exact hq1)
 refine ⟨xs[q / sz], List.getElem?_eq_getElem hd, ?_⟩
 rw [← flatten_get sz xs hl (q / sz) (q % sz) _ (List.getElem?_eq_getElem hd) (Nat.mod_lt _ hsz)]
 have : q / sz * sz + q % sz = q := by rw [Nat.mul_comm]; exact Nat.div_add_mod q sz
 rw [this]; exact hq
section
variable {α : Type} {B : Nat} {R : World → List Value → α → Prop} {sz : Nat} {e : TypeId} {w w' : World} {base : Nat} {v : Value} {l : List α}
theorem Own.nil : Own R sz e w base (.slice none 0 0) ([] : List α) := ⟨[], rfl, by intro i cs x h; simp at h, World.ownsRow_nil _ _ _ _⟩
theorem Own.len (h : Own R sz e w base v l) : ∃ A c, v = .slice A l.length c ∧ l.length ≤ c ∧ c ≤ maxLen := by
 obtain ⟨xs, _, _, ho⟩ := h
 rcases ho.2 with ⟨hv, hn⟩ | ⟨g, cap, cur, hv, _, _, h1, h2, _⟩
 ·exact ⟨none, 0, by rw [hv, hn], by omega, Nat.zero_le _⟩
 ·exact ⟨_, cap, hv, h1, h2⟩
theorem Own.at_ (h : Own R sz e w base v l) : (v = .slice none 0 0 ∧ l = []) ∨ ∃ g c, v = .slice (some ⟨g, 0, none⟩) l.length c ∧ base ≤ g ∧ g < w.heap.size ∧ tyAt w g = some e ∧ (∀ o, w.frozen? ⟨g, o, none⟩ = false) ∧
  ∀ i x, l[i]? = some x → ∃ cs, cs.length = sz ∧ CellsAt w g (i * sz) cs ∧ R w cs x := by
 obtain ⟨xs, hx, hR, ho⟩ := h
 have hall : ∀ cs ∈ xs, cs.length = sz := by
  intro cs hcs
  obtain ⟨i, hi, rfl⟩ := List.getElem_of_mem hcs
  exact (hR i _ _ (List.getElem?_eq_getElem hi) (List.getElem?_eq_getElem (by omega))).1
 rcases ho.2 with ⟨rfl, hn⟩ | ⟨g, cap, cur, rfl, hb, hg, h1, h2, h3, h4⟩
 ·exact .inl ⟨rfl, List.eq_nil_of_length_eq_zero hn⟩
 ·refine .inr ⟨g, cap, rfl, hb, (Array.getElem?_eq_some_iff.1 hg).1, by unfold tyAt; rw [hg], fun o => by simp [World.frozen?, hg], ?_⟩
  intro i x hix
  have hil : i < l.length := (List.getElem?_eq_some_iff.1 hix).1
  have hxi : xs[i]? = some xs[i] := List.getElem?_eq_getElem (by omega)
  obtain ⟨hlen, hr⟩ := hR i _ _ hxi hix
  refine ⟨xs[i], hlen, ?_, hr⟩
  intro j u hj
  have hj' : j < sz := by have := (List.getElem?_eq_some_iff.1 hj).1; omega
  have := ho.cells (g := g) rfl (i * sz + j) u (by rw [flatten_get sz xs hall i j _ hxi hj']; exact hj)
  have e1 : (⟨g, 0, none⟩ : Addr).add (i * sz + j) = ⟨g, i * sz + j, none⟩ := by unfold Addr.add; split <;> simp_all
  rwa [e1] at this
theorem Own.isSl (B : Nat) (h : Own R sz e w base v l) : IsSl B e R sz w v l := by
 obtain ⟨A, c, hv, h1, h2⟩ := h.len
 refine ⟨A, c, hv, h1, h2, ?_⟩
 rcases h.at_ with ⟨_, rfl⟩ | ⟨g, c', hv', hb, hlt, ht, _, hc⟩
 ·exact Sl.nil
 ·rw [hv] at hv'
  injection hv' with hA _ _
  subst hA
  intro i x hix
  obtain ⟨cs, h3, h4, h5⟩ := hc i x hix
  exact ⟨g, 0, cs, rfl, hlt, .inr ht, h3, by rw [Nat.zero_add]; exact h4, h5⟩
theorem Own.chg {ts : List TypeId} (m : Mono B ts R) (h : Own R sz e w base v l) (x : Chg B ts w w') (hk : ∀ g, v.ownBlock = some g → w'.heap[g]? = w.heap[g]?) : Own R sz e w' base v l := by
 obtain ⟨xs, hx, hR, ho⟩ := h
 refine ⟨xs, hx, fun i cs y h1 h2 => ⟨(hR i cs y h1 h2).1, m _ _ _ _ x (hR i cs y h1 h2).2⟩, ho.1, ?_⟩
 rcases ho.2 with hn | ⟨g, cap, cur, rfl, hb, hgg, rest⟩
 ·exact .inl hn
 ·exact .inr ⟨g, cap, cur, rfl, hb, (hk g (by simp [Value.ownBlock])).trans hgg, rest⟩
theorem Own.lt (h : Own R sz e w base v l) {g : Nat} (hg : v.ownBlock = some g) : base ≤ g ∧ g < w.heap.size := by
 obtain ⟨xs, _, _, ho⟩ := h
 exact ho.lt g hg
theorem Own.ext (m : Mono B [] R) (h : Own R sz e w base v l) (x : Ext w w') : Own R sz e w' base v l :=
 h.chg m (.of_ext x) fun _ hg => x.blockAt (h.lt hg).2
theorem Own.chg_of (h : Own R sz e w base v l) (hB : B ≤ base) (hg : w.grownBy w' v.ownBlock) : Chg B [e] w w' := by
 refine ⟨hg.os, hg.tape, hg.output, hg.size, fun k hk hc => hg.block k hk fun he => ?_⟩
 rcases h.at_ with ⟨rfl, _⟩ | ⟨g, c, rfl, hb, _, ht, _⟩
 ·simp [Value.ownBlock] at he
 ·simp [Value.ownBlock] at he
  subst he
  rcases hc with hc | hc
  ·omega
  ·exact hc e (by simp) ht
theorem Own.below_of (h : Own R sz e w base v l) (hg : w.grownBy w' v.ownBlock) (hb : base ≤ w.heap.size) : Below base w w' :=
 (Below.refl base w).grown hg hb fun _ hk => (h.lt hk).1
end
def ElemInfo (P : Program) (t e : TypeId) (sz bytes : Nat) : Prop :=
 ∃ i z, P.underlying t = some (.slice e) ∧ P.info? e = some i ∧ i.zero = some z ∧ i.size = sz ∧ i.bytes = bytes ∧ z.cells.size = sz ∧ 0 < sz
theorem ElemInfo.mk_ {P : Program} {t e : TypeId} {z : Value} {sz bytes : Nat} (ht : P.underlying t = some (.slice e)) (hi : (P.info? e).map (fun i => (i.zero, i.size, i.bytes)) = some (some z, sz, bytes)) (hz : z.cells.size = sz) (hs : 0 < sz) : ElemInfo P t e sz bytes := by
 cases h : P.info? e with
 | none => rw [h] at hi; cases hi
 | some i =>
  rw [h] at hi
  simp only [Option.map_some, Option.some.injEq, Prod.mk.injEq] at hi
  exact ⟨i, z, ht, h, hi.1, hi.2.1, hi.2.2, hz, hs⟩
def OneC {α : Type} (R : World → List Value → α → Prop) : Prop := ∀ w cs x, R w cs x → ∀ u ∈ cs, u.oneCell' = true
theorem RInt.oneC : OneC RInt := by rintro w cs x rfl u hu; simp at hu; subst hu; rfl
theorem RPair.oneC {α : Type} {f g : α → Int} : OneC (RPair f g) := by
 rintro w cs x rfl u hu
 simp at hu
 rcases hu with rfl | rfl <;> rfl
theorem RTrip.oneC {α : Type} {f g k : α → Int} : OneC (RTrip f g k) := by
 rintro w cs x rfl u hu
 simp at hu
 rcases hu with rfl | rfl | rfl <;> rfl
section
variable {α : Type} {P : Program} {R : World → List Value → α → Prop} {sz bytes : Nat} {t ty e : TypeId} {w : World} {base B B' : Nat} {v : Value} {l ys : List α} {A : Option Addr} {c : Nat}
theorem run_app_nil (ei : ElemInfo P t e sz bytes) (hown : Own R sz e w base v l) (A : Option Addr) (c : Nat) : (Builtin.append_ #[t, t] ty #[v, .slice A 0 c]).run P w = .ok v w := by
 obtain ⟨i, z, ht, hi, hz, hs, hb, hzs, h0⟩ := ei
 obtain ⟨xs, _, _, ho⟩ := hown
 rcases ho.2 with ⟨rfl, hn⟩ | ⟨g, cap, cur, rfl, _, _, hnc, _⟩
 ·cases A <;> simp [Builtin.append_, run_underlying ht, sizeOf, typeInfo, hi, Builtin.lenOf, Builtin.firstCells, loadCells, loadCellsFrom]
 ·cases A <;> simp [Builtin.append_, run_underlying ht, sizeOf, typeInfo, hi, Builtin.lenOf, Builtin.firstCells, hnc, storeCells, loadCells, loadCellsFrom]
theorem choose_list {β : Type} {p : Nat → β → Prop} : ∀ n : Nat, (∀ i, i < n → ∃ c, p i c) → ∃ zs : List β, zs.length = n ∧ ∀ i c, zs[i]? = some c → p i c := by
 intro n
 induction n with
 | zero => intro _; exact ⟨[], rfl, by simp⟩
 | succ n ih =>
  intro h
  obtain ⟨zs, hl, hz⟩ := ih fun i hi => h i (by omega)
  obtain ⟨c, hc⟩ := h n (by omega)
  refine ⟨zs ++ [c], by simp [hl], fun i d hd => ?_⟩
  by_cases hi : i < n
  ·rw [List.getElem?_append_left (by omega)] at hd; exact hz i d hd
  ·have : i = n := by
    have := (List.getElem?_eq_some_iff.1 hd).1
    simp [hl] at this
    omega
   subst this
   rw [List.getElem?_append_right (by omega), hl, Nat.sub_self] at hd
   simp at hd; subst hd; exact hc
theorem run_app (ei : ElemInfo P t e sz bytes) (hown : Own R sz e w base v l) (hB : B ≤ base) (hb : base ≤ w.heap.size) {e' : TypeId} (hs : Sl B' e' R sz w A ys) (h1 : OneC R) (m : Mono B [e] R)
  (h63 : l.length + ys.length ≤ maxLen) (hby : (l.length + ys.length) * bytes ≤ 140737488355328) :
  ∃ v' w', (Builtin.append_ #[t, t] ty #[v, .slice A ys.length c]).run P w = .ok v' w' ∧ Own R sz e w' base v' (l ++ ys) ∧ w.grownBy w' v.ownBlock ∧ Chg B [e] w w' ∧ Below base w w' := by
 by_cases hy : ys = []
 ·subst hy
  refine ⟨v, w, run_app_nil ei hown A c, by simpa using hown, World.grownBy.refl w _, Chg.refl w, Below.refl _ _⟩
 have hpos : 0 < ys.length := List.length_pos_iff.2 hy
 obtain ⟨b, off, _, rfl, _, _, _⟩ := hs.at_ hpos
 obtain ⟨zs, hzl, hz⟩ := choose_list (p := fun i cs => ∀ x, ys[i]? = some x → cs.length = sz ∧ CellsAt w b (off + i * sz) cs ∧ R w cs x) ys.length (by
  intro i hi
  obtain ⟨b', off', cs, hA, _, h3, h4, h5⟩ := hs.at_ hi
  injection hA with hA
  injection hA with hb' ho' _
  subst hb' ho'
  refine ⟨cs, fun x hx => ?_⟩
  rw [List.getElem?_eq_getElem hi] at hx
  injection hx with hx
  subst hx
  exact ⟨h3, h4, h5⟩)
 have hyi : ∀ i cs, zs[i]? = some cs → ∃ x, ys[i]? = some x := fun i cs h => ⟨ys[i]'(by have := (List.getElem?_eq_some_iff.1 h).1; omega), List.getElem?_eq_getElem _⟩
 have hzall : ∀ cs ∈ zs, cs.length = sz := by
  intro cs hcs
  obtain ⟨i, hi, rfl⟩ := List.getElem_of_mem hcs
  obtain ⟨x, hx⟩ := hyi i _ (List.getElem?_eq_getElem hi)
  exact (hz i _ (List.getElem?_eq_getElem hi) x hx).1
 have hsz0 : 0 < sz := by obtain ⟨_, _, _, _, _, _, _, _, h⟩ := ei; exact h
 have hnews : ∀ j u, zs.flatten[j]? = some u → w.cell? ((⟨b, off, none⟩ : Addr).add j) = some u := by
  intro j u hj
  obtain ⟨cs, h3, h4⟩ := flatten_back sz hsz0 zs hzall j u hj
  obtain ⟨x, hx⟩ := hyi _ _ h3
  have := (hz _ _ h3 x hx).2.1 _ u h4
  have e1 : off + j / sz * sz + j % sz = off + j := by
   have := Nat.div_add_mod j sz
   rw [Nat.mul_comm] at this
   omega
  rw [e1] at this
  unfold Addr.add
  split
  ·subst_vars; simpa using this
  ·exact this
 have hlen : zs.flatten.length = ys.length * sz := by
  rw [← hzl]
  clear hyi hz hnews hzl
  induction zs with
  | nil => simp
  | cons y ys ih => simp [hzall y (by simp), ih (fun c hc => hzall c (by simp [hc])), Nat.succ_mul, Nat.add_comm]
 have hone : ∀ u ∈ zs.flatten, u.oneCell' = true := by
  intro u hu
  obtain ⟨cs, hcs, hu⟩ := List.mem_flatten.1 hu
  obtain ⟨i, hi, rfl⟩ := List.getElem_of_mem hcs
  obtain ⟨x, hx⟩ := hyi i _ (List.getElem?_eq_getElem hi)
  exact h1 _ _ _ (hz i _ (List.getElem?_eq_getElem hi) x hx).2.2 u hu
 obtain ⟨i, z, ht, hi, hz0, hs0, hby0, hzs, _⟩ := ei
 obtain ⟨xs, hxl, hxR, ho⟩ := id hown
 obtain ⟨v', w', hrun, hown', hg, _, _⟩ := run_append_own_at (P := P) w base t ty e i z sz bytes ht hi hz0 hs0 hby0 hzs hsz0 v l.length xs.flatten ho ⟨b, off, none⟩ ys.length c zs.flatten hlen hnews hone h63 hby hb
 have hc : Chg B [e] w w' := hown.chg_of hB hg
 refine ⟨v', w', hrun, ⟨xs ++ zs, by simp [hxl, hzl], ?_, by rw [List.length_append, List.flatten_append]; exact hown'⟩, hg, hc, hown.below_of hg hb⟩
 intro k cs x hk hx
 by_cases hkl : k < l.length
 ·rw [List.getElem?_append_left (by omega)] at hk hx
  exact ⟨(hxR k cs x hk hx).1, m _ _ _ _ hc (hxR k cs x hk hx).2⟩
 ·rw [List.getElem?_append_right (by omega), hxl] at hk
  rw [List.getElem?_append_right (by omega)] at hx
  exact ⟨(hz _ _ hk x hx).1, m _ _ _ _ hc (hz _ _ hk x hx).2.2⟩
theorem wpList_app {ops : Array Oper} {rest : List Oper} {o : Oper} {a : Act} {Q : Exit → Act → World → Prop} (hgd : o.guard = none) (s x : Operand)
  (ho : o.op = .call { callee := .builtin .append, args := #[s, x], argTypes := #[t, t] }) (ei : ElemInfo P t e sz bytes)
  (hs : a.eval s = v) (hown : Own R sz e w base v l) (hB : B ≤ base) (hb : base ≤ w.heap.size) {e' : TypeId} (hx : a.eval x = .slice A ys.length c) (hsl : Sl B' e' R sz w A ys) (h1 : OneC R) (m : Mono B [e] R)
  (h63 : l.length + ys.length ≤ maxLen) (hby : (l.length + ys.length) * bytes ≤ 140737488355328)
  (h : ∀ v' w', Own R sz e w' base v' (l ++ ys) → Chg B [e] w w' → Below base w w' → w.grownBy w' v.ownBlock → wpList P ops Q rest (a.put o.dst v') w') : wpList P ops Q (o :: rest) a w := by
 refine wpList_plain hgd fun K hK => ?_
 obtain ⟨v', w', hr, h2, h3, h4, h5⟩ := run_app (P := P) (t := t) (ty := o.type) (c := c) ei hown hB hb hsl h1 m h63 hby
 unfold Oper.wp execOp
 simp only [ho, resolve, invoke, builtin, Sem.run_bind, Sem.run_pure, Result.andThen_ok, List.map_toArray, List.map_cons, List.map_nil, hs, hx, hr]
 exact hK _ _ (h v' w' h2 h4 h5 h3)
theorem Sl.one {o : World} {cs : List Value} {y : α} (ho : o = w.alloc (.cells cs.toArray e)) (hl : cs.length = sz) (hR : R o cs y) : Sl B e R sz o (some ⟨w.heap.size, 0, none⟩) [y] := by
 subst ho
 intro i x hi
 match i, hi with
 | 0, hi =>
  simp at hi; subst hi
  refine ⟨_, 0, cs, rfl, by simp, .inr (by unfold tyAt; rw [heap_alloc_new]), hl, fun j u hj => ?_, hR⟩
  rw [cell_of_row _ _ _ _ e (0, 0) (heap_alloc_new w _)]
  simpa using hj
end
theorem Own.lit {α : Type} {R : World → List Value → α → Prop} {sz : Nat} {e : TypeId} {w : World} {base : Nat} {cs : List Value} {y : α} (hb : base ≤ w.heap.size) (hl : cs.length = sz) (hR : R (w.alloc (.cells cs.toArray e)) cs y) :
  Own R sz e (w.alloc (.cells cs.toArray e)) base (.slice (some ⟨w.heap.size, 0, none⟩) 1 1) [y] := by
 refine ⟨[cs], rfl, ?_, by simp [hl], .inr ⟨w.heap.size, 1, cs.toArray, rfl, hb, heap_alloc_new w _, Nat.le_refl _, by simp [maxLen], by simp [hl], ?_⟩⟩
 ·intro i c x h1 h2
  match i, h1, h2 with
  | 0, h1, h2 => simp at h1 h2; subst h1 h2; exact ⟨hl, hR⟩
 ·simp [← hl]
theorem flatten_set {α : Type} (sz : Nat) : ∀ (xs : List (List α)) (_ : ∀ cs ∈ xs, cs.length = sz) (i j : Nat) (cs : List α) (u : α), xs[i]? = some cs → j < sz → (xs.set i (cs.set j u)).flatten = xs.flatten.set (i * sz + j) u := by
 intro xs
 induction xs with
 | nil => intro _ i j cs u h; simp at h
 | cons y ys ih =>
  intro hl i j cs u h hj
  have hy : y.length = sz := hl y (by simp)
  cases i with
  | zero =>
   simp at h; subst h
   simp only [List.set_cons_zero, List.flatten_cons, Nat.zero_mul, Nat.zero_add]
   rw [List.set_append_left _ _ (by omega)]
  | succ i =>
   have h' : ys[i]? = some cs := by simpa using h
   simp only [List.set_cons_succ, List.flatten_cons]
   rw [ih (fun c hc => hl c (by simp [hc])) i j cs u h' hj, List.set_append_right _ _ (by rw [hy, Nat.succ_mul]; omega)]
   congr 2
   rw [hy, Nat.succ_mul]; omega
theorem Own.set {α : Type} {R : World → List Value → α → Prop} {sz : Nat} {e : TypeId} {w : World} {base B g c : Nat} {l : List α} (h : Own R sz e w base (.slice (some ⟨g, 0, none⟩) l.length c) l) (m : Mono B [e] R) (hB : B ≤ base)
  {i j : Nat} (hi : i < l.length) (hj : j < sz) (u : Value) (y : α) (hy : ∀ cs, cs.length = sz → R w cs l[i] → R (w.setCell ⟨g, i * sz + j, none⟩ u) (cs.set j u) y) :
  Own R sz e (w.setCell ⟨g, i * sz + j, none⟩ u) base (.slice (some ⟨g, 0, none⟩) l.length c) (l.set i y) ∧ Chg B [e] w (w.setCell ⟨g, i * sz + j, none⟩ u) ∧ Below base w (w.setCell ⟨g, i * sz + j, none⟩ u) := by
 obtain ⟨xs, hx, hR, ho⟩ := id h
 have hxi : xs[i]? = some xs[i] := List.getElem?_eq_getElem (by omega)
 obtain ⟨hlen, hr⟩ := hR i _ _ hxi (List.getElem?_eq_getElem hi)
 have hall : ∀ cs ∈ xs, cs.length = sz := by
  intro cs hcs
  obtain ⟨k, hk, rfl⟩ := List.getElem_of_mem hcs
  exact (hR k _ _ (List.getElem?_eq_getElem hk) (List.getElem?_eq_getElem (by omega))).1
 obtain ⟨ho', hg⟩ := ho.stored (i * sz + j) u
 have hg' : w.grownBy (w.setCell ⟨g, i * sz + j, none⟩ u) (Value.slice (some ⟨g, 0, none⟩) l.length c).ownBlock := hg
 have hc : Chg B [e] w (w.setCell ⟨g, i * sz + j, none⟩ u) := h.chg_of hB hg'
 refine ⟨⟨xs.set i (xs[i].set j u), by simp [hx], ?_, ?_⟩, hc, ?_⟩
 ·intro k cs x hk hxk
  by_cases hki : i = k
  ·subst hki
   rw [List.getElem?_set_self (by omega)] at hk
   rw [List.getElem?_set_self hi] at hxk
   injection hk with hk; injection hxk with hxk
   subst hk hxk
   exact ⟨by simp [hlen], hy _ hlen hr⟩
  ·rw [List.getElem?_set_ne hki] at hk hxk
   exact ⟨(hR k cs x hk hxk).1, m _ _ _ _ hc (hR k cs x hk hxk).2⟩
 ·rw [flatten_set sz xs hall i j _ u hxi hj, List.length_set]
  exact ho'
 ·refine (Below.refl base w).setCell (p := ⟨g, i * sz + j, none⟩) ?_ u
  exact (h.lt (g := g) rfl).1
end Go.Proofs.YtngbfdogiciahaaGreat
namespace Go.Proofs.YtngbfdogiciahaaGreat
open Go Go.RowKit
structure Span where
 fr : Int
 to : Int
deriving DecidableEq, Inhabited
structure Cube where
 yes : Int
 no : Int
deriving DecidableEq, Inhabited
structure Point where
 tags : Int
 num : Int
deriving DecidableEq, Inhabited
structure Box where
 cube : Cube
 spans : List Span
deriving DecidableEq, Inhabited
structure Dot where
 site : Int
 count : Int
deriving DecidableEq, Inhabited
structure Know where
 vec : List Int
 more : List Dot
deriving DecidableEq, Inhabited
structure Part where
 filter : List Box
 know : Know
deriving DecidableEq, Inhabited
abbrev RSpan : World → List Value → Span → Prop := RPair Span.fr Span.to
abbrev RDot : World → List Value → Dot → Prop := RPair Dot.site Dot.count
abbrev SlSpans (B : Nat) := Sl B 137 RSpan 2
abbrev IsSpans (B : Nat) := IsSl B 137 RSpan 2
abbrev IsDots (B : Nat) := IsSl B 35 RDot 2
abbrev IsInts (B : Nat) := IsSl B 3 RInt 1
def spanBad (s : Span) : Bool := decide (s.fr < 0) || decide (32 < s.to) || decide (s.to ≤ s.fr)
def spanGo : Int → List Span → Int
 | _, [] => 0
 | last, s :: r => if spanBad s then 1 else if s.fr ≤ last then 3 else spanGo s.to r
def spanCheck (l : List Span) : Int := if 16 < l.length then 2 else spanGo (-1) l
def lastTo (l : List Span) (k : Nat) : Int := if k = 0 then -1 else (l[k - 1]?.map Span.to).getD 0
theorem spanGo_drop (l : List Span) (k : Nat) (hk : k < l.length) : spanGo (lastTo l k) (l.drop k) = if l[k].fr < 0 ∨ 32 < l[k].to ∨ l[k].to ≤ l[k].fr then 1 else if l[k].fr ≤ lastTo l k then 3 else spanGo (lastTo l (k + 1)) (l.drop (k + 1)) := by
 rw [List.drop_eq_getElem_cons hk, spanGo]
 have : lastTo l (k + 1) = l[k].to := by simp [lastTo, hk]
 rw [this]
 simp [spanBad, or_assoc]
def spanIn : List Span → Int → Bool
 | [], _ => false
 | s :: r, n => if s.fr ≤ n ∧ n < s.to then true else spanIn r n
theorem spanIn_drop (l : List Span) (n : Int) (k : Nat) (hk : k < l.length) : spanIn (l.drop k) n = if l[k].fr ≤ n ∧ n < l[k].to then true else spanIn (l.drop (k + 1)) n := by
 rw [List.drop_eq_getElem_cons hk, spanIn]
def mkStep (p : Int → Bool) (out : List Span) (n : Int) : List Span :=
 if p n then
  match out.getLast? with
  | some s => if s.to = n then out.set (out.length - 1) ⟨s.fr, n + 1⟩ else out ++ [⟨n, n + 1⟩]
  | none => [⟨n, n + 1⟩]
 else out
def mkSpans (p : Int → Bool) : Nat → List Span
 | 0 => []
 | n + 1 => mkStep p (mkSpans p n) n
theorem mkStep_len (p : Int → Bool) (out : List Span) (n : Int) : (mkStep p out n).length ≤ out.length + 1 := by
 unfold mkStep
 split
 ·split
  ·split
   ·simp
   ·simp
  ·simp
 ·omega
theorem mkSpans_len (p : Int → Bool) : ∀ n, (mkSpans p n).length ≤ n
 | 0 => by simp [mkSpans]
 | n + 1 => by
  rw [mkSpans]
  have := mkStep_len p (mkSpans p n) n
  have := mkSpans_len p n
  omega
def SpansOk (l : List Span) : Prop := ∀ s ∈ l, 0 ≤ s.fr ∧ s.fr < s.to ∧ s.to ≤ 32
theorem spanGo_ok : ∀ (l : List Span) (last : Int), spanGo last l = 0 → SpansOk l
 | [], _, _ => by intro s h; simp at h
 | s :: r, last, h => by
  rw [spanGo] at h
  by_cases hb : spanBad s = true
  ·simp [hb] at h
  ·by_cases hl : s.fr ≤ last
   ·simp [hb, hl] at h
   ·have h2 : spanGo s.to r = 0 := by simpa [hb, hl] using h
    intro t ht
    rcases List.mem_cons.1 ht with rfl | ht
    ·simp [spanBad] at hb
     omega
    ·exact spanGo_ok r _ h2 t ht
theorem spanCheck_ok {l : List Span} (h : spanCheck l = 0) : SpansOk l ∧ l.length ≤ 16 := by
 unfold spanCheck at h
 by_cases hl : 16 < l.length
 ·simp [hl] at h
 ·rw [if_neg hl] at h
  exact ⟨spanGo_ok l _ h, by omega⟩
def toldStep (p : Nat → Bool) (out : List Span) (n : Nat) : List Span :=
 if p n then
  match out with
  | s :: r => if s.fr = n + 1 then ⟨n, s.to⟩ :: r else ⟨n, n + 1⟩ :: s :: r
  | [] => [⟨n, n + 1⟩]
 else out
def toldK (p : Nat → Bool) : Nat → List Span
 | 0 => []
 | k + 1 => toldStep p (toldK p k) (31 - k)
def told (p : Nat → Bool) : List Span := toldK p 32
end Go.Proofs.YtngbfdogiciahaaGreat
namespace Go.Proofs.YtngbfdogiciahaaGreat
open Go
def Canon : Int → List Span → Prop
 | _, [] => True
 | lo, s :: r => lo < s.fr ∧ s.fr < s.to ∧ Canon s.to r
theorem Canon.mono : ∀ {l : List Span} {lo lo' : Int}, Canon lo l → lo' ≤ lo → Canon lo' l
 | [], _, _, _, _ => trivial
 | s :: r, lo, lo', h, hl => ⟨by have := h.1; omega, h.2⟩
theorem spanIn_cons (s : Span) (r : List Span) (x : Int) : spanIn (s :: r) x = (decide (s.fr ≤ x ∧ x < s.to) || spanIn r x) := by
 rw [spanIn]
 by_cases h : s.fr ≤ x ∧ x < s.to <;> simp [h]
theorem spanIn_one (s : Span) (x : Int) : spanIn [s] x = decide (s.fr ≤ x ∧ x < s.to) := by
 rw [spanIn_cons, spanIn, Bool.or_false]
theorem spanIn_append (l m : List Span) (x : Int) : spanIn (l ++ m) x = (spanIn l x || spanIn m x) := by
 induction l with
 | nil => simp [spanIn]
 | cons s r ih => rw [List.cons_append, spanIn_cons, spanIn_cons, ih, Bool.or_assoc]
theorem Canon.above : ∀ {l : List Span} {lo x : Int}, Canon lo l → spanIn l x = true → lo < x
 | [], _, _, _, h => by simp [spanIn] at h
 | s :: r, lo, x, hc, h => by
  rw [spanIn_cons, Bool.or_eq_true, decide_eq_true_eq] at h
  rcases h with h | h
  ·have := hc.1; omega
  ·have := Canon.above hc.2.2 h
   have := hc.1; have := hc.2.1; omega
theorem Canon.unique : ∀ {l m : List Span} {lo : Int}, Canon lo l → Canon lo m → (∀ x, spanIn l x = spanIn m x) → l = m
 | [], [], _, _, _, _ => rfl
 | [], t :: q, _, _, hm, h => by
  have := h t.fr
  rw [spanIn_cons] at this
  have h2 := hm.2.1
  simp [spanIn, h2] at this
 | s :: r, [], _, hl, _, h => by
  have := h s.fr
  rw [spanIn_cons] at this
  have h2 := hl.2.1
  simp [spanIn, h2] at this
 | s :: r, t :: q, lo, hl, hm, h => by
  have hin : ∀ (u : Span) (z : List Span) (lo : Int), Canon lo (u :: z) → spanIn (u :: z) u.fr = true := by
   intro u z lo hc
   have := hc.2.1
   rw [spanIn_cons]; simp [this]
  have hlow : ∀ (u : Span) (z : List Span) (lo x : Int), Canon lo (u :: z) → spanIn (u :: z) x = true → u.fr ≤ x := by
   intro u z lo x hc hx
   rw [spanIn_cons, Bool.or_eq_true, decide_eq_true_eq] at hx
   rcases hx with hx | hx
   ·exact hx.1
   ·have := Canon.above hc.2.2 hx
    have := hc.2.1
    omega
  have hfr : s.fr = t.fr := by
   have h1 := hlow t q lo s.fr hm (by rw [← h]; exact hin s r lo hl)
   have h2 := hlow s r lo t.fr hl (by rw [h]; exact hin t q lo hm)
   omega
  have hend : ∀ (u : Span) (z : List Span) (lo : Int), Canon lo (u :: z) → spanIn (u :: z) u.to = false := by
   intro u z lo hc
   rw [spanIn_cons]
   cases hz : spanIn z u.to with
   | true => have := Canon.above hc.2.2 hz; omega
   | false => simp
  have hto : s.to = t.to := by
   have h1 := hend s r lo hl
   have h2 := hend t q lo hm
   rw [h, spanIn_cons] at h1
   rw [← h, spanIn_cons] at h2
   have h3 := hl.2.1
   have h4 := hm.2.1
   simp only [Bool.or_eq_false_iff, decide_eq_false_iff_not] at h1 h2
   omega
  have hst : s = t := by cases s; cases t; simp_all
  subst hst
  have : r = q := by
   refine Canon.unique hl.2.2 hm.2.2 fun x => ?_
   have hx := h x
   rw [spanIn_cons, spanIn_cons] at hx
   by_cases hxs : s.fr ≤ x ∧ x < s.to
   ·have h1 : spanIn r x = false := by
     cases hz : spanIn r x with
     | true => have := Canon.above hl.2.2 hz; omega
     | false => rfl
    have h2 : spanIn q x = false := by
     cases hz : spanIn q x with
     | true => have := Canon.above hm.2.2 hz; omega
     | false => rfl
    rw [h1, h2]
   ·simpa [hxs] using hx
  rw [this]
theorem Canon.concat : ∀ {l : List Span} {lo : Int} {s : Span}, Canon lo l → lo < s.fr → s.fr < s.to → (∀ t ∈ l, t.to < s.fr) → Canon lo (l ++ [s])
 | [], _, _, _, h1, h2, _ => ⟨h1, h2, trivial⟩
 | t :: r, _, s, hc, _, h2, h3 => ⟨hc.1, hc.2.1, Canon.concat hc.2.2 (h3 t (by simp)) h2 fun u hu => h3 u (by simp [hu])⟩
theorem Canon.split : ∀ {l : List Span} {lo : Int} {s : Span}, Canon lo (l ++ [s]) → Canon lo l ∧ lo < s.fr ∧ s.fr < s.to ∧ ∀ t ∈ l, t.to < s.fr
 | [], _, _, h => ⟨trivial, h.1, h.2.1, by simp⟩
 | t :: r, lo, s, h => by
  obtain ⟨h1, h2, h3, h4⟩ := Canon.split (l := r) h.2.2
  refine ⟨⟨h.1, h.2.1, h1⟩, by have := h.1; have := h.2.1; omega, h3, fun u hu => ?_⟩
  rcases List.mem_cons.1 hu with rfl | hu
  ·exact h2
  ·exact h4 u hu
theorem mkSpans_ok (p : Int → Bool) : ∀ n : Nat, Canon (-1) (mkSpans p n) ∧ (∀ s ∈ mkSpans p n, s.to ≤ n) ∧ ∀ x : Int, spanIn (mkSpans p n) x = (decide (0 ≤ x ∧ x < n) && p x)
 | 0 => ⟨trivial, by simp [mkSpans], fun x => by
   have : ¬ (0 ≤ x ∧ x < ((0 : Nat) : Int)) := by omega
   simp only [mkSpans, spanIn, this, decide_false, Bool.false_and]⟩
 | n + 1 => by
  obtain ⟨hc, ht, hi⟩ := mkSpans_ok p n
  have hrange : ∀ x : Int, (decide (0 ≤ x ∧ x < ((n + 1 : Nat) : Int)) && p x) = ((decide (0 ≤ x ∧ x < (n : Int)) && p x) || (decide (x = n) && p n)) := by
   intro x
   by_cases hx : x = n
   ·subst hx
    have h1 : (0 : Int) ≤ n ∧ (n : Int) < ((n + 1 : Nat) : Int) := by omega
    have h2 : ¬ ((0 : Int) ≤ n ∧ (n : Int) < n) := by omega
    rw [decide_eq_true h1, decide_eq_false h2]; simp
   ·have h1 : (0 ≤ x ∧ x < ((n + 1 : Nat) : Int)) ↔ (0 ≤ x ∧ x < (n : Int)) := by omega
    simp only [hx, decide_false, Bool.false_and, Bool.or_false]
    rw [decide_eq_decide.2 h1]
  have new : ∀ L : List Span, Canon (-1) L → (∀ t ∈ L, t.to < (n : Int)) → (∀ x, spanIn L x = (decide (0 ≤ x ∧ x < (n : Int)) && p x)) → p n = true →
    Canon (-1) (L ++ [⟨n, n + 1⟩]) ∧ (∀ s ∈ L ++ [⟨n, n + 1⟩], s.to ≤ ((n + 1 : Nat) : Int)) ∧ ∀ x : Int, spanIn (L ++ [⟨n, n + 1⟩]) x = (decide (0 ≤ x ∧ x < ((n + 1 : Nat) : Int)) && p x) := by
   intro L h1 h2 h3 hp
   refine ⟨Canon.concat h1 (by show (-1 : Int) < n; omega) (by show (n : Int) < n + 1; omega) h2, ?_, fun x => ?_⟩
   ·intro s hs
    rcases List.mem_append.1 hs with hs | hs
    ·have := h2 s hs; omega
    ·simp at hs; subst hs; show (n : Int) + 1 ≤ _; omega
   ·rw [hrange, ← h3, hp, spanIn_append]
    congr 1
    simp only [spanIn_one, Bool.and_true]
    rw [decide_eq_decide]
    show ((n : Int) ≤ x ∧ x < n + 1) ↔ _
    omega
  rw [mkSpans]
  generalize mkSpans p n = L at *
  unfold mkStep
  by_cases hp : p n = true
  ·rw [if_pos hp]
   rcases List.eq_nil_or_concat L with rfl | ⟨L', s, rfl⟩
   ·simpa using new [] trivial (by simp) hi hp
   ·simp only [List.concat_eq_append, List.getLast?_append, List.getLast?_singleton, Option.some_or] at *
    obtain ⟨k1, k2, k3, k4⟩ := Canon.split hc
    by_cases he : s.to = n
    ·simp only [he, if_true]
     have hset : (L' ++ [s]).set ((L' ++ [s]).length - 1) ⟨s.fr, (n : Int) + 1⟩ = L' ++ [⟨s.fr, (n : Int) + 1⟩] := by
      rw [List.length_append, List.set_append_right _ _ (by simp)]
      simp
     rw [hset]
     refine ⟨Canon.concat k1 k2 (by show s.fr < (n : Int) + 1; omega) k4, ?_, fun x => ?_⟩
     ·intro t ht'
      rcases List.mem_append.1 ht' with h | h
      ·have := ht t (by simp [h]); omega
      ·simp at h; subst h; show (n : Int) + 1 ≤ _; omega
     ·rw [hrange, ← hi, hp, spanIn_append, spanIn_append, Bool.or_assoc]
      congr 1
      simp only [spanIn_one, Bool.and_true]
      rw [← Bool.decide_or, decide_eq_decide]
      show (s.fr ≤ x ∧ x < (n : Int) + 1) ↔ _
      omega
    ·simp only [he, if_false]
     refine new (L' ++ [s]) hc ?_ hi hp
     intro t ht'
     rcases List.mem_append.1 ht' with h | h
     ·have := k4 t h
      have := ht s (by simp)
      omega
     ·simp at h; subst h
      have := ht t (by simp)
      omega
  ·rw [if_neg hp]
   refine ⟨hc, fun s hs => by have := ht s hs; omega, fun x => ?_⟩
   rw [hrange, hi]
   simp [hp]
def allTo (p : Nat → Bool) : Nat → Bool
 | 0 => true
 | k + 1 => allTo p k && p k
theorem allTo_iff (p : Nat → Bool) : ∀ n, allTo p n = true ↔ ∀ i, i < n → p i = true
 | 0 => by simp [allTo]
 | n + 1 => by
  rw [allTo, Bool.and_eq_true, allTo_iff p n]
  constructor
  ·rintro ⟨h1, h2⟩ i hi
   by_cases h : i = n
   ·subst h; exact h2
   ·exact h1 i (by omega)
  ·intro h
   exact ⟨fun i hi => h i (by omega), h n (by omega)⟩
def countTo (p : Nat → Bool) : Nat → Int
 | 0 => 0
 | k + 1 => countTo p k + if p k then 1 else 0
theorem countTo_bd (p : Nat → Bool) : ∀ k : Nat, 0 ≤ countTo p k ∧ countTo p k ≤ k
 | 0 => by simp [countTo]
 | k + 1 => by
  have := countTo_bd p k
  rw [countTo]
  split <;> omega
theorem countTo_congr {p q : Nat → Bool} : ∀ {k : Nat}, (∀ i, i < k → p i = q i) → countTo p k = countTo q k
 | 0, _ => rfl
 | k + 1, h => by rw [countTo, countTo, countTo_congr fun i hi => h i (by omega), h k (by omega)]
theorem countTo_zero : ∀ k, countTo (fun _ => false) k = 0
 | 0 => rfl
 | k + 1 => by rw [countTo, countTo_zero k]; simp
end Go.Proofs.YtngbfdogiciahaaGreat
namespace Go.Proofs.YtngbfdogiciahaaGreat
open Go
theorem and16 : ∀ a, a < 16 → ∀ b, b < 16 → bits .and .i64 ((a : Nat) : Int) ((b : Nat) : Int) = ((a &&& b : Nat) : Int) := by decide +kernel
def tagsOk (n : Int) : Bool := decide (0 ≤ n ∧ n ≤ 15)
def cubeCheck (c : Cube) : Int :=
 if tagsOk c.yes = true ∧ tagsOk c.no = true then (if c.yes.toNat &&& c.no.toNat = 0 then 0 else 3) else 1
structure CubeOk (c : Cube) (y n : Nat) : Prop where
 yes : c.yes = (y : Int)
 no : c.no = (n : Int)
 hy : y < 16
 hn : n < 16
 dis : y &&& n = 0
theorem tagsOk_iff {n : Int} : tagsOk n = true ↔ 0 ≤ n ∧ n ≤ 15 := by simp [tagsOk]
theorem cubeOk_of {c : Cube} (h : cubeCheck c = 0) : ∃ y n, CubeOk c y n := by
 unfold cubeCheck at h
 split at h
 ·rename_i h1
  split at h
  ·rename_i h2
   have a := tagsOk_iff.1 h1.1
   have b := tagsOk_iff.1 h1.2
   exact ⟨c.yes.toNat, c.no.toNat, by omega, by omega, by omega, by omega, h2⟩
  ·simp at h
 ·simp at h
def cubeIn (y n t : Nat) : Bool := (t &&& y == y) && (t &&& n == 0)
theorem cast_beq (a b : Nat) : ((a : Int) == (b : Int)) = (a == b) := by
 rw [Bool.eq_iff_iff, beq_iff_eq, beq_iff_eq]; omega
theorem cast_beq0 (a : Nat) : ((a : Int) == 0) = (a == 0) := cast_beq a 0
end Go.Proofs.YtngbfdogiciahaaGreat
namespace Go.Proofs.YtngbfdogiciahaaGreat
open Go
theorem bit_run (a b i : Nat) : (2 ^ b - 2 ^ a).testBit i = decide (a ≤ i ∧ i < b) := by
 by_cases h : a ≤ b
 ·obtain ⟨c, rfl⟩ := Nat.exists_eq_add_of_le h
  have e : 2 ^ (a + c) - 2 ^ a = 2 ^ a * (2 ^ c - 1) := by rw [Nat.pow_add, Nat.mul_sub, Nat.mul_one]
  rw [e, Nat.testBit_two_pow_mul, Nat.testBit_two_pow_sub_one]
  rw [Bool.eq_iff_iff]
  simp
  omega
 ·have e : 2 ^ b - 2 ^ a = 0 := Nat.sub_eq_zero_of_le (Nat.pow_le_pow_right (by omega) (by omega))
  rw [e]
  have : ¬ (a ≤ i ∧ i < b) := by omega
  simp [this]
theorem or32_lt {a b : Nat} (ha : a < 4294967296) (hb : b < 4294967296) : a ||| b < 4294967296 := Nat.or_lt_two_pow (n := 32) ha hb
theorem and32_lt {a b : Nat} (ha : a < 4294967296) : a &&& b < 4294967296 := Nat.lt_of_le_of_lt Nat.and_le_left ha
theorem high32 {a i : Nat} (ha : a < 4294967296) (hi : 32 ≤ i) : a.testBit i = false :=
 Nat.testBit_lt_two_pow (Nat.lt_of_lt_of_le ha (show 2 ^ 32 ≤ 2 ^ i from Nat.pow_le_pow_right (by omega) hi))
theorem eq32 {a b : Nat} (ha : a < 4294967296) (hb : b < 4294967296) (h : ∀ i, i < 32 → a.testBit i = b.testBit i) : a = b := by
 apply Nat.eq_of_testBit_eq
 intro i
 by_cases hi : i < 32
 ·exact h i hi
 ·rw [high32 ha (by omega), high32 hb (by omega)]
theorem not32_bit (b i : Nat) (hi : i < 32) (hb : b < 4294967296) : (4294967295 - b).testBit i = !b.testBit i := by
 have := Nat.testBit_two_pow_sub_succ (n := 32) (x := b) hb i
 have e : 2 ^ 32 - (b + 1) = 4294967295 - b := by omega
 rw [e] at this
 rw [this]; simp [hi]
def filterGo : List Box → Int
 | [] => 0
 | b :: r => if cubeCheck b.cube = 0 then (if spanCheck b.spans = 0 then filterGo r else spanCheck b.spans) else cubeCheck b.cube
def filterCheck (f : List Box) : Int := if 40 < f.length then 2 else filterGo f
theorem filterGo_drop (f : List Box) (k : Nat) (hk : k < f.length) : filterGo (f.drop k) = if cubeCheck f[k].cube = 0 then (if spanCheck f[k].spans = 0 then filterGo (f.drop (k + 1)) else spanCheck f[k].spans) else cubeCheck f[k].cube := by
 rw [List.drop_eq_getElem_cons hk, filterGo]
def BoxOk (b : Box) : Prop := cubeCheck b.cube = 0 ∧ spanCheck b.spans = 0
theorem filterGo_ok : ∀ f : List Box, filterGo f = 0 ↔ ∀ b ∈ f, BoxOk b
 | [] => by simp [filterGo]
 | b :: r => by
  rw [filterGo]
  by_cases h1 : cubeCheck b.cube = 0
  ·by_cases h2 : spanCheck b.spans = 0
   ·rw [if_pos h1, if_pos h2, filterGo_ok r]
    simp [BoxOk, h1, h2]
   ·rw [if_pos h1, if_neg h2]
    simp [BoxOk, h2]
  ·rw [if_neg h1]
   simp [BoxOk, h1]
theorem filterCheck_ok {f : List Box} (h : filterCheck f = 0) : f.length ≤ 40 ∧ ∀ b ∈ f, BoxOk b := by
 unfold filterCheck at h
 by_cases hl : 40 < f.length
 ·simp [hl] at h
 ·rw [if_neg hl] at h
  exact ⟨by omega, (filterGo_ok f).1 h⟩
theorem filterCheck_of {f : List Box} (h : f.length ≤ 40) (hb : ∀ b ∈ f, BoxOk b) : filterCheck f = 0 := by
 rw [filterCheck, if_neg (by omega)]
 exact (filterGo_ok f).2 hb
def filterTwo (f g : List Box) : Int := if filterCheck f = 0 then filterCheck g else filterCheck f
def boxIn (b : Box) (t : Nat) : Bool := cubeIn b.cube.yes.toNat b.cube.no.toNat t
def pts (f : List Box) (i : Nat) : Bool := f.any fun b => spanIn b.spans (i % 32 : Nat) && boxIn b (i / 32)
def spanBits (l : List Span) : Nat := l.foldl (fun acc s => acc ||| (2 ^ s.to.toNat - 2 ^ s.fr.toNat)) 0
theorem spanBits_take (l : List Span) (k : Nat) (hk : k < l.length) : spanBits (l.take (k + 1)) = spanBits (l.take k) ||| (2 ^ l[k].to.toNat - 2 ^ l[k].fr.toNat) := by
 rw [List.take_succ_eq_append_getElem hk, spanBits, List.foldl_append]
 rfl
theorem spanBits_fold (l : List Span) (h : SpansOk l) : ∀ (a n : Nat), (l.foldl (fun acc s => acc ||| (2 ^ s.to.toNat - 2 ^ s.fr.toNat)) a).testBit n = (a.testBit n || spanIn l n) := by
 induction l with
 | nil => intro a n; simp [spanIn]
 | cons s r ih =>
  intro a n
  rw [List.foldl_cons, ih (fun t ht => h t (by simp [ht])), Nat.testBit_or, bit_run, spanIn_cons, Bool.or_assoc]
  have := h s (by simp)
  congr 2
  rw [decide_eq_decide]
  omega
theorem spanBits_bit (l : List Span) (h : SpansOk l) (n : Nat) : (spanBits l).testBit n = spanIn l n := by
 rw [spanBits, spanBits_fold l h]; simp
theorem pow32_le {t : Nat} (h : t ≤ 32) : 2 ^ t ≤ 4294967296 := Nat.pow_le_pow_right (n := 2) (j := 32) (by omega) h
theorem run32_lt {f t : Nat} (_h : f < t) (ht : t ≤ 32) : 2 ^ t - 2 ^ f < 4294967296 := by
 have := pow32_le ht
 have := Nat.two_pow_pos f
 omega
theorem spanBits_fold_lt (l : List Span) (h : SpansOk l) : ∀ a, a < 4294967296 → (l.foldl (fun acc s => acc ||| (2 ^ s.to.toNat - 2 ^ s.fr.toNat)) a) < 4294967296 := by
 induction l with
 | nil => intro a ha; exact ha
 | cons s r ih =>
  intro a ha
  rw [List.foldl_cons]
  refine ih (fun t ht => h t (by simp [ht])) _ (or32_lt ha ?_)
  have := h s (by simp)
  exact run32_lt (by omega) (by omega)
theorem SpansOk.take {l : List Span} (h : SpansOk l) (k : Nat) : SpansOk (l.take k) := fun s hs => h s (List.mem_of_mem_take hs)
theorem spanBits_lt {l : List Span} (h : SpansOk l) : spanBits l < 4294967296 := spanBits_fold_lt l h 0 (by omega)
def tab (f : List Box) (t : Nat) : Nat := f.foldl (fun acc b => if boxIn b t then acc ||| spanBits b.spans else acc) 0
theorem tab_take (f : List Box) (k : Nat) (hk : k < f.length) (t : Nat) : tab (f.take (k + 1)) t = if boxIn f[k] t then tab (f.take k) t ||| spanBits f[k].spans else tab (f.take k) t := by
 rw [List.take_succ_eq_append_getElem hk, tab, List.foldl_append]
 rfl
theorem tab_fold (f : List Box) (h : ∀ b ∈ f, BoxOk b) (t : Nat) : ∀ (a n : Nat), (f.foldl (fun acc b => if boxIn b t then acc ||| spanBits b.spans else acc) a).testBit n = (a.testBit n || f.any fun b => spanIn b.spans n && boxIn b t) := by
 induction f with
 | nil => intro a n; simp
 | cons b r ih =>
  intro a n
  rw [List.foldl_cons, ih (fun x hx => h x (by simp [hx])), List.any_cons, ← Bool.or_assoc]
  congr 1
  have hb := spanBits_bit b.spans (spanCheck_ok (h b (by simp)).2).1 n
  by_cases hi : boxIn b t = true
  ·simp [hi, hb]
  ·simp [hi]
theorem tab_bit {f : List Box} (h : ∀ b ∈ f, BoxOk b) (t n : Nat) : (tab f t).testBit n = f.any fun b => spanIn b.spans n && boxIn b t := by
 rw [tab, tab_fold f h]; simp
theorem tab_fold_lt (f : List Box) (h : ∀ b ∈ f, BoxOk b) (t : Nat) : ∀ a, a < 4294967296 → (f.foldl (fun acc b => if boxIn b t then acc ||| spanBits b.spans else acc) a) < 4294967296 := by
 induction f with
 | nil => intro a ha; exact ha
 | cons b r ih =>
  intro a ha
  rw [List.foldl_cons]
  refine ih (fun x hx => h x (by simp [hx])) _ ?_
  split
  ·exact or32_lt ha (spanBits_lt (spanCheck_ok (h b (by simp)).2).1)
  ·exact ha
theorem tab_lt {f : List Box} (h : ∀ b ∈ f, BoxOk b) (t : Nat) : tab f t < 4294967296 := tab_fold_lt f h t 0 (by omega)
theorem pts_tab {f : List Box} (h : ∀ b ∈ f, BoxOk b) (i : Nat) : pts f i = (tab f (i / 32)).testBit (i % 32) := by
 rw [tab_bit h, pts]
def clr (v k : Nat) : Nat := v &&& (15 - 2 ^ k)
def sameAll (T : Nat → Nat) (t : Nat) (d : Nat × Nat) : Bool := allTo (fun o => !cubeIn d.1 d.2 o || T o == T t) 16
def growK (T : Nat → Nat) (t : Nat) : Nat → Nat × Nat
 | 0 => (t, 15 - t)
 | k + 1 => if sameAll T t (clr (growK T t k).1 k, clr (growK T t k).2 k) then (clr (growK T t k).1 k, clr (growK T t k).2 k) else growK T t k
def boxOf (T : Nat → Nat) (t : Nat) : Box := ⟨⟨((growK T t 4).1 : Int), ((growK T t 4).2 : Int)⟩, mkSpans (fun n => (T t).testBit n.toNat) 32⟩
def boxK (T : Nat → Nat) : Nat → (Nat → Bool) × List Box
 | 0 => (fun _ => false, [])
 | k + 1 => if (boxK T k).1 k || T k == 0 then boxK T k else (fun o => (boxK T k).1 o || cubeIn (growK T k 4).1 (growK T k 4).2 o, (boxK T k).2 ++ [boxOf T k])
def mkBoxes (T : Nat → Nat) : List Box := (boxK T 16).2
theorem grow_start : ∀ t, t < 16 → cubeIn t (15 - t) t = true ∧ (∀ o, o < 16 → cubeIn t (15 - t) o = true → o = t) ∧ 15 - t < 16 ∧ t &&& (15 - t) = 0 := by decide +kernel
theorem clr_in : ∀ k, k < 4 → ∀ y, y < 16 → ∀ n, n < 16 → ∀ t, t < 16 → cubeIn y n t = true → cubeIn (clr y k) (clr n k) t = true := by decide +kernel
theorem clr_lt : ∀ k, k < 4 → ∀ y, y < 16 → clr y k < 16 := by decide +kernel
theorem clr_dis : ∀ k, k < 4 → ∀ y, y < 16 → ∀ n, n < 16 → y &&& n = 0 → clr y k &&& clr n k = 0 := by decide +kernel
structure GrowOk (T : Nat → Nat) (t : Nat) (c : Nat × Nat) : Prop where
 y : c.1 < 16
 n : c.2 < 16
 dis : c.1 &&& c.2 = 0
 self : cubeIn c.1 c.2 t = true
 same : ∀ o, o < 16 → cubeIn c.1 c.2 o = true → T o = T t
theorem growK_ok (T : Nat → Nat) (t : Nat) (ht : t < 16) : ∀ k, k ≤ 4 → GrowOk T t (growK T t k)
 | 0, _ => by
  obtain ⟨h1, h2, h3, h4⟩ := grow_start t ht
  exact ⟨ht, h3, h4, h1, fun o ho hc => by rw [h2 o ho hc]⟩
 | k + 1, hk => by
  have g := growK_ok T t ht k (by omega)
  rw [growK]
  by_cases hs : sameAll T t (clr (growK T t k).1 k, clr (growK T t k).2 k) = true
  ·rw [if_pos hs]
   refine ⟨clr_lt k (by omega) _ g.y, clr_lt k (by omega) _ g.n, clr_dis k (by omega) _ g.y _ g.n g.dis, clr_in k (by omega) _ g.y _ g.n t ht g.self, fun o ho hc => ?_⟩
   have := (allTo_iff _ 16).1 hs o ho
   simp only [hc, Bool.not_true, Bool.false_or, beq_iff_eq] at this
   exact this
  ·rw [if_neg hs]; exact g
theorem canon_len : ∀ {l : List Span} {lo : Int}, Canon lo l → SpansOk l → lo ≤ 32 → 2 * (l.length : Int) ≤ 32 - lo
 | [], lo, _, _, h => by simp; omega
 | s :: r, lo, h, hok, hlo => by
  have h1 := hok s (by simp)
  have ih := canon_len (l := r) (lo := s.to) h.2.2 (fun t ht => hok t (by simp [ht])) h1.2.2
  have := h.1
  have := h.2.1
  simp only [List.length_cons]
  omega
theorem canon_go : ∀ {l : List Span} {lo : Int}, Canon lo l → SpansOk l → spanGo lo l = 0
 | [], _, _, _ => rfl
 | s :: r, lo, h, hok => by
  have h1 := hok s (by simp)
  rw [spanGo]
  have hb : spanBad s = false := by simp [spanBad]; omega
  have hl : ¬ s.fr ≤ lo := by have := h.1; omega
  rw [hb, if_neg (by simp), if_neg hl]
  exact canon_go h.2.2 fun t ht => hok t (by simp [ht])
theorem canon_ok : ∀ {l : List Span} {lo : Int}, Canon lo l → -1 ≤ lo → (∀ s ∈ l, s.to ≤ 32) → SpansOk l
 | [], _, _, _, _ => by intro s h; simp at h
 | s :: r, lo, h, hlo, ht => by
  have h1 := h.1
  have h2 := h.2.1
  intro t hm
  rcases List.mem_cons.1 hm with rfl | hm
  ·exact ⟨by omega, by omega, ht _ (by simp)⟩
  ·exact canon_ok h.2.2 (by omega) (fun u hu => ht u (by simp [hu])) t hm
theorem mkSpans_check (p : Int → Bool) : spanCheck (mkSpans p 32) = 0 := by
 obtain ⟨h1, h2, _⟩ := mkSpans_ok p 32
 have hok := canon_ok h1 (by omega) (by intro s hs; have := h2 s hs; omega)
 have hl := canon_len h1 hok (by omega)
 rw [spanCheck, if_neg (by omega)]
 exact canon_go h1 hok
theorem mkSpans_in (p : Int → Bool) (n : Nat) (hn : n < 32) : spanIn (mkSpans p 32) n = p n := by
 rw [(mkSpans_ok p 32).2.2 n]
 have : decide ((0 : Int) ≤ n ∧ (n : Int) < (32 : Nat)) = true := by simp; omega
 rw [this, Bool.true_and]
theorem boxOf_ok (T : Nat → Nat) (t : Nat) (ht : t < 16) : BoxOk (boxOf T t) := by
 have g := growK_ok T t ht 4 (by omega)
 have hs : spanCheck (boxOf T t).spans = 0 := by unfold boxOf; exact mkSpans_check (fun n => (T t).testBit n.toNat)
 refine ⟨?_, hs⟩
 have h1 : tagsOk (((growK T t 4).1 : Nat) : Int) = true := tagsOk_iff.2 ⟨by omega, by have := g.y; omega⟩
 have h2 : tagsOk (((growK T t 4).2 : Nat) : Int) = true := tagsOk_iff.2 ⟨by omega, by have := g.n; omega⟩
 rw [boxOf, cubeCheck, if_pos ⟨h1, h2⟩]
 simp only [Int.toNat_natCast]
 rw [if_pos g.dis]
theorem boxOf_in (T : Nat → Nat) (t o : Nat) : boxIn (boxOf T t) o = cubeIn (growK T t 4).1 (growK T t 4).2 o := by
 simp [boxIn, boxOf]
structure BoxesOk (T : Nat → Nat) (k : Nat) (s : (Nat → Bool) × List Box) : Prop where
 len : s.2.length ≤ k
 ok : ∀ b ∈ s.2, BoxOk b
 done : ∀ o, o < 16 → (s.1 o = true ↔ ∃ b ∈ s.2, boxIn b o = true)
 val : ∀ b ∈ s.2, ∀ o, o < 16 → boxIn b o = true → T o ≠ 0 ∧ ∀ n, n < 32 → spanIn b.spans (n : Nat) = (T o).testBit n
 all : ∀ o, o < k → T o ≠ 0 → s.1 o = true
theorem boxK_ok (T : Nat → Nat) : ∀ k, k ≤ 16 → BoxesOk T k (boxK T k)
 | 0, _ => ⟨by simp [boxK], by simp [boxK], by simp [boxK], by simp [boxK], by omega⟩
 | k + 1, hk => by
  have h := boxK_ok T k (by omega)
  rw [boxK]
  by_cases hc : ((boxK T k).1 k || T k == 0) = true
  ·rw [if_pos hc]
   refine ⟨Nat.le_succ_of_le h.len, h.ok, h.done, h.val, fun o ho hT => ?_⟩
   by_cases hok : o < k
   ·exact h.all o hok hT
   ·obtain rfl : o = k := by omega
    simp only [Bool.or_eq_true, beq_iff_eq] at hc
    exact hc.resolve_right hT
  ·rw [if_neg hc]
   simp only [Bool.or_eq_true, beq_iff_eq, not_or] at hc
   have g := growK_ok T k (by omega) 4 (by omega)
   refine ⟨by simp; exact h.len, ?_, ?_, ?_, ?_⟩
   ·intro b hb
    rcases List.mem_append.1 hb with hb | hb
    ·exact h.ok b hb
    ·rw [List.mem_singleton.1 hb]; exact boxOf_ok T k (by omega)
   ·intro o ho
    have := h.done o ho
    simp only [Bool.or_eq_true, this, List.mem_append, List.mem_singleton]
    constructor
    ·rintro (⟨b, hb, hi⟩ | hi)
     ·exact ⟨b, .inl hb, hi⟩
     ·exact ⟨_, .inr rfl, by rw [boxOf_in]; exact hi⟩
    ·rintro ⟨b, hb | rfl, hi⟩
     ·exact .inl ⟨b, hb, hi⟩
     ·exact .inr (by rw [boxOf_in] at hi; exact hi)
   ·intro b hb o ho hi
    rcases List.mem_append.1 hb with hb | hb
    ·exact h.val b hb o ho hi
    ·obtain rfl := List.mem_singleton.1 hb
     rw [boxOf_in] at hi
     have e := g.same o ho hi
     rw [e]
     refine ⟨hc.2, fun n hn => ?_⟩
     unfold boxOf
     simp only
     rw [mkSpans_in _ n hn, Int.toNat_natCast]
   ·intro o ho hT
    by_cases hok : o < k
    ·simp [h.all o hok hT]
    ·obtain rfl : o = k := by omega
     simp [g.self]
theorem mkBoxes_len (T : Nat → Nat) : (mkBoxes T).length ≤ 16 := (boxK_ok T 16 (by omega)).len
theorem mkBoxes_ok (T : Nat → Nat) : ∀ b ∈ mkBoxes T, BoxOk b := (boxK_ok T 16 (by omega)).ok
theorem mkBoxes_check (T : Nat → Nat) : filterCheck (mkBoxes T) = 0 := filterCheck_of (by have := mkBoxes_len T; omega) (mkBoxes_ok T)
theorem mkBoxes_pts (T : Nat → Nat) (i : Nat) (hi : i < 512) : pts (mkBoxes T) i = (T (i / 32)).testBit (i % 32) := by
 have h := boxK_ok T 16 (by omega)
 have ho : i / 32 < 16 := by omega
 have hn : i % 32 < 32 := by omega
 rw [Bool.eq_iff_iff]
 simp only [pts, List.any_eq_true, Bool.and_eq_true]
 constructor
 ·rintro ⟨b, hb, h1, h2⟩
  rw [← (h.val b hb _ ho h2).2 _ hn]; exact h1
 ·intro ht
  have hT : T (i / 32) ≠ 0 := by
   intro e; rw [e] at ht; simp at ht
  obtain ⟨b, hb, h2⟩ := (h.done _ ho).1 (h.all _ ho hT)
  exact ⟨b, hb, by rw [(h.val b hb _ ho h2).2 _ hn]; exact ht, h2⟩
theorem mkBoxes_nil (T : Nat → Nat) : mkBoxes T = [] ↔ ∀ o, o < 16 → T o = 0 := by
 have h := boxK_ok T 16 (by omega)
 constructor
 ·intro e o ho
  apply Classical.byContradiction
  intro hT
  obtain ⟨b, hb, _⟩ := (h.done o ho).1 (h.all o ho hT)
  rw [show (boxK T 16).2 = [] from e] at hb
  simp at hb
 ·intro hz
  apply List.eq_nil_iff_forall_not_mem.2
  have : ∀ k, k ≤ 16 → (boxK T k).2 = [] := by
   intro k
   induction k with
   | zero => intro _; rfl
   | succ k ih =>
    intro hk
    rw [boxK, if_pos (by simp [hz k (by omega)])]
    exact ih (by omega)
  intro b hb
  rw [mkBoxes, this 16 (by omega)] at hb
  simp at hb
def filterOp (d : Nat → Nat → Nat) (f g : List Box) : List Box := if filterTwo f g = 0 then mkBoxes (fun t => d (tab f t) (tab g t)) else []
def popTo (v : Nat) (n : Nat) : Int := countTo (fun i => v.testBit i) n
theorem low_out (v : Nat) (hv : v ≠ 0) : ∃ k, v.testBit k = true ∧ ∀ i, (v &&& (v - 1)).testBit i = (v.testBit i && !decide (i = k)) := by
 induction v using Nat.strongRecOn with
 | _ v ih =>
  by_cases ho : v % 2 = 1
  ·refine ⟨0, by simp [Nat.testBit_zero, ho], fun i => ?_⟩
   cases i with
   | zero => simp [Nat.testBit_zero, ho]; omega
   | succ i =>
    rw [Nat.testBit_and, Nat.testBit_succ, Nat.testBit_succ, show (v - 1) / 2 = v / 2 by omega]
    simp
  ·obtain ⟨m, rfl⟩ : ∃ m, v = 2 * m := ⟨v / 2, by omega⟩
   obtain ⟨k, hk, h⟩ := ih m (by omega) (by omega)
   refine ⟨k + 1, by rw [Nat.testBit_succ, show 2 * m / 2 = m by omega]; exact hk, fun i => ?_⟩
   cases i with
   | zero => simp [Nat.testBit_zero]
   | succ i =>
    rw [Nat.testBit_and, Nat.testBit_succ, Nat.testBit_succ, show (2 * m - 1) / 2 = m - 1 by omega, show 2 * m / 2 = m by omega, ← Nat.testBit_and, h i]
    simp
theorem countTo_out (p : Nat → Bool) (k : Nat) : ∀ n, k < n → p k = true → countTo (fun i => p i && !decide (i = k)) n + 1 = countTo p n
 | 0, h, _ => by omega
 | n + 1, h, hp => by
  rw [countTo, countTo]
  by_cases hk : k = n
  ·subst hk
   have := countTo_congr (p := fun i => p i && !decide (i = k)) (q := p) (k := k) (fun i hi => by simp; omega)
   rw [this]; simp [hp]
  ·have := countTo_out p k n (by omega) hp
   have : ¬ n = k := fun e => hk e.symm
   simp only [this, decide_false, Bool.not_false, Bool.and_true]
   omega
theorem popTo_low (v : Nat) (hv : v ≠ 0) (h : v < 4294967296) : popTo (v &&& (v - 1)) 32 + 1 = popTo v 32 := by
 obtain ⟨k, hk, h'⟩ := low_out v hv
 have hk32 : k < 32 := by
  apply Classical.byContradiction
  intro hn
  rw [high32 h (by omega)] at hk
  cases hk
 unfold popTo
 rw [countTo_congr (fun i _ => h' i)]
 exact countTo_out _ k 32 hk32 hk
theorem popTo_bd (v n : Nat) : 0 ≤ popTo v n ∧ popTo v n ≤ n := countTo_bd _ _
theorem popTo_zero (n : Nat) : popTo 0 n = 0 := by unfold popTo; rw [countTo_congr (q := fun _ => false) (by simp)]; exact countTo_zero n
theorem countTo_add (p : Nat → Bool) (a : Nat) : ∀ b, countTo p (a + b) = countTo p a + countTo (fun i => p (a + i)) b
 | 0 => by simp [countTo]
 | b + 1 => by
  rw [← Nat.add_assoc, countTo, countTo, countTo_add p a b]
  omega
def popSum (T : Nat → Nat) : Nat → Int
 | 0 => 0
 | k + 1 => popSum T k + popTo (T k) 32
theorem popSum_bd (T : Nat → Nat) : ∀ k : Nat, 0 ≤ popSum T k ∧ popSum T k ≤ 32 * k
 | 0 => by simp [popSum]
 | k + 1 => by
  have := popSum_bd T k
  have := popTo_bd (T k) 32
  rw [popSum]
  omega
theorem popSum_pts (T : Nat → Nat) (p : Nat → Bool) : ∀ k, (∀ i, i < 32 * k → p i = (T (i / 32)).testBit (i % 32)) → countTo p (32 * k) = popSum T k
 | 0, _ => rfl
 | k + 1, h => by
  rw [show 32 * (k + 1) = 32 * k + 32 by omega, countTo_add, popSum, popSum_pts T p k (fun i hi => h i (by omega))]
  congr 1
  unfold popTo
  apply countTo_congr
  intro i hi
  rw [h _ (by omega), show (32 * k + i) / 32 = k by omega, show (32 * k + i) % 32 = i by omega]
def filterCount (f : List Box) : Int := if filterCheck f = 0 then popSum (tab f) 16 else 0
end Go.Proofs.YtngbfdogiciahaaGreat
namespace Go.Proofs.YtngbfdogiciahaaGreat
open Go
def less32 (a b : Nat) : Nat := a &&& (4294967295 - b)
theorem less32_bit (a b i : Nat) (hi : i < 32) (hb : b < 4294967296) : (less32 a b).testBit i = (a.testBit i && !b.testBit i) := by
 rw [less32, Nat.testBit_and, not32_bit b i hi hb]
theorem filterTwo_ok {f g : List Box} (h : filterTwo f g = 0) : filterCheck f = 0 ∧ filterCheck g = 0 := by
 unfold filterTwo at h
 by_cases hf : filterCheck f = 0
 ·rw [if_pos hf] at h; exact ⟨hf, h⟩
 ·rw [if_neg hf] at h; exact absurd h hf
structure Bits (d : Nat → Nat → Nat) (p : Bool → Bool → Bool) : Prop where
 bit : ∀ a b i, a < 4294967296 → b < 4294967296 → i < 32 → (d a b).testBit i = p (a.testBit i) (b.testBit i)
 lt : ∀ a b, a < 4294967296 → b < 4294967296 → d a b < 4294967296
theorem bits_and : Bits (fun a b => a &&& b) (fun a b => a && b) := ⟨fun a b i _ _ _ => Nat.testBit_and a b i, fun _ _ ha _ => and32_lt ha⟩
theorem bits_less : Bits less32 (fun a b => a && !b) := ⟨fun a b i _ hb hi => less32_bit a b i hi hb, fun _ _ ha _ => and32_lt ha⟩
structure OpSays (d : Nat → Nat → Nat) (p : Bool → Bool → Bool) (f g : List Box) : Prop where
 len : (filterOp d f g).length ≤ 16
 ok : filterCheck (filterOp d f g) = 0
 pts : ∀ i, i < 512 → pts (filterOp d f g) i = p (pts f i) (pts g i)
 nil : filterOp d f g = [] ↔ ∀ i, i < 512 → p (Go.Proofs.YtngbfdogiciahaaGreat.pts f i) (Go.Proofs.YtngbfdogiciahaaGreat.pts g i) = false
theorem filterOp_says {d : Nat → Nat → Nat} {p : Bool → Bool → Bool} (hd : Bits d p) {f g : List Box} (h : filterTwo f g = 0) : OpSays d p f g := by
 obtain ⟨hf, hg⟩ := filterTwo_ok h
 have kf := (filterCheck_ok hf).2
 have kg := (filterCheck_ok hg).2
 have e : filterOp d f g = mkBoxes fun t => d (tab f t) (tab g t) := by rw [filterOp, if_pos h]
 refine ⟨by rw [e]; exact mkBoxes_len _, by rw [e]; exact mkBoxes_check _, fun i hi => ?_, ?_⟩
 ·rw [e, mkBoxes_pts _ i hi, hd.bit _ _ _ (tab_lt kf _) (tab_lt kg _) (by omega), pts_tab kf, pts_tab kg]
 ·rw [e, mkBoxes_nil]
  constructor
  ·intro hz i hi
   rw [pts_tab kf, pts_tab kg, ← hd.bit _ _ _ (tab_lt kf _) (tab_lt kg _) (show i % 32 < 32 by omega), hz (i / 32) (by omega)]
   simp
  ·intro hz o ho
   refine eq32 (hd.lt _ _ (tab_lt kf _) (tab_lt kg _)) (by omega) fun n hn => ?_
   have h1 := hz (32 * o + n) (by omega)
   rw [pts_tab kf, pts_tab kg, show (32 * o + n) / 32 = o by omega, show (32 * o + n) % 32 = n by omega] at h1
   rw [hd.bit _ _ _ (tab_lt kf _) (tab_lt kg _) hn, h1]
   simp
def filterNone (d : Nat → Nat → Nat) (f g : List Box) : Bool := decide (filterTwo f g = 0) && decide (filterOp d f g = [])
theorem filterNone_err {d : Nat → Nat → Nat} {f g : List Box} (h : filterTwo f g ≠ 0) : filterNone d f g = false := by simp [filterNone, h]
theorem filterNone_says {d : Nat → Nat → Nat} {p : Bool → Bool → Bool} (hd : Bits d p) {f g : List Box} (h : filterTwo f g = 0) : filterNone d f g = allTo (fun i => !p (pts f i) (pts g i)) 512 := by
 rw [filterNone, h, decide_eq_true rfl, Bool.true_and, Bool.eq_iff_iff, decide_eq_true_iff, (filterOp_says hd h).nil, allTo_iff]
 simp
theorem count_pts {f : List Box} (h : filterCheck f = 0) : filterCount f = countTo (pts f) 512 := by
 rw [filterCount, if_pos h]
 exact (popSum_pts (tab f) (pts f) 16 fun i _ => pts_tab (filterCheck_ok h).2 i).symm
def everyF : List Box := [⟨⟨0, 0⟩, [⟨0, 32⟩]⟩]
theorem every_check : filterCheck everyF = 0 := by decide +kernel
theorem every_pts (i : Nat) (hi : i < 512) : pts everyF i = true := by
 have h1 : spanIn [⟨0, 32⟩] ((i % 32 : Nat) : Int) = true := by simp [spanIn]; omega
 have h2 : ∀ t, t < 16 → cubeIn 0 0 t = true := by decide
 simp only [everyF, pts, List.any_cons, List.any_nil, Bool.or_false, h1, Bool.true_and]
 exact h2 (i / 32) (by omega)
def pointOk (p : Point) : Bool := tagsOk p.tags && (decide (0 ≤ p.num) && decide (p.num ≤ 31))
theorem pointOk_iff {p : Point} : pointOk p = true ↔ 0 ≤ p.tags ∧ p.tags ≤ 15 ∧ 0 ≤ p.num ∧ p.num ≤ 31 := by
 rw [pointOk, Bool.and_eq_true, Bool.and_eq_true, tagsOk_iff, decide_eq_true_iff, decide_eq_true_iff]
 omega
def filterIn (f : List Box) (p : Point) : Bool := f.any fun b => boxIn b p.tags.toNat && spanIn b.spans p.num
theorem filterIn_pts (f : List Box) {p : Point} (h : pointOk p = true) : filterIn f p = pts f (32 * p.tags + p.num).toNat := by
 obtain ⟨h1, h2, h3, h4⟩ := pointOk_iff.1 h
 obtain ⟨t, ht⟩ := Int.eq_ofNat_of_zero_le h1
 obtain ⟨n, hn⟩ := Int.eq_ofNat_of_zero_le h3
 have e : (32 * p.tags + p.num).toNat = 32 * t + n := by omega
 rw [e, filterIn, pts, show (32 * t + n) / 32 = t by omega, show (32 * t + n) % 32 = n by omega, ht, hn]
 congr 1
 funext b
 rw [Int.toNat_natCast, Bool.and_comm]
end Go.Proofs.YtngbfdogiciahaaGreat
namespace Go.Proofs.YtngbfdogiciahaaGreat
open Go
def dotOk (d : Dot) : Bool := decide (0 ≤ d.site ∧ d.site ≤ 4 ∧ 1 ≤ d.count ∧ d.count ≤ 1000)
theorem dotOk_iff {d : Dot} : dotOk d = true ↔ 0 ≤ d.site ∧ d.site ≤ 4 ∧ 1 ≤ d.count ∧ d.count ≤ 1000 := by simp [dotOk]
def vecAt (v : List Int) (s : Int) : Int := v.getD s.toNat 0
def dlt (a b : Dot) : Bool := decide (a.site < b.site ∨ a.site = b.site ∧ a.count < b.count)
theorem dlt_iff {a b : Dot} : dlt a b = true ↔ a.site < b.site ∨ a.site = b.site ∧ a.count < b.count := by simp [dlt]
theorem dlt_trans {a b c : Dot} (h : dlt a b = true) (k : dlt b c = true) : dlt a c = true := by
 rw [dlt_iff] at *; omega
theorem Dot.ext' {a b : Dot} (h : a.site = b.site) (k : a.count = b.count) : a = b := by
 cases a; cases b; simp_all
theorem dlt_total {a b : Dot} (h : dlt a b = false) (k : a ≠ b) : dlt b a = true := by
 have h' : ¬ (a.site < b.site ∨ a.site = b.site ∧ a.count < b.count) := by simpa [dlt] using h
 rw [dlt_iff]
 by_cases e : a.site = b.site
 ·by_cases e2 : a.count = b.count
  ·exact absurd (Dot.ext' e e2) k
  ·omega
 ·omega
theorem dlt_irrefl (a : Dot) : dlt a a = false := by simp [dlt]
def moreGo (v : List Int) : Dot → List Dot → Int
 | _, [] => 0
 | last, d :: r => if dotOk d then (if d.count ≤ vecAt v d.site + 1 ∨ dlt last d = false then 3 else moreGo v d r) else 1
def vecGo : List Int → Int
 | [] => 0
 | n :: r => if 0 ≤ n ∧ n ≤ 1000 then vecGo r else 1
def knowCheck (k : Know) : Int :=
 if 5 < k.vec.length ∨ 60 < k.more.length then 2
 else if vecGo k.vec = 0 then (if k.vec.getLast? = some 0 then 3 else moreGo k.vec ⟨-1, 0⟩ k.more) else 1
def lastDot (l : List Dot) (k : Nat) : Dot := if k = 0 then ⟨-1, 0⟩ else (l[k - 1]?).getD ⟨-1, 0⟩
theorem vecGo_drop (l : List Int) (k : Nat) (hk : k < l.length) : vecGo (l.drop k) = if 0 ≤ l[k] ∧ l[k] ≤ 1000 then vecGo (l.drop (k + 1)) else 1 := by
 rw [List.drop_eq_getElem_cons hk, vecGo]
theorem lastDot_succ (l : List Dot) (k : Nat) (hk : k < l.length) : lastDot l (k + 1) = l[k] := by simp [lastDot, hk]
theorem moreGo_drop (v : List Int) (l : List Dot) (k : Nat) (hk : k < l.length) :
  moreGo v (lastDot l k) (l.drop k) = if dotOk l[k] = true then (if l[k].count ≤ vecAt v l[k].site + 1 ∨ dlt (lastDot l k) l[k] = false then 3 else moreGo v (lastDot l (k + 1)) (l.drop (k + 1))) else 1 := by
 rw [List.drop_eq_getElem_cons hk, moreGo, lastDot_succ l k hk]
def SortedD (lo : Dot) (l : List Dot) : Prop := List.Pairwise (fun a b => dlt a b = true) (lo :: l)
theorem SortedD.nil {lo : Dot} : SortedD lo [] := List.pairwise_cons.2 ⟨by simp, List.Pairwise.nil⟩
theorem SortedD.head {lo d : Dot} {r : List Dot} (h : SortedD lo (d :: r)) : dlt lo d = true := (List.pairwise_cons.1 h).1 d (by simp)
theorem SortedD.tail {lo d : Dot} {r : List Dot} (h : SortedD lo (d :: r)) : SortedD d r := (List.pairwise_cons.1 h).2
theorem SortedD.above {l : List Dot} {lo x : Dot} (h : SortedD lo l) (hx : x ∈ l) : dlt lo x = true := (List.pairwise_cons.1 h).1 x hx
theorem SortedD.low {l : List Dot} {lo lo' : Dot} (h : SortedD lo l) (k : ∀ x ∈ l, dlt lo' x = true) : SortedD lo' l := List.pairwise_cons.2 ⟨k, (List.pairwise_cons.1 h).2⟩
theorem SortedD.cons {lo d : Dot} {r : List Dot} (k : dlt lo d = true) (h : SortedD d r) : SortedD lo (d :: r) := by
 refine List.pairwise_cons.2 ⟨fun x hx => ?_, h⟩
 rcases List.mem_cons.1 hx with rfl | hx
 ·exact k
 ·exact dlt_trans k (h.above hx)
theorem SortedD.append : ∀ {l m : List Dot} {lo : Dot}, SortedD lo l → SortedD lo m → (∀ x ∈ l, ∀ y ∈ m, dlt x y = true) → SortedD lo (l ++ m)
 | [], _, _, _, h, _ => h
 | e :: r, m, _, h, k, g => SortedD.cons h.head (SortedD.append h.tail (k.low fun y hy => g e (by simp) y hy) fun x hx y hy => g x (by simp [hx]) y hy)
theorem SortedD.concat {l : List Dot} {lo d : Dot} (h : SortedD lo l) (k : ∀ x ∈ l, dlt x d = true) (g : dlt lo d = true) : SortedD lo (l ++ [d]) :=
 h.append (SortedD.cons g SortedD.nil) fun x hx y hy => by rw [List.mem_singleton.1 hy]; exact k x hx
theorem SortedD.unique : ∀ {l m : List Dot} {lo : Dot}, SortedD lo l → SortedD lo m → (∀ x, x ∈ l ↔ x ∈ m) → l = m
 | [], [], _, _, _, _ => rfl
 | [], d :: r, _, _, _, h => by have := (h d).2 (by simp); simp at this
 | d :: r, [], _, _, _, h => by have := (h d).1 (by simp); simp at this
 | d :: r, e :: s, lo, h, k, g => by
  have hde : d = e := by
   have h1 := (g d).1 (by simp)
   have h2 := (g e).2 (by simp)
   rcases List.mem_cons.1 h1 with h1 | h1
   ·exact h1
   ·rcases List.mem_cons.1 h2 with h2 | h2
    ·exact h2.symm
    ·have := dlt_trans (k.tail.above h1) (h.tail.above h2)
     rw [dlt_irrefl] at this; cases this
  subst hde
  congr 1
  refine SortedD.unique h.tail k.tail fun x => ?_
  have := g x
  simp only [List.mem_cons] at this
  constructor
  ·intro hx
   rcases this.1 (.inr hx) with rfl | hx'
   ·have := h.tail.above hx; rw [dlt_irrefl] at this; cases this
   ·exact hx'
  ·intro hx
   rcases this.2 (.inr hx) with rfl | hx'
   ·have := k.tail.above hx; rw [dlt_irrefl] at this; cases this
   ·exact hx'
theorem moreGo_ok (v : List Int) : ∀ (l : List Dot) (last : Dot), moreGo v last l = 0 ↔ SortedD last l ∧ ∀ d ∈ l, dotOk d = true ∧ vecAt v d.site + 2 ≤ d.count
 | [], _ => by simp [moreGo, SortedD.nil]
 | d :: r, last => by
  rw [moreGo]
  by_cases h1 : dotOk d = true
  ·rw [if_pos h1]
   by_cases h2 : d.count ≤ vecAt v d.site + 1 ∨ dlt last d = false
   ·rw [if_pos h2]
    constructor
    ·intro h; simp at h
    ·rintro ⟨hs, hd⟩
     have := hd d (by simp)
     rcases h2 with h2 | h2
     ·omega
     ·rw [hs.head] at h2; cases h2
   ·rw [if_neg h2, moreGo_ok v r d]
    have h3 : dlt last d = true := by
     cases h : dlt last d
     ·exact absurd (.inr h) h2
     ·rfl
    constructor
    ·rintro ⟨hs, hd⟩
     refine ⟨SortedD.cons h3 hs, fun x hx => ?_⟩
     rcases List.mem_cons.1 hx with rfl | hx
     ·exact ⟨h1, by omega⟩
     ·exact hd x hx
    ·rintro ⟨hs, hd⟩
     exact ⟨hs.tail, fun x hx => hd x (by simp [hx])⟩
  ·rw [if_neg h1]
   constructor
   ·intro h; simp at h
   ·rintro ⟨_, hd⟩
    exact absurd (hd d (by simp)).1 h1
theorem vecGo_ok : ∀ l : List Int, vecGo l = 0 ↔ ∀ n ∈ l, 0 ≤ n ∧ n ≤ 1000
 | [] => by simp [vecGo]
 | n :: r => by
  rw [vecGo]
  by_cases h : 0 ≤ n ∧ n ≤ 1000
  ·rw [if_pos h, vecGo_ok r]; simp [h]
  ·rw [if_neg h]; simp; intro h0 h1; exact absurd ⟨h0, h1⟩ h
structure KnowOk (k : Know) : Prop where
 vlen : k.vec.length ≤ 5
 mlen : k.more.length ≤ 60
 vec : ∀ n ∈ k.vec, 0 ≤ n ∧ n ≤ 1000
 last : k.vec.getLast? ≠ some 0
 sorted : SortedD ⟨-1, 0⟩ k.more
 more : ∀ d ∈ k.more, dotOk d = true ∧ vecAt k.vec d.site + 2 ≤ d.count
theorem knowCheck_iff {k : Know} : knowCheck k = 0 ↔ KnowOk k := by
 unfold knowCheck
 by_cases h1 : 5 < k.vec.length ∨ 60 < k.more.length
 ·rw [if_pos h1]
  exact ⟨fun h => by simp at h, fun h => by have := h.vlen; have := h.mlen; omega⟩
 ·rw [if_neg h1]
  by_cases h2 : vecGo k.vec = 0
  ·rw [if_pos h2]
   by_cases h3 : k.vec.getLast? = some 0
   ·rw [if_pos h3]
    exact ⟨fun h => by simp at h, fun h => absurd h3 h.last⟩
   ·rw [if_neg h3, moreGo_ok]
    exact ⟨fun h => ⟨by omega, by omega, (vecGo_ok _).1 h2, h3, h.1, h.2⟩, fun h => ⟨h.sorted, h.more⟩⟩
  ·rw [if_neg h2]
   exact ⟨fun h => by simp at h, fun h => absurd ((vecGo_ok _).2 h.vec) h2⟩
abbrev DSet := Nat → Nat → Bool
def hasK (k : Know) : DSet := fun s c => decide (1 ≤ c) && (decide ((c : Int) ≤ vecAt k.vec s) || k.more.contains ⟨s, c⟩)
def SameSet (S T : DSet) : Prop := ∀ s, s < 5 → ∀ c, 1 ≤ c → c ≤ 1000 → S s c = T s c
def preFrom (p : Nat → Bool) : Nat → Nat → Nat
 | 0, n => n
 | f + 1, n => if p (n + 1) then preFrom p f (n + 1) else n
termination_by f => f
def pre (S : DSet) (s : Nat) : Nat := preFrom (S s) 1000 0
theorem preFrom_ok (p : Nat → Bool) : ∀ (f n : Nat), (∀ c, 1 ≤ c → c ≤ n → p c = true) → (∀ c, 1 ≤ c → c ≤ preFrom p f n → p c = true) ∧ n ≤ preFrom p f n ∧ preFrom p f n ≤ n + f ∧ (preFrom p f n < n + f → p (preFrom p f n + 1) = false)
 | 0, n, h => by rw [preFrom]; exact ⟨h, Nat.le_refl _, Nat.le_refl _, fun h => absurd h (by omega)⟩
 | f + 1, n, h => by
  rw [preFrom]
  by_cases hp : p (n + 1) = true
  ·rw [if_pos hp]
   obtain ⟨h1, h2, h3, h4⟩ := preFrom_ok p f (n + 1) (fun c c1 c2 => by
    by_cases e : c = n + 1
    ·rw [e]; exact hp
    ·exact h c c1 (by omega))
   exact ⟨h1, by omega, by omega, fun hlt => h4 (by omega)⟩
  ·rw [if_neg hp]
   exact ⟨h, Nat.le_refl _, by omega, fun _ => by simpa using hp⟩
theorem pre_ok (S : DSet) (s : Nat) : (∀ c, 1 ≤ c → c ≤ pre S s → S s c = true) ∧ pre S s ≤ 1000 ∧ (pre S s < 1000 → S s (pre S s + 1) = false) := by
 obtain ⟨h1, _, h3, h4⟩ := preFrom_ok (S s) 1000 0 (fun c c1 c2 => by omega)
 exact ⟨h1, by unfold pre; omega, fun h => h4 (by unfold pre at h; omega)⟩
theorem pre_unique (S : DSet) (s n : Nat) (h1 : ∀ c, 1 ≤ c → c ≤ n → S s c = true) (h2 : n ≤ 1000) (h3 : n < 1000 → S s (n + 1) = false) : pre S s = n := by
 obtain ⟨k1, k2, k3⟩ := pre_ok S s
 by_cases e : pre S s < n
 ·have := h1 (pre S s + 1) (by omega) (by omega)
  rw [k3 (by omega)] at this; cases this
 ·by_cases e2 : n < pre S s
  ·have := k1 (n + 1) (by omega) (by omega)
   rw [h3 (by omega)] at this; cases this
  ·omega
def moreOf (S : DSet) (s : Nat) : List Dot := ((List.range 1001).filter fun c => decide (pre S s + 2 ≤ c) && S s c).map fun (c : Nat) => ⟨(s : Int), (c : Int)⟩
def trim (v : List Int) : List Int := (v.reverse.dropWhile (· == 0)).reverse
def formVec (S : DSet) : List Int := (List.range 5).map fun s => (pre S s : Int)
def formMore (S : DSet) : List Dot := (List.range 5).flatMap fun s => moreOf S s
def formOf (S : DSet) : Know := ⟨trim (formVec S), formMore S⟩
theorem mem_moreOf {S : DSet} {s : Nat} {d : Dot} : d ∈ moreOf S s ↔ ∃ c : Nat, d = ⟨(s : Int), (c : Int)⟩ ∧ c ≤ 1000 ∧ pre S s + 2 ≤ c ∧ S s c = true := by
 simp only [moreOf, List.mem_map, List.mem_filter, List.mem_range, Bool.and_eq_true, decide_eq_true_eq]
 constructor
 ·rintro ⟨c, ⟨h1, h2, h3⟩, rfl⟩; exact ⟨c, rfl, by omega, h2, h3⟩
 ·rintro ⟨c, rfl, h1, h2, h3⟩; exact ⟨c, ⟨by omega, h2, h3⟩, rfl⟩
theorem mem_formMore {S : DSet} {d : Dot} : d ∈ formMore S ↔ ∃ s c : Nat, s < 5 ∧ d = ⟨(s : Int), (c : Int)⟩ ∧ c ≤ 1000 ∧ pre S s + 2 ≤ c ∧ S s c = true := by
 simp only [formMore, List.mem_flatMap, List.mem_range, mem_moreOf]
 constructor
 ·rintro ⟨s, hs, c, h⟩; exact ⟨s, c, hs, h⟩
 ·rintro ⟨s, c, hs, h⟩; exact ⟨s, hs, c, h⟩
theorem sorted_range (s : Nat) (q : Nat → Bool) : ∀ (n : Nat), SortedD ⟨-1, 0⟩ (((List.range n).filter q).map fun (c : Nat) => (⟨(s : Int), (c : Int)⟩ : Dot))
 | 0 => SortedD.nil
 | n + 1 => by
  rw [List.range_succ, List.filter_append, List.map_append]
  have ih := sorted_range s q n
  by_cases h : q n = true
  ·simp only [List.filter_cons, h, if_true, List.filter_nil, List.map_cons, List.map_nil]
   refine ih.concat ?_ (by rw [dlt_iff]; left; show (-1 : Int) < s; omega)
   intro x hx
   simp only [List.mem_map, List.mem_filter, List.mem_range] at hx
   obtain ⟨c, ⟨hc, _⟩, rfl⟩ := hx
   rw [dlt_iff]; right; exact ⟨rfl, by show (c : Int) < n; omega⟩
  ·simp [h]; exact ih
theorem sorted_formMore (S : DSet) : SortedD ⟨-1, 0⟩ (formMore S) := by
 have : ∀ n : Nat, SortedD ⟨-1, 0⟩ ((List.range n).flatMap fun s => moreOf S s) := by
  intro n
  induction n with
  | zero => exact SortedD.nil
  | succ n ih =>
   rw [List.range_succ, List.flatMap_append]
   refine ih.append (by rw [List.flatMap_cons, List.flatMap_nil, List.append_nil]; exact sorted_range n _ 1001) ?_
   intro x hx y hy
   simp only [List.mem_flatMap, List.mem_range, mem_moreOf, List.mem_singleton] at hx hy
   obtain ⟨s, hs, c, rfl, _⟩ := hx
   obtain ⟨t, rfl, c', rfl, _⟩ := hy
   rw [dlt_iff]; left; show (s : Int) < t; omega
 exact this 5
theorem preFrom_congr {p q : Nat → Bool} : ∀ (f n : Nat), (∀ c, 1 ≤ c → c ≤ n + f → p c = q c) → preFrom p f n = preFrom q f n
 | 0, _, _ => by rw [preFrom, preFrom]
 | f + 1, n, h => by
  rw [preFrom, preFrom, h (n + 1) (by omega) (by omega), preFrom_congr f (n + 1) (fun c c1 c2 => h c c1 (by omega))]
theorem formOf_congr {S T : DSet} (h : SameSet S T) : formOf S = formOf T := by
 have hp : ∀ s, s < 5 → pre S s = pre T s := fun s hs => preFrom_congr 1000 0 fun c c1 c2 => h s hs c c1 (by omega)
 have hv : formVec S = formVec T := by
  unfold formVec
  apply List.map_congr_left
  intro s hs
  rw [hp s (List.mem_range.1 hs)]
 have hm : formMore S = formMore T := by
  refine (sorted_formMore S).unique (sorted_formMore T) fun x => ?_
  rw [mem_formMore, mem_formMore]
  constructor
  ·rintro ⟨s, c, hs, rfl, hc, h1, h2⟩
   exact ⟨s, c, hs, rfl, hc, by rw [← hp s hs]; exact h1, by rw [← h s hs c (by omega) hc]; exact h2⟩
  ·rintro ⟨s, c, hs, rfl, hc, h1, h2⟩
   exact ⟨s, c, hs, rfl, hc, by rw [hp s hs]; exact h1, by rw [h s hs c (by omega) hc]; exact h2⟩
 unfold formOf
 rw [hv, hm]
theorem trim_getD (v : List Int) (i : Nat) : (trim v).getD i 0 = v.getD i 0 := by
 unfold trim
 have key : ∀ (r : List Int) (i : Nat), (r.dropWhile (· == 0)).reverse.getD i 0 = r.reverse.getD i 0 := by
  intro r
  induction r with
  | nil => intro i; rfl
  | cons x r ih =>
   intro i
   by_cases hx : x = 0
   ·subst hx
    rw [List.dropWhile_cons, if_pos (by rfl), ih i, List.reverse_cons]
    simp only [List.getD_eq_getElem?_getD]
    by_cases hi : i < r.reverse.length
    ·rw [List.getElem?_append_left hi]
    ·rw [List.getElem?_append_right (by omega), List.getElem?_eq_none (by omega)]
     cases i - r.reverse.length <;> rfl
   ·rw [List.dropWhile_cons, if_neg (by simpa using hx)]
 rw [key, List.reverse_reverse]
theorem trim_last (v : List Int) : (trim v).getLast? ≠ some 0 := by
 unfold trim
 rw [List.getLast?_reverse]
 intro h
 have := List.head?_dropWhile_not (· == (0 : Int)) v.reverse
 rw [h] at this
 simp at this
theorem trim_len (v : List Int) : (trim v).length ≤ v.length := by
 unfold trim
 rw [List.length_reverse]
 have := (List.dropWhile_sublist (l := v.reverse) (· == (0 : Int))).length_le
 simpa using this
theorem eq_of_getD {a b : List Int} (ha : a.getLast? ≠ some 0) (hb : b.getLast? ≠ some 0) (h : ∀ i, a.getD i 0 = b.getD i 0) : a = b := by
 have key : ∀ {a b : List Int}, b.getLast? ≠ some 0 → (∀ i, a.getD i 0 = b.getD i 0) → b.length ≤ a.length := by
  intro a b hb h
  apply Classical.byContradiction
  intro hn
  have hpos : 0 < b.length := by omega
  apply hb
  rw [List.getLast?_eq_getElem?, List.getElem?_eq_getElem (by omega)]
  have := h (b.length - 1)
  simp only [List.getD_eq_getElem?_getD] at this
  rw [List.getElem?_eq_none (by omega), List.getElem?_eq_getElem (by omega)] at this
  simp at this
  rw [← this]
 have hl : a.length = b.length := by
  have := key hb h
  have := key ha fun i => (h i).symm
  omega
 apply List.ext_getElem hl
 intro i h1 h2
 have := h i
 simp only [List.getD_eq_getElem?_getD, List.getElem?_eq_getElem h1, List.getElem?_eq_getElem h2, Option.getD_some] at this
 exact this
theorem formVec_getD (S : DSet) (s : Nat) (hs : s < 5) : (formVec S).getD s 0 = (pre S s : Int) := by
 simp [formVec, hs]
theorem formVec_out (S : DSet) (s : Nat) (hs : 5 ≤ s) : (formVec S).getD s 0 = 0 := by
 simp [formVec, hs]
theorem form_has {k : Know} (h : KnowOk k) : formOf (hasK k) = k := by
 have hvec : ∀ s : Nat, s < 5 → 0 ≤ vecAt k.vec s ∧ vecAt k.vec s ≤ 1000 := by
  intro s hs
  unfold vecAt
  rw [List.getD_eq_getElem?_getD, Int.toNat_natCast]
  cases e : k.vec[s]? with
  | none => simp
  | some n => simpa using h.vec n (List.mem_of_getElem? e)
 have hp : ∀ s : Nat, s < 5 → (pre (hasK k) s : Int) = vecAt k.vec s := by
  intro s hs
  obtain ⟨h0, h1⟩ := hvec s hs
  obtain ⟨n, hn⟩ := Int.eq_ofNat_of_zero_le h0
  rw [hn]
  congr 1
  refine pre_unique _ _ _ ?_ (by omega) ?_
  ·intro c c1 c2
   have : ((c : Int) ≤ vecAt k.vec s) := by omega
   simp [hasK, c1, this]
  ·intro _
   have h2 : ¬ (((n + 1 : Nat) : Int) ≤ vecAt k.vec s) := by omega
   have h3 : k.more.contains ⟨s, ((n + 1 : Nat) : Int)⟩ = false := by
    rw [← Bool.not_eq_true, List.contains_iff_mem]
    intro hm
    have := (h.more _ hm).2
    simp only at this
    omega
   simp only [hasK, h2, h3]
   simp
 have hv : trim (formVec (hasK k)) = k.vec := by
  refine eq_of_getD (trim_last _) h.last fun i => ?_
  rw [trim_getD]
  by_cases hi : i < 5
  ·rw [formVec_getD _ _ hi, hp i hi]
   simp [vecAt]
  ·rw [formVec_out _ _ (by omega)]
   have := h.vlen
   rw [List.getD_eq_getElem?_getD, List.getElem?_eq_none (by omega)]; rfl
 have hm : formMore (hasK k) = k.more := by
  refine (sorted_formMore _).unique h.sorted fun d => ?_
  rw [mem_formMore]
  constructor
  ·rintro ⟨s, c, hs, rfl, hc, h1, h2⟩
   have := hp s hs
   have hn : ¬ ((c : Int) ≤ vecAt k.vec s) := by omega
   simp only [hasK, hn, decide_false, Bool.false_or, Bool.and_eq_true] at h2
   exact List.contains_iff_mem.1 h2.2
  ·intro hd
   obtain ⟨h1, h2⟩ := h.more d hd
   rw [dotOk_iff] at h1
   obtain ⟨s, hs⟩ := Int.eq_ofNat_of_zero_le h1.1
   obtain ⟨c, hc⟩ := Int.eq_ofNat_of_zero_le (show 0 ≤ d.count by omega)
   have hd' : d = ⟨(s : Int), (c : Int)⟩ := Dot.ext' hs hc
   have hs5 : s < 5 := by omega
   have := hp s hs5
   rw [hs] at h2
   refine ⟨s, c, hs5, hd', by omega, by omega, ?_⟩
   have hm : k.more.contains (⟨(s : Int), (c : Int)⟩ : Dot) = true := List.contains_iff_mem.2 (hd' ▸ hd)
   have hc1 : 1 ≤ c := by omega
   simp only [hasK, hm, hc1]
   simp
 unfold formOf
 rw [hv, hm]
theorem formOf_more (S : DSet) : (formOf S).more = formMore S := by simp only [formOf]
theorem formOf_vec (S : DSet) : (formOf S).vec = trim (formVec S) := by simp only [formOf]
theorem formOf_has (S : DSet) : SameSet (hasK (formOf S)) S := by
 intro s hs c c1 c2
 obtain ⟨h1, h2, h3⟩ := pre_ok S s
 have hv : vecAt (formOf S).vec s = (pre S s : Int) := by
  unfold vecAt
  rw [formOf_vec, trim_getD, Int.toNat_natCast, formVec_getD _ _ hs]
 have e0 := formOf_more S
 rw [Bool.eq_iff_iff]
 simp only [hasK, hv, e0, Bool.and_eq_true, Bool.or_eq_true, decide_eq_true_eq, List.contains_iff_mem]
 constructor
 ·rintro ⟨_, hle | hm⟩
  ·exact h1 c c1 (by omega)
  ·obtain ⟨s', c', _, e, _, _, h⟩ := mem_formMore.1 hm
   have e1 : (s : Int) = s' := congrArg Dot.site e
   have e2 : (c : Int) = c' := congrArg Dot.count e
   rw [show s = s' by omega, show c = c' by omega]; exact h
 ·intro h
  refine ⟨c1, ?_⟩
  by_cases hle : c ≤ pre S s
  ·left; omega
  ·right
   have hne : c ≠ pre S s + 1 := by
    intro e
    rw [e] at h
    rw [h3 (by omega)] at h; cases h
   exact mem_formMore.2 ⟨s, c, hs, rfl, c2, by omega, h⟩
theorem formOf_ok (S : DSet) (h : (formOf S).more.length ≤ 60) : KnowOk (formOf S) := by
 refine ⟨?_, h, ?_, ?_, ?_, ?_⟩
 ·rw [formOf_vec]
  have := trim_len (formVec S); simp only [formVec, List.length_map, List.length_range] at this; exact this
 ·intro n hn
  rw [formOf_vec] at hn
  obtain ⟨i, hi, rfl⟩ := List.getElem_of_mem hn
  have e := trim_getD (formVec S) i
  rw [List.getD_eq_getElem?_getD, List.getElem?_eq_getElem hi, Option.getD_some] at e
  rw [e]
  by_cases h5 : i < 5
  ·rw [formVec_getD _ _ h5]
   have := (pre_ok S i).2.1
   omega
  ·rw [formVec_out _ _ (by omega)]; omega
 ·rw [formOf_vec]; exact trim_last _
 ·rw [formOf_more]; exact sorted_formMore S
 ·intro d hd
  rw [formOf_more] at hd
  rw [formOf_vec]
  obtain ⟨s, c, hs, rfl, hc, h1, h2⟩ := mem_formMore.1 hd
  refine ⟨dotOk_iff.2 ⟨?_, ?_, ?_, ?_⟩, ?_⟩
  ·show (0 : Int) ≤ s; omega
  ·show (s : Int) ≤ 4; omega
  ·show (1 : Int) ≤ c; omega
  ·show (c : Int) ≤ 1000; omega
  ·unfold vecAt
   rw [trim_getD]
   show (formVec S).getD (s : Int).toNat 0 + 2 ≤ (c : Int)
   rw [Int.toNat_natCast, formVec_getD _ _ hs]
   omega
theorem same_of_form {S T : DSet} (h : formOf S = formOf T) : SameSet S T := by
 intro s hs c c1 c2
 rw [← formOf_has S s hs c c1 c2, ← formOf_has T s hs c c1 c2, h]
def madeStep (st : List Int × List Dot) (d : Dot) : List Int × List Dot :=
 if d.count ≤ vecAt st.1 d.site then st
 else if d.count = vecAt st.1 d.site + 1 then (st.1.set d.site.toNat (vecAt st.1 d.site + 1), st.2)
 else if st.2.getLast? = some d then st else (st.1, st.2 ++ [d])
def madeFold (v : List Int) (ds : List Dot) : List Int × List Dot := ds.foldl madeStep (v, [])
def dle (a b : Dot) : Bool := !dlt b a
def OrdD (l : List Dot) : Prop := l.Pairwise fun a b => dle a b = true
structure MadeOk (v0 : List Int) (P : List Dot) (st : List Int × List Dot) : Prop where
 len : st.1.length = 5
 ge : ∀ s : Nat, s < 5 → vecAt v0 s ≤ vecAt st.1 s
 le : ∀ s : Nat, s < 5 → 0 ≤ vecAt st.1 s ∧ vecAt st.1 s ≤ 1000
 all : ∀ s : Nat, s < 5 → ∀ c : Nat, 1 ≤ c → (c : Int) ≤ vecAt st.1 s → (c : Int) ≤ vecAt v0 s ∨ (⟨s, c⟩ : Dot) ∈ P
 sorted : SortedD ⟨-1, 0⟩ st.2
 sub : ∀ d ∈ st.2, d ∈ P ∧ vecAt st.1 d.site + 2 ≤ d.count
 cover : ∀ d ∈ P, d.count ≤ vecAt st.1 d.site ∨ d ∈ st.2
 pok : ∀ d ∈ P, dotOk d = true
theorem vecAt_set (v : List Int) (i s : Int) (n : Int) (h0 : 0 ≤ i) (h1 : 0 ≤ s) (hi : i.toNat < v.length) : vecAt (v.set i.toNat n) s = if i = s then n else vecAt v s := by
 unfold vecAt
 simp only [List.getD_eq_getElem?_getD, List.getElem?_set]
 by_cases h : i = s
 ·subst h; simp [hi]
 ·rw [if_neg h, if_neg (by omega)]
theorem getLast_sorted : ∀ {l : List Dot} {lo x y : Dot}, SortedD lo l → l.getLast? = some y → x ∈ l → x = y ∨ dlt x y = true
 | [d], _, x, y, _, h, hx => by simp at h hx; left; rw [hx, h]
 | d :: e :: r, lo, x, y, hs, h, hx => by
  have h' : (e :: r).getLast? = some y := by simpa using h
  rcases List.mem_cons.1 hx with rfl | hx
  ·right
   rcases getLast_sorted hs.tail h' (x := e) (by simp) with rfl | h2
   ·exact hs.tail.head
   ·exact dlt_trans hs.tail.head h2
  ·exact getLast_sorted hs.tail h' hx
theorem made_ok (v0 : List Int) : ∀ (ds P : List Dot) (st : List Int × List Dot), MadeOk v0 P st → (∀ d ∈ ds, dotOk d = true) → OrdD ds → (∀ p ∈ P, ∀ d ∈ ds, dle p d = true) → MadeOk v0 (P ++ ds) (ds.foldl madeStep st)
 | [], P, st, h, _, _, _ => by simpa using h
 | d :: ds, P, st, h, hd, ho, hP => by
  have hdo := dotOk_iff.1 (hd d (by simp))
  obtain ⟨s, hs⟩ := Int.eq_ofNat_of_zero_le hdo.1
  obtain ⟨c, hc⟩ := Int.eq_ofNat_of_zero_le (show 0 ≤ d.count by omega)
  have hs5 : s < 5 := by omega
  have hd' : d = ⟨(s : Int), (c : Int)⟩ := Dot.ext' hs hc
  have hPd : ∀ p ∈ P, dle p d = true := fun p hp => hP p hp d (by simp)
  have hpok : ∀ e ∈ P ++ [d], dotOk e = true := by
   intro e he
   rcases List.mem_append.1 he with he | he
   ·exact h.pok e he
   ·rw [List.mem_singleton.1 he]; exact hd d (by simp)
  have step : MadeOk v0 (P ++ [d]) (madeStep st d) := by
   unfold madeStep
   by_cases h1 : d.count ≤ vecAt st.1 d.site
   ·rw [if_pos h1]
    refine ⟨h.len, h.ge, h.le, fun s hs c c1 c2 => (h.all s hs c c1 c2).imp id (by simp; exact .inl), h.sorted, fun e he => ⟨by simp [(h.sub e he).1], (h.sub e he).2⟩, fun e he => ?_, hpok⟩
    rcases List.mem_append.1 he with he | he
    ·exact h.cover e he
    ·obtain rfl := List.mem_singleton.1 he; exact .inl h1
   ·rw [if_neg h1]
    by_cases h2 : d.count = vecAt st.1 d.site + 1
    ·rw [if_pos h2]
     have hset : ∀ t : Int, 0 ≤ t → vecAt (st.1.set d.site.toNat (vecAt st.1 d.site + 1)) t = if d.site = t then vecAt st.1 d.site + 1 else vecAt st.1 t :=
      fun t ht => vecAt_set _ _ _ _ hdo.1 ht (by rw [h.len]; omega)
     have hmono : ∀ t : Int, 0 ≤ t → vecAt st.1 t ≤ vecAt (st.1.set d.site.toNat (vecAt st.1 d.site + 1)) t := by
      intro t ht
      rw [hset t ht]
      split
      ·rename_i e; rw [← e]; omega
      ·exact Int.le_refl _
     refine ⟨by simp [h.len], fun t ht => ?_, fun t ht => ?_, fun t ht c' c1 c2 => ?_, h.sorted, fun e he => ?_, fun e he => ?_, hpok⟩
     ·exact Int.le_trans (h.ge t ht) (hmono t (by omega))
     ·have := h.le t ht
      show 0 ≤ vecAt (st.1.set d.site.toNat (vecAt st.1 d.site + 1)) t ∧ vecAt (st.1.set d.site.toNat (vecAt st.1 d.site + 1)) t ≤ 1000
      rw [hset t (by omega)]
      split
      ·rename_i e; rw [← e] at this; omega
      ·exact this
     ·have c2' : (c' : Int) ≤ vecAt (st.1.set d.site.toNat (vecAt st.1 d.site + 1)) t := c2
      rw [hset t (by omega)] at c2'
      split at c2'
      ·rename_i e
       by_cases hle : (c' : Int) ≤ vecAt st.1 t
       ·exact (h.all t ht c' c1 hle).imp id (by simp; exact .inl)
       ·right
        rw [← e] at hle
        have : d = ⟨(t : Int), (c' : Int)⟩ := Dot.ext' e (by show d.count = (c' : Int); omega)
        simp [this]
      ·exact (h.all t ht c' c1 c2').imp id (by simp; exact .inl)
     ·obtain ⟨g1, g2⟩ := h.sub e he
      have heo := dotOk_iff.1 (h.pok e g1)
      refine ⟨by simp [g1], ?_⟩
      have hle := hPd e g1
      have hle' : ¬ dlt d e = true := by simpa [dle] using hle
      rw [dlt_iff] at hle'
      show vecAt (st.1.set d.site.toNat (vecAt st.1 d.site + 1)) e.site + 2 ≤ e.count
      rw [hset e.site heo.1]
      split
      ·rename_i e'
       rw [← e'] at g2 hle'
       omega
      ·exact g2
     ·rcases List.mem_append.1 he with he | he
      ·have heo := dotOk_iff.1 (h.pok e he)
       exact (h.cover e he).imp (fun hh => Int.le_trans hh (hmono e.site heo.1)) id
      ·obtain rfl := List.mem_singleton.1 he
       left
       show e.count ≤ vecAt (st.1.set e.site.toNat (vecAt st.1 e.site + 1)) e.site
       rw [hset _ hdo.1, if_pos rfl]; omega
    ·rw [if_neg h2]
     by_cases h3 : st.2.getLast? = some d
     ·rw [if_pos h3]
      refine ⟨h.len, h.ge, h.le, fun s hs c c1 c2 => (h.all s hs c c1 c2).imp id (by simp; exact .inl), h.sorted, fun e he => ⟨by simp [(h.sub e he).1], (h.sub e he).2⟩, fun e he => ?_, hpok⟩
      rcases List.mem_append.1 he with he | he
      ·exact h.cover e he
      ·obtain rfl := List.mem_singleton.1 he; exact .inr (List.mem_of_getLast? h3)
     ·rw [if_neg h3]
      refine ⟨h.len, h.ge, h.le, fun s hs c c1 c2 => (h.all s hs c c1 c2).imp id (by simp; exact .inl), ?_, fun e he => ?_, fun e he => ?_, hpok⟩
      ·refine h.sorted.concat (fun x hx => ?_) (by rw [dlt_iff]; left; show (-1 : Int) < d.site; omega)
       have hle := hPd x (h.sub x hx).1
       by_cases hxd : x = d
       ·subst hxd
        cases hg : st.2.getLast? with
        | none => rw [List.getLast?_eq_none_iff] at hg; rw [hg] at hx; simp at hx
        | some y =>
         rcases getLast_sorted h.sorted hg hx with rfl | hlt
         ·exact absurd hg h3
         ·have := hPd y (h.sub y (List.mem_of_getLast? hg)).1
          simp [dle, hlt] at this
       ·exact dlt_total (by simpa [dle] using hle) fun e => hxd e.symm
      ·rcases List.mem_append.1 he with he | he
       ·exact ⟨by simp [(h.sub e he).1], (h.sub e he).2⟩
       ·obtain rfl := List.mem_singleton.1 he
        exact ⟨by simp, by show vecAt st.1 _ + 2 ≤ _; omega⟩
      ·rcases List.mem_append.1 he with he | he
       ·exact (h.cover e he).imp id (by simp; exact .inl)
       ·obtain rfl := List.mem_singleton.1 he; exact .inr (by simp)
  have := made_ok v0 ds (P ++ [d]) (madeStep st d) step (fun e he => hd e (by simp [he])) (List.pairwise_cons.1 ho).2 (fun p hp e he => by
   rcases List.mem_append.1 hp with hp | hp
   ·exact hP p hp e (by simp [he])
   ·obtain rfl := List.mem_singleton.1 hp; exact (List.pairwise_cons.1 ho).1 e he)
  simpa using this
def madeSet (v : List Int) (ds : List Dot) : DSet := fun s c => decide (1 ≤ c) && (decide ((c : Int) ≤ vecAt v s) || ds.contains ⟨s, c⟩)
def made (v : List Int) (ds : List Dot) : Know := ⟨trim (madeFold v ds).1, (madeFold v ds).2⟩
theorem made_form {v : List Int} {ds : List Dot} (hl : v.length = 5) (hv : ∀ n ∈ v, 0 ≤ n ∧ n ≤ 1000) (hd : ∀ d ∈ ds, dotOk d = true) (ho : OrdD ds) : made v ds = formOf (madeSet v ds) := by
 have hv' : ∀ s : Nat, s < 5 → 0 ≤ vecAt v s ∧ vecAt v s ≤ 1000 := by
  intro s hs
  unfold vecAt
  rw [List.getD_eq_getElem?_getD, Int.toNat_natCast, List.getElem?_eq_getElem (by omega)]
  exact hv _ (List.getElem_mem _)
 have h := made_ok v ds [] (v, []) ⟨hl, fun _ _ => Int.le_refl _, hv', fun s hs c c1 c2 => .inl c2, SortedD.nil, by simp, by simp, by simp⟩ hd ho (by simp)
 rw [List.nil_append] at h
 have hp : ∀ s : Nat, s < 5 → (pre (madeSet v ds) s : Int) = vecAt (madeFold v ds).1 s := by
  intro s hs
  obtain ⟨h0, h1⟩ := h.le s hs
  obtain ⟨n, hn⟩ := Int.eq_ofNat_of_zero_le h0
  show _ = vecAt (ds.foldl madeStep (v, [])).1 s
  rw [hn]
  congr 1
  refine pre_unique _ _ _ ?_ (by omega) ?_
  ·intro c c1 c2
   rcases h.all s hs c c1 (by omega) with hh | hh
   ·simp [madeSet, c1, hh]
   ·have := List.contains_iff_mem.2 hh
    simp only [madeSet, c1, this]; simp
  ·intro _
   rw [← Bool.not_eq_true]
   simp only [madeSet, Bool.and_eq_true, Bool.or_eq_true, decide_eq_true_eq]
   rintro ⟨_, hh | hh⟩
   ·have := h.ge s hs; omega
   ·rcases h.cover _ (List.contains_iff_mem.1 hh) with g | g
    ·have g' : ((n + 1 : Nat) : Int) ≤ vecAt (ds.foldl madeStep (v, [])).1 s := g
     omega
    ·have g' : vecAt (ds.foldl madeStep (v, [])).1 s + 2 ≤ ((n + 1 : Nat) : Int) := (h.sub _ g).2
     omega
 have e1 : trim (madeFold v ds).1 = trim (formVec (madeSet v ds)) := by
  congr 1
  apply List.ext_getElem
  ·show (ds.foldl madeStep (v, [])).1.length = _
   rw [h.len]; simp [formVec]
  ·intro i h1 h2
   have h5 : i < 5 := by simp [formVec] at h2; exact h2
   have := hp i h5
   rw [← formVec_getD _ _ h5] at this
   rw [List.getD_eq_getElem?_getD, List.getElem?_eq_getElem h2, Option.getD_some] at this
   rw [this]
   unfold vecAt
   rw [List.getD_eq_getElem?_getD, Int.toNat_natCast, List.getElem?_eq_getElem h1, Option.getD_some]
 have e2 : (madeFold v ds).2 = formMore (madeSet v ds) := by
  refine h.sorted.unique (sorted_formMore _) fun d => ?_
  rw [mem_formMore]
  constructor
  ·intro hm
   obtain ⟨g1, g2⟩ := h.sub d hm
   have hdo := dotOk_iff.1 (hd d g1)
   obtain ⟨s, hs⟩ := Int.eq_ofNat_of_zero_le hdo.1
   obtain ⟨c, hc⟩ := Int.eq_ofNat_of_zero_le (show 0 ≤ d.count by omega)
   have hd' : d = ⟨(s : Int), (c : Int)⟩ := Dot.ext' hs hc
   have hs5 : s < 5 := by omega
   have hps := hp s hs5
   rw [hs] at g2
   have g2' : vecAt (madeFold v ds).1 s + 2 ≤ d.count := g2
   refine ⟨s, c, hs5, hd', by omega, by omega, ?_⟩
   have hc1 : 1 ≤ c := by omega
   have := List.contains_iff_mem.2 (hd' ▸ g1)
   simp only [madeSet, this, hc1]
   simp
  ·rintro ⟨s, c, hs, rfl, hc, h1, h2⟩
   have hps := hp s hs
   simp only [madeSet, Bool.and_eq_true, Bool.or_eq_true, decide_eq_true_eq] at h2
   rcases h2.2 with g | g
   ·have g0 := h.ge s hs
    have hps' : (pre (madeSet v ds) s : Int) = vecAt (ds.foldl madeStep (v, [])).1 s := hps
    omega
   ·rcases h.cover _ (List.contains_iff_mem.1 g) with g' | g'
    ·have g'' : (c : Int) ≤ vecAt (ds.foldl madeStep (v, [])).1 s := g'
     have hps' : (pre (madeSet v ds) s : Int) = vecAt (ds.foldl madeStep (v, [])).1 s := hps
     omega
    ·exact g'
 unfold made formOf
 rw [e1, e2]
end Go.Proofs.YtngbfdogiciahaaGreat
namespace Go.Proofs.YtngbfdogiciahaaGreat
open Go Go.RowKit Go.ChangeShapes Go.WideShapes Go.Deep
section
variable {H : Type} {enc : TypeId × Value → H} {P : Program} {w : World} {spare : Nat → Bool} {held : Bool}
theorem sl_of_trod {α : Type} {R : World → List Value → α → Prop} {sz : Nat} {Q : α → Prop} {t e : TypeId} {fuel : Nat} {A : Option Addr} {len cap : Nat} {x : DataW H × List MemPlace} (ht : P.underlying t = some (.slice e)) (hC : P.cellsOf e = sz) (hsz : 0 < sz)
  (helem : ∀ (n : Nat) (cs : List Value) (y : DataW H × List MemPlace), cs.length = sz → DataW.trod enc P w 0 spare held n e cs = some y → ∃ z : α, R w cs z ∧ Q z)
  (h : DataW.trod enc P w 0 spare held fuel t [.slice A len cap] = some x) :
  ∃ l : List α, l.length = len ∧ len ≤ cap ∧ cap ≤ maxLen ∧ Sl w.heap.size e R sz w A l ∧ ∀ z ∈ l, Q z := by
 rcases open_slice ht h with ⟨h0, _⟩ | ⟨a, len', cap', m, n, D, Pl, hcs, hb, hl, hm, hmm, hx, hi⟩
 ·simp only [List.cons.injEq, Value.slice.injEq, and_true] at h0
  obtain ⟨rfl, rfl, rfl⟩ := h0
  exact ⟨[], rfl, Nat.le_refl _, Nat.zero_le _, Sl.nil, by simp⟩
 ·simp only [List.cons.injEq, Value.slice.injEq, and_true] at hcs
  obtain ⟨rfl, rfl, rfl⟩ := hcs
  have hlm : len ≤ m := by rw [hmm]; split <;> omega
  have key : ∀ i, i < len → ∃ z : α, (∃ cs, cs.length = sz ∧ (∀ j, j < sz → w.cell? ((a.add (i * sz)).add j) = cs[j]?) ∧ R w cs z) ∧ Q z := by
   intro i hil
   obtain ⟨cs', hc, ht'⟩ := hi i (by omega)
   rw [hC] at hc
   obtain ⟨_, hcl, hat⟩ := World.cells?_some hc
   obtain ⟨z, hz, hq⟩ := helem n cs' _ hcl ht'
   exact ⟨z, ⟨cs', hcl, hat, hz⟩, hq⟩
  obtain ⟨l, hll, hlz⟩ := choose_list (p := fun i z => (∃ cs, cs.length = sz ∧ (∀ j, j < sz → w.cell? ((a.add (i * sz)).add j) = cs[j]?) ∧ R w cs z) ∧ Q z) len key
  refine ⟨l, hll, hl, hm, ?_, ?_⟩
  ·intro i z hz
   obtain ⟨⟨cs, h1, h2, h3⟩, _⟩ := hlz i z hz
   have hil : i < len := by have := (List.getElem?_eq_some_iff.1 hz).1; omega
   -- the address has no spot: its first cell is there
   obtain ⟨⟨cs0, g1, g2, _⟩, _⟩ := hlz 0 _ (List.getElem?_eq_getElem (show 0 < l.length by omega))
   obtain ⟨b, off, spot⟩ := a
   have e0 := g2 0 hsz
   have hsome : ∃ u, cs0[0]? = some u := ⟨cs0[0]'(by omega), List.getElem?_eq_getElem (by omega)⟩
   obtain ⟨u, hu⟩ := hsome
   rw [hu] at e0
   have ea : ((⟨b, off, spot⟩ : Addr).add (0 * sz)).add 0 = ⟨b, off, spot⟩ := by simp [Addr.add]
   rw [ea] at e0
   have hspot : spot = none := by
    unfold World.cell? at e0
    split at e0
    ·cases spot with
     | none => rfl
     | some s => simp at e0
    ·cases e0
   subst hspot
   have hbl : b < w.heap.size := World.block_lt_of_cell? _ _ e0
   refine ⟨b, off, cs, rfl, hbl, .inl hbl, h1, ?_, h3⟩
   intro j v hj
   have hjs : j < sz := by have := (List.getElem?_eq_some_iff.1 hj).1; omega
   have := h2 j hjs
   rw [hj] at this
   have ea2 : (((⟨b, off, none⟩ : Addr).add (i * sz)).add j) = ⟨b, off + i * sz + j, none⟩ := by
    unfold Addr.add
    by_cases h1 : i * sz = 0 <;> by_cases h2 : j = 0 <;> simp [h1, h2]
   rwa [ea2] at this
  ·intro z hz
   obtain ⟨i, hi, rfl⟩ := List.getElem_of_mem hz
   exact (hlz i _ (List.getElem?_eq_getElem hi)).2
def InI64 (n : Int) : Prop := -9223372036854775808 ≤ n ∧ n ≤ 9223372036854775807
theorem inI64_of_wf {n : Int} (h : (Lit.int .i64 n).wf = true) : InI64 n := by
 simp [Lit.wf] at h
 unfold InI64
 first
  | exact h
  | (simp [IntKind.min, IntKind.max] at h; omega)
  | skip
theorem int_cell {i : TypeId} {n : Nat} {cs : List Value} {y : DataW H × List MemPlace} (hi : P.underlying i = some (.int .i64)) (h : DataW.trod enc P w 0 spare held n i cs = some y) : ∃ a, cs = [.int .i64 a] ∧ InI64 a := by
 obtain ⟨n0, e0, _, w0⟩ := DataW.trod_int hi h
 exact ⟨n0, e0, inI64_of_wf w0⟩
end
end Go.Proofs.YtngbfdogiciahaaGreat
namespace Go.Proofs.YtngbfdogiciahaaGreat
open Go Go.RowKit Go.ChangeShapes Go.WideShapes Go.Deep
theorem own : ownKnob Tryz.prog.godebug = none := by kernel_rfl
theorem laidOut : laidOutB Tryz.prog = true := by kernel_rfl
theorem cells_int : Tryz.prog.cellsOf 3 = 1 := by kernel_rfl
section
variable {H : Type} {enc : TypeId × Value → H} {w : World} {spare : Nat → Bool} {held : Bool}
end
end Go.Proofs.YtngbfdogiciahaaGreat
namespace Go.Proofs.YtngbfdogiciahaaGreat
open Go Go.RowKit
def rowF (n : Nat) (f : Nat → Value) : Array Value := Array.ofFn (fun i : Fin n => f i)
theorem rowF_size (n : Nat) (f : Nat → Value) : (rowF n f).size = n := by simp [rowF]
theorem rowF_get {n : Nat} (f : Nat → Value) {i : Nat} (h : i < n) : (rowF n f)[i]? = some (f i) := by simp [rowF, h]
theorem rowF_set (n : Nat) (f : Nat → Value) (i : Nat) (u : Value) : (rowF n f).setIfInBounds i u = rowF n (fun j => if j = i then u else f j) := by
 apply Array.ext
 ·simp [rowF]
 ·intro j h1 h2
  simp only [rowF, Array.size_setIfInBounds, Array.size_ofFn] at h1
  by_cases hij : i = j
  ·subst hij; simp [rowF]
  ·rw [Array.getElem_setIfInBounds_ne (by simpa [rowF] using h1) hij]
   simp [rowF, show ¬ j = i from fun e => hij e.symm]
theorem rowF_congr {n : Nat} {f g : Nat → Value} (h : ∀ i, i < n → f i = g i) : rowF n f = rowF n g := by
 unfold rowF
 congr 1
 funext i
 exact h i i.isLt
theorem rowF_all {n : Nat} {f : Nat → Value} (h : ∀ i, (f i).oneCell' = true) : (rowF n f).all (·.oneCell') = true := by
 rw [Array.all_eq_true]
 intro i hi
 simp [rowF, h]
def rowB (n : Nat) (p : Nat → Bool) : Array Value := rowF n fun i => .bool (p i)
theorem rowB_get {n : Nat} (p : Nat → Bool) {i : Nat} (h : i < n) : (rowB n p)[i]? = some (.bool (p i)) := rowF_get _ h
theorem rowB_set (n : Nat) (p : Nat → Bool) (i : Nat) (b : Bool) : (rowB n p).setIfInBounds i (.bool b) = rowB n (fun j => if j = i then b else p j) := by
 unfold rowB
 rw [rowF_set]
 congr 1
 funext j
 by_cases h : j = i <;> simp [h]
theorem rowB_congr {n : Nat} {p q : Nat → Bool} (h : ∀ i, i < n → p i = q i) : rowB n p = rowB n q := rowF_congr fun i hi => by rw [h i hi]
theorem rowB_all (n : Nat) (p : Nat → Bool) : (rowB n p).all (·.oneCell') = true := rowF_all fun _ => rfl
def Blk (w : World) (b : Nat) (e : TypeId) (cs : Array Value) : Prop := w.heap[b]? = some (.cells cs e (0, 0))
section
variable {w w' : World} {b : Nat} {e : TypeId} {cs : Array Value}
theorem Blk.lt (h : Blk w b e cs) : b < w.heap.size := (Array.getElem?_eq_some_iff.1 h).1
theorem Blk.ty (h : Blk w b e cs) : tyAt w b = some e := by unfold tyAt; rw [h]
theorem Blk.cell (h : Blk w b e cs) {i : Nat} {u : Value} (hu : cs[i]? = some u) : w.cell? ⟨b, i, none⟩ = some u := (cell_of_row w b i cs e (0, 0) h).trans hu
theorem Blk.frozen (h : Blk w b e cs) (i : Nat) : w.frozen? ⟨b, i, none⟩ = false := by
 unfold Blk at h
 simp [World.frozen?, h]
theorem Blk.new (w : World) (e : TypeId) (cs : Array Value) : Blk (w.alloc (.cells cs e)) w.heap.size e cs := heap_alloc_new w _
theorem Blk.ext (h : Blk w b e cs) (x : Ext w w') : Blk w' b e cs := (x.blockAt h.lt).trans h
theorem Blk.below {k : Nat} (h : Blk w b e cs) (x : Below k w w') (hb : b < k) : Blk w' b e cs := (x.block b hb).trans h
theorem Blk.chg {B : Nat} {ts : List TypeId} (h : Blk w b e cs) (x : Chg B ts w w') (he : e ∉ ts) : Blk w' b e cs := by
 refine (x.block b h.lt (.inr fun t ht h2 => ?_)).trans h
 rw [h.ty] at h2
 injection h2 with h2
 exact he (h2 ▸ ht)
theorem Blk.set (h : Blk w b e cs) (i : Nat) (u : Value) : Blk (w.setCell ⟨b, i, none⟩ u) b e (cs.setIfInBounds i u) := by
 unfold Blk at h ⊢
 simp [World.setCell, Array.getElem?_modify, h]
theorem Blk.far (h : Blk w b e cs) {p : Addr} (hp : b ≠ p.block) (u : Value) : Blk (w.setCell p u) b e cs := (Below.heap_setCell w p u b hp).trans h
theorem Blk.alloc (h : Blk w b e cs) (o : Obj) : Blk (w.alloc o) b e cs := h.ext ((Ext.refl w).alloc o)
theorem Blk.other (h : Blk w b e cs) {k : Nat} (ho : ∀ j, j ≠ k → w'.heap[j]? = w.heap[j]?) (hb : b ≠ k) : Blk w' b e cs := (ho b hb).trans h
theorem Blk.setB {n : Nat} {p : Nat → Bool} (h : Blk w b e (rowB n p)) (i : Nat) (v : Bool) : Blk (w.setCell ⟨b, i, none⟩ (.bool v)) b e (rowB n fun j => if j = i then v else p j) := by
 rw [← rowB_set]; exact h.set i _
end
def ArrInfo (P : Program) (t : TypeId) (n : Nat) : Prop := (∃ m e, P.underlying t = some (.array m e)) ∧ (P.info? t).map (·.size) = some n
def ZeroInfo (P : Program) (t : TypeId) (cs : Array Value) : Prop := ∀ w, (zeroValue t).run P w = .ok (.agg cs) w
section
variable {P : Program} {ops : Array Oper} {rest : List Oper} {o : Oper} {a : Act} {w : World} {Q : Exit → Act → World → Prop} {K : Act → World → Prop} {t : TypeId} {n : Nat}
theorem at_op {ty : TypeId} {pos : String} {after : Array Edge} {g : Option (Nat × Bool)} (dst : Option Tmp) (op : Op) (h : wpList P ops Q (⟨dst, op, ty, pos, after, g⟩ :: rest) a w) : wpList P ops Q (⟨dst, op, ty, pos, after, g⟩ :: rest) a w := h
theorem wp_loadArr (ai : ArrInfo P t n) (x : Operand) (ho : o.op = .load t x) {b : Nat} (hx : a.eval x = .pointer (some ⟨b, 0, none⟩)) {e : TypeId} {cs : Array Value} (hb : Blk w b e cs) (hn : cs.size = n)
  (h : K (a.put o.dst (.agg cs)) w) : o.wp P a w K Q := by
 obtain ⟨⟨m, e', hu⟩, hi⟩ := ai
 exact wp_load_row t x ho b hx e cs (0, 0) _ hb hu rfl (by rw [hn]; exact hi) h
theorem wpList_loadArr (ai : ArrInfo P t n) (x : Operand) (ho : o.op = .load t x) (hg : Region.wanted o (yielded ops a.tmps) = true) {b : Nat} (hx : a.eval x = .pointer (some ⟨b, 0, none⟩)) {e : TypeId} {cs : Array Value} (hb : Blk w b e cs) (hn : cs.size = n)
  (h : wpList P ops Q rest (a.put o.dst (.agg cs)) w) : wpList P ops Q (o :: rest) a w :=
 wpList_step fun K hK => by rw [if_pos hg]; exact wp_loadArr ai x ho hx hb hn (hK _ _ h)
theorem wpList_boxArr (x : Operand) (ho : o.op = .box t x) (hg : o.guard = none) {cs : Array Value} (hx : a.eval x = .agg cs)
  (h : ∀ w', Ext w w' → Blk w' w.heap.size t cs → w'.heap.size = w.heap.size + 1 → wpList P ops Q rest (a.put o.dst (.pointer (some ⟨w.heap.size, 0, none⟩))) w') : wpList P ops Q (o :: rest) a w := by
 refine wpList_plain hg fun K hK => ?_
 unfold Oper.wp execOp
 simp only [ho, Sem.run_bind, Instr.box, newVar, newRow, run_newObj_alloc, Sem.run_pure, Result.andThen_ok, hx, Value.cells]
 exact hK _ _ (h _ ((Ext.refl w).alloc _) (Blk.new w t cs) (by simp))
theorem wpList_allocArr {cs : Array Value} (zi : ZeroInfo P t cs) (ho : o.op = .alloc t) (hg : o.guard = none)
  (h : ∀ w', Ext w w' → Blk w' w.heap.size t cs → w'.heap.size = w.heap.size + 1 → wpList P ops Q rest (a.put o.dst (.pointer (some ⟨w.heap.size, 0, none⟩))) w') : wpList P ops Q (o :: rest) a w := by
 refine wpList_plain hg fun K hK => ?_
 unfold Oper.wp execOp
 simp only [ho, Sem.run_bind, Instr.alloc, newVar, newRow, run_newObj_alloc, Sem.run_pure, Result.andThen_ok, zi w, Value.cells]
 exact hK _ _ (h _ ((Ext.refl w).alloc _) (Blk.new w t cs) (by simp))
theorem wpList_storeArr (ai : ArrInfo P t n) (x y : Operand) (ho : o.op = .store t x y) (hg : o.guard = none) {b : Nat} (hx : a.eval x = .pointer (some ⟨b, 0, none⟩)) {cs old : Array Value} (hy : a.eval y = .agg cs)
  (hb : Blk w b t old) (hn : cs.size = n) (hold : old.size = n) (h1 : cs.all (·.oneCell') = true)
  (h : ∀ w', Below b w w' → Blk w' b t cs → w'.heap.size = w.heap.size → (∀ k, k ≠ b → w'.heap[k]? = w.heap[k]?) → wpList P ops Q rest (a.put o.dst undef) w') : wpList P ops Q (o :: rest) a w := by
 obtain ⟨_, hi⟩ := ai
 have hother : ∀ k, k ≠ b → (w.setRow b cs).heap[k]? = w.heap[k]? := fun k hk => setRow_other w b k cs (by omega)
 exact wpList_store_row hg t x y ho b cs hx hy t old hb (by rw [hn]; exact hi) (by omega) h1
  (h _ ⟨rfl, rfl, rfl, by simp, fun k hk => hother k (by omega)⟩ (setRow_heap w b old _ t _ hb) (by simp) hother)
theorem run_index_row {t e : TypeId} {n : Nat} {f : Nat → Value} (hu : P.underlying t = some (.array n e)) (hag : ∀ w, (isAgg e).run P w = .ok false w) (hs : ∀ w, (sizeOf e).run P w = .ok 1 w) {k : Nat} (hk : k < n) (w : World) :
  (Instr.index t (.agg (rowF n f)) (.int .i64 k)).run P w = .ok (f k) w := by
 have h2 := rowF_get f hk
 simp [Instr.index, asIntOf, run_underlying hu, hk, hs, part, hag, h2]
theorem ret_arr {fn : Func} {R : Ending → World → Prop} {q : Tmp} (hr : fn.results = #[.cell q t]) (ai : ArrInfo P t n) {b : Nat} (hq : a.tmps.getD q undef = .pointer (some ⟨b, 0, none⟩)) {e : TypeId} {cs : Array Value} (hb : Blk w b e cs) (hn : cs.size = n)
  (hd : a.defers = []) (h : R (.returned (.agg cs)) w) : bodyPost P fn R .ret a w := by
 obtain ⟨⟨m, e', hu⟩, hi⟩ := ai
 exact bodyPost_ret (results_cell_row hr _ _ b e cs (0, 0) _ hq hb hu rfl (by rw [hn]; exact hi)) hd h
end
end Go.Proofs.YtngbfdogiciahaaGreat
namespace Go.Proofs.YtngbfdogiciahaaGreat
open Go Go.RowKit Go.ChangeShapes Go.WideShapes Go.Deep Go.Joins
def RBox (B : Nat) (w : World) (cs : List Value) (b : Box) : Prop := ∃ v, cs = [.int .i64 b.cube.yes, .int .i64 b.cube.no, v] ∧ IsSpans B w v b.spans
theorem RBox.mono {B : Nat} {ts : List TypeId} (h : 137 ∉ ts) : Mono B ts (RBox B) := by
 rintro w w' cs b x ⟨v, rfl, hv⟩
 exact ⟨v, rfl, hv.chg RPair.mono h x⟩
theorem RBox.monoE {B : Nat} : Mono B [] (RBox B) := RBox.mono (by simp)
theorem RBox.oneC {B : Nat} : OneC (RBox B) := by
 rintro w cs b ⟨v, rfl, A, c, rfl, _⟩ u hu
 simp at hu
 rcases hu with rfl | rfl | rfl <;> rfl
abbrev SlBoxes (B : Nat) := Sl B 142 (RBox B) 3
abbrev IsBoxes (B : Nat) := IsSl B 142 (RBox B) 3
theorem Sl.box {B : Nat} {w : World} {A : Option Addr} {l : List Box} (h : SlBoxes B w A l) {i : Nat} (hi : i < l.length) :
  ∃ b off A' c', A = some ⟨b, off, none⟩ ∧ b < w.heap.size ∧ w.cell? ⟨b, off + i * 3, none⟩ = some (.int .i64 l[i].cube.yes) ∧ w.cell? ⟨b, off + i * 3 + 1, none⟩ = some (.int .i64 l[i].cube.no) ∧
   w.cell? ⟨b, off + i * 3 + 2, none⟩ = some (.slice A' l[i].spans.length c') ∧ l[i].spans.length ≤ maxLen ∧ SlSpans B w A' l[i].spans := by
 obtain ⟨b, off, cs, hA, hb, _, hc, v, rfl, A', c', rfl, h1, h2, h3⟩ := h.at_ hi
 have g0 := hc 0 _ rfl
 have g1 := hc 1 _ rfl
 have g2 := hc 2 _ rfl
 simp only [Nat.add_zero] at g0
 exact ⟨b, off, A', c', hA, hb, g0, g1, g2, by omega, h3⟩
section
variable {H : Type} {enc : TypeId × Value → H} {w : World} {spare : Nat → Bool} {held : Bool}
theorem isSl_of_trod {P : Program} {α : Type} {R : World → List Value → α → Prop} {sz : Nat} {Q : α → Prop} {t e : TypeId} {fuel : Nat} {cs : List Value} {x : DataW H × List MemPlace} (ht : P.underlying t = some (.slice e)) (hC : P.cellsOf e = sz) (hsz : 0 < sz)
  (helem : ∀ (n : Nat) (cs : List Value) (y : DataW H × List MemPlace), cs.length = sz → DataW.trod enc P w 0 spare held n e cs = some y → ∃ z : α, R w cs z ∧ Q z)
  (h : DataW.trod enc P w 0 spare held fuel t cs = some x) :
  ∃ v l, cs = [v] ∧ IsSl w.heap.size e R sz w v l ∧ ∀ z ∈ l, Q z := by
 have key : ∃ A n c, cs = [.slice A n c] := by
  rcases open_slice ht h with ⟨h0, _⟩ | ⟨a, len', cap', m, n, D, Pl, hcs, _⟩
  ·exact ⟨_, _, _, h0⟩
  ·exact ⟨_, _, _, hcs⟩
 obtain ⟨A, n, c, rfl⟩ := key
 obtain ⟨l, rfl, h1, h2, h3, h4⟩ := sl_of_trod (R := R) ht hC hsz helem h
 exact ⟨_, l, rfl, ⟨A, c, rfl, h1, h2, h3⟩, h4⟩
end
end Go.Proofs.YtngbfdogiciahaaGreat
namespace Go.Proofs.YtngbfdogiciahaaGreat
open Go Go.RowKit
abbrev SlInts (B : Nat) := Sl B 3 RInt 1
abbrev SlDots (B : Nat) := Sl B 35 RDot 2
structure InK (B : Nat) (w : World) (Av Am : Option Addr) (k : Know) : Prop where
 lv : k.vec.length ≤ maxLen
 lm : k.more.length ≤ maxLen
 sv : SlInts B w Av k.vec
 sm : SlDots B w Am k.more
theorem InK.chg {B : Nat} {ts : List TypeId} {w w' : World} {Av Am : Option Addr} {k : Know} (h : InK B w Av Am k) (x : Chg B ts w w') (hi : 3 ∉ ts) (hd : 35 ∉ ts) : InK B w' Av Am k :=
 ⟨h.lv, h.lm, h.sv.chg RInt.mono hi x, h.sm.chg RPair.mono hd x⟩
theorem InK.ext {B : Nat} {w w' : World} {Av Am : Option Addr} {k : Know} (h : InK B w Av Am k) (x : Ext w w') : InK B w' Av Am k := h.chg (ts := []) (.of_ext x) (by simp) (by simp)
def IsK (B : Nat) (w : World) (v : Value) (k : Know) : Prop := ∃ Av cv Am cm, v = .agg #[.slice Av k.vec.length cv, .slice Am k.more.length cm] ∧ k.vec.length ≤ cv ∧ cv ≤ maxLen ∧ k.more.length ≤ cm ∧ cm ≤ maxLen ∧ InK B w Av Am k
theorem IsK.ext {B : Nat} {w w' : World} {v : Value} {k : Know} (h : IsK B w v k) (x : Ext w w') : IsK B w' v k := by
 obtain ⟨Av, cv, Am, cm, h1, h2, h3, h4, h5, h6⟩ := h
 exact ⟨Av, cv, Am, cm, h1, h2, h3, h4, h5, h6.ext x⟩
theorem IsK.of {B : Nat} {w : World} {a b : Value} {k : Know} (ha : IsInts B w a k.vec) (hb : IsDots B w b k.more) : IsK B w (.agg #[a, b]) k := by
 obtain ⟨Av, cv, rfl, h1, h2, h3⟩ := ha
 obtain ⟨Am, cm, rfl, h4, h5, h6⟩ := hb
 exact ⟨Av, cv, Am, cm, rfl, h1, h2, h4, h5, ⟨by omega, by omega, h3, h6⟩⟩
theorem IsK.empty {B : Nat} {w : World} : IsK B w (.agg #[.slice none 0 0, .slice none 0 0]) ⟨[], []⟩ := IsK.of IsSl.nil IsSl.nil
def cmpD (a b : Dot) : Int := if a.site = b.site then a.count - b.count else a.site - b.site
theorem cmpD_lt {a b : Dot} : cmpD a b < 0 ↔ dlt a b = true := by
 rw [dlt_iff, cmpD]; split <;> omega
theorem cmpD_ge {a b : Dot} : 0 ≤ cmpD a b ↔ dlt a b = false := by
 rw [← Bool.not_eq_true, ← cmpD_lt]; omega
theorem cmpD_zero {a b : Dot} : cmpD a b = 0 ↔ a = b := by
 obtain ⟨x, y⟩ := a; obtain ⟨u, v⟩ := b
 simp only [cmpD, Dot.mk.injEq]; split <;> omega
theorem vecAt_out {v : List Int} {s : Nat} (h : v.length ≤ s) : vecAt v s = 0 := by simp [vecAt, h]
theorem vecAt_in {v : List Int} {s : Nat} (h : s < v.length) : vecAt v s = v[s] := by simp [vecAt, h]
theorem vecAt_bd {v : List Int} (h : ∀ n ∈ v, 0 ≤ n ∧ n ≤ 1000) (s : Nat) : 0 ≤ vecAt v s ∧ vecAt v s ≤ 1000 := by
 by_cases hs : s < v.length
 ·rw [vecAt_in hs]; exact h _ (List.getElem_mem hs)
 ·rw [vecAt_out (by omega)]; omega
theorem knowCheck_big {k : Know} (h : 5 < k.vec.length ∨ 60 < k.more.length) : knowCheck k = 2 := by rw [knowCheck, if_pos h]
theorem knowCheck_go {k : Know} (h : ¬ (5 < k.vec.length ∨ 60 < k.more.length)) : knowCheck k = if vecGo k.vec = 0 then (if k.vec.getLast? = some 0 then 3 else moreGo k.vec ⟨-1, 0⟩ k.more) else 1 := by rw [knowCheck, if_neg h]
theorem getLast_at {α : Type} {l : List α} (h : 0 < l.length) : l.getLast? = some (l[l.length - 1]) := by rw [List.getLast?_eq_getElem?, List.getElem?_eq_getElem (by omega)]
theorem dotOk_first {d : Dot} (h : dotOk d = true) : dlt ⟨-1, 0⟩ d = true := by
 have := dotOk_iff.1 h
 rw [dlt_iff]; left; show (-1 : Int) < d.site; omega
theorem lastDot_pos {l : List Dot} {k : Nat} (h : 0 < k) (hk : k ≤ l.length) : lastDot l k = l[k - 1] := by
 rw [lastDot, if_neg (by omega), List.getElem?_eq_getElem (by omega)]; rfl
end Go.Proofs.YtngbfdogiciahaaGreat
namespace Go.Proofs.YtngbfdogiciahaaGreat
open Go Go.RowKit
section
variable {P : Program} {ops : Array Oper} {C : World → Prop} {Q : Act → Prop} {rest : List Oper} {a : Act} {dst : Option Tmp} {ty : TypeId} {pos : String} {after : Array Edge} {g : Option (Nat × Bool)}
theorem wp_region_class (C : World → Prop) {id : Nat} {Q : Exit → Act → World → Prop} {a : Act} {w : World} {l : List Oper} (hm : P.follows .mixedOrders = true) (hB : Region.lexB .any l.toArray = true) (hC : C w.drew)
  (h : wpQuiet P l.toArray C (fun a' => ∀ w', C w' → Q .normal a' w') l a) : (Code.region id l.toArray true).wp P Q a w :=
 wp_region_quiet (C := C) hm hB hC (by simpa using h)
theorem wpQuiet_read {o : Oper} {v : Value} (hw : Region.wanted o (yielded ops a.tmps) = true) (hy : ∀ w, C w → (execOp a.eval o).run P w = .ok (.value v) w) (h : wpQuiet P ops C Q rest (a.put o.dst v)) : wpQuiet P ops C Q (o :: rest) a := by
 unfold wpQuiet
 rw [if_pos hw]
 refine ⟨v, fun w hw' => ?_, h⟩
 unfold Oper.quietAt
 rw [hy w hw']
 exact ⟨rfl, rfl⟩
theorem wpQuiet_off {o : Oper} (hw : Region.wanted o (yielded ops a.tmps) = false) (h : wpQuiet P ops C Q rest (a.put o.dst undef)) : wpQuiet P ops C Q (o :: rest) a := by
 unfold wpQuiet
 rw [if_neg (by rw [hw]; simp)]
 exact h
theorem wpQuiet_loadRow {t : TypeId} {x : Operand} {b o : Nat} {cs : List Value} {d : TypeDesc} (hu : P.underlying t = some d) (hd : d.isRow = true) (hi : (P.info? t).map (·.size) = some cs.length)
  (hw : Region.wanted (⟨dst, .load t x, ty, pos, after, g⟩ : Oper) (yielded ops a.tmps) = true) (hx : a.eval x = .pointer (some ⟨b, o, none⟩)) (hC : ∀ w, C w → w.rangeAt b o cs)
  (h : wpQuiet P ops C Q rest (a.put dst (.agg cs.toArray))) : wpQuiet P ops C Q (⟨dst, .load t x, ty, pos, after, g⟩ :: rest) a := by
 rcases yieldsIf_load_mid (P := P) (ops := ops) (S := C) (op := ⟨dst, .load t x, ty, pos, after, g⟩) (a := a) hw t x rfl b o hx cs d hC hu hd hi with ⟨_, h1⟩ | ⟨h1, _⟩
 ·unfold wpQuiet
  rw [if_pos hw]
  refine ⟨_, fun w hw' => ?_, h⟩
  unfold Oper.quietAt
  rw [h1 w hw']
  exact ⟨rfl, rfl⟩
 ·rw [hw] at h1
  cases h1
theorem wpQuiet_call {f : FuncId} {xs : Array Operand} {ts : Array TypeId} {args : Array Value} {v : Value} (hcall : ∀ (av : Array Value) (w : World), (callFunc f av).run P w = .ok (.enter f av) w)
  (hw : Region.wanted (⟨dst, .call { callee := .value (.func f), args := xs, argTypes := ts }, ty, pos, after, g⟩ : Oper) (yielded ops a.tmps) = true) (ha : (xs.toList.map a.eval).toArray = args)
  (hc : ∀ w, C w → Calls P f args w fun e w' => e = .returned v ∧ C w')
  (h : wpQuiet P ops C Q rest (a.put dst v)) : wpQuiet P ops C Q (⟨dst, .call { callee := .value (.func f), args := xs, argTypes := ts }, ty, pos, after, g⟩ :: rest) a := by
 unfold wpQuiet
 rw [if_pos hw]
 refine ⟨v, fun w hw' => ?_, h⟩
 have hr : (execOp a.eval (⟨dst, .call { callee := .value (.func f), args := xs, argTypes := ts }, ty, pos, after, g⟩ : Oper)).run P w = .ok (.enter f args) w := by
  subst ha
  unfold execOp
  simp [resolve, invoke, Act.eval, hcall, go_sem]
  rw [← Array.toList_map]
 unfold Oper.quietAt
 rw [hr]
 exact ⟨rfl, hc w hw'⟩
theorem yields_at {l : List Oper} {ts : List Value} {j d : Nat} {o : Oper} {b : Bool} (h1 : l[j]? = some o) (h2 : o.dst = some d) (h3 : ts[d]? = some (.bool b)) : yielded l.toArray ts.toArray j = some b := by
 unfold yielded
 simp [h1, h2, h3]
theorem yields_no {l : List Oper} {ts : List Value} {j d : Nat} {o : Oper} (h1 : l[j]? = some o) (h2 : o.dst = some d) (h3 : ts[d]? = some undef) : yielded l.toArray ts.toArray j = none := by
 unfold yielded
 simp [h1, h2, h3, undef]
structure WQ (P : Program) (ops : Array Oper) (C : World → Prop) (Q : Act → Prop) (l : List Oper) (a : Act) : Prop where
 out : wpQuiet P ops C Q l a
theorem wq_region (C : World → Prop) {id : Nat} {Q : Exit → Act → World → Prop} {a : Act} {w : World} {l : List Oper} (hm : P.follows .mixedOrders = true) (hB : Region.lexB .any l.toArray = true) (hC : C w.drew)
  (h : WQ P l.toArray C (fun a' => ∀ w', C w' → Q .normal a' w') l a) : (Code.region id l.toArray true).wp P Q a w :=
 wp_region_class C hm hB hC h.out
theorem wq_nil (h : Q a) : WQ P ops C Q [] a := ⟨wpQuiet_nil h⟩
theorem wq_get {op : Op} {v : Value} (hy : ∀ w, C w → (execOp a.eval ⟨dst, op, ty, pos, after, none⟩).run P w = .ok (.value v) w) (h : WQ P ops C Q rest (a.put dst v)) : WQ P ops C Q (⟨dst, op, ty, pos, after, none⟩ :: rest) a :=
 ⟨wpQuiet_read rfl hy h.out⟩
theorem wq_getOn {op : Op} {v : Value} {j : Nat} {b : Bool} (hg : yielded ops a.tmps j = some b) (hy : ∀ w, C w → (execOp a.eval ⟨dst, op, ty, pos, after, some (j, b)⟩).run P w = .ok (.value v) w) (h : WQ P ops C Q rest (a.put dst v)) : WQ P ops C Q (⟨dst, op, ty, pos, after, some (j, b)⟩ :: rest) a :=
 ⟨wpQuiet_read (by simp [Region.wanted, hg]) hy h.out⟩
theorem wq_skip {op : Op} {j : Nat} {b : Bool} (hg : yielded ops a.tmps j = some (!b)) (h : WQ P ops C Q rest (a.put dst undef)) : WQ P ops C Q (⟨dst, op, ty, pos, after, some (j, b)⟩ :: rest) a :=
 ⟨wpQuiet_off (by cases b <;> simp [Region.wanted, hg]) h.out⟩
theorem wq_skipOff {op : Op} {j : Nat} {b : Bool} (hg : yielded ops a.tmps j = none) (h : WQ P ops C Q rest (a.put dst undef)) : WQ P ops C Q (⟨dst, op, ty, pos, after, some (j, b)⟩ :: rest) a :=
 ⟨wpQuiet_off (by simp [Region.wanted, hg]) h.out⟩
theorem wq_call {f : FuncId} {xs : Array Operand} {ts : Array TypeId} {args : Array Value} {v : Value} (hcall : ∀ (av : Array Value) (w : World), (callFunc f av).run P w = .ok (.enter f av) w)
  (ha : (xs.toList.map a.eval).toArray = args) (hc : ∀ w, C w → Calls P f args w fun e w' => e = .returned v ∧ C w')
  (h : WQ P ops C Q rest (a.put dst v)) : WQ P ops C Q (⟨dst, .call { callee := .value (.func f), args := xs, argTypes := ts }, ty, pos, after, none⟩ :: rest) a :=
 ⟨wpQuiet_call hcall rfl ha hc h.out⟩
theorem wq_callOn {f : FuncId} {xs : Array Operand} {ts : Array TypeId} {args : Array Value} {v : Value} {j : Nat} {b : Bool} (hcall : ∀ (av : Array Value) (w : World), (callFunc f av).run P w = .ok (.enter f av) w)
  (hg : yielded ops a.tmps j = some b) (ha : (xs.toList.map a.eval).toArray = args) (hc : ∀ w, C w → Calls P f args w fun e w' => e = .returned v ∧ C w')
  (h : WQ P ops C Q rest (a.put dst v)) : WQ P ops C Q (⟨dst, .call { callee := .value (.func f), args := xs, argTypes := ts }, ty, pos, after, some (j, b)⟩ :: rest) a :=
 ⟨wpQuiet_call hcall (by simp [Region.wanted, hg]) ha hc h.out⟩
end
end Go.Proofs.YtngbfdogiciahaaGreat
namespace Go.Proofs.YtngbfdogiciahaaGreat
open Go Go.RowKit
section
variable {P : Program} {ops : Array Oper} {C : World → Prop} {Q : Act → Prop} {rest : List Oper} {a : Act} {dst : Option Tmp} {ty : TypeId} {pos : String} {after : Array Edge}
theorem wq_callAt {x : Operand} {f : FuncId} {xs : Array Operand} {ts : Array TypeId} {args : Array Value} {v : Value} {g : Option (Nat × Bool)} (hx : a.eval x = .func (.func f) #[] #[]) (hcall : ∀ (av : Array Value) (w : World), (callFunc f av).run P w = .ok (.enter f av) w)
  (hw : Region.wanted (⟨dst, .call { callee := .value x, args := xs, argTypes := ts }, ty, pos, after, g⟩ : Oper) (yielded ops a.tmps) = true) (ha : (xs.toList.map a.eval).toArray = args)
  (hc : ∀ w, C w → Calls P f args w fun e w' => e = .returned v ∧ C w')
  (h : WQ P ops C Q rest (a.put dst v)) : WQ P ops C Q (⟨dst, .call { callee := .value x, args := xs, argTypes := ts }, ty, pos, after, g⟩ :: rest) a := by
 refine ⟨?_⟩
 unfold wpQuiet
 rw [if_pos hw]
 refine ⟨v, fun w hw' => ?_, h.out⟩
 have hr : (execOp a.eval (⟨dst, .call { callee := .value x, args := xs, argTypes := ts }, ty, pos, after, g⟩ : Oper)).run P w = .ok (.enter f args) w := by
  subst ha
  unfold execOp
  simp only [resolve, hx]
  simp [invoke, hcall, go_sem]
  rw [← Array.toList_map]
 unfold Oper.quietAt
 rw [hr]
 exact ⟨rfl, hc w hw'⟩
theorem wq_callV {x : Operand} {f : FuncId} {xs : Array Operand} {ts : Array TypeId} {args : Array Value} {v : Value} (hx : a.eval x = .func (.func f) #[] #[]) (hcall : ∀ (av : Array Value) (w : World), (callFunc f av).run P w = .ok (.enter f av) w)
  (ha : (xs.toList.map a.eval).toArray = args) (hc : ∀ w, C w → Calls P f args w fun e w' => e = .returned v ∧ C w')
  (h : WQ P ops C Q rest (a.put dst v)) : WQ P ops C Q (⟨dst, .call { callee := .value x, args := xs, argTypes := ts }, ty, pos, after, none⟩ :: rest) a := wq_callAt hx hcall rfl ha hc h
theorem wq_callVOn {x : Operand} {f : FuncId} {xs : Array Operand} {ts : Array TypeId} {args : Array Value} {v : Value} {j : Nat} {b : Bool} (hx : a.eval x = .func (.func f) #[] #[]) (hcall : ∀ (av : Array Value) (w : World), (callFunc f av).run P w = .ok (.enter f av) w)
  (hg : yielded ops a.tmps j = some b) (ha : (xs.toList.map a.eval).toArray = args) (hc : ∀ w, C w → Calls P f args w fun e w' => e = .returned v ∧ C w')
  (h : WQ P ops C Q rest (a.put dst v)) : WQ P ops C Q (⟨dst, .call { callee := .value x, args := xs, argTypes := ts }, ty, pos, after, some (j, b)⟩ :: rest) a := wq_callAt hx hcall (by simp [Region.wanted, hg]) ha hc h
end
end Go.Proofs.YtngbfdogiciahaaGreat
namespace Go.Proofs.YtngbfdogiciahaaGreat
open Go
def maxAt (vs : List (List Int)) (s : Int) : Int := vs.foldl (fun m l => max m (vecAt l s)) 0
theorem maxAt_nil (s : Int) : maxAt [] s = 0 := rfl
theorem maxAt_concat (vs : List (List Int)) (l : List Int) (s : Int) : maxAt (vs ++ [l]) s = max (maxAt vs s) (vecAt l s) := by simp [maxAt, List.foldl_append]
theorem maxAt_succ (vs : List (List Int)) (j : Nat) (hj : j < vs.length) (s : Int) : maxAt (vs.take (j + 1)) s = max (maxAt (vs.take j) s) (vecAt vs[j] s) := by
 rw [← List.take_append_getElem hj, maxAt_concat]
theorem maxAt_nonneg (vs : List (List Int)) (s : Int) : 0 ≤ maxAt vs s := by
 have : ∀ (vs : List (List Int)) (m : Int), 0 ≤ m → 0 ≤ vs.foldl (fun m l => max m (vecAt l s)) m := by
  intro vs
  induction vs with
  | nil => intro m h; exact h
  | cons l r ih => intro m h; exact ih (max m (vecAt l s)) (by omega)
 exact this vs 0 (by omega)
theorem maxAt_le (vs : List (List Int)) (s : Nat) (h : ∀ l ∈ vs, vecAt l s ≤ 1000) : maxAt vs s ≤ 1000 := by
 have : ∀ (vs : List (List Int)) (m : Int), m ≤ 1000 → (∀ l ∈ vs, vecAt l s ≤ 1000) → vs.foldl (fun m l => max m (vecAt l s)) m ≤ 1000 := by
  intro vs
  induction vs with
  | nil => intro m h _; exact h
  | cons l r ih => intro m h g; exact ih (max m (vecAt l s)) (by have := g l (by simp); omega) (fun l hl => g l (by simp [hl]))
 exact this vs 0 (by omega) h
theorem vecAt_take (l : List Int) (k s : Nat) : vecAt (l.take k) s = if s < k then vecAt l s else 0 := by
 unfold vecAt
 simp only [Int.toNat_natCast, List.getD_eq_getElem?_getD, List.getElem?_take]
 split <;> simp
theorem vecAt_nil (s : Int) : vecAt [] s = 0 := by simp [vecAt]
def VOk (vs : List (List Int)) (j : Nat) (u : List Int) : Prop := u.length = 5 ∧ ∀ s : Nat, s < 5 → vecAt u s = maxAt (vs.take j) s
def VOk2 (vs : List (List Int)) (j : Nat) (l : List Int) (k : Nat) (u : List Int) : Prop := u.length = 5 ∧ ∀ s : Nat, s < 5 → vecAt u s = max (maxAt (vs.take j) s) (vecAt (l.take k) s)
theorem VOk.start (vs : List (List Int)) : VOk vs 0 [0, 0, 0, 0, 0] := by
 refine ⟨rfl, fun s hs => ?_⟩
 rw [List.take_zero, maxAt_nil]
 match s, hs with
 | 0, _ => rfl
 | 1, _ => rfl
 | 2, _ => rfl
 | 3, _ => rfl
 | 4, _ => rfl
theorem VOk.enter {vs : List (List Int)} {j : Nat} {u : List Int} (h : VOk vs j u) (l : List Int) : VOk2 vs j l 0 u :=
 ⟨h.1, fun s hs => by rw [h.2 s hs, List.take_zero, vecAt_nil]; have := maxAt_nonneg (vs.take j) s; omega⟩
theorem VOk2.leave {vs : List (List Int)} {j : Nat} {u : List Int} (hj : j < vs.length) (h : VOk2 vs j vs[j] vs[j].length u) : VOk vs (j + 1) u :=
 ⟨h.1, fun s hs => by rw [h.2 s hs, List.take_length, maxAt_succ vs j hj]⟩
theorem VOk2.step {vs : List (List Int)} {j k : Nat} {l u : List Int} (h : VOk2 vs j l k u) (hk : k < l.length) (h5 : k < 5) (hu : k < u.length) : VOk2 vs j l (k + 1) (u.set k (max u[k] l[k])) := by
 refine ⟨by simp [h.1], fun s hs => ?_⟩
 have e1 : vecAt (u.set k (max u[k] l[k])) s = if s = k then max u[k] l[k] else vecAt u s := by
  have := vecAt_set u k s (max u[k] l[k]) (by omega) (by omega) (by simpa using hu)
  rw [Int.toNat_natCast] at this
  rw [this]
  by_cases e : s = k
  ·subst e; simp
  ·rw [if_neg (by omega), if_neg e]
 rw [e1, vecAt_take]
 by_cases e : s = k
 ·subst e
  rw [if_pos rfl, if_pos (by omega)]
  have h1 := h.2 s hs
  have h2 : vecAt u s = u[s] := by simp [vecAt, hu]
  have h3 : vecAt l s = l[s] := by simp [vecAt, hk]
  rw [h2, vecAt_take, if_neg (by omega)] at h1
  have := maxAt_nonneg (vs.take j) s
  rw [h3]; omega
 ·rw [if_neg e, h.2 s hs, vecAt_take]
  by_cases g : s < k
  ·rw [if_pos g, if_pos (by omega)]
  ·rw [if_neg g, if_neg (by omega)]
def setOf (vs : List (List Int)) (ds : List Dot) : DSet := fun s c => decide (1 ≤ c) && (decide ((c : Int) ≤ maxAt vs s) || ds.contains ⟨s, c⟩)
theorem madeStep_len (st : List Int × List Dot) (d : Dot) : (madeStep st d).1.length = st.1.length ∧ (madeStep st d).2.length ≤ st.2.length + 1 := by
 unfold madeStep
 split
 ·simp
 ·split
  ·simp
  ·split <;> simp
theorem madeFold_succ (v : List Int) (l : List Dot) (j : Nat) (hj : j < l.length) : madeFold v (l.take (j + 1)) = madeStep (madeFold v (l.take j)) l[j] := by
 unfold madeFold
 rw [← List.take_append_getElem hj, List.foldl_append]
 rfl
theorem madeFold_len (v : List Int) (l : List Dot) : ∀ j, j ≤ l.length → (madeFold v (l.take j)).1.length = v.length ∧ (madeFold v (l.take j)).2.length ≤ j
 | 0, _ => by simp [madeFold]
 | j + 1, h => by
  obtain ⟨h1, h2⟩ := madeFold_len v l j (by omega)
  obtain ⟨g1, g2⟩ := madeStep_len (madeFold v (l.take j)) l[j]
  rw [madeFold_succ v l j (by omega)]
  omega
theorem madeFold_le {v : List Int} {l : List Dot} (hl : v.length = 5) (hv : ∀ s : Nat, s < 5 → 0 ≤ vecAt v s ∧ vecAt v s ≤ 1000) (hd : ∀ d ∈ l, dotOk d = true) (ho : OrdD l) (j : Nat) :
  MadeOk v (l.take j) (madeFold v (l.take j)) := by
 have h := made_ok v (l.take j) [] (v, []) ⟨hl, fun _ _ => Int.le_refl _, hv, fun s hs c c1 c2 => .inl c2, SortedD.nil, by simp, by simp, by simp⟩ (fun d h => hd d (List.mem_of_mem_take h)) (ho.sublist (List.take_sublist j l)) (by simp)
 rwa [List.nil_append] at h
theorem madeFold_full (v : List Int) (l : List Dot) : madeFold v (l.take l.length) = madeFold v l := by rw [List.take_length]
theorem made_set {vs : List (List Int)} {ds l : List Dot} {v : List Int} (hv : VOk vs vs.length v) (hb : ∀ s : Nat, s < 5 → 0 ≤ vecAt v s ∧ vecAt v s ≤ 1000) (hp : l.Perm ds) (ho : OrdD l) (hd : ∀ d ∈ l, dotOk d = true) :
  made v l = formOf (setOf vs ds) := by
 have hmem : ∀ n ∈ v, 0 ≤ n ∧ n ≤ 1000 := by
  intro n hn
  obtain ⟨i, hi, rfl⟩ := List.getElem_of_mem hn
  have := hb i (by have := hv.1; omega)
  rwa [show vecAt v i = v[i] by simp [vecAt, hi]] at this
 rw [made_form hv.1 hmem hd ho]
 apply formOf_congr
 intro s hs c c1 c2
 have h1 := hv.2 s hs
 rw [List.take_length] at h1
 have h2 : l.contains (⟨s, c⟩ : Dot) = ds.contains ⟨s, c⟩ := by
  rw [Bool.eq_iff_iff, List.contains_iff_mem, List.contains_iff_mem]; exact hp.mem_iff
 simp only [madeSet, setOf, h1, h2]
theorem vok_bound {vs : List (List Int)} {v : List Int} (hv : VOk vs vs.length v) (hle : ∀ l ∈ vs, ∀ n ∈ l, 0 ≤ n ∧ n ≤ 1000) : ∀ s : Nat, s < 5 → 0 ≤ vecAt v s ∧ vecAt v s ≤ 1000 := by
 intro s hs
 have h1 := hv.2 s hs
 rw [List.take_length] at h1
 rw [h1]
 refine ⟨maxAt_nonneg _ _, maxAt_le _ _ fun l hl => ?_⟩
 by_cases h : s < l.length
 ·rw [show vecAt l s = l[s] by simp [vecAt, h]]
  exact (hle l hl _ (List.getElem_mem h)).2
 ·rw [show vecAt l s = 0 by simp [vecAt, h]]; omega
theorem trim_zero {v : List Int} {n : Nat} (hn : n < v.length) (h : v[n] = 0) : trim (v.take (n + 1)) = trim (v.take n) := by
 rw [← List.take_append_getElem hn, h]
 unfold trim
 rw [List.reverse_append]
 simp
theorem trim_done {v : List Int} {n : Nat} (hn : n < v.length) (h : v[n] ≠ 0) : trim (v.take (n + 1)) = v.take (n + 1) := by
 rw [← List.take_append_getElem hn]
 unfold trim
 rw [List.reverse_append]
 simp [h]
end Go.Proofs.YtngbfdogiciahaaGreat
namespace Go.Proofs.YtngbfdogiciahaaGreat
open Go
def ofBits (p : Nat → Bool) : Nat → Nat
 | 0 => 0
 | n + 1 => 2 ^ n * (p n).toNat + ofBits p n
theorem ofBits_lt (p : Nat → Bool) : ∀ n, ofBits p n < 2 ^ n
 | 0 => by simp [ofBits]
 | n + 1 => by
  have := ofBits_lt p n
  rw [ofBits, Nat.pow_succ]
  cases p n <;> simp <;> omega
theorem testBit_ofBits (p : Nat → Bool) (i : Nat) : ∀ n, (ofBits p n).testBit i = (decide (i < n) && p i)
 | 0 => by simp [ofBits]
 | n + 1 => by
  rw [ofBits, Nat.testBit_two_pow_mul_add _ (ofBits_lt p n), testBit_ofBits p i n]
  by_cases h : i < n
  ·have : i < n + 1 := by omega
   simp [h, this]
  ·by_cases h2 : i = n
   ·subst h2; cases p i <;> simp
   ·have h3 : ¬ i < n + 1 := by omega
    obtain ⟨j, hj⟩ : ∃ j, i - n = j + 1 := ⟨i - n - 1, by omega⟩
    rw [if_neg h, hj, Nat.testBit_succ]
    cases p n <;> simp [h3]
theorem ofBits_congr {p q : Nat → Bool} : ∀ {n}, (∀ i, i < n → p i = q i) → ofBits p n = ofBits q n
 | 0, _ => rfl
 | n + 1, h => by rw [ofBits, ofBits, h n (by omega), ofBits_congr (fun i hi => h i (by omega))]
theorem ofBits_inj {p q : Nat → Bool} {n : Nat} (h : ofBits p n = ofBits q n) (i : Nat) (hi : i < n) : p i = q i := by
 have h1 := testBit_ofBits p i n
 have h2 := testBit_ofBits q i n
 rw [h, h2] at h1
 simpa [hi] using h1.symm
def wordOf (S : DSet) (s k : Nat) : Nat := ofBits (fun b => S s (64 * k + b)) 64
theorem wordOf_lt (S : DSet) (s k : Nat) : wordOf S s k < 18446744073709551616 := ofBits_lt _ 64
theorem wordOf_congr {S T : DSet} {s k : Nat} (h : ∀ b, b < 64 → S s (64 * k + b) = T s (64 * k + b)) : wordOf S s k = wordOf T s k := ofBits_congr h
def withD (S : DSet) (s c : Nat) : DSet := fun t d => S t d || (decide (t = s) && decide (d = c))
def orD (S T : DSet) : DSet := fun s c => S s c || T s c
def andD (S T : DSet) : DSet := fun s c => S s c && T s c
def EqWords (S T : DSet) : Prop := ∀ s, s < 5 → ∀ k, k < 16 → wordOf S s k = wordOf T s k
theorem eqWords_iff (S T : DSet) : EqWords S T ↔ ∀ s, s < 5 → ∀ c, c < 1024 → S s c = T s c := by
 constructor
 ·intro h s hs c hc
  have := ofBits_inj (h s hs (c / 64) (by omega)) (c % 64) (Nat.mod_lt _ (by omega))
  simpa [Nat.div_add_mod] using this
 ·intro h s hs k hk
  exact wordOf_congr fun b hb => h s hs _ (by omega)
def Clean (S : DSet) : Prop := ∀ s c, S s c = true → s < 5 ∧ 1 ≤ c ∧ c ≤ 1000
theorem eqWords_same {S T : DSet} (hS : Clean S) (hT : Clean T) : EqWords S T ↔ SameSet S T := by
 rw [eqWords_iff]
 constructor
 ·intro h s hs c c1 c2; exact h s hs c (by omega)
 ·intro h s hs c hc
  by_cases hv : 1 ≤ c ∧ c ≤ 1000
  ·exact h s hs c hv.1 hv.2
  ·have a : S s c = false := by
    rw [← Bool.not_eq_true]; intro e; exact hv (hS s c e).2
   have b : T s c = false := by
    rw [← Bool.not_eq_true]; intro e; exact hv (hT s c e).2
   rw [a, b]
def ones : Nat → Nat → Int
 | 0, _ => 0
 | f + 1, v => if v = 0 then 0 else ones f (v / 2) + (v % 2 : Nat)
theorem ones_count : ∀ (f v : Nat), v < 2 ^ f → ones f v = countTo (fun i => v.testBit i) f
 | 0, v, h => rfl
 | f + 1, v, h => by
  have e : countTo (fun i => v.testBit i) (f + 1) = (v % 2 : Nat) + countTo (fun i => (v / 2).testBit i) f := by
   have : ∀ n, countTo (fun i => v.testBit i) (n + 1) = (v % 2 : Nat) + countTo (fun i => (v / 2).testBit i) n := by
    intro n
    induction n with
    | zero =>
     simp only [countTo, Nat.testBit_zero]
     have : v % 2 = 0 ∨ v % 2 = 1 := by omega
     rcases this with h | h <;> simp [h]
    | succ n ih =>
     rw [countTo, ih, countTo, Nat.testBit_succ]; omega
   exact this f
  rw [ones, e]
  split
  ·rename_i h0; subst h0
   rw [countTo_congr (q := fun _ => false) (by simp), countTo_zero]; simp
  ·rw [ones_count f (v / 2) (by rw [Nat.pow_succ] at h; omega)]; omega
end Go.Proofs.YtngbfdogiciahaaGreat
namespace Go.Proofs.YtngbfdogiciahaaGreat
open Go Go.RowKit
theorem Own.empty {α : Type} {R : World → List Value → α → Prop} {sz : Nat} {e : TypeId} {w : World} {base : Nat} (hb : base ≤ w.heap.size) :
  Own R sz e (w.alloc (.cells #[] e)) base (.slice (some ⟨w.heap.size, 0, none⟩) 0 0) ([] : List α) := by
 refine ⟨[], rfl, by intro i cs x h; simp at h, by simp, .inr ⟨w.heap.size, 0, #[], rfl, hb, heap_alloc_new w _, Nat.le_refl _, Nat.zero_le _, by simp, by simp⟩⟩
theorem Sl.none_nil {α : Type} {R : World → List Value → α → Prop} {sz B : Nat} {e : TypeId} {w : World} {l : List α} (h : Sl B e R sz w none l) : l = [] := by
 rcases l with _ | ⟨x, l⟩
 ·rfl
 ·obtain ⟨b, off, cs, hA, _⟩ := h.at_ (i := 0) (by simp)
  cases hA
theorem Chg.setNew {B : Nat} {ts : List TypeId} {a w : World} (h : Chg B ts a w) {p : Addr} (hp : a.heap.size ≤ p.block) (u : Value) : Chg B ts a (w.setCell p u) :=
 ⟨h.os, h.tape, h.output, by simpa [World.setCell] using h.size, fun k hk hc => (Below.heap_setCell w p u k (by omega)).trans (h.block k hk hc)⟩
theorem Chg.under {B k : Nat} {ts : List TypeId} {a w b : World} (h : Chg B ts a w) (x : Below k w b) (hk : a.heap.size ≤ k) : Chg B ts a b :=
 ⟨(Below.os x).trans h.os, (Below.tape x).trans h.tape, (Below.output x).trans h.output, Nat.le_trans h.size (Below.size x), fun i hi hc => (Below.block x i (by omega)).trans (h.block i hi hc)⟩
theorem Chg.alloc {B : Nat} {ts : List TypeId} {a w : World} (h : Chg B ts a w) (o : Obj) : Chg B ts a (w.alloc o) := h.trans (.of_ext ((Ext.refl w).alloc o))
theorem Chg.drewN {B : Nat} {ts : List TypeId} {a w : World} (h : Chg B ts a w) (n : Nat) : Chg B ts a (w.drewN n) := h.trans (.of_ext ((Ext.refl w).drewN n))
theorem Chg.ext' {B : Nat} {ts : List TypeId} {a w b : World} (h : Chg B ts a w) (x : Ext w b) : Chg B ts a b := h.trans (.of_ext x)
theorem cell_ne {w : World} {g k r o : Nat} {u v : Value} (hb : r ≠ g) (q : w.cell? ⟨r, o, none⟩ = some u) : (w.setCell ⟨g, k, none⟩ v).cell? ⟨r, o, none⟩ = some u :=
 (World.cell?_setCell_other _ _ _ _ (by intro e; injection e with e; omega)).trans q
theorem cell_off {w : World} {g k r o : Nat} {u v : Value} (hb : o ≠ k) (q : w.cell? ⟨r, o, none⟩ = some u) : (w.setCell ⟨g, k, none⟩ v).cell? ⟨r, o, none⟩ = some u :=
 (World.cell?_setCell_other _ _ _ _ (by intro e; injection e with _ e; omega)).trans q
theorem Own.far {α : Type} {R : World → List Value → α → Prop} {sz : Nat} {e : TypeId} {w : World} {base : Nat} {v : Value} {l : List α} (h : Own R sz e w base v l) (hRw : ∀ w w' cs x, R w cs x → R w' cs x) {p : Addr} (hp : p.block < base) (u : Value) : Own R sz e (w.setCell p u) base v l := by
 obtain ⟨xs, hx, hR, ho⟩ := h
 refine ⟨xs, hx, fun i cs x h1 h2 => ⟨(hR i cs x h1 h2).1, hRw _ _ _ _ (hR i cs x h1 h2).2⟩, ho.1, ?_⟩
 rcases ho.2 with hn | ⟨b, cap, cur, rfl, hb, hgg, rest⟩
 ·exact .inl hn
 ·exact .inr ⟨b, cap, cur, rfl, hb, (Below.heap_setCell w p u b (by omega)).trans hgg, rest⟩
theorem Own.farPair {α : Type} {f g : α → Int} {e : TypeId} {w : World} {base : Nat} {v : Value} {l : List α} (h : Own (RPair f g) 2 e w base v l) {p : Addr} (hp : p.block < base) (u : Value) : Own (RPair f g) 2 e (w.setCell p u) base v l :=
 h.far (fun _ _ _ _ h => h) hp u
def rowI (l : List Int) : Array Value := (l.map (Value.int .i64)).toArray
theorem rowI_get {l : List Int} {i : Nat} (h : i < l.length) : (rowI l)[i]? = some (.int .i64 l[i]) := by simp [rowI, h]
theorem rowI_set (l : List Int) (i : Nat) (x : Int) : (rowI l).setIfInBounds i (.int .i64 x) = rowI (l.set i x) := by simp [rowI, List.map_set]
end Go.Proofs.YtngbfdogiciahaaGreat
namespace Go.Proofs.YtngbfdogiciahaaGreat
open Go Go.RowKit
section
variable {P : Program} {w : World} {t e : TypeId}
end
def RowInfo (P : Program) (t : TypeId) (n : Nat) : Prop := (∃ d, P.underlying t = some d ∧ d.isRow = true) ∧ (P.info? t).map (·.size) = some n
section
variable {P : Program} {ops : Array Oper} {rest : List Oper} {o : Oper} {a : Act} {w : World} {Q : Exit → Act → World → Prop} {K : Act → World → Prop} {t : TypeId} {n : Nat}
theorem wpList_loadMid (ri : RowInfo P t n) (x : Operand) (ho : o.op = .load t x) (hg : o.guard = none) {b i : Nat} (hx : a.eval x = .pointer (some ⟨b, i, none⟩)) {cs : Array Value} (hr : w.rangeAt b i cs.toList) (hn : cs.size = n)
  (h : wpList P ops Q rest (a.put o.dst (.agg cs)) w) : wpList P ops Q (o :: rest) a w := by
 obtain ⟨⟨d, hu, hd⟩, hi⟩ := ri
 exact wpList_load_mid hg t x ho b i hx cs.toList d hr hu hd (by rw [hi, Array.length_toList, hn]) (by rw [Array.toArray_toList]; exact h)
theorem wpList_storeRow (ri : RowInfo P t n) (x y : Operand) (ho : o.op = .store t x y) (hg : o.guard = none) {b : Nat} (hx : a.eval x = .pointer (some ⟨b, 0, none⟩)) {cs old : Array Value} (hy : a.eval y = .agg cs)
  (hb : Blk w b t old) (hn : cs.size = n) (hold : old.size = n) (h1 : cs.all (·.oneCell') = true)
  (h : ∀ w', Below b w w' → Blk w' b t cs → w'.heap.size = w.heap.size → (∀ k, k ≠ b → w'.heap[k]? = w.heap[k]?) → wpList P ops Q rest (a.put o.dst undef) w') : wpList P ops Q (o :: rest) a w := by
 obtain ⟨_, hi⟩ := ri
 have hother : ∀ k, k ≠ b → (w.setRow b cs).heap[k]? = w.heap[k]? := fun k hk => setRow_other w b k cs (by omega)
 exact wpList_store_row hg t x y ho b cs hx hy t old hb (by rw [hn]; exact hi) (by omega) h1
  (h _ ⟨rfl, rfl, rfl, by simp, fun k hk => hother k (by omega)⟩ (setRow_heap w b old _ t _ hb) (by simp) hother)
end
theorem Blk.whole {w : World} {b : Nat} {e : TypeId} {cs : Array Value} (h : Blk w b e cs) : w.rangeAt b 0 cs.toList := fun j v hv => by
 rw [Nat.zero_add]
 exact h.cell (by rwa [Array.getElem?_toList] at hv)
end Go.Proofs.YtngbfdogiciahaaGreat
namespace Go.Proofs.YtngbfdogiciahaaGreat
open Go Go.RowKit
def At {α : Type} (R : World → List Value → α → Prop) (sz : Nat) (w : World) (g q : Nat) (x : α) : Prop := ∃ cs : List Value, cs.length = sz ∧ w.rangeAt g (q * sz) cs ∧ R w cs x
structure RowOwn (w : World) (g : Nat) (e : TypeId) (N : Nat) : Prop where
 blk : ∃ cur, Blk w g e cur ∧ cur.size = N
theorem RowOwn.ty {w : World} {g : Nat} {e : TypeId} {N : Nat} (h : RowOwn w g e N) : tyAt w g = some e := by obtain ⟨cur, hb, _⟩ := h.blk; exact hb.ty
theorem RowOwn.fz {w : World} {g : Nat} {e : TypeId} {N : Nat} (h : RowOwn w g e N) (o : Nat) : w.frozen? ⟨g, o, none⟩ = false := by obtain ⟨cur, hb, _⟩ := h.blk; exact hb.frozen o
theorem RowOwn.lt {w : World} {g : Nat} {e : TypeId} {N : Nat} (h : RowOwn w g e N) : g < w.heap.size := by obtain ⟨cur, hb, _⟩ := h.blk; exact hb.lt
theorem heap_setCells (b : Nat) : ∀ (vs : List Value) (o : Nat) (w : World) (k : Nat), k ≠ b → (w.setCells b o vs).heap[k]? = w.heap[k]?
 | [], _, _, _, _ => rfl
 | v :: r, o, w, k, h => by
  rw [World.setCells, heap_setCells b r (o + 1) _ k h]
  exact Below.heap_setCell w ⟨b, o, none⟩ v k h
theorem same_setCells (b : Nat) : ∀ (vs : List Value) (o : Nat) (w : World), (w.setCells b o vs).os = w.os ∧ (w.setCells b o vs).tape = w.tape ∧ (w.setCells b o vs).output = w.output ∧ (w.setCells b o vs).heap.size = w.heap.size
 | [], _, _ => ⟨rfl, rfl, rfl, rfl⟩
 | v :: r, o, w => by
  obtain ⟨h1, h2, h3, h4⟩ := same_setCells b r (o + 1) (w.setCell ⟨b, o, none⟩ v)
  rw [World.setCells]
  exact ⟨h1, h2, h3, h4.trans (by simp [World.setCell])⟩
theorem tyAt_setCells (b : Nat) (t : TypeId) : ∀ (vs : List Value) (o : Nat) (w : World), tyAt w b = some t → tyAt (w.setCells b o vs) b = some t
 | [], _, _, h => h
 | v :: r, o, w, h => by
  rw [World.setCells]
  refine tyAt_setCells b t r (o + 1) _ ?_
  unfold tyAt at h ⊢
  cases hb : w.heap[b]? with
  | none => rw [hb] at h; cases h
  | some ob =>
   rw [hb] at h
   cases ob <;> simp at h
   simp [World.setCell, Array.getElem?_modify, hb, h]
theorem blk_setCells (g : Nat) (e : TypeId) (N : Nat) : ∀ (vs : List Value) (o : Nat) (w : World), (∃ cur, Blk w g e cur ∧ cur.size = N) → ∃ cur, Blk (w.setCells g o vs) g e cur ∧ cur.size = N
 | [], _, _, h => h
 | v :: r, o, w, h => by
  obtain ⟨cur, h1, h2⟩ := h
  rw [World.setCells]
  exact blk_setCells g e N r (o + 1) _ ⟨_, h1.set o v, by simpa using h2⟩
section
variable {α : Type} {R : World → List Value → α → Prop} {sz B base g n q i N : Nat} {e : TypeId} {w w' : World} {x y : α} {l : List α}
theorem below_setCells (h : Below base w w') (hg : base ≤ g) (o : Nat) (vs : List Value) : Below base w (w'.setCells g o vs) := by
 obtain ⟨h1, h2, h3, h4⟩ := same_setCells g vs o w'
 exact ⟨h1.trans (Below.os h), h2.trans (Below.tape h), h3.trans (Below.output h), by rw [h4]; exact Below.size h, fun k hk => (heap_setCells g vs o w' k (by omega)).trans (Below.block h k hk)⟩
theorem Chg.setCells (h : Chg B [e] w w') (ht : tyAt w' g = some e) (hg : B ≤ g) (o : Nat) (vs : List Value) : Chg B [e] w (w'.setCells g o vs) := by
 obtain ⟨h1, h2, h3, h4⟩ := same_setCells g vs o w'
 refine h.trans ⟨h1, h2, h3, by rw [h4]; exact Nat.le_refl _, fun k hk hc => heap_setCells g vs o w' k ?_⟩
 rintro rfl
 rcases hc with hc | hc
 ·omega
 ·exact hc e (by simp) ht
theorem RowOwn.setCells (h : RowOwn w g e N) (o : Nat) (vs : List Value) : RowOwn (w.setCells g o vs) g e N := ⟨blk_setCells g e N vs o w h.blk⟩
theorem RowOwn.ext (h : RowOwn w g e N) (x : Ext w w') : RowOwn w' g e N := by
 obtain ⟨cur, h1, h2⟩ := h.blk
 exact ⟨cur, h1.ext x, h2⟩
theorem At.ext (m : Mono B [] R) (h : At R sz w g q x) (z : Ext w w') : At R sz w' g q x := by
 obtain ⟨cs, h1, h2, h3⟩ := h
 exact ⟨cs, h1, fun j v hv => z.cell (h2 j v hv), m _ _ _ _ (.of_ext z) h3⟩
theorem At.setCells (m : Mono B [e] R) (h : At R sz w g q x) (ht : tyAt w g = some e) (hB : B ≤ g) (o : Nat) (vs : List Value) (hap : q * sz + sz ≤ o ∨ o + vs.length ≤ q * sz) : At R sz (w.setCells g o vs) g q x := by
 obtain ⟨cs, h1, h2, h3⟩ := h
 exact ⟨cs, h1, World.rangeAt_setCells_apart h2 g o vs (by rcases hap with h | h <;> omega), m _ _ _ _ ((Chg.refl w).setCells ht hB o vs) h3⟩
theorem At.there (h : At R sz w g q x) (ho : RowOwn w g e N) : w.there g (q * sz) sz := by
 obtain ⟨cs, h1, h2, h3⟩ := h
 intro j hj
 exact ⟨h2.isSome j (by omega), ho.fz _⟩
theorem At.put (m : Mono B [e] R) {cs : List Value} (hl : cs.length = sz) (hR : R w cs x) (ht : w.there g (q * sz) sz) (hy : tyAt w g = some e) (hB : B ≤ g) : At R sz (w.setCells g (q * sz) cs) g q x :=
 ⟨cs, hl, World.rangeAt_setCells_same w g (q * sz) cs (by rw [hl]; exact ht), m _ _ _ _ ((Chg.refl w).setCells hy hB _ _) hR⟩
theorem Sl.ofAt (B' : Nat) {A : Option Addr} (hA : A = some ⟨g, 0, none⟩) (ho : RowOwn w g e N) (h : ∀ q x, l[q]? = some x → At R sz w g q x) : Sl B' e R sz w A l := by
 intro q x hq
 obtain ⟨cs, h1, h2, h3⟩ := h q x hq
 exact ⟨g, 0, cs, hA, ho.lt, .inr ho.ty, h1, fun j v hv => by rw [Nat.zero_add]; exact h2 j v hv, h3⟩
end
theorem grown_ext {w w' : World} {ob : Option Nat} (x : Ext w w') : w.grownBy w' ob := ⟨Below.os x, Below.tape x, Below.output x, x.size, fun _ hk _ => x.blockAt hk⟩
theorem grown_trans {w w1 w2 : World} {ob : Option Nat} (h : w.grownBy w1 ob) (x : Ext w1 w2) : w.grownBy w2 ob :=
 ⟨(Below.os x).trans h.os, (Below.tape x).trans h.tape, (Below.output x).trans h.output, Nat.le_trans h.size x.size, fun k hk hne => (x.blockAt (Nat.lt_of_lt_of_le hk h.size)).trans (h.block k hk hne)⟩
theorem grown_setCells {w w1 : World} {g : Nat} (h : w.grownBy w1 (some g)) (o : Nat) (vs : List Value) : w.grownBy (w1.setCells g o vs) (some g) := by
 obtain ⟨h1, h2, h3, h4⟩ := same_setCells g vs o w1
 exact ⟨h1.trans h.os, h2.trans h.tape, h3.trans h.output, by rw [h4]; exact h.size, fun k hk hne => (heap_setCells g vs o w1 k (fun e => hne (by rw [e]))).trans (h.block k hk hne)⟩
theorem grown_cell {w w' : World} {ob : Option Nat} {r o : Nat} {u : Value} (h : w.grownBy w' ob) (hc : w.cell? ⟨r, o, none⟩ = some u) (hne : some r ≠ ob) : w'.cell? ⟨r, o, none⟩ = some u := h.cell hc hne
theorem Own.ofAt {base c : Nat} {w : World} {g : Nat} {e : TypeId} {α : Type} {R : World → List Value → α → Prop} {sz : Nat} {l : List α} (hsz : 0 < sz) (ho : RowOwn w g e (c * sz)) (hg : base ≤ g) (hl : l.length ≤ c) (hc : c ≤ maxLen) (h : ∀ q x, l[q]? = some x → At R sz w g q x) :
  Own R sz e w base (.slice (some ⟨g, 0, none⟩) l.length c) l := by
 obtain ⟨cur, hb, hs⟩ := ho.blk
 obtain ⟨xs, hx, hxs⟩ := choose_list (p := fun q cs => ∀ x, l[q]? = some x → cs.length = sz ∧ w.rangeAt g (q * sz) cs ∧ R w cs x) l.length (by
  intro q hq
  obtain ⟨cs, h1, h2, h3⟩ := h q _ (List.getElem?_eq_getElem hq)
  refine ⟨cs, fun x hx => ?_⟩
  rw [List.getElem?_eq_getElem hq] at hx
  injection hx with hx
  subst hx
  exact ⟨h1, h2, h3⟩)
 have hall : ∀ cs ∈ xs, cs.length = sz := by
  intro cs hcs
  obtain ⟨q, hq, rfl⟩ := List.getElem_of_mem hcs
  exact (hxs q _ (List.getElem?_eq_getElem hq) _ (List.getElem?_eq_getElem (by omega))).1
 have hlen : xs.flatten.length = l.length * sz := by
  rw [← hx]
  clear hxs hx
  induction xs with
  | nil => simp
  | cons y ys ih => simp [hall y (by simp), ih (fun c hc => hall c (by simp [hc])), Nat.succ_mul, Nat.add_comm]
 refine ⟨xs, hx, fun q cs x h1 h2 => ⟨(hxs q cs h1 x h2).1, (hxs q cs h1 x h2).2.2⟩, hlen, .inr ⟨g, c, cur, rfl, hg, hb, hl, hc, hs, ?_⟩⟩
 apply List.ext_getElem?
 intro j
 by_cases hj : j < l.length * sz
 ·rw [List.getElem?_take, if_pos hj]
  have hq : j / sz < l.length := Nat.div_lt_of_lt_mul (by rw [Nat.mul_comm]; exact hj)
  have hqx : xs[j / sz]? = some (xs[j / sz]'(by omega)) := List.getElem?_eq_getElem _
  obtain ⟨g1, g2, _⟩ := hxs _ _ hqx _ (List.getElem?_eq_getElem hq)
  have hm := Nat.mod_lt j hsz
  have e1 : j / sz * sz + j % sz = j := by rw [Nat.mul_comm]; exact Nat.div_add_mod j sz
  have e2 := flatten_get sz xs hall (j / sz) (j % sz) _ hqx hm
  rw [e1] at e2
  rw [e2]
  have hv : (xs[j / sz]'(by omega))[j % sz]? = some ((xs[j / sz]'(by omega))[j % sz]'(by omega)) := List.getElem?_eq_getElem _
  rw [hv]
  have g3 := g2 _ _ hv
  rw [e1, cell_of_row w g j cur e (0, 0) hb] at g3
  rw [← g3]
  simp
 ·rw [List.getElem?_eq_none (by rw [List.length_take]; omega), List.getElem?_eq_none (by omega)]
theorem Own.rowAt {base c n : Nat} {w : World} {g : Nat} {e : TypeId} {α : Type} {R : World → List Value → α → Prop} {sz : Nat} {l : List α} (h : Own R sz e w base (.slice (some ⟨g, 0, none⟩) n c) l) :
  base ≤ g ∧ RowOwn w g e (c * sz) ∧ ∀ q x, l[q]? = some x → At R sz w g q x := by
 rcases h.at_ with ⟨hv, _⟩ | ⟨g', c', hv, hb, _, _, _, hat⟩
 ·cases hv
 ·injection hv with hA _ hc
  injection hA with hA
  injection hA with hA _
  subst hA hc
  refine ⟨hb, ?_, fun q x hq => hat q x hq⟩
  obtain ⟨xs, _, _, ho⟩ := h
  rcases ho.2 with ⟨hv, _⟩ | ⟨g', cap, cur, hv, _, hg, _, _, hs, _⟩
  ·cases hv
  ·injection hv with hA _ hc
   injection hA with hA
   injection hA with hA _
   subst hA hc
   exact ⟨cur, hg, hs⟩
def idxOf {α : Type} (p : α → Bool) (l : List α) : Int := match l.findIdx? p with | some k => (k : Int) | none => -1
section
variable {P : Program} {ops : Array Oper} {rest : List Oper} {o : Oper} {a : Act} {w : World} {Q : Exit → Act → World → Prop} {K : Act → World → Prop} {t : TypeId} {n : Nat}
theorem wpList_loadL (ri : RowInfo P t n) (x : Operand) (ho : o.op = .load t x) (hg : o.guard = none) {b i : Nat} (hx : a.eval x = .pointer (some ⟨b, i, none⟩)) {cs : List Value} (hr : w.rangeAt b i cs) (hn : cs.length = n)
  (h : wpList P ops Q rest (a.put o.dst (.agg cs.toArray)) w) : wpList P ops Q (o :: rest) a w := by
 obtain ⟨⟨d, hu, hd⟩, hi⟩ := ri
 exact wpList_load_mid hg t x ho b i hx cs d hr hu hd (by rw [hi, hn]) h
theorem wpList_storeL (ri : RowInfo P t n) (x y : Operand) (ho : o.op = .store t x y) (hg : o.guard = none) {b i : Nat} (hx : a.eval x = .pointer (some ⟨b, i, none⟩)) {cs : List Value} (hy : a.eval y = .agg cs.toArray) (ht : w.there b i n) (hn : cs.length = n) (h1 : ∀ u ∈ cs, u.oneCell' = true)
  (h : wpList P ops Q rest (a.put o.dst undef) (w.setCells b i cs)) : wpList P ops Q (o :: rest) a w := by
 obtain ⟨_, hi⟩ := ri
 refine wpList_store_mid hg t x y ho b i cs.toArray hx hy (by simpa [hn] using ht) (by rw [hi]; simp [hn]) (all_oneCell_toArray h1) ?_
 simpa using h
theorem zeroCells_all {z : Array Value} (h : z.all (·.oneCell') = true) (m : Nat) : ∀ u ∈ (Builtin.zeroCells z m).toList, u.oneCell' = true := by
 intro u hu
 unfold Builtin.zeroCells at hu
 simp at hu
 obtain ⟨j, hj, rfl⟩ := hu
 have hz : 0 < z.size := by
  apply Nat.pos_of_ne_zero
  intro h0
  rw [h0] at hj
  simp at hj
 have hlt : j % z.size < z.size := Nat.mod_lt _ hz
 have := Array.all_eq_true.1 h (j % z.size) hlt
 simpa [hlt] using this
theorem zeroCells_len (z : Array Value) (m : Nat) : (Builtin.zeroCells z m).toList.length = m * z.size := by
 unfold Builtin.zeroCells
 simp
theorem wpList_clear {e : TypeId} {z : Array Value} (ht : P.underlying t = some (.slice e)) (zi : ZeroInfo P e z) (hz1 : z.all (·.oneCell') = true) (x : Operand) (ho : o.op = .call { callee := .builtin .clear, args := #[x], argTypes := #[t] }) (hg : o.guard = none)
  {b i m c : Nat} (hx : a.eval x = .slice (some ⟨b, i, none⟩) m c) (hth : w.there b i (m * z.size))
  (h : ∀ zs : List Value, zs.length = m * z.size → wpList P ops Q rest (a.put o.dst (.tuple #[])) (w.setCells b i zs)) : wpList P ops Q (o :: rest) a w := by
 refine wpList_plain hg fun K hK => ?_
 have hr : ∃ zs : List Value, zs.length = m * z.size ∧ (Builtin.clear_ #[t] o.type #[.slice (some ⟨b, i, none⟩) m c]).run P w = .ok (.tuple #[]) (w.setCells b i zs) := by
  refine ⟨(Builtin.zeroCells z m).toList, zeroCells_len z m, ?_⟩
  cases m with
  | zero =>
   have hn : (Builtin.zeroCells z 0).toList = [] := List.eq_nil_of_length_eq_zero (by rw [zeroCells_len]; simp)
   rw [hn]
   simp [Builtin.clear_, run_underlying ht, World.setCells]
  | succ m =>
   have hs := run_storeCells_cells (P := P) b i (Builtin.zeroCells z (m + 1)).toList 0 w (fun j hj => by rw [zeroCells_len] at hj; exact (hth j hj).1) (fun j hj => by rw [zeroCells_len] at hj; exact (hth j hj).2) (zeroCells_all hz1 _)
   rw [Nat.add_zero] at hs
   simp [Builtin.clear_, run_underlying ht, zi w, Value.cells, hs]
 obtain ⟨zs, hl, hr⟩ := hr
 unfold Oper.wp execOp
 simp only [ho, resolve, invoke, builtin, Sem.run_bind, Sem.run_pure, Result.andThen_ok, List.map_toArray, List.map_cons, List.map_nil, hx, hr]
 exact hK _ _ (h zs hl)
end
theorem filter_take {α : Type} (p : α → Bool) (l : List α) (k : Nat) (hk : k < l.length) : (l.take (k + 1)).filter p = (l.take k).filter p ++ (if p l[k] then [l[k]] else []) := by
 rw [List.take_succ_eq_append_getElem hk, List.filter_append]
 congr 1
 by_cases h : p l[k] = true <;> simp [h]
theorem filter_len {α : Type} (p : α → Bool) (l : List α) (k : Nat) : ((l.take k).filter p).length ≤ k := by
 have h1 := List.length_filter_le p (l.take k)
 have h2 : (l.take k).length ≤ k := by rw [List.length_take]; omega
 omega
theorem filter_first {α : Type} {p : α → Bool} {l : List α} {k : Nat} (h : ∀ q x, q < k → l[q]? = some x → p x = false) : (l.take k).filter (fun x => !p x) = l.take k := by
 rw [List.filter_eq_self]
 intro x hx
 obtain ⟨q, hq⟩ := List.mem_iff_getElem?.1 hx
 rw [List.getElem?_take] at hq
 split at hq
 ·rename_i hqk
  rw [h q x hqk hq]; rfl
 ·cases hq
theorem idx_none {α : Type} {p : α → Bool} {l : List α} (h : ∀ x ∈ l, p x = false) : idxOf p l = -1 := by
 unfold idxOf
 rw [List.findIdx?_eq_none_iff.2 (fun x hx => by rw [h x hx])]
theorem idx_some {α : Type} {p : α → Bool} {l : List α} {k : Nat} (hk : k < l.length) (h : p l[k] = true) (hn : ∀ q x, q < k → l[q]? = some x → p x = false) : idxOf p l = (k : Int) := by
 unfold idxOf
 have : l.findIdx? p = some k := by
  rw [List.findIdx?_eq_some_iff_getElem]
  exact ⟨hk, h, fun j hj => by rw [hn j _ hj (List.getElem?_eq_getElem _)]; simp⟩
 rw [this]
theorem idx_any {α : Type} {p : α → Bool} {l : List α} : decide (0 ≤ idxOf p l) = l.any p := by
 unfold idxOf
 cases h : l.findIdx? p with
 | none =>
  rw [List.findIdx?_eq_none_iff] at h
  have : l.any p = false := by rw [List.any_eq_false]; intro x hx; rw [h x hx]; simp
  rw [this]; rfl
 | some k =>
  obtain ⟨hk, h1, _⟩ := List.findIdx?_eq_some_iff_getElem.1 h
  rw [List.any_eq_true.2 ⟨_, List.getElem_mem hk, h1⟩]
  simp
theorem idx_cases {α : Type} (p : α → Bool) (l : List α) : (idxOf p l = -1 ∧ ∀ x ∈ l, p x = false) ∨ ∃ k, ∃ hk : k < l.length, idxOf p l = (k : Int) ∧ p l[k] = true ∧ ∀ q x, q < k → l[q]? = some x → p x = false := by
 unfold idxOf
 cases h : l.findIdx? p with
 | none =>
  rw [List.findIdx?_eq_none_iff] at h
  exact .inl ⟨rfl, h⟩
 | some k =>
  obtain ⟨hk, h1, h2⟩ := List.findIdx?_eq_some_iff_getElem.1 h
  refine .inr ⟨k, hk, rfl, h1, fun q x hq hx => ?_⟩
  obtain ⟨hq', rfl⟩ := List.getElem?_eq_some_iff.1 hx
  simpa using h2 q hq
def RL {α : Type} (B : Nat) (e : TypeId) (R : World → List Value → α → Prop) (sz : Nat) (w : World) (cs : List Value) (l : List α) : Prop := ∃ A c, cs = [.slice A l.length c] ∧ Sl B e R sz w A l
theorem RL.monoE {α : Type} {B : Nat} {e : TypeId} {R : World → List Value → α → Prop} {sz : Nat} (m : Mono B [] R) : Mono B [] (RL B e R sz) := by
 rintro w w' cs l x ⟨A, c, rfl, h⟩
 exact ⟨A, c, rfl, h.chg m (by simp) x⟩
theorem Sl.rl {α : Type} {B : Nat} {e t : TypeId} {R : World → List Value → α → Prop} {sz : Nat} {w : World} {A : Option Addr} {l : List (List α)} (h : Sl B t (RL B e R sz) 1 w A l) {i : Nat} (hi : i < l.length) :
  ∃ b off A' c, A = some ⟨b, off, none⟩ ∧ b < w.heap.size ∧ w.cell? ⟨b, off + i, none⟩ = some (.slice A' l[i].length c) ∧ Sl B e R sz w A' l[i] := by
 obtain ⟨b, off, cs, hA, hb, _, hc, A', c, rfl, hs⟩ := h.at_ hi
 have := hc 0 _ rfl
 simp only [Nat.mul_one, Nat.add_zero] at this
 exact ⟨b, off, A', c, hA, hb, this, hs⟩
theorem flatG_succ {α : Type} (ls : List (List α)) (j : Nat) (hj : j < ls.length) : (ls.take (j + 1)).flatten = (ls.take j).flatten ++ ls[j] := by
 rw [← List.take_append_getElem hj, List.flatten_append, List.flatten_cons, List.flatten_nil, List.append_nil]
theorem wrapG_nat {n : Nat} (h : n ≤ 1000000) : IntKind.i64.wrap (n : Int) = (n : Int) := by rw [IntKind.wrap_i64]; omega
theorem flatG_le {α : Type} (ls : List (List α)) (j : Nat) : (ls.take j).flatten.length ≤ ls.flatten.length := by
 have h : ls.flatten = (ls.take j).flatten ++ (ls.drop j).flatten := by rw [← List.flatten_append, List.take_append_drop]
 rw [h, List.length_append]; omega
theorem Own.roomG {α : Type} {R : World → List Value → α → Prop} {sz : Nat} {e : TypeId} {w : World} {cs : Array Value} {base cap : Nat} (hb : base ≤ w.heap.size) (hm : cap ≤ maxLen) (hs : cs.size = cap * sz) :
  Own R sz e (w.alloc (.cells cs e)) base (.slice (some ⟨w.heap.size, 0, none⟩) 0 cap) ([] : List α) := by
 refine ⟨[], rfl, by intro i cs x h; simp at h, by simp, .inr ⟨w.heap.size, cap, cs, rfl, hb, heap_alloc_new w _, Nat.zero_le _, hm, hs, by simp⟩⟩
theorem Sl.lit2 {α : Type} {R : World → List Value → α → Prop} {B : Nat} {e : TypeId} {o w : World} {u v : Value} {x y : α} (ho : o = w.alloc (.cells #[u, v] e)) (h1 : R o [u] x) (h2 : R o [v] y) : Sl B e R 1 o (some ⟨w.heap.size, 0, none⟩) [x, y] := by
 have hb := Blk.new w e #[u, v]
 rw [← ho] at hb
 intro i z hz
 match i, hz with
 | 0, hz =>
  simp at hz; subst hz
  exact ⟨w.heap.size, 0, [u], rfl, hb.lt, .inr hb.ty, rfl, fun j c hj => by
   match j, hj with
   | 0, hj => simp at hj; subst hj; exact hb.cell rfl, h1⟩
 | 1, hz =>
  simp at hz; subst hz
  exact ⟨w.heap.size, 0, [v], rfl, hb.lt, .inr hb.ty, rfl, fun j c hj => by
   match j, hj with
   | 0, hj => simp at hj; subst hj; exact hb.cell rfl, h2⟩
end Go.Proofs.YtngbfdogiciahaaGreat
namespace Go.Proofs.YtngbfdogiciahaaGreat
open Go Go.RowKit
section
variable {P : Program} {ops : Array Oper} {rest : List Oper} {o : Oper} {a : Act} {w : World} {Q : Exit → Act → World → Prop} {t e : TypeId}
theorem madeCells_one (z : Value) (n : Nat) : madeCells #[z] n = rowF n fun _ => z := by
 apply Array.ext
 ·simp [madeCells, rowF]
 ·intro i h1 h2
  have hm : i % 1 = 0 := Nat.mod_one i
  simp only [madeCells, rowF, Array.getElem_map, Array.getElem_ofFn]
  simp [hm]
theorem wpList_makeArr {z : Value} {bytes : Nat} (ei : ElemInfo P t e 1 bytes) (hz0 : (P.info? e).bind (·.zero) = some z) (hzc : z.cells = #[z]) (x y : Operand) (ho : o.op = .makeSlice t x y) (hg : o.guard = none) (n : Nat) (hx : a.eval x = .int .i64 (n : Int)) (hy : a.eval y = .int .i64 (n : Int)) (hn : n * bytes ≤ 281474976710656) (h63 : n ≤ maxLen)
  (h : ∀ b w', w.heap.size = b → Ext w w' → Blk w' b e (rowF n fun _ => z) → w'.heap.size = b + 1 → wpList P ops Q rest (a.put o.dst (.slice (some ⟨b, 0, none⟩) n n)) w') : wpList P ops Q (o :: rest) a w := by
 obtain ⟨i, z', ht, hi, hz, hs, hb, hzs, h0⟩ := ei
 obtain rfl : z' = z := by rw [hi] at hz0; simp [hz] at hz0; exact hz0
 refine wpList_plain hg fun K hK => ?_
 have hr := run_make (P := P) w t e i z' ht hi hz .i64 .i64 n n (by omega) (by omega) (by rw [hb, Int.mul_comm]; omega) (by unfold maxLen at h63; omega)
 rw [Int.toNat_natCast, hs, Nat.mul_one, hzc, madeCells_one] at hr
 unfold Oper.wp execOp
 simp only [ho, hx, hy, Sem.run_bind, hr, Sem.run_pure, Result.andThen_ok]
 exact hK _ _ (h _ _ rfl ((Ext.refl w).alloc _) (Blk.new w e _) (by simp))
end
section
variable {α : Type} {P : Program} {R : World → List Value → α → Prop} {sz bytes : Nat} {t ty e : TypeId} {w : World} {B B' : Nat} {ys : List α} {A A0 : Option Addr} {c : Nat}
def OwnZ {α : Type} (R : World → List Value → α → Prop) (sz : Nat) (e : TypeId) (w : World) (base : Nat) (v : Value) (l : List α) : Prop :=
 Own R sz e w base v l ∨ (l = [] ∧ ∃ A, v = .slice A 0 0)
theorem OwnZ.isSl (B : Nat) {base : Nat} {v : Value} {l : List α} (h : OwnZ R sz e w base v l) : IsSl B e R sz w v l := by
 rcases h with h | ⟨rfl, A, rfl⟩
 ·exact h.isSl B
 ·exact ⟨A, 0, rfl, Nat.le_refl _, Nat.zero_le _, Sl.nil⟩
theorem OwnZ.ext {base : Nat} {v : Value} {l : List α} {w' : World} (m : Mono B [] R) (h : OwnZ R sz e w base v l) (x : Ext w w') : OwnZ R sz e w' base v l := h.imp (fun h => h.ext m x) id
end
end Go.Proofs.YtngbfdogiciahaaGreat
namespace Go.Proofs.YtngbfdogiciahaaGreat
open Go Go.RowKit
section
variable {α : Type} {P : Program} {R : World → List Value → α → Prop} {sz bytes : Nat} {t e : TypeId} {w : World} {base B B' : Nat} {v : Value} {l ys : List α} {A : Option Addr} {c : Nat}
theorem step_app {ops : Array Oper} {dst : Option Tmp} {ty : TypeId} {pos : String} {after : Array Edge} {s x : Operand} {a : Act} {K : Act → World → Prop} {Q : Exit → Act → World → Prop} {E : Prop} (ei : ElemInfo P t e sz bytes)
  (hs : a.eval s = v) (hown : Own R sz e w base v l) (hB : B ≤ base) (hb : base ≤ w.heap.size) {e' : TypeId} (hx : a.eval x = .slice A ys.length c) (hsl : Sl B' e' R sz w A ys) (h1 : OneC R) (m : Mono B [e] R)
  (h63 : l.length + ys.length ≤ maxLen) (hby : (l.length + ys.length) * bytes ≤ 140737488355328)
  (h : ∀ v' w', Own R sz e w' base v' (l ++ ys) → Chg B [e] w w' → Below base w w' → w.grownBy w' v.ownBlock → K (a.put dst v') w') :
  if Region.wanted (⟨dst, .call { callee := .builtin .append, args := #[s, x], argTypes := #[t, t] }, ty, pos, after, none⟩ : Oper) (yielded ops a.tmps) = true then Oper.wp P ⟨dst, .call { callee := .builtin .append, args := #[s, x], argTypes := #[t, t] }, ty, pos, after, none⟩ a w K Q else E := by
 have hw : Region.wanted (⟨dst, .call { callee := .builtin .append, args := #[s, x], argTypes := #[t, t] }, ty, pos, after, none⟩ : Oper) (yielded ops a.tmps) = true := by simp [Region.wanted]
 rw [if_pos hw]
 obtain ⟨v', w', hr, h2, h3, h4, h5⟩ := run_app (P := P) (t := t) (ty := ty) (c := c) ei hown hB hb hsl h1 m h63 hby
 unfold Oper.wp execOp
 simp only [resolve, invoke, builtin, Sem.run_bind, Sem.run_pure, Result.andThen_ok, List.map_toArray, List.map_cons, List.map_nil, hs, hx, hr]
 exact h v' w' h2 h4 h5 h3
theorem step_call {ops : Array Oper} {dst : Option Tmp} {ty : TypeId} {pos : String} {after : Array Edge} {a : Act} {K : Act → World → Prop} {Q : Exit → Act → World → Prop} {E : Prop} {w : World} {f : FuncId} {xs : Array Operand} {ts : Array TypeId} {args : Array Value}
  (hcall : ∀ (av : Array Value) (w : World), (callFunc f av).run P w = .ok (.enter f av) w) (ha : (xs.toList.map a.eval).toArray = args)
  {S : Ending → World → Prop} (hc : Calls P f args w S) (h : ∀ e w', S e w' → ∃ v, e = .returned v ∧ K (a.put dst v) w') :
  if Region.wanted (⟨dst, .call { callee := .value (.func f), args := xs, argTypes := ts }, ty, pos, after, none⟩ : Oper) (yielded ops a.tmps) = true then Oper.wp P ⟨dst, .call { callee := .value (.func f), args := xs, argTypes := ts }, ty, pos, after, none⟩ a w K Q else E := by
 have hw : Region.wanted (⟨dst, .call { callee := .value (.func f), args := xs, argTypes := ts }, ty, pos, after, none⟩ : Oper) (yielded ops a.tmps) = true := by simp [Region.wanted]
 rw [if_pos hw]
 have hr : (execOp a.eval (⟨dst, .call { callee := .value (.func f), args := xs, argTypes := ts }, ty, pos, after, none⟩ : Oper)).run P w = .ok (.enter f args) w := by
  subst ha
  unfold execOp
  simp [resolve, invoke, Act.eval, hcall, go_sem]
  rw [← Array.toList_map]
 unfold Oper.wp
 rw [hr, Oper.upon_enter]
 refine hc.mono fun e w'' hh => ?_
 obtain ⟨v, rfl, hk⟩ := h e w'' hh
 exact hk
end
end Go.Proofs.YtngbfdogiciahaaGreat
