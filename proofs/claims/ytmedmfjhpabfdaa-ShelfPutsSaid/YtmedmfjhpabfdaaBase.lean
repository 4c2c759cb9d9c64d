/- Base: Rep, Data, SpanP, CubeP, FilP, FilQ, KnowP, Open, OpenP, Arr, FilD, KnD, Qext, QextV, KnL, KnowQ, OwnE, Agg, Row, Make in one text: data, readings, plain laws, small walks. No condition. -/
import Derived.ChangeOld
import Derived.ChangeSame
import Derived.Deep.Draws
import Derived.Deep.Fields
import Derived.Deep.MidRow
import Derived.Deep.QuietTactic
import Derived.Deep.Slices
import Derived.Deep.WholeRow
import Derived.Great.BuildSlice
import Derived.Laws.BitsAllLaws
import Derived.Laws.MakeOwn
import Derived.Laws.Tables
import Derived.Lib.AppendZeros
import Derived.Lib.SmallJoins
import Derived.Maps.AppendAt
import Derived.OpenShut
import Derived.ProofKit
import Derived.ShutString
import Derived.Test.YtmedmfjhpabfdaaChecked
import Derived.Test.YtmedmfjhpabfdaaProg
import Derived.WalkKit
namespace Go.Proofs.Ytmedmfjhpabfdaa
open Go Go.RowKit

theorem hid {p : Prop} (h : p) : Hid p := h
theorem ret_bool {a b : Bool} (h : a = b) : Ending.returned (.bool a) = .returned (.bool b) := by rw [h]
theorem ret_int {k : IntKind} {a b : Int} (h : a = b) : Ending.returned (.int k a) = .returned (.int k b) := by rw [h]
/-- the world w' is as w was, but for new blocks and draws. -/
def Ext (w w' : World) : Prop := Below w.heap.size w w'

namespace Ext
variable {a b c w : World}
theorem refl (w : World) : Ext w w := Below.refl _ _
theorem size (h : Ext a b) : a.heap.size ≤ b.heap.size := Below.size h
theorem trans (h : Ext a b) (k : Ext b c) : Ext a c := Below.trans h (Below.mono k h.size)
theorem alloc (h : Ext a w) (o : Obj) : Ext a (w.alloc o) := Below.alloc h h.size o
theorem drew (h : Ext a w) : Ext a w.drew := Below.drew h
theorem drewN (h : Ext a w) (n : Nat) : Ext a (w.drewN n) := by
  obtain ⟨h1, h2, h3, h4, h5⟩ := h
  exact ⟨h1, h2, h3, h4, h5⟩
theorem setCell (h : Ext a w) {p : Addr} (hp : a.heap.size ≤ p.block) (u : Value) : Ext a (w.setCell p u) := Below.setCell h hp u
theorem below {B : Nat} (h : Ext a w) (k : Below B w b) (hB : a.heap.size ≤ B) : Ext a b := Below.trans h (Below.mono k hB)
theorem cellAt (h : Ext a w) {k o : Nat} (hb : k < a.heap.size) : w.cell? ⟨k, o, none⟩ = a.cell? ⟨k, o, none⟩ := Below.cell (p := ⟨k, o, none⟩) h hb
theorem cell (h : Ext a w) {p : Addr} {u : Value} (hc : a.cell? p = some u) : w.cell? p = some u := (Below.cell h (World.block_lt_of_cell? _ p hc)).trans hc
theorem frozenAt (h : Ext a w) {k o : Nat} (hb : k < a.heap.size) : w.frozen? ⟨k, o, none⟩ = a.frozen? ⟨k, o, none⟩ := Below.frozen (p := ⟨k, o, none⟩) h hb
theorem blockAt (h : Ext a w) {k : Nat} (hb : k < a.heap.size) : w.heap[k]? = a.heap[k]? := Below.block h k hb
/-- what the walk needs of an older world. -/
theorem cells (h : Ext a w) : ∀ k o, k < a.heap.size → w.cell? ⟨k, o, none⟩ = a.cell? ⟨k, o, none⟩ := fun _ _ hb => h.cellAt hb
end Ext

/-- of what type the elements of block k are. -/
def tyAt (w : World) (k : Nat) : Option TypeId := match w.heap[k]? with | some (.cells _ e _) => some e | _ => none
theorem tyAt_of {w w' : World} {k : Nat} (h : w'.heap[k]? = w.heap[k]?) : tyAt w' k = tyAt w k := by unfold tyAt; rw [h]

/-- w' is w with new blocks, and with writes to blocks from B on whose elements are of the types ts alone. -/
structure Chg (B : Nat) (ts : List TypeId) (w w' : World) : Prop where
  os : w'.os = w.os
  tape : w'.tape = w.tape
  output : w'.output = w.output
  size : w.heap.size ≤ w'.heap.size
  block : ∀ k, k < w.heap.size → (k < B ∨ ∀ t ∈ ts, tyAt w k ≠ some t) → w'.heap[k]? = w.heap[k]?

namespace Chg
variable {B : Nat} {ts us : List TypeId} {a b c w w' : World}
theorem of_ext (h : Ext a b) : Chg B ts a b := ⟨Below.os h, Below.tape h, Below.output h, h.size, fun _ hk _ => h.blockAt hk⟩
theorem refl (w : World) : Chg B ts w w := of_ext (Ext.refl w)
theorem more (h : Chg B ts a b) (hs : ∀ t ∈ ts, t ∈ us) : Chg B us a b := ⟨h.os, h.tape, h.output, h.size, fun k hk hc => h.block k hk (hc.imp id fun g t ht => g t (hs t ht))⟩
theorem trans (h : Chg B ts a b) (k : Chg B ts b c) : Chg B ts a c := by
  refine ⟨k.os.trans h.os, k.tape.trans h.tape, k.output.trans h.output, Nat.le_trans h.size k.size, fun i hi hc => ?_⟩
  have h1 := h.block i hi hc
  refine (k.block i (Nat.lt_of_lt_of_le hi h.size) ?_).trans h1
  rcases hc with hc | hc
  · exact .inl hc
  · exact .inr fun t ht => by rw [tyAt_of h1]; exact hc t ht
theorem cell (h : Chg B ts a b) {k o : Nat} {u : Value} (hk : k < B ∨ ∀ t ∈ ts, tyAt a k ≠ some t) (hc : a.cell? ⟨k, o, none⟩ = some u) : b.cell? ⟨k, o, none⟩ = some u :=
  (World.cell?_of_block (w := a) (h.block k (World.block_lt_of_cell? _ _ hc) hk)).trans hc
/-- what was there when the call began, and not from B on, has not turned. -/
theorem ext (h : Chg B ts a b) (hB : a.heap.size ≤ B) : Ext a b := ⟨h.os, h.tape, h.output, h.size, fun k hk => h.block k hk (.inl (by omega))⟩
theorem setCell (h : Chg B ts a w) {p : Addr} {t : TypeId} (ht : tyAt w p.block = some t) (hm : t ∈ ts) (u : Value) (hB : B ≤ p.block) : Chg B ts a (w.setCell p u) := by
  refine h.trans ⟨rfl, rfl, rfl, by simp [World.setCell], fun k hk hc => Below.heap_setCell _ _ _ _ ?_⟩
  rintro rfl
  rcases hc with hc | hc
  · omega
  · exact hc t hm ht
end Chg

/-- cells one behind the other. -/
def CellsAt (w : World) (b off : Nat) (cs : List Value) : Prop := ∀ j u, cs[j]? = some u → w.cell? ⟨b, off + j, none⟩ = some u

/-- a block of old memory, or of elements of type e. -/
def Okb (B : Nat) (e : TypeId) (w : World) (b : Nat) : Prop := b < B ∨ tyAt w b = some e

/-- the element's cells of a slice from address A on: element i's cells read as the list's i-th. -/
def Sl {α : Type} (B : Nat) (e : TypeId) (R : World → List Value → α → Prop) (sz : Nat) (w : World) (A : Option Addr) (l : List α) : Prop :=
  ∀ i x, l[i]? = some x → ∃ b off cs, A = some ⟨b, off, none⟩ ∧ b < w.heap.size ∧ Okb B e w b ∧ cs.length = sz ∧ CellsAt w b (off + i * sz) cs ∧ R w cs x

/-- a slice value that reads as a list. -/
def IsSl {α : Type} (B : Nat) (e : TypeId) (R : World → List Value → α → Prop) (sz : Nat) (w : World) (v : Value) (l : List α) : Prop :=
  ∃ A c, v = .slice A l.length c ∧ l.length ≤ c ∧ c ≤ maxLen ∧ Sl B e R sz w A l

/-- a reading that stays when the world turns in blocks of the types ts alone. -/
def Mono {α : Type} (B : Nat) (ts : List TypeId) (R : World → List Value → α → Prop) : Prop := ∀ (w w' : World) (cs : List Value) (x : α), Chg B ts w w' → R w cs x → R w' cs x

theorem CellsAt.chg {w w' : World} {B : Nat} {ts : List TypeId} {b off : Nat} {cs : List Value} (h : CellsAt w b off cs) (x : Chg B ts w w') (hb : b < B ∨ ∀ t ∈ ts, tyAt w b ≠ some t) : CellsAt w' b off cs :=
  fun j u hj => x.cell hb (h j u hj)

section
variable {α : Type} {B : Nat} {e : TypeId} {ts : List TypeId} {R : World → List Value → α → Prop} {sz : Nat} {w w' : World} {A : Option Addr} {v : Value} {l : List α}

theorem Sl.chg (m : Mono B ts R) (he : e ∉ ts) (h : Sl B e R sz w A l) (x : Chg B ts w w') : Sl B e R sz w' A l := by
  intro i y hy
  obtain ⟨b, off, cs, hA, hb, hk, hl, hc, hR⟩ := h i y hy
  have ho : b < B ∨ ∀ t ∈ ts, tyAt w b ≠ some t := by
    rcases hk with hk | hk
    · exact .inl hk
    · refine .inr fun t ht h2 => ?_
      rw [hk] at h2
      injection h2 with h2
      exact he (h2 ▸ ht)
  refine ⟨b, off, cs, hA, Nat.lt_of_lt_of_le hb x.size, ?_, hl, hc.chg x ho, m _ _ _ _ x hR⟩
  rcases hk with hk | hk
  · exact .inl hk
  · exact .inr ((tyAt_of (x.block b hb ho)).trans hk)

theorem Sl.ext (m : Mono B [] R) (h : Sl B e R sz w A l) (x : Ext w w') : Sl B e R sz w' A l := h.chg m (by simp) (.of_ext x)

theorem IsSl.chg (m : Mono B ts R) (he : e ∉ ts) (h : IsSl B e R sz w v l) (x : Chg B ts w w') : IsSl B e R sz w' v l := by
  obtain ⟨A, c, hv, h1, h2, hs⟩ := h
  exact ⟨A, c, hv, h1, h2, hs.chg m he x⟩

theorem IsSl.ext (m : Mono B [] R) (h : IsSl B e R sz w v l) (x : Ext w w') : IsSl B e R sz w' v l := h.chg m (by simp) (.of_ext x)

theorem Sl.nil : Sl B e R sz w A ([] : List α) := by
  intro i x h; simp at h

theorem IsSl.nil : IsSl B e R sz w (.slice none 0 0) ([] : List α) := ⟨none, 0, rfl, Nat.le_refl _, Nat.zero_le _, Sl.nil⟩

/-- the cells of an element: what a round asks. -/
theorem Sl.at_ (h : Sl B e R sz w A l) {i : Nat} (hi : i < l.length) :
    ∃ b off cs, A = some ⟨b, off, none⟩ ∧ b < w.heap.size ∧ cs.length = sz ∧ CellsAt w b (off + i * sz) cs ∧ R w cs l[i] := by
  obtain ⟨b, off, cs, h1, h2, _, h3, h4, h5⟩ := h i _ (List.getElem?_eq_getElem hi)
  exact ⟨b, off, cs, h1, h2, h3, h4, h5⟩

theorem Sl.old {B' : Nat} (m : ∀ cs x, R w cs x → R w cs x) (h : Sl B e R sz w A l) (hB : B ≤ B') : Sl B' e R sz w A l := by
  intro i y hy
  obtain ⟨b, off, cs, hA, hb, hk, hl, hc, hR⟩ := h i y hy
  exact ⟨b, off, cs, hA, hb, hk.imp (fun h => by omega) id, hl, hc, m _ _ hR⟩
end

/-! integers, and structs whose fields are integers: their cells are known. -/
def RInt (_ : World) (cs : List Value) (n : Int) : Prop := cs = [.int .i64 n]
theorem RInt.mono {B : Nat} {ts : List TypeId} : Mono B ts RInt := fun _ _ _ _ _ h => h
theorem Sl.int {B : Nat} {e : TypeId} {w : World} {A : Option Addr} {l : List Int} (h : Sl B e RInt 1 w A l) {i : Nat} (hi : i < l.length) : ∃ b off, A = some ⟨b, off, none⟩ ∧ b < w.heap.size ∧ w.cell? ⟨b, off + i, none⟩ = some (.int .i64 l[i]) := by
  obtain ⟨b, off, cs, hA, hb, _, hc, rfl⟩ := h.at_ hi
  have := hc 0 _ rfl
  simp only [Nat.mul_one, Nat.add_zero] at this
  exact ⟨b, off, hA, hb, this⟩

/-- a struct of two integers. -/
def RPair {α : Type} (f g : α → Int) (_ : World) (cs : List Value) (x : α) : Prop := cs = [.int .i64 (f x), .int .i64 (g x)]
theorem RPair.mono {α : Type} {f g : α → Int} {B : Nat} {ts : List TypeId} : Mono B ts (RPair f g) := fun _ _ _ _ _ h => h
theorem Sl.pair {α : Type} {f g : α → Int} {B : Nat} {e : TypeId} {w : World} {A : Option Addr} {l : List α} (h : Sl B e (RPair f g) 2 w A l) {i : Nat} (hi : i < l.length) :
    ∃ b off, A = some ⟨b, off, none⟩ ∧ b < w.heap.size ∧ w.cell? ⟨b, off + i * 2, none⟩ = some (.int .i64 (f l[i])) ∧ w.cell? ⟨b, off + i * 2 + 1, none⟩ = some (.int .i64 (g l[i])) := by
  obtain ⟨b, off, cs, hA, hb, _, hc, rfl⟩ := h.at_ hi
  have h0 := hc 0 _ rfl
  have h1 := hc 1 _ rfl
  simp only [Nat.add_zero] at h0
  exact ⟨b, off, hA, hb, h0, h1⟩

/-- a struct of three integers. -/
def RTrip {α : Type} (f g k : α → Int) (_ : World) (cs : List Value) (x : α) : Prop := cs = [.int .i64 (f x), .int .i64 (g x), .int .i64 (k x)]
theorem RTrip.mono {α : Type} {f g k : α → Int} {B : Nat} {ts : List TypeId} : Mono B ts (RTrip f g k) := fun _ _ _ _ _ h => h
/-! a row of the call's own. -/
/-- the row that v owns among the blocks from base on reads as the list l. -/
def Own {α : Type} (R : World → List Value → α → Prop) (sz : Nat) (e : TypeId) (w : World) (base : Nat) (v : Value) (l : List α) : Prop :=
  ∃ xs : List (List Value), xs.length = l.length ∧ (∀ (i : Nat) (cs : List Value) (x : α), xs[i]? = some cs → l[i]? = some x → cs.length = sz ∧ R w cs x) ∧ w.ownsRow base e sz v l.length xs.flatten

theorem flatten_get {α : Type} (sz : Nat) : ∀ (xs : List (List α)) (_ : ∀ cs ∈ xs, cs.length = sz) (i j : Nat) (cs : List α), xs[i]? = some cs → j < sz → xs.flatten[i * sz + j]? = cs[j]? := by
  intro xs
  induction xs with
  | nil => intro _ i j cs h; simp at h
  | cons y ys ih =>
    intro hl i j cs h hj
    have hy : y.length = sz := hl y (by simp)
    rw [List.flatten_cons]
    cases i with
    | zero =>
      simp at h; subst h
      rw [Nat.zero_mul, Nat.zero_add, List.getElem?_append_left (by omega)]
    | succ i =>
      have h' : ys[i]? = some cs := by simpa using h
      rw [List.getElem?_append_right (by rw [hy, Nat.succ_mul]; omega), hy]
      have e : (i + 1) * sz + j - sz = i * sz + j := by rw [Nat.succ_mul]; omega
      rw [e]
      exact ih (fun c hc => hl c (by simp [hc])) i j cs h' hj

theorem flatten_back {α : Type} (sz : Nat) (hsz : 0 < sz) : ∀ (xs : List (List α)) (_ : ∀ cs ∈ xs, cs.length = sz) (q : Nat) (u : α), xs.flatten[q]? = some u → ∃ cs, xs[q / sz]? = some cs ∧ cs[q % sz]? = some u := by
  intro xs hl q u hq
  have hlen : ∀ (ys : List (List α)), (∀ cs ∈ ys, cs.length = sz) → ys.flatten.length = ys.length * sz := by
    intro ys
    induction ys with
    | nil => simp
    | cons y ys ih => intro h; simp [h y (by simp), ih (fun c hc => h c (by simp [hc])), Nat.succ_mul, Nat.add_comm]
  have hq1 : q < xs.length * sz := by rw [← hlen xs hl]; exact (List.getElem?_eq_some_iff.1 hq).1
  have hd : q / sz < xs.length := Nat.div_lt_of_lt_mul (by rw [Nat.mul_comm]; exact hq1)
  refine ⟨xs[q / sz], List.getElem?_eq_getElem hd, ?_⟩
  rw [← flatten_get sz xs hl (q / sz) (q % sz) _ (List.getElem?_eq_getElem hd) (Nat.mod_lt _ hsz)]
  have : q / sz * sz + q % sz = q := by rw [Nat.mul_comm]; exact Nat.div_add_mod q sz
  rw [this]; exact hq

section
variable {α : Type} {B : Nat} {R : World → List Value → α → Prop} {sz : Nat} {e : TypeId} {w w' : World} {base : Nat} {v : Value} {l : List α}

theorem Own.nil : Own R sz e w base (.slice none 0 0) ([] : List α) := ⟨[], rfl, by intro i cs x h; simp at h, World.ownsRow_nil _ _ _ _⟩

theorem Own.len (h : Own R sz e w base v l) : ∃ A c, v = .slice A l.length c ∧ l.length ≤ c ∧ c ≤ maxLen := by
  obtain ⟨xs, _, _, ho⟩ := h
  rcases ho.2 with ⟨hv, hn⟩ | ⟨g, cap, cur, hv, _, _, h1, h2, _⟩
  · exact ⟨none, 0, by rw [hv, hn], by omega, Nat.zero_le _⟩
  · exact ⟨_, cap, hv, h1, h2⟩

/-- where the row lies. -/
theorem Own.at_ (h : Own R sz e w base v l) : (v = .slice none 0 0 ∧ l = []) ∨ ∃ g c, v = .slice (some ⟨g, 0, none⟩) l.length c ∧ base ≤ g ∧ g < w.heap.size ∧ tyAt w g = some e ∧ (∀ o, w.frozen? ⟨g, o, none⟩ = false) ∧
    ∀ i x, l[i]? = some x → ∃ cs, cs.length = sz ∧ CellsAt w g (i * sz) cs ∧ R w cs x := by
  obtain ⟨xs, hx, hR, ho⟩ := h
  have hall : ∀ cs ∈ xs, cs.length = sz := by
    intro cs hcs
    obtain ⟨i, hi, rfl⟩ := List.getElem_of_mem hcs
    exact (hR i _ _ (List.getElem?_eq_getElem hi) (List.getElem?_eq_getElem (by omega))).1
  rcases ho.2 with ⟨rfl, hn⟩ | ⟨g, cap, cur, rfl, hb, hg, h1, h2, h3, h4⟩
  · exact .inl ⟨rfl, List.eq_nil_of_length_eq_zero hn⟩
  · refine .inr ⟨g, cap, rfl, hb, (Array.getElem?_eq_some_iff.1 hg).1, by unfold tyAt; rw [hg], fun o => by simp [World.frozen?, hg], ?_⟩
    intro i x hix
    have hil : i < l.length := (List.getElem?_eq_some_iff.1 hix).1
    have hxi : xs[i]? = some xs[i] := List.getElem?_eq_getElem (by omega)
    obtain ⟨hlen, hr⟩ := hR i _ _ hxi hix
    refine ⟨xs[i], hlen, ?_, hr⟩
    intro j u hj
    have hj' : j < sz := by have := (List.getElem?_eq_some_iff.1 hj).1; omega
    have := ho.cells (g := g) rfl (i * sz + j) u (by rw [flatten_get sz xs hall i j _ hxi hj']; exact hj)
    have e1 : (⟨g, 0, none⟩ : Addr).add (i * sz + j) = ⟨g, i * sz + j, none⟩ := by unfold Addr.add; split <;> simp_all
    rwa [e1] at this

theorem Own.isSl (B : Nat) (h : Own R sz e w base v l) : IsSl B e R sz w v l := by
  obtain ⟨A, c, hv, h1, h2⟩ := h.len
  refine ⟨A, c, hv, h1, h2, ?_⟩
  rcases h.at_ with ⟨_, rfl⟩ | ⟨g, c', hv', hb, hlt, ht, _, hc⟩
  · exact Sl.nil
  · rw [hv] at hv'
    injection hv' with hA _ _
    subst hA
    intro i x hix
    obtain ⟨cs, h3, h4, h5⟩ := hc i x hix
    exact ⟨g, 0, cs, rfl, hlt, .inr ht, h3, by rw [Nat.zero_add]; exact h4, h5⟩

theorem Own.chg {ts : List TypeId} (m : Mono B ts R) (h : Own R sz e w base v l) (x : Chg B ts w w') (hk : ∀ g, v.ownBlock = some g → w'.heap[g]? = w.heap[g]?) : Own R sz e w' base v l := by
  obtain ⟨xs, hx, hR, ho⟩ := h
  refine ⟨xs, hx, fun i cs y h1 h2 => ⟨(hR i cs y h1 h2).1, m _ _ _ _ x (hR i cs y h1 h2).2⟩, ho.1, ?_⟩
  rcases ho.2 with hn | ⟨g, cap, cur, rfl, hb, hgg, rest⟩
  · exact .inl hn
  · exact .inr ⟨g, cap, cur, rfl, hb, (hk g (by simp [Value.ownBlock])).trans hgg, rest⟩

theorem Own.lt (h : Own R sz e w base v l) {g : Nat} (hg : v.ownBlock = some g) : base ≤ g ∧ g < w.heap.size := by
  obtain ⟨xs, _, _, ho⟩ := h
  exact ho.lt g hg

theorem Own.ext (m : Mono B [] R) (h : Own R sz e w base v l) (x : Ext w w') : Own R sz e w' base v l :=
  h.chg m (.of_ext x) fun _ hg => x.blockAt (h.lt hg).2

/-- what an append leaves: blocks of the row's own type alone have turned. -/
theorem Own.chg_of (h : Own R sz e w base v l) (hB : B ≤ base) (hg : w.grownBy w' v.ownBlock) : Chg B [e] w w' := by
  refine ⟨hg.os, hg.tape, hg.output, hg.size, fun k hk hc => hg.block k hk fun he => ?_⟩
  rcases h.at_ with ⟨rfl, _⟩ | ⟨g, c, rfl, hb, _, ht, _⟩
  · simp [Value.ownBlock] at he
  · simp [Value.ownBlock] at he
    subst he
    rcases hc with hc | hc
    · omega
    · exact hc e (by simp) ht

theorem Own.below_of (h : Own R sz e w base v l) (hg : w.grownBy w' v.ownBlock) (hb : base ≤ w.heap.size) : Below base w w' :=
  (Below.refl base w).grown hg hb fun _ hk => (h.lt hk).1
end

/-- the row of the type table that an append asks for. -/
def ElemInfo (P : Program) (t e : TypeId) (sz bytes : Nat) : Prop :=
  ∃ i z, P.underlying t = some (.slice e) ∧ P.info? e = some i ∧ i.zero = some z ∧ i.size = sz ∧ i.bytes = bytes ∧ z.cells.size = sz ∧ 0 < sz

theorem ElemInfo.mk_ {P : Program} {t e : TypeId} {z : Value} {sz bytes : Nat} (ht : P.underlying t = some (.slice e)) (hi : (P.info? e).map (fun i => (i.zero, i.size, i.bytes)) = some (some z, sz, bytes)) (hz : z.cells.size = sz) (hs : 0 < sz) : ElemInfo P t e sz bytes := by
  cases h : P.info? e with
  | none => rw [h] at hi; cases hi
  | some i =>
    rw [h] at hi
    simp only [Option.map_some, Option.some.injEq, Prod.mk.injEq] at hi
    exact ⟨i, z, ht, h, hi.1, hi.2.1, hi.2.2, hz, hs⟩

/-- every cell of a reading holds the value of one cell. -/
def OneC {α : Type} (R : World → List Value → α → Prop) : Prop := ∀ w cs x, R w cs x → ∀ u ∈ cs, u.oneCell' = true

theorem RInt.oneC : OneC RInt := by rintro w cs x rfl u hu; simp at hu; subst hu; rfl
theorem RPair.oneC {α : Type} {f g : α → Int} : OneC (RPair f g) := by
  rintro w cs x rfl u hu
  simp at hu
  rcases hu with rfl | rfl <;> rfl
theorem RTrip.oneC {α : Type} {f g k : α → Int} : OneC (RTrip f g k) := by
  rintro w cs x rfl u hu
  simp at hu
  rcases hu with rfl | rfl | rfl <;> rfl

section
variable {α : Type} {P : Program} {R : World → List Value → α → Prop} {sz bytes : Nat} {t ty e : TypeId} {w : World} {base B B' : Nat} {v : Value} {l ys : List α} {A : Option Addr} {c : Nat}

theorem run_app_nil (ei : ElemInfo P t e sz bytes) (hown : Own R sz e w base v l) (A : Option Addr) (c : Nat) : (Builtin.append_ #[t, t] ty #[v, .slice A 0 c]).run P w = .ok v w := by
  obtain ⟨i, z, ht, hi, hz, hs, hb, hzs, h0⟩ := ei
  obtain ⟨xs, _, _, ho⟩ := hown
  rcases ho.2 with ⟨rfl, hn⟩ | ⟨g, cap, cur, rfl, _, _, hnc, _⟩
  · cases A <;> simp [Builtin.append_, run_underlying ht, sizeOf, typeInfo, hi, Builtin.lenOf, Builtin.firstCells, loadCells, loadCellsFrom]
  · cases A <;> simp [Builtin.append_, run_underlying ht, sizeOf, typeInfo, hi, Builtin.lenOf, Builtin.firstCells, hnc, storeCells, loadCells, loadCellsFrom]

theorem choose_list {β : Type} {p : Nat → β → Prop} : ∀ n : Nat, (∀ i, i < n → ∃ c, p i c) → ∃ zs : List β, zs.length = n ∧ ∀ i c, zs[i]? = some c → p i c := by
  intro n
  induction n with
  | zero => intro _; exact ⟨[], rfl, by simp⟩
  | succ n ih =>
    intro h
    obtain ⟨zs, hl, hz⟩ := ih fun i hi => h i (by omega)
    obtain ⟨c, hc⟩ := h n (by omega)
    refine ⟨zs ++ [c], by simp [hl], fun i d hd => ?_⟩
    by_cases hi : i < n
    · rw [List.getElem?_append_left (by omega)] at hd; exact hz i d hd
    · have : i = n := by
        have := (List.getElem?_eq_some_iff.1 hd).1
        simp [hl] at this
        omega
      subst this
      rw [List.getElem?_append_right (by omega), hl, Nat.sub_self] at hd
      simp at hd; subst hd; exact hc

theorem run_app (ei : ElemInfo P t e sz bytes) (hown : Own R sz e w base v l) (hB : B ≤ base) (hb : base ≤ w.heap.size) {e' : TypeId} (hs : Sl B' e' R sz w A ys) (h1 : OneC R) (m : Mono B [e] R)
    (h63 : l.length + ys.length ≤ maxLen) (hby : (l.length + ys.length) * bytes ≤ 140737488355328) :
    ∃ v' w', (Builtin.append_ #[t, t] ty #[v, .slice A ys.length c]).run P w = .ok v' w' ∧ Own R sz e w' base v' (l ++ ys) ∧ w.grownBy w' v.ownBlock ∧ Chg B [e] w w' ∧ Below base w w' := by
  by_cases hy : ys = []
  · subst hy
    refine ⟨v, w, run_app_nil ei hown A c, by simpa using hown, World.grownBy.refl w _, Chg.refl w, Below.refl _ _⟩
  have hpos : 0 < ys.length := List.length_pos_iff.2 hy
  obtain ⟨b, off, _, rfl, _, _, _⟩ := hs.at_ hpos
  obtain ⟨zs, hzl, hz⟩ := choose_list (p := fun i cs => ∀ x, ys[i]? = some x → cs.length = sz ∧ CellsAt w b (off + i * sz) cs ∧ R w cs x) ys.length (by
    intro i hi
    obtain ⟨b', off', cs, hA, _, h3, h4, h5⟩ := hs.at_ hi
    injection hA with hA
    injection hA with hb' ho' _
    subst hb' ho'
    refine ⟨cs, fun x hx => ?_⟩
    rw [List.getElem?_eq_getElem hi] at hx
    injection hx with hx
    subst hx
    exact ⟨h3, h4, h5⟩)
  have hyi : ∀ i cs, zs[i]? = some cs → ∃ x, ys[i]? = some x := fun i cs h => ⟨ys[i]'(by have := (List.getElem?_eq_some_iff.1 h).1; omega), List.getElem?_eq_getElem _⟩
  have hzall : ∀ cs ∈ zs, cs.length = sz := by
    intro cs hcs
    obtain ⟨i, hi, rfl⟩ := List.getElem_of_mem hcs
    obtain ⟨x, hx⟩ := hyi i _ (List.getElem?_eq_getElem hi)
    exact (hz i _ (List.getElem?_eq_getElem hi) x hx).1
  have hsz0 : 0 < sz := by obtain ⟨_, _, _, _, _, _, _, _, h⟩ := ei; exact h
  have hnews : ∀ j u, zs.flatten[j]? = some u → w.cell? ((⟨b, off, none⟩ : Addr).add j) = some u := by
    intro j u hj
    obtain ⟨cs, h3, h4⟩ := flatten_back sz hsz0 zs hzall j u hj
    obtain ⟨x, hx⟩ := hyi _ _ h3
    have := (hz _ _ h3 x hx).2.1 _ u h4
    have e1 : off + j / sz * sz + j % sz = off + j := by
      have := Nat.div_add_mod j sz
      rw [Nat.mul_comm] at this
      omega
    rw [e1] at this
    unfold Addr.add
    split
    · subst_vars; simpa using this
    · exact this
  have hlen : zs.flatten.length = ys.length * sz := by
    rw [← hzl]
    clear hyi hz hnews hzl
    induction zs with
    | nil => simp
    | cons y ys ih => simp [hzall y (by simp), ih (fun c hc => hzall c (by simp [hc])), Nat.succ_mul, Nat.add_comm]
  have hone : ∀ u ∈ zs.flatten, u.oneCell' = true := by
    intro u hu
    obtain ⟨cs, hcs, hu⟩ := List.mem_flatten.1 hu
    obtain ⟨i, hi, rfl⟩ := List.getElem_of_mem hcs
    obtain ⟨x, hx⟩ := hyi i _ (List.getElem?_eq_getElem hi)
    exact h1 _ _ _ (hz i _ (List.getElem?_eq_getElem hi) x hx).2.2 u hu
  obtain ⟨i, z, ht, hi, hz0, hs0, hby0, hzs, _⟩ := ei
  obtain ⟨xs, hxl, hxR, ho⟩ := id hown
  obtain ⟨v', w', hrun, hown', hg, _, _⟩ := run_append_own_at (P := P) w base t ty e i z sz bytes ht hi hz0 hs0 hby0 hzs hsz0 v l.length xs.flatten ho ⟨b, off, none⟩ ys.length c zs.flatten hlen hnews hone h63 hby hb
  have hc : Chg B [e] w w' := hown.chg_of hB hg
  refine ⟨v', w', hrun, ⟨xs ++ zs, by simp [hxl, hzl], ?_, by rw [List.length_append, List.flatten_append]; exact hown'⟩, hg, hc, hown.below_of hg hb⟩
  intro k cs x hk hx
  by_cases hkl : k < l.length
  · rw [List.getElem?_append_left (by omega)] at hk hx
    exact ⟨(hxR k cs x hk hx).1, m _ _ _ _ hc (hxR k cs x hk hx).2⟩
  · rw [List.getElem?_append_right (by omega), hxl] at hk
    rw [List.getElem?_append_right (by omega)] at hx
    exact ⟨(hz _ _ hk x hx).1, m _ _ _ _ hc (hz _ _ hk x hx).2.2⟩

/-- append to a row of the call's own, as an operation of the walk. -/
theorem wpList_app {ops : Array Oper} {rest : List Oper} {o : Oper} {a : Act} {Q : Exit → Act → World → Prop} (hgd : o.guard = none) (s x : Operand)
    (ho : o.op = .call { callee := .builtin .append, args := #[s, x], argTypes := #[t, t] }) (ei : ElemInfo P t e sz bytes)
    (hs : a.eval s = v) (hown : Own R sz e w base v l) (hB : B ≤ base) (hb : base ≤ w.heap.size) {e' : TypeId} (hx : a.eval x = .slice A ys.length c) (hsl : Sl B' e' R sz w A ys) (h1 : OneC R) (m : Mono B [e] R)
    (h63 : l.length + ys.length ≤ maxLen) (hby : (l.length + ys.length) * bytes ≤ 140737488355328)
    (h : ∀ v' w', Own R sz e w' base v' (l ++ ys) → Chg B [e] w w' → Below base w w' → w.grownBy w' v.ownBlock → wpList P ops Q rest (a.put o.dst v') w') : wpList P ops Q (o :: rest) a w := by
  refine wpList_plain hgd fun K hK => ?_
  obtain ⟨v', w', hr, h2, h3, h4, h5⟩ := run_app (P := P) (t := t) (ty := o.type) (c := c) ei hown hB hb hsl h1 m h63 hby
  unfold Oper.wp execOp
  simp only [ho, resolve, invoke, builtin, Sem.run_bind, Sem.run_pure, Result.andThen_ok, List.map_toArray, List.map_cons, List.map_nil, hs, hx, hr]
  exact hK _ _ (h v' w' h2 h4 h5 h3)

/-- the one element that 'append(out, x)' lays in a block of its own. -/
theorem Sl.one {o : World} {cs : List Value} {y : α} (ho : o = w.alloc (.cells cs.toArray e)) (hl : cs.length = sz) (hR : R o cs y) : Sl B e R sz o (some ⟨w.heap.size, 0, none⟩) [y] := by
  subst ho
  intro i x hi
  match i, hi with
  | 0, hi =>
    simp at hi; subst hi
    refine ⟨_, 0, cs, rfl, by simp, .inr (by unfold tyAt; rw [heap_alloc_new]), hl, fun j u hj => ?_, hR⟩
    rw [cell_of_row _ _ _ _ e (0, 0) (heap_alloc_new w _)]
    simpa using hj

end

theorem flatten_set {α : Type} (sz : Nat) : ∀ (xs : List (List α)) (_ : ∀ cs ∈ xs, cs.length = sz) (i j : Nat) (cs : List α) (u : α), xs[i]? = some cs → j < sz → (xs.set i (cs.set j u)).flatten = xs.flatten.set (i * sz + j) u := by
  intro xs
  induction xs with
  | nil => intro _ i j cs u h; simp at h
  | cons y ys ih =>
    intro hl i j cs u h hj
    have hy : y.length = sz := hl y (by simp)
    cases i with
    | zero =>
      simp at h; subst h
      simp only [List.set_cons_zero, List.flatten_cons, Nat.zero_mul, Nat.zero_add]
      rw [List.set_append_left _ _ (by omega)]
    | succ i =>
      have h' : ys[i]? = some cs := by simpa using h
      simp only [List.set_cons_succ, List.flatten_cons]
      rw [ih (fun c hc => hl c (by simp [hc])) i j cs u h' hj, List.set_append_right _ _ (by rw [hy, Nat.succ_mul]; omega)]
      congr 2
      rw [hy, Nat.succ_mul]; omega

/-- a store into the row. -/
theorem Own.set {α : Type} {R : World → List Value → α → Prop} {sz : Nat} {e : TypeId} {w : World} {base B g c : Nat} {l : List α} (h : Own R sz e w base (.slice (some ⟨g, 0, none⟩) l.length c) l) (m : Mono B [e] R) (hB : B ≤ base)
    {i j : Nat} (hi : i < l.length) (hj : j < sz) (u : Value) (y : α) (hy : ∀ cs, cs.length = sz → R w cs l[i] → R (w.setCell ⟨g, i * sz + j, none⟩ u) (cs.set j u) y) :
    Own R sz e (w.setCell ⟨g, i * sz + j, none⟩ u) base (.slice (some ⟨g, 0, none⟩) l.length c) (l.set i y) ∧ Chg B [e] w (w.setCell ⟨g, i * sz + j, none⟩ u) ∧ Below base w (w.setCell ⟨g, i * sz + j, none⟩ u) := by
  obtain ⟨xs, hx, hR, ho⟩ := id h
  have hxi : xs[i]? = some xs[i] := List.getElem?_eq_getElem (by omega)
  obtain ⟨hlen, hr⟩ := hR i _ _ hxi (List.getElem?_eq_getElem hi)
  have hall : ∀ cs ∈ xs, cs.length = sz := by
    intro cs hcs
    obtain ⟨k, hk, rfl⟩ := List.getElem_of_mem hcs
    exact (hR k _ _ (List.getElem?_eq_getElem hk) (List.getElem?_eq_getElem (by omega))).1
  obtain ⟨ho', hg⟩ := ho.stored (i * sz + j) u
  have hg' : w.grownBy (w.setCell ⟨g, i * sz + j, none⟩ u) (Value.slice (some ⟨g, 0, none⟩) l.length c).ownBlock := hg
  have hc : Chg B [e] w (w.setCell ⟨g, i * sz + j, none⟩ u) := h.chg_of hB hg'
  refine ⟨⟨xs.set i (xs[i].set j u), by simp [hx], ?_, ?_⟩, hc, ?_⟩
  · intro k cs x hk hxk
    by_cases hki : i = k
    · subst hki
      rw [List.getElem?_set_self (by omega)] at hk
      rw [List.getElem?_set_self hi] at hxk
      injection hk with hk; injection hxk with hxk
      subst hk hxk
      exact ⟨by simp [hlen], hy _ hlen hr⟩
    · rw [List.getElem?_set_ne hki] at hk hxk
      exact ⟨(hR k cs x hk hxk).1, m _ _ _ _ hc (hR k cs x hk hxk).2⟩
  · rw [flatten_set sz xs hall i j _ u hxi hj, List.length_set]
    exact ho'
  · refine (Below.refl base w).setCell (p := ⟨g, i * sz + j, none⟩) ?_ u
    exact (h.lt (g := g) rfl).1

end Go.Proofs.Ytmedmfjhpabfdaa

namespace Go.Proofs.Ytmedmfjhpabfdaa
open Go Go.RowKit

structure Span where
  fr : Int
  to : Int
deriving DecidableEq, Inhabited
structure Cube where
  yes : Int
  no : Int
deriving DecidableEq, Inhabited
structure Point where
  tags : Int
  num : Int
deriving DecidableEq, Inhabited
structure Box where
  cube : Cube
  spans : List Span
deriving DecidableEq, Inhabited
structure Dot where
  site : Int
  count : Int
deriving DecidableEq, Inhabited
structure Know where
  vec : List Int
  more : List Dot
deriving DecidableEq, Inhabited
structure Part where
  filter : List Box
  know : Know
deriving DecidableEq, Inhabited

abbrev RSpan : World → List Value → Span → Prop := RPair Span.fr Span.to
abbrev RDot : World → List Value → Dot → Prop := RPair Dot.site Dot.count
abbrev SlSpans (B : Nat) := Sl B 110 RSpan 2
abbrev IsSpans (B : Nat) := IsSl B 110 RSpan 2
abbrev IsDots (B : Nat) := IsSl B 38 RDot 2
abbrev IsInts (B : Nat) := IsSl B 3 RInt 1
/-! span. -/
def spanBad (s : Span) : Bool := decide (s.fr < 0) || decide (32 < s.to) || decide (s.to ≤ s.fr)
/-- what Check finds behind a span that ends at last. -/
def spanGo : Int → List Span → Int
  | _, [] => 0
  | last, s :: r => if spanBad s then 1 else if s.fr ≤ last then 3 else spanGo s.to r
def spanCheck (l : List Span) : Int := if 16 < l.length then 2 else spanGo (-1) l
def spanIn : List Span → Int → Bool
  | [], _ => false
  | s :: r, n => if s.fr ≤ n ∧ n < s.to then true else spanIn r n

/-- spans whose numbers may be. -/
def SpansOk (l : List Span) : Prop := ∀ s ∈ l, 0 ≤ s.fr ∧ s.fr < s.to ∧ s.to ≤ 32
end Go.Proofs.Ytmedmfjhpabfdaa

namespace Go.Proofs.Ytmedmfjhpabfdaa
open Go

/-- spans in their form, all of them above lo. -/
def Canon : Int → List Span → Prop
  | _, [] => True
  | lo, s :: r => lo < s.fr ∧ s.fr < s.to ∧ Canon s.to r

theorem Canon.mono : ∀ {l : List Span} {lo lo' : Int}, Canon lo l → lo' ≤ lo → Canon lo' l
  | [], _, _, _, _ => trivial
  | s :: r, lo, lo', h, hl => ⟨by have := h.1; omega, h.2⟩

theorem spanIn_cons (s : Span) (r : List Span) (x : Int) : spanIn (s :: r) x = (decide (s.fr ≤ x ∧ x < s.to) || spanIn r x) := by
  rw [spanIn]
  by_cases h : s.fr ≤ x ∧ x < s.to <;> simp [h]

theorem Canon.above : ∀ {l : List Span} {lo x : Int}, Canon lo l → spanIn l x = true → lo < x
  | [], _, _, _, h => by simp [spanIn] at h
  | s :: r, lo, x, hc, h => by
    rw [spanIn_cons, Bool.or_eq_true, decide_eq_true_eq] at h
    rcases h with h | h
    · have := hc.1; omega
    · have := Canon.above hc.2.2 h
      have := hc.1; have := hc.2.1; omega

theorem Canon.split : ∀ {l : List Span} {lo : Int} {s : Span}, Canon lo (l ++ [s]) → Canon lo l ∧ lo < s.fr ∧ s.fr < s.to ∧ ∀ t ∈ l, t.to < s.fr
  | [], _, _, h => ⟨trivial, h.1, h.2.1, by simp⟩
  | t :: r, lo, s, h => by
    obtain ⟨h1, h2, h3, h4⟩ := Canon.split (l := r) h.2.2
    refine ⟨⟨h.1, h.2.1, h1⟩, by have := h.1; have := h.2.1; omega, h3, fun u hu => ?_⟩
    rcases List.mem_cons.1 hu with rfl | hu
    · exact h2
    · exact h4 u hu

end Go.Proofs.Ytmedmfjhpabfdaa

namespace Go.Proofs.Ytmedmfjhpabfdaa
open Go

def tagsOk (n : Int) : Bool := decide (0 ≤ n ∧ n ≤ 15)
def cubeCheck (c : Cube) : Int :=
  if tagsOk c.yes = true ∧ tagsOk c.no = true then (if c.yes.toNat &&& c.no.toNat = 0 then 0 else 3) else 1
/-- a cube that may be, by its bits. -/
structure CubeOk (c : Cube) (y n : Nat) : Prop where
  yes : c.yes = (y : Int)
  no : c.no = (n : Int)
  hy : y < 16
  hn : n < 16
  dis : y &&& n = 0
/-- are tags in a cube? -/
def cubeIn (y n t : Nat) : Bool := (t &&& y == y) && (t &&& n == 0)

end Go.Proofs.Ytmedmfjhpabfdaa

namespace Go.Proofs.Ytmedmfjhpabfdaa
open Go

/-! what may be -/
def filterGo : List Box → Int
  | [] => 0
  | b :: r => if cubeCheck b.cube = 0 then (if spanCheck b.spans = 0 then filterGo r else spanCheck b.spans) else cubeCheck b.cube
def filterCheck (f : List Box) : Int := if 40 < f.length then 2 else filterGo f
/-- are tags in a box's cube? -/
def boxIn (b : Box) (t : Nat) : Bool := cubeIn b.cube.yes.toNat b.cube.no.toNat t
/-- the points of a filter: of tags and a number at 32 times the tags and the number. -/
def pts (f : List Box) (i : Nat) : Bool := f.any fun b => spanIn b.spans (i % 32 : Nat) && boxIn b (i / 32)
theorem SpansOk.take {l : List Span} (h : SpansOk l) (k : Nat) : SpansOk (l.take k) := fun s hs => h s (List.mem_of_mem_take hs)
end Go.Proofs.Ytmedmfjhpabfdaa

namespace Go.Proofs.Ytmedmfjhpabfdaa
open Go

/-! points -/
def pointOk (p : Point) : Bool := tagsOk p.tags && (decide (0 ≤ p.num) && decide (p.num ≤ 31))
end Go.Proofs.Ytmedmfjhpabfdaa

namespace Go.Proofs.Ytmedmfjhpabfdaa
open Go

def dotOk (d : Dot) : Bool := decide (0 ≤ d.site ∧ d.site ≤ 4 ∧ 1 ≤ d.count ∧ d.count ≤ 1000)
theorem dotOk_iff {d : Dot} : dotOk d = true ↔ 0 ≤ d.site ∧ d.site ≤ 4 ∧ 1 ≤ d.count ∧ d.count ≤ 1000 := by simp [dotOk]
/-- up to which count all dots of a site are there. -/
def vecAt (v : List Int) (s : Int) : Int := v.getD s.toNat 0
/-- by sites, then by counts. -/
def dlt (a b : Dot) : Bool := decide (a.site < b.site ∨ a.site = b.site ∧ a.count < b.count)
theorem dlt_iff {a b : Dot} : dlt a b = true ↔ a.site < b.site ∨ a.site = b.site ∧ a.count < b.count := by simp [dlt]
theorem dlt_trans {a b c : Dot} (h : dlt a b = true) (k : dlt b c = true) : dlt a c = true := by
  rw [dlt_iff] at *; omega
theorem Dot.ext' {a b : Dot} (h : a.site = b.site) (k : a.count = b.count) : a = b := by
  cases a; cases b; simp_all
/-- what Check finds behind a dot. -/
def moreGo (v : List Int) : Dot → List Dot → Int
  | _, [] => 0
  | last, d :: r => if dotOk d then (if d.count ≤ vecAt v d.site + 1 ∨ dlt last d = false then 3 else moreGo v d r) else 1
def vecGo : List Int → Int
  | [] => 0
  | n :: r => if 0 ≤ n ∧ n ≤ 1000 then vecGo r else 1
def knowCheck (k : Know) : Int :=
  if 5 < k.vec.length ∨ 60 < k.more.length then 2
  else if vecGo k.vec = 0 then (if k.vec.getLast? = some 0 then 3 else moreGo k.vec ⟨-1, 0⟩ k.more) else 1
/-- the dot ahead of the k-th. -/
def lastDot (l : List Dot) (k : Nat) : Dot := if k = 0 then ⟨-1, 0⟩ else (l[k - 1]?).getD ⟨-1, 0⟩
theorem vecGo_drop (l : List Int) (k : Nat) (hk : k < l.length) : vecGo (l.drop k) = if 0 ≤ l[k] ∧ l[k] ≤ 1000 then vecGo (l.drop (k + 1)) else 1 := by
  rw [List.drop_eq_getElem_cons hk, vecGo]
theorem lastDot_succ (l : List Dot) (k : Nat) (hk : k < l.length) : lastDot l (k + 1) = l[k] := by simp [lastDot, hk]
theorem moreGo_drop (v : List Int) (l : List Dot) (k : Nat) (hk : k < l.length) :
    moreGo v (lastDot l k) (l.drop k) = if dotOk l[k] = true then (if l[k].count ≤ vecAt v l[k].site + 1 ∨ dlt (lastDot l k) l[k] = false then 3 else moreGo v (lastDot l (k + 1)) (l.drop (k + 1))) else 1 := by
  rw [List.drop_eq_getElem_cons hk, moreGo, lastDot_succ l k hk]

/-- one behind the other. -/
def SortedD (lo : Dot) (l : List Dot) : Prop := List.Pairwise (fun a b => dlt a b = true) (lo :: l)
theorem SortedD.nil {lo : Dot} : SortedD lo [] := List.pairwise_cons.2 ⟨by simp, List.Pairwise.nil⟩
theorem SortedD.head {lo d : Dot} {r : List Dot} (h : SortedD lo (d :: r)) : dlt lo d = true := (List.pairwise_cons.1 h).1 d (by simp)
theorem SortedD.tail {lo d : Dot} {r : List Dot} (h : SortedD lo (d :: r)) : SortedD d r := (List.pairwise_cons.1 h).2
theorem SortedD.above {l : List Dot} {lo x : Dot} (h : SortedD lo l) (hx : x ∈ l) : dlt lo x = true := (List.pairwise_cons.1 h).1 x hx
theorem SortedD.low {l : List Dot} {lo lo' : Dot} (h : SortedD lo l) (k : ∀ x ∈ l, dlt lo' x = true) : SortedD lo' l := List.pairwise_cons.2 ⟨k, (List.pairwise_cons.1 h).2⟩
theorem SortedD.cons {lo d : Dot} {r : List Dot} (k : dlt lo d = true) (h : SortedD d r) : SortedD lo (d :: r) := by
  refine List.pairwise_cons.2 ⟨fun x hx => ?_, h⟩
  rcases List.mem_cons.1 hx with rfl | hx
  · exact k
  · exact dlt_trans k (h.above hx)
theorem SortedD.append : ∀ {l m : List Dot} {lo : Dot}, SortedD lo l → SortedD lo m → (∀ x ∈ l, ∀ y ∈ m, dlt x y = true) → SortedD lo (l ++ m)
  | [], _, _, _, h, _ => h
  | e :: r, m, _, h, k, g => SortedD.cons h.head (SortedD.append h.tail (k.low fun y hy => g e (by simp) y hy) fun x hx y hy => g x (by simp [hx]) y hy)
theorem moreGo_ok (v : List Int) : ∀ (l : List Dot) (last : Dot), moreGo v last l = 0 ↔ SortedD last l ∧ ∀ d ∈ l, dotOk d = true ∧ vecAt v d.site + 2 ≤ d.count
  | [], _ => by simp [moreGo, SortedD.nil]
  | d :: r, last => by
    rw [moreGo]
    by_cases h1 : dotOk d = true
    · rw [if_pos h1]
      by_cases h2 : d.count ≤ vecAt v d.site + 1 ∨ dlt last d = false
      · rw [if_pos h2]
        constructor
        · intro h; simp at h
        · rintro ⟨hs, hd⟩
          have := hd d (by simp)
          rcases h2 with h2 | h2
          · omega
          · rw [hs.head] at h2; cases h2
      · rw [if_neg h2, moreGo_ok v r d]
        have h3 : dlt last d = true := by
          cases h : dlt last d
          · exact absurd (.inr h) h2
          · rfl
        constructor
        · rintro ⟨hs, hd⟩
          refine ⟨SortedD.cons h3 hs, fun x hx => ?_⟩
          rcases List.mem_cons.1 hx with rfl | hx
          · exact ⟨h1, by omega⟩
          · exact hd x hx
        · rintro ⟨hs, hd⟩
          exact ⟨hs.tail, fun x hx => hd x (by simp [hx])⟩
    · rw [if_neg h1]
      constructor
      · intro h; simp at h
      · rintro ⟨_, hd⟩
        exact absurd (hd d (by simp)).1 h1
theorem vecGo_ok : ∀ l : List Int, vecGo l = 0 ↔ ∀ n ∈ l, 0 ≤ n ∧ n ≤ 1000
  | [] => by simp [vecGo]
  | n :: r => by
    rw [vecGo]
    by_cases h : 0 ≤ n ∧ n ≤ 1000
    · rw [if_pos h, vecGo_ok r]; simp [h]
    · rw [if_neg h]; simp; intro h0 h1; exact absurd ⟨h0, h1⟩ h

structure KnowOk (k : Know) : Prop where
  vlen : k.vec.length ≤ 5
  mlen : k.more.length ≤ 60
  vec : ∀ n ∈ k.vec, 0 ≤ n ∧ n ≤ 1000
  last : k.vec.getLast? ≠ some 0
  sorted : SortedD ⟨-1, 0⟩ k.more
  more : ∀ d ∈ k.more, dotOk d = true ∧ vecAt k.vec d.site + 2 ≤ d.count
theorem knowCheck_iff {k : Know} : knowCheck k = 0 ↔ KnowOk k := by
  unfold knowCheck
  by_cases h1 : 5 < k.vec.length ∨ 60 < k.more.length
  · rw [if_pos h1]
    exact ⟨fun h => by simp at h, fun h => by have := h.vlen; have := h.mlen; omega⟩
  · rw [if_neg h1]
    by_cases h2 : vecGo k.vec = 0
    · rw [if_pos h2]
      by_cases h3 : k.vec.getLast? = some 0
      · rw [if_pos h3]
        exact ⟨fun h => by simp at h, fun h => absurd h3 h.last⟩
      · rw [if_neg h3, moreGo_ok]
        exact ⟨fun h => ⟨by omega, by omega, (vecGo_ok _).1 h2, h3, h.1, h.2⟩, fun h => ⟨h.sorted, h.more⟩⟩
    · rw [if_neg h2]
      exact ⟨fun h => by simp at h, fun h => absurd ((vecGo_ok _).2 h.vec) h2⟩

/-! a set of dots, by site and count. -/
abbrev DSet := Nat → Nat → Bool
def hasK (k : Know) : DSet := fun s c => decide (1 ≤ c) && (decide ((c : Int) ≤ vecAt k.vec s) || k.more.contains ⟨s, c⟩)
/-- how many of a site's dots are there from the first one on. -/
def preFrom (p : Nat → Bool) : Nat → Nat → Nat
  | 0, n => n
  | f + 1, n => if p (n + 1) then preFrom p f (n + 1) else n
termination_by f => f
def pre (S : DSet) (s : Nat) : Nat := preFrom (S s) 1000 0
/-- a site's dots behind the gap. -/
def moreOf (S : DSet) (s : Nat) : List Dot := ((List.range 1001).filter fun c => decide (pre S s + 2 ≤ c) && S s c).map fun (c : Nat) => ⟨(s : Int), (c : Int)⟩
def trim (v : List Int) : List Int := (v.reverse.dropWhile (· == 0)).reverse
def formVec (S : DSet) : List Int := (List.range 5).map fun s => (pre S s : Int)
def formMore (S : DSet) : List Dot := (List.range 5).flatMap fun s => moreOf S s
def formOf (S : DSet) : Know := ⟨trim (formVec S), formMore S⟩

theorem vecAt_set (v : List Int) (i s : Int) (n : Int) (h0 : 0 ≤ i) (h1 : 0 ≤ s) (hi : i.toNat < v.length) : vecAt (v.set i.toNat n) s = if i = s then n else vecAt v s := by
  unfold vecAt
  simp only [List.getD_eq_getElem?_getD, List.getElem?_set]
  by_cases h : i = s
  · subst h; simp [hi]
  · rw [if_neg h, if_neg (by omega)]
end Go.Proofs.Ytmedmfjhpabfdaa

namespace Go.Proofs.Ytmedmfjhpabfdaa
open Go Go.RowKit Go.ChangeShapes Go.WideShapes Go.Deep

section
variable {H : Type} {enc : TypeId × Value → H} {P : Program} {w : World} {spare : Nat → Bool} {held : Bool}

theorem sl_of_trod {α : Type} {R : World → List Value → α → Prop} {sz : Nat} {Q : α → Prop} {t e : TypeId} {fuel : Nat} {A : Option Addr} {len cap : Nat} {x : DataW H × List MemPlace} (ht : P.underlying t = some (.slice e)) (hC : P.cellsOf e = sz) (hsz : 0 < sz)
    (helem : ∀ (n : Nat) (cs : List Value) (y : DataW H × List MemPlace), cs.length = sz → DataW.trod enc P w 0 spare held n e cs = some y → ∃ z : α, R w cs z ∧ Q z)
    (h : DataW.trod enc P w 0 spare held fuel t [.slice A len cap] = some x) :
    ∃ l : List α, l.length = len ∧ len ≤ cap ∧ cap ≤ maxLen ∧ Sl w.heap.size e R sz w A l ∧ ∀ z ∈ l, Q z := by
  rcases open_slice ht h with ⟨h0, _⟩ | ⟨a, len', cap', m, n, D, Pl, hcs, hb, hl, hm, hmm, hx, hi⟩
  · simp only [List.cons.injEq, Value.slice.injEq, and_true] at h0
    obtain ⟨rfl, rfl, rfl⟩ := h0
    exact ⟨[], rfl, Nat.le_refl _, Nat.zero_le _, Sl.nil, by simp⟩
  · simp only [List.cons.injEq, Value.slice.injEq, and_true] at hcs
    obtain ⟨rfl, rfl, rfl⟩ := hcs
    have hlm : len ≤ m := by rw [hmm]; split <;> omega
    have key : ∀ i, i < len → ∃ z : α, (∃ cs, cs.length = sz ∧ (∀ j, j < sz → w.cell? ((a.add (i * sz)).add j) = cs[j]?) ∧ R w cs z) ∧ Q z := by
      intro i hil
      obtain ⟨cs', hc, ht'⟩ := hi i (by omega)
      rw [hC] at hc
      obtain ⟨_, hcl, hat⟩ := World.cells?_some hc
      obtain ⟨z, hz, hq⟩ := helem n cs' _ hcl ht'
      exact ⟨z, ⟨cs', hcl, hat, hz⟩, hq⟩
    obtain ⟨l, hll, hlz⟩ := choose_list (p := fun i z => (∃ cs, cs.length = sz ∧ (∀ j, j < sz → w.cell? ((a.add (i * sz)).add j) = cs[j]?) ∧ R w cs z) ∧ Q z) len key
    refine ⟨l, hll, hl, hm, ?_, ?_⟩
    · intro i z hz
      obtain ⟨⟨cs, h1, h2, h3⟩, _⟩ := hlz i z hz
      have hil : i < len := by have := (List.getElem?_eq_some_iff.1 hz).1; omega
      -- the address has no spot: its first cell is there
      obtain ⟨⟨cs0, g1, g2, _⟩, _⟩ := hlz 0 _ (List.getElem?_eq_getElem (show 0 < l.length by omega))
      obtain ⟨b, off, spot⟩ := a
      have e0 := g2 0 hsz
      have hsome : ∃ u, cs0[0]? = some u := ⟨cs0[0]'(by omega), List.getElem?_eq_getElem (by omega)⟩
      obtain ⟨u, hu⟩ := hsome
      rw [hu] at e0
      have ea : ((⟨b, off, spot⟩ : Addr).add (0 * sz)).add 0 = ⟨b, off, spot⟩ := by simp [Addr.add]
      rw [ea] at e0
      have hspot : spot = none := by
        unfold World.cell? at e0
        split at e0
        · cases spot with
          | none => rfl
          | some s => simp at e0
        · cases e0
      subst hspot
      have hbl : b < w.heap.size := World.block_lt_of_cell? _ _ e0
      refine ⟨b, off, cs, rfl, hbl, .inl hbl, h1, ?_, h3⟩
      intro j v hj
      have hjs : j < sz := by have := (List.getElem?_eq_some_iff.1 hj).1; omega
      have := h2 j hjs
      rw [hj] at this
      have ea2 : (((⟨b, off, none⟩ : Addr).add (i * sz)).add j) = ⟨b, off + i * sz + j, none⟩ := by
        unfold Addr.add
        by_cases h1 : i * sz = 0 <;> by_cases h2 : j = 0 <;> simp [h1, h2]
      rwa [ea2] at this
    · intro z hz
      obtain ⟨i, hi, rfl⟩ := List.getElem_of_mem hz
      exact (hlz i _ (List.getElem?_eq_getElem hi)).2

/-- integers that fit int64. -/
def InI64 (n : Int) : Prop := -9223372036854775808 ≤ n ∧ n ≤ 9223372036854775807

theorem inI64_of_wf {n : Int} (h : (Lit.int .i64 n).wf = true) : InI64 n := by
  simp [Lit.wf] at h
  unfold InI64
  first
    | exact h
    | (simp [IntKind.min, IntKind.max] at h; omega)
    | skip
theorem int_cell {i : TypeId} {n : Nat} {cs : List Value} {y : DataW H × List MemPlace} (hi : P.underlying i = some (.int .i64)) (h : DataW.trod enc P w 0 spare held n i cs = some y) : ∃ a, cs = [.int .i64 a] ∧ InI64 a := by
  obtain ⟨n0, e0, _, w0⟩ := DataW.trod_int hi h
  exact ⟨n0, e0, inI64_of_wf w0⟩

theorem pair_elem {t i : TypeId} {f0 f1 : Field} (ht : P.underlying t = some (.struct #[f0, f1])) (hi : P.underlying i = some (.int .i64)) (hf0 : f0.type = i ∧ f0.offset = 0) (hf1 : f1.type = i ∧ f1.offset = 1) (hc : P.cellsOf i = 1)
    {n : Nat} {cs : List Value} {y : DataW H × List MemPlace} (hl : cs.length = 2) (h : DataW.trod enc P w 0 spare held n t cs = some y) : ∃ a b, cs = [.int .i64 a, .int .i64 b] ∧ InI64 a ∧ InI64 b := by
  obtain ⟨xs, m, _, _, _, hx, hg⟩ := DataW.trod_struct ht h
  match cs, hl with
  | [c0, c1], _ =>
    match xs, hx with
    | [y0, y1], _ =>
      have g0 := hg 0 f0 rfl
      have g1 := hg 1 f1 rfl
      rw [hf0.1, hf0.2, hc] at g0
      rw [hf1.1, hf1.2, hc] at g1
      obtain ⟨n0, e0, w0⟩ := int_cell hi g0
      obtain ⟨n1, e1, w1⟩ := int_cell hi g1
      simp at e0 e1
      exact ⟨n0, n1, by rw [e0, e1], w0, w1⟩

theorem slice_arg {α : Type} {R : World → List Value → α → Prop} {sz : Nat} {Q : α → Prop} {t e : TypeId} (ht : P.underlying t = some (.slice e)) (hC : P.cellsOf e = sz) (hsz : 0 < sz)
    (helem : ∀ (n : Nat) (cs : List Value) (y : DataW H × List MemPlace), cs.length = sz → DataW.trod enc P w 0 spare held n e cs = some y → ∃ z : α, R w cs z ∧ Q z)
    {A : Option Addr} {len cap : Nat} {d : DataW H} {p : List MemPlace} (h : DataW.Trod enc P w 0 spare held t (.slice A len cap) d p) :
    ∃ l : List α, l.length = len ∧ len ≤ maxLen ∧ Sl w.heap.size e R sz w A l ∧ ∀ z ∈ l, Q z := by
  obtain ⟨fuel, hf⟩ := h
  obtain ⟨l, hl, h1, h2, h3, h4⟩ := sl_of_trod (R := R) ht hC hsz helem hf
  exact ⟨l, hl, by omega, h3, h4⟩
end

end Go.Proofs.Ytmedmfjhpabfdaa

namespace Go.Proofs.Ytmedmfjhpabfdaa
open Go Go.RowKit Go.ChangeShapes Go.WideShapes Go.Deep

theorem own : ownKnob Try.prog.godebug = none := by kernel_rfl
theorem laidOut : laidOutB Try.prog = true := by kernel_rfl
theorem cells_int : Try.prog.cellsOf 3 = 1 := by kernel_rfl

section
variable {H : Type} {enc : TypeId × Value → H} {w : World} {spare : Nat → Bool} {held : Bool}

end
end Go.Proofs.Ytmedmfjhpabfdaa

namespace Go.Proofs.Ytmedmfjhpabfdaa
open Go Go.RowKit

/-- the cells f 0, .., f (n - 1). -/
def rowF (n : Nat) (f : Nat → Value) : Array Value := Array.ofFn (fun i : Fin n => f i)
theorem rowF_size (n : Nat) (f : Nat → Value) : (rowF n f).size = n := by simp [rowF]
theorem rowF_get {n : Nat} (f : Nat → Value) {i : Nat} (h : i < n) : (rowF n f)[i]? = some (f i) := by simp [rowF, h]
theorem rowF_set (n : Nat) (f : Nat → Value) (i : Nat) (u : Value) : (rowF n f).setIfInBounds i u = rowF n (fun j => if j = i then u else f j) := by
  apply Array.ext
  · simp [rowF]
  · intro j h1 h2
    simp only [rowF, Array.size_setIfInBounds, Array.size_ofFn] at h1
    by_cases hij : i = j
    · subst hij; simp [rowF]
    · rw [Array.getElem_setIfInBounds_ne (by simpa [rowF] using h1) hij]
      simp [rowF, show ¬ j = i from fun e => hij e.symm]
theorem rowF_congr {n : Nat} {f g : Nat → Value} (h : ∀ i, i < n → f i = g i) : rowF n f = rowF n g := by
  unfold rowF
  congr 1
  funext i
  exact h i i.isLt
theorem rowF_all {n : Nat} {f : Nat → Value} (h : ∀ i, (f i).oneCell' = true) : (rowF n f).all (·.oneCell') = true := by
  rw [Array.all_eq_true]
  intro i hi
  simp [rowF, h]

/-- an array of bools, by value. -/
def rowB (n : Nat) (p : Nat → Bool) : Array Value := rowF n fun i => .bool (p i)
theorem rowB_all (n : Nat) (p : Nat → Bool) : (rowB n p).all (·.oneCell') = true := rowF_all fun _ => rfl

/-- block b is just these cells of type e, none frozen. -/
def Blk (w : World) (b : Nat) (e : TypeId) (cs : Array Value) : Prop := w.heap[b]? = some (.cells cs e (0, 0))

section
variable {w w' : World} {b : Nat} {e : TypeId} {cs : Array Value}
theorem Blk.lt (h : Blk w b e cs) : b < w.heap.size := (Array.getElem?_eq_some_iff.1 h).1
theorem Blk.ty (h : Blk w b e cs) : tyAt w b = some e := by unfold tyAt; rw [h]
theorem Blk.cell (h : Blk w b e cs) {i : Nat} {u : Value} (hu : cs[i]? = some u) : w.cell? ⟨b, i, none⟩ = some u := (cell_of_row w b i cs e (0, 0) h).trans hu
theorem Blk.frozen (h : Blk w b e cs) (i : Nat) : w.frozen? ⟨b, i, none⟩ = false := by
  unfold Blk at h
  simp [World.frozen?, h]
theorem Blk.new (w : World) (e : TypeId) (cs : Array Value) : Blk (w.alloc (.cells cs e)) w.heap.size e cs := heap_alloc_new w _
theorem Blk.ext (h : Blk w b e cs) (x : Ext w w') : Blk w' b e cs := (x.blockAt h.lt).trans h
theorem Blk.below {k : Nat} (h : Blk w b e cs) (x : Below k w w') (hb : b < k) : Blk w' b e cs := (x.block b hb).trans h
theorem Blk.chg {B : Nat} {ts : List TypeId} (h : Blk w b e cs) (x : Chg B ts w w') (he : e ∉ ts) : Blk w' b e cs := by
  refine (x.block b h.lt (.inr fun t ht h2 => ?_)).trans h
  rw [h.ty] at h2
  injection h2 with h2
  exact he (h2 ▸ ht)
theorem Blk.set (h : Blk w b e cs) (i : Nat) (u : Value) : Blk (w.setCell ⟨b, i, none⟩ u) b e (cs.setIfInBounds i u) := by
  unfold Blk at h ⊢
  simp [World.setCell, Array.getElem?_modify, h]
theorem Blk.far (h : Blk w b e cs) {p : Addr} (hp : b ≠ p.block) (u : Value) : Blk (w.setCell p u) b e cs := (Below.heap_setCell w p u b hp).trans h
theorem Blk.alloc (h : Blk w b e cs) (o : Obj) : Blk (w.alloc o) b e cs := h.ext ((Ext.refl w).alloc o)
theorem Blk.other (h : Blk w b e cs) {k : Nat} (ho : ∀ j, j ≠ k → w'.heap[j]? = w.heap[j]?) (hb : b ≠ k) : Blk w' b e cs := (ho b hb).trans h
end

/-- the row of the type table of an array's type. -/
def ArrInfo (P : Program) (t : TypeId) (n : Nat) : Prop := (∃ m e, P.underlying t = some (.array m e)) ∧ (P.info? t).map (·.size) = some n
/-- its zero value. -/
def ZeroInfo (P : Program) (t : TypeId) (cs : Array Value) : Prop := ∀ w, (zeroValue t).run P w = .ok (.agg cs) w

section
variable {P : Program} {ops : Array Oper} {rest : List Oper} {o : Oper} {a : Act} {w : World} {Q : Exit → Act → World → Prop} {K : Act → World → Prop} {t : TypeId} {n : Nat}

theorem wp_loadArr (ai : ArrInfo P t n) (x : Operand) (ho : o.op = .load t x) {b : Nat} (hx : a.eval x = .pointer (some ⟨b, 0, none⟩)) {e : TypeId} {cs : Array Value} (hb : Blk w b e cs) (hn : cs.size = n)
    (h : K (a.put o.dst (.agg cs)) w) : o.wp P a w K Q := by
  obtain ⟨⟨m, e', hu⟩, hi⟩ := ai
  exact wp_load_row t x ho b hx e cs (0, 0) _ hb hu rfl (by rw [hn]; exact hi) h

theorem wpList_loadArr (ai : ArrInfo P t n) (x : Operand) (ho : o.op = .load t x) (hg : Region.wanted o (yielded ops a.tmps) = true) {b : Nat} (hx : a.eval x = .pointer (some ⟨b, 0, none⟩)) {e : TypeId} {cs : Array Value} (hb : Blk w b e cs) (hn : cs.size = n)
    (h : wpList P ops Q rest (a.put o.dst (.agg cs)) w) : wpList P ops Q (o :: rest) a w :=
  wpList_step fun K hK => by rw [if_pos hg]; exact wp_loadArr ai x ho hx hb hn (hK _ _ h)

theorem wpList_allocArr {cs : Array Value} (zi : ZeroInfo P t cs) (ho : o.op = .alloc t) (hg : o.guard = none)
    (h : ∀ w', Ext w w' → Blk w' w.heap.size t cs → w'.heap.size = w.heap.size + 1 → wpList P ops Q rest (a.put o.dst (.pointer (some ⟨w.heap.size, 0, none⟩))) w') : wpList P ops Q (o :: rest) a w := by
  refine wpList_plain hg fun K hK => ?_
  unfold Oper.wp execOp
  simp only [ho, Sem.run_bind, Instr.alloc, newVar, newRow, run_newObj_alloc, Sem.run_pure, Result.andThen_ok, zi w, Value.cells]
  exact hK _ _ (h _ ((Ext.refl w).alloc _) (Blk.new w t cs) (by simp))

theorem wpList_storeArr (ai : ArrInfo P t n) (x y : Operand) (ho : o.op = .store t x y) (hg : o.guard = none) {b : Nat} (hx : a.eval x = .pointer (some ⟨b, 0, none⟩)) {cs old : Array Value} (hy : a.eval y = .agg cs)
    (hb : Blk w b t old) (hn : cs.size = n) (hold : old.size = n) (h1 : cs.all (·.oneCell') = true)
    (h : ∀ w', Below b w w' → Blk w' b t cs → w'.heap.size = w.heap.size → (∀ k, k ≠ b → w'.heap[k]? = w.heap[k]?) → wpList P ops Q rest (a.put o.dst undef) w') : wpList P ops Q (o :: rest) a w := by
  obtain ⟨_, hi⟩ := ai
  have hother : ∀ k, k ≠ b → (w.setRow b cs).heap[k]? = w.heap[k]? := fun k hk => setRow_other w b k cs (by omega)
  exact wpList_store_row hg t x y ho b cs hx hy t old hb (by rw [hn]; exact hi) (by omega) h1
    (h _ ⟨rfl, rfl, rfl, by simp, fun k hk => hother k (by omega)⟩ (setRow_heap w b old _ t _ hb) (by simp) hother)

/-- what a function hands back whose result is an array. -/
theorem ret_arr {fn : Func} {R : Ending → World → Prop} {q : Tmp} (hr : fn.results = #[.cell q t]) (ai : ArrInfo P t n) {b : Nat} (hq : a.tmps.getD q undef = .pointer (some ⟨b, 0, none⟩)) {e : TypeId} {cs : Array Value} (hb : Blk w b e cs) (hn : cs.size = n)
    (hd : a.defers = []) (h : R (.returned (.agg cs)) w) : bodyPost P fn R .ret a w := by
  obtain ⟨⟨m, e', hu⟩, hi⟩ := ai
  exact bodyPost_ret (results_cell_row hr _ _ b e cs (0, 0) _ hq hb hu rfl (by rw [hn]; exact hi)) hd h
end

end Go.Proofs.Ytmedmfjhpabfdaa

namespace Go.Proofs.Ytmedmfjhpabfdaa
open Go Go.RowKit Go.ChangeShapes Go.WideShapes Go.Deep Go.Joins

/-- a box: its cube's two integers, and its spans. -/
def RBox (B : Nat) (w : World) (cs : List Value) (b : Box) : Prop := ∃ v, cs = [.int .i64 b.cube.yes, .int .i64 b.cube.no, v] ∧ IsSpans B w v b.spans
theorem RBox.mono {B : Nat} {ts : List TypeId} (h : 110 ∉ ts) : Mono B ts (RBox B) := by
  rintro w w' cs b x ⟨v, rfl, hv⟩
  exact ⟨v, rfl, hv.chg RPair.mono h x⟩
theorem RBox.monoE {B : Nat} : Mono B [] (RBox B) := RBox.mono (by simp)
theorem RBox.oneC {B : Nat} : OneC (RBox B) := by
  rintro w cs b ⟨v, rfl, A, c, rfl, _⟩ u hu
  simp at hu
  rcases hu with rfl | rfl | rfl <;> rfl
abbrev SlBoxes (B : Nat) := Sl B 108 (RBox B) 3
abbrev IsBoxes (B : Nat) := IsSl B 108 (RBox B) 3
theorem Sl.box {B : Nat} {w : World} {A : Option Addr} {l : List Box} (h : SlBoxes B w A l) {i : Nat} (hi : i < l.length) :
    ∃ b off A' c', A = some ⟨b, off, none⟩ ∧ b < w.heap.size ∧ w.cell? ⟨b, off + i * 3, none⟩ = some (.int .i64 l[i].cube.yes) ∧ w.cell? ⟨b, off + i * 3 + 1, none⟩ = some (.int .i64 l[i].cube.no) ∧
      w.cell? ⟨b, off + i * 3 + 2, none⟩ = some (.slice A' l[i].spans.length c') ∧ l[i].spans.length ≤ maxLen ∧ SlSpans B w A' l[i].spans := by
  obtain ⟨b, off, cs, hA, hb, _, hc, v, rfl, A', c', rfl, h1, h2, h3⟩ := h.at_ hi
  have g0 := hc 0 _ rfl
  have g1 := hc 1 _ rfl
  have g2 := hc 2 _ rfl
  simp only [Nat.add_zero] at g0
  exact ⟨b, off, A', c', hA, hb, g0, g1, g2, by omega, h3⟩

section
variable {H : Type} {enc : TypeId × Value → H} {w : World} {spare : Nat → Bool} {held : Bool}

theorem isSl_of_trod {P : Program} {α : Type} {R : World → List Value → α → Prop} {sz : Nat} {Q : α → Prop} {t e : TypeId} {fuel : Nat} {cs : List Value} {x : DataW H × List MemPlace} (ht : P.underlying t = some (.slice e)) (hC : P.cellsOf e = sz) (hsz : 0 < sz)
    (helem : ∀ (n : Nat) (cs : List Value) (y : DataW H × List MemPlace), cs.length = sz → DataW.trod enc P w 0 spare held n e cs = some y → ∃ z : α, R w cs z ∧ Q z)
    (h : DataW.trod enc P w 0 spare held fuel t cs = some x) :
    ∃ v l, cs = [v] ∧ IsSl w.heap.size e R sz w v l ∧ ∀ z ∈ l, Q z := by
  have key : ∃ A n c, cs = [.slice A n c] := by
    rcases open_slice ht h with ⟨h0, _⟩ | ⟨a, len', cap', m, n, D, Pl, hcs, _⟩
    · exact ⟨_, _, _, h0⟩
    · exact ⟨_, _, _, hcs⟩
  obtain ⟨A, n, c, rfl⟩ := key
  obtain ⟨l, rfl, h1, h2, h3, h4⟩ := sl_of_trod (R := R) ht hC hsz helem h
  exact ⟨_, l, rfl, ⟨A, c, rfl, h1, h2, h3⟩, h4⟩

theorem cells_point : Try.prog.cellsOf 40 = 2 := by kernel_rfl
theorem cells_dot : Try.prog.cellsOf 38 = 2 := by kernel_rfl
end
end Go.Proofs.Ytmedmfjhpabfdaa

namespace Go.Proofs.Ytmedmfjhpabfdaa
open Go Go.RowKit

abbrev SlInts (B : Nat) := Sl B 3 RInt 1
abbrev SlDots (B : Nat) := Sl B 38 RDot 2
/-- the two rows of a set of dots. -/
structure InK (B : Nat) (w : World) (Av Am : Option Addr) (k : Know) : Prop where
  lv : k.vec.length ≤ maxLen
  lm : k.more.length ≤ maxLen
  sv : SlInts B w Av k.vec
  sm : SlDots B w Am k.more
theorem InK.chg {B : Nat} {ts : List TypeId} {w w' : World} {Av Am : Option Addr} {k : Know} (h : InK B w Av Am k) (x : Chg B ts w w') (hi : 3 ∉ ts) (hd : 38 ∉ ts) : InK B w' Av Am k :=
  ⟨h.lv, h.lm, h.sv.chg RInt.mono hi x, h.sm.chg RPair.mono hd x⟩
theorem InK.ext {B : Nat} {w w' : World} {Av Am : Option Addr} {k : Know} (h : InK B w Av Am k) (x : Ext w w') : InK B w' Av Am k := h.chg (ts := []) (.of_ext x) (by simp) (by simp)
/-- a set of dots by value. -/
def IsK (B : Nat) (w : World) (v : Value) (k : Know) : Prop := ∃ Av cv Am cm, v = .agg #[.slice Av k.vec.length cv, .slice Am k.more.length cm] ∧ k.vec.length ≤ cv ∧ cv ≤ maxLen ∧ k.more.length ≤ cm ∧ cm ≤ maxLen ∧ InK B w Av Am k
theorem IsK.ext {B : Nat} {w w' : World} {v : Value} {k : Know} (h : IsK B w v k) (x : Ext w w') : IsK B w' v k := by
  obtain ⟨Av, cv, Am, cm, h1, h2, h3, h4, h5, h6⟩ := h
  exact ⟨Av, cv, Am, cm, h1, h2, h3, h4, h5, h6.ext x⟩
theorem IsK.of {B : Nat} {w : World} {a b : Value} {k : Know} (ha : IsInts B w a k.vec) (hb : IsDots B w b k.more) : IsK B w (.agg #[a, b]) k := by
  obtain ⟨Av, cv, rfl, h1, h2, h3⟩ := ha
  obtain ⟨Am, cm, rfl, h4, h5, h6⟩ := hb
  exact ⟨Av, cv, Am, cm, rfl, h1, h2, h4, h5, ⟨by omega, by omega, h3, h6⟩⟩
theorem IsK.empty {B : Nat} {w : World} : IsK B w (.agg #[.slice none 0 0, .slice none 0 0]) ⟨[], []⟩ := IsK.of IsSl.nil IsSl.nil
/-- how two dots compare. -/
def cmpD (a b : Dot) : Int := if a.site = b.site then a.count - b.count else a.site - b.site
theorem cmpD_lt {a b : Dot} : cmpD a b < 0 ↔ dlt a b = true := by
  rw [dlt_iff, cmpD]; split <;> omega
theorem cmpD_ge {a b : Dot} : 0 ≤ cmpD a b ↔ dlt a b = false := by
  rw [← Bool.not_eq_true, ← cmpD_lt]; omega
theorem cmpD_zero {a b : Dot} : cmpD a b = 0 ↔ a = b := by
  obtain ⟨x, y⟩ := a; obtain ⟨u, v⟩ := b
  simp only [cmpD, Dot.mk.injEq]; split <;> omega
theorem vecAt_out {v : List Int} {s : Nat} (h : v.length ≤ s) : vecAt v s = 0 := by simp [vecAt, h]
theorem vecAt_in {v : List Int} {s : Nat} (h : s < v.length) : vecAt v s = v[s] := by simp [vecAt, h]
theorem vecAt_bd {v : List Int} (h : ∀ n ∈ v, 0 ≤ n ∧ n ≤ 1000) (s : Nat) : 0 ≤ vecAt v s ∧ vecAt v s ≤ 1000 := by
  by_cases hs : s < v.length
  · rw [vecAt_in hs]; exact h _ (List.getElem_mem hs)
  · rw [vecAt_out (by omega)]; omega
theorem knowCheck_big {k : Know} (h : 5 < k.vec.length ∨ 60 < k.more.length) : knowCheck k = 2 := by rw [knowCheck, if_pos h]
theorem knowCheck_go {k : Know} (h : ¬ (5 < k.vec.length ∨ 60 < k.more.length)) : knowCheck k = if vecGo k.vec = 0 then (if k.vec.getLast? = some 0 then 3 else moreGo k.vec ⟨-1, 0⟩ k.more) else 1 := by rw [knowCheck, if_neg h]
theorem getLast_at {α : Type} {l : List α} (h : 0 < l.length) : l.getLast? = some (l[l.length - 1]) := by rw [List.getLast?_eq_getElem?, List.getElem?_eq_getElem (by omega)]
theorem dotOk_first {d : Dot} (h : dotOk d = true) : dlt ⟨-1, 0⟩ d = true := by
  have := dotOk_iff.1 h
  rw [dlt_iff]; left; show (-1 : Int) < d.site; omega
theorem lastDot_pos {l : List Dot} {k : Nat} (h : 0 < k) (hk : k ≤ l.length) : lastDot l k = l[k - 1] := by
  rw [lastDot, if_neg (by omega), List.getElem?_eq_getElem (by omega)]; rfl

end Go.Proofs.Ytmedmfjhpabfdaa

namespace Go.Proofs.Ytmedmfjhpabfdaa
open Go Go.RowKit

section
variable {P : Program} {ops : Array Oper} {C : World → Prop} {Q : Act → Prop} {rest : List Oper} {a : Act} {dst : Option Tmp} {ty : TypeId} {pos : String} {after : Array Edge} {g : Option (Nat × Bool)}
theorem wp_region_class (C : World → Prop) {id : Nat} {Q : Exit → Act → World → Prop} {a : Act} {w : World} {l : List Oper} (hm : P.follows .mixedOrders = true) (hB : Region.lexB .any l.toArray = true) (hC : C w.drew)
    (h : wpQuiet P l.toArray C (fun a' => ∀ w', C w' → Q .normal a' w') l a) : (Code.region id l.toArray true).wp P Q a w :=
  wp_region_quiet (C := C) hm hB hC (by simpa using h)
theorem wpQuiet_read {o : Oper} {v : Value} (hw : Region.wanted o (yielded ops a.tmps) = true) (hy : ∀ w, C w → (execOp a.eval o).run P w = .ok (.value v) w) (h : wpQuiet P ops C Q rest (a.put o.dst v)) : wpQuiet P ops C Q (o :: rest) a := by
  unfold wpQuiet
  rw [if_pos hw]
  refine ⟨v, fun w hw' => ?_, h⟩
  unfold Oper.quietAt
  rw [hy w hw']
  exact ⟨rfl, rfl⟩
theorem wpQuiet_off {o : Oper} (hw : Region.wanted o (yielded ops a.tmps) = false) (h : wpQuiet P ops C Q rest (a.put o.dst undef)) : wpQuiet P ops C Q (o :: rest) a := by
  unfold wpQuiet
  rw [if_neg (by rw [hw]; simp)]
  exact h
theorem wpQuiet_loadRow {t : TypeId} {x : Operand} {b o : Nat} {cs : List Value} {d : TypeDesc} (hu : P.underlying t = some d) (hd : d.isRow = true) (hi : (P.info? t).map (·.size) = some cs.length)
    (hw : Region.wanted (⟨dst, .load t x, ty, pos, after, g⟩ : Oper) (yielded ops a.tmps) = true) (hx : a.eval x = .pointer (some ⟨b, o, none⟩)) (hC : ∀ w, C w → w.rangeAt b o cs)
    (h : wpQuiet P ops C Q rest (a.put dst (.agg cs.toArray))) : wpQuiet P ops C Q (⟨dst, .load t x, ty, pos, after, g⟩ :: rest) a := by
  rcases yieldsIf_load_mid (P := P) (ops := ops) (S := C) (op := ⟨dst, .load t x, ty, pos, after, g⟩) (a := a) hw t x rfl b o hx cs d hC hu hd hi with ⟨_, h1⟩ | ⟨h1, _⟩
  · unfold wpQuiet
    rw [if_pos hw]
    refine ⟨_, fun w hw' => ?_, h⟩
    unfold Oper.quietAt
    rw [h1 w hw']
    exact ⟨rfl, rfl⟩
  · rw [hw] at h1
    cases h1
theorem wpQuiet_call {f : FuncId} {xs : Array Operand} {ts : Array TypeId} {args : Array Value} {v : Value} (hcall : ∀ (av : Array Value) (w : World), (callFunc f av).run P w = .ok (.enter f av) w)
    (hw : Region.wanted (⟨dst, .call { callee := .value (.func f), args := xs, argTypes := ts }, ty, pos, after, g⟩ : Oper) (yielded ops a.tmps) = true) (ha : (xs.toList.map a.eval).toArray = args)
    (hc : ∀ w, C w → Calls P f args w fun e w' => e = .returned v ∧ C w')
    (h : wpQuiet P ops C Q rest (a.put dst v)) : wpQuiet P ops C Q (⟨dst, .call { callee := .value (.func f), args := xs, argTypes := ts }, ty, pos, after, g⟩ :: rest) a := by
  unfold wpQuiet
  rw [if_pos hw]
  refine ⟨v, fun w hw' => ?_, h⟩
  have hr : (execOp a.eval (⟨dst, .call { callee := .value (.func f), args := xs, argTypes := ts }, ty, pos, after, g⟩ : Oper)).run P w = .ok (.enter f args) w := by
    subst ha
    unfold execOp
    simp [resolve, invoke, Act.eval, hcall, go_sem]
    rw [← Array.toList_map]
  unfold Oper.quietAt
  rw [hr]
  exact ⟨rfl, hc w hw'⟩
theorem yields_at {l : List Oper} {ts : List Value} {j d : Nat} {o : Oper} {b : Bool} (h1 : l[j]? = some o) (h2 : o.dst = some d) (h3 : ts[d]? = some (.bool b)) : yielded l.toArray ts.toArray j = some b := by
  unfold yielded
  simp [h1, h2, h3]
theorem yields_no {l : List Oper} {ts : List Value} {j d : Nat} {o : Oper} (h1 : l[j]? = some o) (h2 : o.dst = some d) (h3 : ts[d]? = some undef) : yielded l.toArray ts.toArray j = none := by
  unfold yielded
  simp [h1, h2, h3, undef]
/-- the same, shut: so that nobody unfolds it. -/
structure WQ (P : Program) (ops : Array Oper) (C : World → Prop) (Q : Act → Prop) (l : List Oper) (a : Act) : Prop where
  out : wpQuiet P ops C Q l a
theorem wq_region (C : World → Prop) {id : Nat} {Q : Exit → Act → World → Prop} {a : Act} {w : World} {l : List Oper} (hm : P.follows .mixedOrders = true) (hB : Region.lexB .any l.toArray = true) (hC : C w.drew)
    (h : WQ P l.toArray C (fun a' => ∀ w', C w' → Q .normal a' w') l a) : (Code.region id l.toArray true).wp P Q a w :=
  wp_region_class C hm hB hC h.out
theorem wq_nil (h : Q a) : WQ P ops C Q [] a := ⟨wpQuiet_nil h⟩
theorem wq_get {op : Op} {v : Value} (hy : ∀ w, C w → (execOp a.eval ⟨dst, op, ty, pos, after, none⟩).run P w = .ok (.value v) w) (h : WQ P ops C Q rest (a.put dst v)) : WQ P ops C Q (⟨dst, op, ty, pos, after, none⟩ :: rest) a :=
  ⟨wpQuiet_read rfl hy h.out⟩
theorem wq_getOn {op : Op} {v : Value} {j : Nat} {b : Bool} (hg : yielded ops a.tmps j = some b) (hy : ∀ w, C w → (execOp a.eval ⟨dst, op, ty, pos, after, some (j, b)⟩).run P w = .ok (.value v) w) (h : WQ P ops C Q rest (a.put dst v)) : WQ P ops C Q (⟨dst, op, ty, pos, after, some (j, b)⟩ :: rest) a :=
  ⟨wpQuiet_read (by simp [Region.wanted, hg]) hy h.out⟩
theorem wq_skip {op : Op} {j : Nat} {b : Bool} (hg : yielded ops a.tmps j = some (!b)) (h : WQ P ops C Q rest (a.put dst undef)) : WQ P ops C Q (⟨dst, op, ty, pos, after, some (j, b)⟩ :: rest) a :=
  ⟨wpQuiet_off (by cases b <;> simp [Region.wanted, hg]) h.out⟩
theorem wq_skipOff {op : Op} {j : Nat} {b : Bool} (hg : yielded ops a.tmps j = none) (h : WQ P ops C Q rest (a.put dst undef)) : WQ P ops C Q (⟨dst, op, ty, pos, after, some (j, b)⟩ :: rest) a :=
  ⟨wpQuiet_off (by simp [Region.wanted, hg]) h.out⟩
theorem wq_call {f : FuncId} {xs : Array Operand} {ts : Array TypeId} {args : Array Value} {v : Value} (hcall : ∀ (av : Array Value) (w : World), (callFunc f av).run P w = .ok (.enter f av) w)
    (ha : (xs.toList.map a.eval).toArray = args) (hc : ∀ w, C w → Calls P f args w fun e w' => e = .returned v ∧ C w')
    (h : WQ P ops C Q rest (a.put dst v)) : WQ P ops C Q (⟨dst, .call { callee := .value (.func f), args := xs, argTypes := ts }, ty, pos, after, none⟩ :: rest) a :=
  ⟨wpQuiet_call hcall rfl ha hc h.out⟩
theorem wq_callOn {f : FuncId} {xs : Array Operand} {ts : Array TypeId} {args : Array Value} {v : Value} {j : Nat} {b : Bool} (hcall : ∀ (av : Array Value) (w : World), (callFunc f av).run P w = .ok (.enter f av) w)
    (hg : yielded ops a.tmps j = some b) (ha : (xs.toList.map a.eval).toArray = args) (hc : ∀ w, C w → Calls P f args w fun e w' => e = .returned v ∧ C w')
    (h : WQ P ops C Q rest (a.put dst v)) : WQ P ops C Q (⟨dst, .call { callee := .value (.func f), args := xs, argTypes := ts }, ty, pos, after, some (j, b)⟩ :: rest) a :=
  ⟨wpQuiet_call hcall (by simp [Region.wanted, hg]) ha hc h.out⟩
end
end Go.Proofs.Ytmedmfjhpabfdaa

namespace Go.Proofs.Ytmedmfjhpabfdaa
open Go Go.RowKit

section
variable {P : Program} {ops : Array Oper} {C : World → Prop} {Q : Act → Prop} {rest : List Oper} {a : Act} {dst : Option Tmp} {ty : TypeId} {pos : String} {after : Array Edge}
theorem wq_callAt {x : Operand} {f : FuncId} {xs : Array Operand} {ts : Array TypeId} {args : Array Value} {v : Value} {g : Option (Nat × Bool)} (hx : a.eval x = .func (.func f) #[] #[]) (hcall : ∀ (av : Array Value) (w : World), (callFunc f av).run P w = .ok (.enter f av) w)
    (hw : Region.wanted (⟨dst, .call { callee := .value x, args := xs, argTypes := ts }, ty, pos, after, g⟩ : Oper) (yielded ops a.tmps) = true) (ha : (xs.toList.map a.eval).toArray = args)
    (hc : ∀ w, C w → Calls P f args w fun e w' => e = .returned v ∧ C w')
    (h : WQ P ops C Q rest (a.put dst v)) : WQ P ops C Q (⟨dst, .call { callee := .value x, args := xs, argTypes := ts }, ty, pos, after, g⟩ :: rest) a := by
  refine ⟨?_⟩
  unfold wpQuiet
  rw [if_pos hw]
  refine ⟨v, fun w hw' => ?_, h.out⟩
  have hr : (execOp a.eval (⟨dst, .call { callee := .value x, args := xs, argTypes := ts }, ty, pos, after, g⟩ : Oper)).run P w = .ok (.enter f args) w := by
    subst ha
    unfold execOp
    simp only [resolve, hx]
    simp [invoke, hcall, go_sem]
    rw [← Array.toList_map]
  unfold Oper.quietAt
  rw [hr]
  exact ⟨rfl, hc w hw'⟩
theorem wq_callV {x : Operand} {f : FuncId} {xs : Array Operand} {ts : Array TypeId} {args : Array Value} {v : Value} (hx : a.eval x = .func (.func f) #[] #[]) (hcall : ∀ (av : Array Value) (w : World), (callFunc f av).run P w = .ok (.enter f av) w)
    (ha : (xs.toList.map a.eval).toArray = args) (hc : ∀ w, C w → Calls P f args w fun e w' => e = .returned v ∧ C w')
    (h : WQ P ops C Q rest (a.put dst v)) : WQ P ops C Q (⟨dst, .call { callee := .value x, args := xs, argTypes := ts }, ty, pos, after, none⟩ :: rest) a := wq_callAt hx hcall rfl ha hc h
theorem wq_callVOn {x : Operand} {f : FuncId} {xs : Array Operand} {ts : Array TypeId} {args : Array Value} {v : Value} {j : Nat} {b : Bool} (hx : a.eval x = .func (.func f) #[] #[]) (hcall : ∀ (av : Array Value) (w : World), (callFunc f av).run P w = .ok (.enter f av) w)
    (hg : yielded ops a.tmps j = some b) (ha : (xs.toList.map a.eval).toArray = args) (hc : ∀ w, C w → Calls P f args w fun e w' => e = .returned v ∧ C w')
    (h : WQ P ops C Q rest (a.put dst v)) : WQ P ops C Q (⟨dst, .call { callee := .value x, args := xs, argTypes := ts }, ty, pos, after, some (j, b)⟩ :: rest) a := wq_callAt hx hcall (by simp [Region.wanted, hg]) ha hc h
end
end Go.Proofs.Ytmedmfjhpabfdaa

namespace Go.Proofs.Ytmedmfjhpabfdaa
open Go

/-- the greatest entry of some vectors at a site. -/
def maxAt (vs : List (List Int)) (s : Int) : Int := vs.foldl (fun m l => max m (vecAt l s)) 0
theorem maxAt_nil (s : Int) : maxAt [] s = 0 := rfl
theorem maxAt_nonneg (vs : List (List Int)) (s : Int) : 0 ≤ maxAt vs s := by
  have : ∀ (vs : List (List Int)) (m : Int), 0 ≤ m → 0 ≤ vs.foldl (fun m l => max m (vecAt l s)) m := by
    intro vs
    induction vs with
    | nil => intro m h; exact h
    | cons l r ih => intro m h; exact ih (max m (vecAt l s)) (by omega)
  exact this vs 0 (by omega)
theorem vecAt_take (l : List Int) (k s : Nat) : vecAt (l.take k) s = if s < k then vecAt l s else 0 := by
  unfold vecAt
  simp only [Int.toNat_natCast, List.getD_eq_getElem?_getD, List.getElem?_take]
  split <;> simp
theorem vecAt_nil (s : Int) : vecAt [] s = 0 := by simp [vecAt]

/-- behind j vectors. -/
def VOk (vs : List (List Int)) (j : Nat) (u : List Int) : Prop := u.length = 5 ∧ ∀ s : Nat, s < 5 → vecAt u s = maxAt (vs.take j) s
/-- behind j vectors and k entries of the next. -/
def VOk2 (vs : List (List Int)) (j : Nat) (l : List Int) (k : Nat) (u : List Int) : Prop := u.length = 5 ∧ ∀ s : Nat, s < 5 → vecAt u s = max (maxAt (vs.take j) s) (vecAt (l.take k) s)
theorem VOk.start (vs : List (List Int)) : VOk vs 0 [0, 0, 0, 0, 0] := by
  refine ⟨rfl, fun s hs => ?_⟩
  rw [List.take_zero, maxAt_nil]
  match s, hs with
  | 0, _ => rfl
  | 1, _ => rfl
  | 2, _ => rfl
  | 3, _ => rfl
  | 4, _ => rfl
theorem VOk.enter {vs : List (List Int)} {j : Nat} {u : List Int} (h : VOk vs j u) (l : List Int) : VOk2 vs j l 0 u :=
  ⟨h.1, fun s hs => by rw [h.2 s hs, List.take_zero, vecAt_nil]; have := maxAt_nonneg (vs.take j) s; omega⟩
theorem VOk2.step {vs : List (List Int)} {j k : Nat} {l u : List Int} (h : VOk2 vs j l k u) (hk : k < l.length) (h5 : k < 5) (hu : k < u.length) : VOk2 vs j l (k + 1) (u.set k (max u[k] l[k])) := by
  refine ⟨by simp [h.1], fun s hs => ?_⟩
  have e1 : vecAt (u.set k (max u[k] l[k])) s = if s = k then max u[k] l[k] else vecAt u s := by
    have := vecAt_set u k s (max u[k] l[k]) (by omega) (by omega) (by simpa using hu)
    rw [Int.toNat_natCast] at this
    rw [this]
    by_cases e : s = k
    · subst e; simp
    · rw [if_neg (by omega), if_neg e]
  rw [e1, vecAt_take]
  by_cases e : s = k
  · subst e
    rw [if_pos rfl, if_pos (by omega)]
    have h1 := h.2 s hs
    have h2 : vecAt u s = u[s] := by simp [vecAt, hu]
    have h3 : vecAt l s = l[s] := by simp [vecAt, hk]
    rw [h2, vecAt_take, if_neg (by omega)] at h1
    have := maxAt_nonneg (vs.take j) s
    rw [h3]; omega
  · rw [if_neg e, h.2 s hs, vecAt_take]
    by_cases g : s < k
    · rw [if_pos g, if_pos (by omega)]
    · rw [if_neg g, if_neg (by omega)]

end Go.Proofs.Ytmedmfjhpabfdaa

namespace Go.Proofs.Ytmedmfjhpabfdaa
open Go

def ofBits (p : Nat → Bool) : Nat → Nat
  | 0 => 0
  | n + 1 => 2 ^ n * (p n).toNat + ofBits p n
theorem ofBits_lt (p : Nat → Bool) : ∀ n, ofBits p n < 2 ^ n
  | 0 => by simp [ofBits]
  | n + 1 => by
    have := ofBits_lt p n
    rw [ofBits, Nat.pow_succ]
    cases p n <;> simp <;> omega
theorem testBit_ofBits (p : Nat → Bool) (i : Nat) : ∀ n, (ofBits p n).testBit i = (decide (i < n) && p i)
  | 0 => by simp [ofBits]
  | n + 1 => by
    rw [ofBits, Nat.testBit_two_pow_mul_add _ (ofBits_lt p n), testBit_ofBits p i n]
    by_cases h : i < n
    · have : i < n + 1 := by omega
      simp [h, this]
    · by_cases h2 : i = n
      · subst h2; cases p i <;> simp
      · have h3 : ¬ i < n + 1 := by omega
        obtain ⟨j, hj⟩ : ∃ j, i - n = j + 1 := ⟨i - n - 1, by omega⟩
        rw [if_neg h, hj, Nat.testBit_succ]
        cases p n <;> simp [h3]
theorem ofBits_congr {p q : Nat → Bool} : ∀ {n}, (∀ i, i < n → p i = q i) → ofBits p n = ofBits q n
  | 0, _ => rfl
  | n + 1, h => by rw [ofBits, ofBits, h n (by omega), ofBits_congr (fun i hi => h i (by omega))]
theorem ofBits_inj {p q : Nat → Bool} {n : Nat} (h : ofBits p n = ofBits q n) (i : Nat) (hi : i < n) : p i = q i := by
  have h1 := testBit_ofBits p i n
  have h2 := testBit_ofBits q i n
  rw [h, h2] at h1
  simpa [hi] using h1.symm
theorem ofBits_set (p : Nat → Bool) (n k : Nat) (hk : k < n) : ofBits p n ||| 2 ^ k = ofBits (fun i => p i || decide (i = k)) n := by
  apply Nat.eq_of_testBit_eq
  intro i
  rw [Nat.testBit_or, testBit_ofBits, testBit_ofBits, Nat.testBit_two_pow]
  by_cases h : k = i
  · subst h; simp [hk]
  · have h' : ¬ i = k := fun e => h e.symm
    simp [h, h']
theorem ofBits_get (p : Nat → Bool) (n k : Nat) (hk : k < n) : ofBits p n / 2 ^ k % 2 = if p k then 1 else 0 := by
  have h := testBit_ofBits p k n
  rw [Nat.testBit_eq_decide_div_mod_eq] at h
  simp only [hk, decide_true, Bool.true_and] at h
  cases hp : p k
  · rw [hp] at h; simp at h; simp; omega
  · rw [hp] at h; simp at h; simp [h]

/-- a word of a set's site. -/
def wordOf (S : DSet) (s k : Nat) : Nat := ofBits (fun b => S s (64 * k + b)) 64
theorem wordOf_lt (S : DSet) (s k : Nat) : wordOf S s k < 18446744073709551616 := ofBits_lt _ 64
theorem wordOf_congr {S T : DSet} {s k : Nat} (h : ∀ b, b < 64 → S s (64 * k + b) = T s (64 * k + b)) : wordOf S s k = wordOf T s k := ofBits_congr h
theorem word_get (S : DSet) (s c : Nat) : wordOf S s (c / 64) / 2 ^ (c % 64) % 2 = if S s c then 1 else 0 := by
  unfold wordOf
  rw [ofBits_get _ 64 _ (Nat.mod_lt _ (by omega))]
  rw [show 64 * (c / 64) + c % 64 = c from Nat.div_add_mod c 64]
def withD (S : DSet) (s c : Nat) : DSet := fun t d => S t d || (decide (t = s) && decide (d = c))
theorem word_set (S : DSet) (s c : Nat) : wordOf S s (c / 64) ||| 2 ^ (c % 64) = wordOf (withD S s c) s (c / 64) := by
  unfold wordOf
  rw [ofBits_set _ 64 _ (Nat.mod_lt _ (by omega))]
  apply ofBits_congr
  intro i hi
  simp only [withD, decide_true, Bool.true_and]
  congr 1
  rw [decide_eq_decide]
  constructor
  · intro e; subst e; exact Nat.div_add_mod c 64
  · intro e; omega
theorem word_with_other (S : DSet) (s c t k : Nat) (h : ¬ (t = s ∧ k = c / 64)) : wordOf (withD S s c) t k = wordOf S t k := by
  apply wordOf_congr
  intro b hb
  have : (decide (t = s) && decide (64 * k + b = c)) = false := by
    rw [← Bool.not_eq_true]
    simp only [Bool.and_eq_true, decide_eq_true_eq]
    rintro ⟨e1, e2⟩
    exact h ⟨e1, by omega⟩
  simp [withD, this]
/-- the words of two sets are the same where their dots are. -/
def EqWords (S T : DSet) : Prop := ∀ s, s < 5 → ∀ k, k < 16 → wordOf S s k = wordOf T s k
theorem eqWords_iff (S T : DSet) : EqWords S T ↔ ∀ s, s < 5 → ∀ c, c < 1024 → S s c = T s c := by
  constructor
  · intro h s hs c hc
    have := ofBits_inj (h s hs (c / 64) (by omega)) (c % 64) (Nat.mod_lt _ (by omega))
    simpa [Nat.div_add_mod] using this
  · intro h s hs k hk
    exact wordOf_congr fun b hb => h s hs _ (by omega)
end Go.Proofs.Ytmedmfjhpabfdaa

namespace Go.Proofs.Ytmedmfjhpabfdaa
open Go Go.RowKit

theorem Own.empty {α : Type} {R : World → List Value → α → Prop} {sz : Nat} {e : TypeId} {w : World} {base : Nat} (hb : base ≤ w.heap.size) :
    Own R sz e (w.alloc (.cells #[] e)) base (.slice (some ⟨w.heap.size, 0, none⟩) 0 0) ([] : List α) := by
  refine ⟨[], rfl, by intro i cs x h; simp at h, by simp, .inr ⟨w.heap.size, 0, #[], rfl, hb, heap_alloc_new w _, Nat.le_refl _, Nat.zero_le _, by simp, by simp⟩⟩

theorem Sl.none_nil {α : Type} {R : World → List Value → α → Prop} {sz B : Nat} {e : TypeId} {w : World} {l : List α} (h : Sl B e R sz w none l) : l = [] := by
  rcases l with _ | ⟨x, l⟩
  · rfl
  · obtain ⟨b, off, cs, hA, _⟩ := h.at_ (i := 0) (by simp)
    cases hA

theorem Chg.alloc {B : Nat} {ts : List TypeId} {a w : World} (h : Chg B ts a w) (o : Obj) : Chg B ts a (w.alloc o) := h.trans (.of_ext ((Ext.refl w).alloc o))
theorem Chg.drewN {B : Nat} {ts : List TypeId} {a w : World} (h : Chg B ts a w) (n : Nat) : Chg B ts a (w.drewN n) := h.trans (.of_ext ((Ext.refl w).drewN n))
theorem Chg.ext' {B : Nat} {ts : List TypeId} {a w b : World} (h : Chg B ts a w) (x : Ext w b) : Chg B ts a b := h.trans (.of_ext x)

theorem cell_ne {w : World} {g k r o : Nat} {u v : Value} (hb : r ≠ g) (q : w.cell? ⟨r, o, none⟩ = some u) : (w.setCell ⟨g, k, none⟩ v).cell? ⟨r, o, none⟩ = some u :=
  (World.cell?_setCell_other _ _ _ _ (by intro e; injection e with e; omega)).trans q
theorem cell_off {w : World} {g k r o : Nat} {u v : Value} (hb : o ≠ k) (q : w.cell? ⟨r, o, none⟩ = some u) : (w.setCell ⟨g, k, none⟩ v).cell? ⟨r, o, none⟩ = some u :=
  (World.cell?_setCell_other _ _ _ _ (by intro e; injection e with _ e; omega)).trans q
theorem Own.far {α : Type} {R : World → List Value → α → Prop} {sz : Nat} {e : TypeId} {w : World} {base : Nat} {v : Value} {l : List α} (h : Own R sz e w base v l) (hRw : ∀ w w' cs x, R w cs x → R w' cs x) {p : Addr} (hp : p.block < base) (u : Value) : Own R sz e (w.setCell p u) base v l := by
  obtain ⟨xs, hx, hR, ho⟩ := h
  refine ⟨xs, hx, fun i cs x h1 h2 => ⟨(hR i cs x h1 h2).1, hRw _ _ _ _ (hR i cs x h1 h2).2⟩, ho.1, ?_⟩
  rcases ho.2 with hn | ⟨b, cap, cur, rfl, hb, hgg, rest⟩
  · exact .inl hn
  · exact .inr ⟨b, cap, cur, rfl, hb, (Below.heap_setCell w p u b (by omega)).trans hgg, rest⟩

theorem Own.farPair {α : Type} {f g : α → Int} {e : TypeId} {w : World} {base : Nat} {v : Value} {l : List α} (h : Own (RPair f g) 2 e w base v l) {p : Addr} (hp : p.block < base) (u : Value) : Own (RPair f g) 2 e (w.setCell p u) base v l :=
  h.far (fun _ _ _ _ h => h) hp u

/-- a row of integers. -/
def rowI (l : List Int) : Array Value := (l.map (Value.int .i64)).toArray
theorem rowI_get {l : List Int} {i : Nat} (h : i < l.length) : (rowI l)[i]? = some (.int .i64 l[i]) := by simp [rowI, h]
theorem rowI_set (l : List Int) (i : Nat) (x : Int) : (rowI l).setIfInBounds i (.int .i64 x) = rowI (l.set i x) := by simp [rowI, List.map_set]

end Go.Proofs.Ytmedmfjhpabfdaa

namespace Go.Proofs.Ytmedmfjhpabfdaa
open Go Go.RowKit

section
variable {P : Program} {w : World} {t e : TypeId}
end

/-- the row of the type table of a type of many cells. -/
def RowInfo (P : Program) (t : TypeId) (n : Nat) : Prop := (∃ d, P.underlying t = some d ∧ d.isRow = true) ∧ (P.info? t).map (·.size) = some n
section
variable {P : Program} {ops : Array Oper} {rest : List Oper} {o : Oper} {a : Act} {w : World} {Q : Exit → Act → World → Prop} {K : Act → World → Prop} {t : TypeId} {n : Nat}
theorem wpList_loadMid (ri : RowInfo P t n) (x : Operand) (ho : o.op = .load t x) (hg : o.guard = none) {b i : Nat} (hx : a.eval x = .pointer (some ⟨b, i, none⟩)) {cs : Array Value} (hr : w.rangeAt b i cs.toList) (hn : cs.size = n)
    (h : wpList P ops Q rest (a.put o.dst (.agg cs)) w) : wpList P ops Q (o :: rest) a w := by
  obtain ⟨⟨d, hu, hd⟩, hi⟩ := ri
  exact wpList_load_mid hg t x ho b i hx cs.toList d hr hu hd (by rw [hi, Array.length_toList, hn]) (by rw [Array.toArray_toList]; exact h)
theorem wpList_storeRow (ri : RowInfo P t n) (x y : Operand) (ho : o.op = .store t x y) (hg : o.guard = none) {b : Nat} (hx : a.eval x = .pointer (some ⟨b, 0, none⟩)) {cs old : Array Value} (hy : a.eval y = .agg cs)
    (hb : Blk w b t old) (hn : cs.size = n) (hold : old.size = n) (h1 : cs.all (·.oneCell') = true)
    (h : ∀ w', Below b w w' → Blk w' b t cs → w'.heap.size = w.heap.size → (∀ k, k ≠ b → w'.heap[k]? = w.heap[k]?) → wpList P ops Q rest (a.put o.dst undef) w') : wpList P ops Q (o :: rest) a w := by
  obtain ⟨_, hi⟩ := ri
  have hother : ∀ k, k ≠ b → (w.setRow b cs).heap[k]? = w.heap[k]? := fun k hk => setRow_other w b k cs (by omega)
  exact wpList_store_row hg t x y ho b cs hx hy t old hb (by rw [hn]; exact hi) (by omega) h1
    (h _ ⟨rfl, rfl, rfl, by simp, fun k hk => hother k (by omega)⟩ (setRow_heap w b old _ t _ hb) (by simp) hother)
end

/-- a load of many cells out of the middle of a block that is known whole. -/
theorem Blk.whole {w : World} {b : Nat} {e : TypeId} {cs : Array Value} (h : Blk w b e cs) : w.rangeAt b 0 cs.toList := fun j v hv => by
  rw [Nat.zero_add]
  exact h.cell (by rwa [Array.getElem?_toList] at hv)
end Go.Proofs.Ytmedmfjhpabfdaa

namespace Go.Proofs.Ytmedmfjhpabfdaa
open Go Go.RowKit

/-- element q of the row in block g reads as x. -/
def At {α : Type} (R : World → List Value → α → Prop) (sz : Nat) (w : World) (g q : Nat) (x : α) : Prop := ∃ cs : List Value, cs.length = sz ∧ w.rangeAt g (q * sz) cs ∧ R w cs x
/-- block g is a row of the call's own, of N cells, of elements of type e. -/
structure RowOwn (w : World) (g : Nat) (e : TypeId) (N : Nat) : Prop where
  blk : ∃ cur, Blk w g e cur ∧ cur.size = N
theorem RowOwn.ty {w : World} {g : Nat} {e : TypeId} {N : Nat} (h : RowOwn w g e N) : tyAt w g = some e := by obtain ⟨cur, hb, _⟩ := h.blk; exact hb.ty
theorem RowOwn.fz {w : World} {g : Nat} {e : TypeId} {N : Nat} (h : RowOwn w g e N) (o : Nat) : w.frozen? ⟨g, o, none⟩ = false := by obtain ⟨cur, hb, _⟩ := h.blk; exact hb.frozen o
theorem RowOwn.lt {w : World} {g : Nat} {e : TypeId} {N : Nat} (h : RowOwn w g e N) : g < w.heap.size := by obtain ⟨cur, hb, _⟩ := h.blk; exact hb.lt

theorem heap_setCells (b : Nat) : ∀ (vs : List Value) (o : Nat) (w : World) (k : Nat), k ≠ b → (w.setCells b o vs).heap[k]? = w.heap[k]?
  | [], _, _, _, _ => rfl
  | v :: r, o, w, k, h => by
    rw [World.setCells, heap_setCells b r (o + 1) _ k h]
    exact Below.heap_setCell w ⟨b, o, none⟩ v k h
theorem same_setCells (b : Nat) : ∀ (vs : List Value) (o : Nat) (w : World), (w.setCells b o vs).os = w.os ∧ (w.setCells b o vs).tape = w.tape ∧ (w.setCells b o vs).output = w.output ∧ (w.setCells b o vs).heap.size = w.heap.size
  | [], _, _ => ⟨rfl, rfl, rfl, rfl⟩
  | v :: r, o, w => by
    obtain ⟨h1, h2, h3, h4⟩ := same_setCells b r (o + 1) (w.setCell ⟨b, o, none⟩ v)
    rw [World.setCells]
    exact ⟨h1, h2, h3, h4.trans (by simp [World.setCell])⟩
theorem tyAt_setCells (b : Nat) (t : TypeId) : ∀ (vs : List Value) (o : Nat) (w : World), tyAt w b = some t → tyAt (w.setCells b o vs) b = some t
  | [], _, _, h => h
  | v :: r, o, w, h => by
    rw [World.setCells]
    refine tyAt_setCells b t r (o + 1) _ ?_
    unfold tyAt at h ⊢
    cases hb : w.heap[b]? with
    | none => rw [hb] at h; cases h
    | some ob =>
      rw [hb] at h
      cases ob <;> simp at h
      simp [World.setCell, Array.getElem?_modify, hb, h]

theorem blk_setCells (g : Nat) (e : TypeId) (N : Nat) : ∀ (vs : List Value) (o : Nat) (w : World), (∃ cur, Blk w g e cur ∧ cur.size = N) → ∃ cur, Blk (w.setCells g o vs) g e cur ∧ cur.size = N
  | [], _, _, h => h
  | v :: r, o, w, h => by
    obtain ⟨cur, h1, h2⟩ := h
    rw [World.setCells]
    exact blk_setCells g e N r (o + 1) _ ⟨_, h1.set o v, by simpa using h2⟩

section
variable {α : Type} {R : World → List Value → α → Prop} {sz B base g n q i N : Nat} {e : TypeId} {w w' : World} {x y : α} {l : List α}
theorem below_setCells (h : Below base w w') (hg : base ≤ g) (o : Nat) (vs : List Value) : Below base w (w'.setCells g o vs) := by
  obtain ⟨h1, h2, h3, h4⟩ := same_setCells g vs o w'
  exact ⟨h1.trans (Below.os h), h2.trans (Below.tape h), h3.trans (Below.output h), by rw [h4]; exact Below.size h, fun k hk => (heap_setCells g vs o w' k (by omega)).trans (Below.block h k hk)⟩
theorem Chg.setCells (h : Chg B [e] w w') (ht : tyAt w' g = some e) (hg : B ≤ g) (o : Nat) (vs : List Value) : Chg B [e] w (w'.setCells g o vs) := by
  obtain ⟨h1, h2, h3, h4⟩ := same_setCells g vs o w'
  refine h.trans ⟨h1, h2, h3, by rw [h4]; exact Nat.le_refl _, fun k hk hc => heap_setCells g vs o w' k ?_⟩
  rintro rfl
  rcases hc with hc | hc
  · omega
  · exact hc e (by simp) ht
theorem RowOwn.setCells (h : RowOwn w g e N) (o : Nat) (vs : List Value) : RowOwn (w.setCells g o vs) g e N := ⟨blk_setCells g e N vs o w h.blk⟩
theorem RowOwn.ext (h : RowOwn w g e N) (x : Ext w w') : RowOwn w' g e N := by
  obtain ⟨cur, h1, h2⟩ := h.blk
  exact ⟨cur, h1.ext x, h2⟩
theorem At.ext (m : Mono B [] R) (h : At R sz w g q x) (z : Ext w w') : At R sz w' g q x := by
  obtain ⟨cs, h1, h2, h3⟩ := h
  exact ⟨cs, h1, fun j v hv => z.cell (h2 j v hv), m _ _ _ _ (.of_ext z) h3⟩
theorem At.setCells (m : Mono B [e] R) (h : At R sz w g q x) (ht : tyAt w g = some e) (hB : B ≤ g) (o : Nat) (vs : List Value) (hap : q * sz + sz ≤ o ∨ o + vs.length ≤ q * sz) : At R sz (w.setCells g o vs) g q x := by
  obtain ⟨cs, h1, h2, h3⟩ := h
  exact ⟨cs, h1, World.rangeAt_setCells_apart h2 g o vs (by rcases hap with h | h <;> omega), m _ _ _ _ ((Chg.refl w).setCells ht hB o vs) h3⟩
theorem At.there (h : At R sz w g q x) (ho : RowOwn w g e N) : w.there g (q * sz) sz := by
  obtain ⟨cs, h1, h2, h3⟩ := h
  intro j hj
  exact ⟨h2.isSome j (by omega), ho.fz _⟩
theorem At.put (m : Mono B [e] R) {cs : List Value} (hl : cs.length = sz) (hR : R w cs x) (ht : w.there g (q * sz) sz) (hy : tyAt w g = some e) (hB : B ≤ g) : At R sz (w.setCells g (q * sz) cs) g q x :=
  ⟨cs, hl, World.rangeAt_setCells_same w g (q * sz) cs (by rw [hl]; exact ht), m _ _ _ _ ((Chg.refl w).setCells hy hB _ _) hR⟩
theorem Sl.ofAt (B' : Nat) {A : Option Addr} (hA : A = some ⟨g, 0, none⟩) (ho : RowOwn w g e N) (h : ∀ q x, l[q]? = some x → At R sz w g q x) : Sl B' e R sz w A l := by
  intro q x hq
  obtain ⟨cs, h1, h2, h3⟩ := h q x hq
  exact ⟨g, 0, cs, hA, ho.lt, .inr ho.ty, h1, fun j v hv => by rw [Nat.zero_add]; exact h2 j v hv, h3⟩
end

theorem grown_ext {w w' : World} {ob : Option Nat} (x : Ext w w') : w.grownBy w' ob := ⟨Below.os x, Below.tape x, Below.output x, x.size, fun _ hk _ => x.blockAt hk⟩
theorem grown_trans {w w1 w2 : World} {ob : Option Nat} (h : w.grownBy w1 ob) (x : Ext w1 w2) : w.grownBy w2 ob :=
  ⟨(Below.os x).trans h.os, (Below.tape x).trans h.tape, (Below.output x).trans h.output, Nat.le_trans h.size x.size, fun k hk hne => (x.blockAt (Nat.lt_of_lt_of_le hk h.size)).trans (h.block k hk hne)⟩
theorem grown_setCells {w w1 : World} {g : Nat} (h : w.grownBy w1 (some g)) (o : Nat) (vs : List Value) : w.grownBy (w1.setCells g o vs) (some g) := by
  obtain ⟨h1, h2, h3, h4⟩ := same_setCells g vs o w1
  exact ⟨h1.trans h.os, h2.trans h.tape, h3.trans h.output, by rw [h4]; exact h.size, fun k hk hne => (heap_setCells g vs o w1 k (fun e => hne (by rw [e]))).trans (h.block k hk hne)⟩
theorem grown_cell {w w' : World} {ob : Option Nat} {r o : Nat} {u : Value} (h : w.grownBy w' ob) (hc : w.cell? ⟨r, o, none⟩ = some u) (hne : some r ≠ ob) : w'.cell? ⟨r, o, none⟩ = some u := h.cell hc hne

/-- such a row is the call's own. -/
theorem Own.ofAt {base c : Nat} {w : World} {g : Nat} {e : TypeId} {α : Type} {R : World → List Value → α → Prop} {sz : Nat} {l : List α} (hsz : 0 < sz) (ho : RowOwn w g e (c * sz)) (hg : base ≤ g) (hl : l.length ≤ c) (hc : c ≤ maxLen) (h : ∀ q x, l[q]? = some x → At R sz w g q x) :
    Own R sz e w base (.slice (some ⟨g, 0, none⟩) l.length c) l := by
  obtain ⟨cur, hb, hs⟩ := ho.blk
  obtain ⟨xs, hx, hxs⟩ := choose_list (p := fun q cs => ∀ x, l[q]? = some x → cs.length = sz ∧ w.rangeAt g (q * sz) cs ∧ R w cs x) l.length (by
    intro q hq
    obtain ⟨cs, h1, h2, h3⟩ := h q _ (List.getElem?_eq_getElem hq)
    refine ⟨cs, fun x hx => ?_⟩
    rw [List.getElem?_eq_getElem hq] at hx
    injection hx with hx
    subst hx
    exact ⟨h1, h2, h3⟩)
  have hall : ∀ cs ∈ xs, cs.length = sz := by
    intro cs hcs
    obtain ⟨q, hq, rfl⟩ := List.getElem_of_mem hcs
    exact (hxs q _ (List.getElem?_eq_getElem hq) _ (List.getElem?_eq_getElem (by omega))).1
  have hlen : xs.flatten.length = l.length * sz := by
    rw [← hx]
    clear hxs hx
    induction xs with
    | nil => simp
    | cons y ys ih => simp [hall y (by simp), ih (fun c hc => hall c (by simp [hc])), Nat.succ_mul, Nat.add_comm]
  refine ⟨xs, hx, fun q cs x h1 h2 => ⟨(hxs q cs h1 x h2).1, (hxs q cs h1 x h2).2.2⟩, hlen, .inr ⟨g, c, cur, rfl, hg, hb, hl, hc, hs, ?_⟩⟩
  apply List.ext_getElem?
  intro j
  by_cases hj : j < l.length * sz
  · rw [List.getElem?_take, if_pos hj]
    have hq : j / sz < l.length := Nat.div_lt_of_lt_mul (by rw [Nat.mul_comm]; exact hj)
    have hqx : xs[j / sz]? = some (xs[j / sz]'(by omega)) := List.getElem?_eq_getElem _
    obtain ⟨g1, g2, _⟩ := hxs _ _ hqx _ (List.getElem?_eq_getElem hq)
    have hm := Nat.mod_lt j hsz
    have e1 : j / sz * sz + j % sz = j := by rw [Nat.mul_comm]; exact Nat.div_add_mod j sz
    have e2 := flatten_get sz xs hall (j / sz) (j % sz) _ hqx hm
    rw [e1] at e2
    rw [e2]
    have hv : (xs[j / sz]'(by omega))[j % sz]? = some ((xs[j / sz]'(by omega))[j % sz]'(by omega)) := List.getElem?_eq_getElem _
    rw [hv]
    have g3 := g2 _ _ hv
    rw [e1, cell_of_row w g j cur e (0, 0) hb] at g3
    rw [← g3]
    simp
  · rw [List.getElem?_eq_none (by rw [List.length_take]; omega), List.getElem?_eq_none (by omega)]
theorem Own.rowAt {base c n : Nat} {w : World} {g : Nat} {e : TypeId} {α : Type} {R : World → List Value → α → Prop} {sz : Nat} {l : List α} (h : Own R sz e w base (.slice (some ⟨g, 0, none⟩) n c) l) :
    base ≤ g ∧ RowOwn w g e (c * sz) ∧ ∀ q x, l[q]? = some x → At R sz w g q x := by
  rcases h.at_ with ⟨hv, _⟩ | ⟨g', c', hv, hb, _, _, _, hat⟩
  · cases hv
  · injection hv with hA _ hc
    injection hA with hA
    injection hA with hA _
    subst hA hc
    refine ⟨hb, ?_, fun q x hq => hat q x hq⟩
    obtain ⟨xs, _, _, ho⟩ := h
    rcases ho.2 with ⟨hv, _⟩ | ⟨g', cap, cur, hv, _, hg, _, _, hs, _⟩
    · cases hv
    · injection hv with hA _ hc
      injection hA with hA
      injection hA with hA _
      subst hA hc
      exact ⟨cur, hg, hs⟩

/-- the first element for which it is so: its number, or -1. -/
def idxOf {α : Type} (p : α → Bool) (l : List α) : Int := match l.findIdx? p with | some k => (k : Int) | none => -1

section
variable {P : Program} {ops : Array Oper} {rest : List Oper} {o : Oper} {a : Act} {w : World} {Q : Exit → Act → World → Prop} {K : Act → World → Prop} {t : TypeId} {n : Nat}
theorem wpList_loadL (ri : RowInfo P t n) (x : Operand) (ho : o.op = .load t x) (hg : o.guard = none) {b i : Nat} (hx : a.eval x = .pointer (some ⟨b, i, none⟩)) {cs : List Value} (hr : w.rangeAt b i cs) (hn : cs.length = n)
    (h : wpList P ops Q rest (a.put o.dst (.agg cs.toArray)) w) : wpList P ops Q (o :: rest) a w := by
  obtain ⟨⟨d, hu, hd⟩, hi⟩ := ri
  exact wpList_load_mid hg t x ho b i hx cs d hr hu hd (by rw [hi, hn]) h
theorem wpList_storeL (ri : RowInfo P t n) (x y : Operand) (ho : o.op = .store t x y) (hg : o.guard = none) {b i : Nat} (hx : a.eval x = .pointer (some ⟨b, i, none⟩)) {cs : List Value} (hy : a.eval y = .agg cs.toArray) (ht : w.there b i n) (hn : cs.length = n) (h1 : ∀ u ∈ cs, u.oneCell' = true)
    (h : wpList P ops Q rest (a.put o.dst undef) (w.setCells b i cs)) : wpList P ops Q (o :: rest) a w := by
  obtain ⟨_, hi⟩ := ri
  refine wpList_store_mid hg t x y ho b i cs.toArray hx hy (by simpa [hn] using ht) (by rw [hi]; simp [hn]) (all_oneCell_toArray h1) ?_
  simpa using h
theorem zeroCells_all {z : Array Value} (h : z.all (·.oneCell') = true) (m : Nat) : ∀ u ∈ (Builtin.zeroCells z m).toList, u.oneCell' = true := by
  intro u hu
  unfold Builtin.zeroCells at hu
  simp at hu
  obtain ⟨j, hj, rfl⟩ := hu
  have hz : 0 < z.size := by
    apply Nat.pos_of_ne_zero
    intro h0
    rw [h0] at hj
    simp at hj
  have hlt : j % z.size < z.size := Nat.mod_lt _ hz
  have := Array.all_eq_true.1 h (j % z.size) hlt
  simpa [hlt] using this
theorem zeroCells_len (z : Array Value) (m : Nat) : (Builtin.zeroCells z m).toList.length = m * z.size := by
  unfold Builtin.zeroCells
  simp
/-- 'clear(s)' of a row of the call's own. -/
theorem wpList_clear {e : TypeId} {z : Array Value} (ht : P.underlying t = some (.slice e)) (zi : ZeroInfo P e z) (hz1 : z.all (·.oneCell') = true) (x : Operand) (ho : o.op = .call { callee := .builtin .clear, args := #[x], argTypes := #[t] }) (hg : o.guard = none)
    {b i m c : Nat} (hx : a.eval x = .slice (some ⟨b, i, none⟩) m c) (hth : w.there b i (m * z.size))
    (h : ∀ zs : List Value, zs.length = m * z.size → wpList P ops Q rest (a.put o.dst (.tuple #[])) (w.setCells b i zs)) : wpList P ops Q (o :: rest) a w := by
  refine wpList_plain hg fun K hK => ?_
  have hr : ∃ zs : List Value, zs.length = m * z.size ∧ (Builtin.clear_ #[t] o.type #[.slice (some ⟨b, i, none⟩) m c]).run P w = .ok (.tuple #[]) (w.setCells b i zs) := by
    refine ⟨(Builtin.zeroCells z m).toList, zeroCells_len z m, ?_⟩
    cases m with
    | zero =>
      have hn : (Builtin.zeroCells z 0).toList = [] := List.eq_nil_of_length_eq_zero (by rw [zeroCells_len]; simp)
      rw [hn]
      simp [Builtin.clear_, run_underlying ht, World.setCells]
    | succ m =>
      have hs := run_storeCells_cells (P := P) b i (Builtin.zeroCells z (m + 1)).toList 0 w (fun j hj => by rw [zeroCells_len] at hj; exact (hth j hj).1) (fun j hj => by rw [zeroCells_len] at hj; exact (hth j hj).2) (zeroCells_all hz1 _)
      rw [Nat.add_zero] at hs
      simp [Builtin.clear_, run_underlying ht, zi w, Value.cells, hs]
  obtain ⟨zs, hl, hr⟩ := hr
  unfold Oper.wp execOp
  simp only [ho, resolve, invoke, builtin, Sem.run_bind, Sem.run_pure, Result.andThen_ok, List.map_toArray, List.map_cons, List.map_nil, hx, hr]
  exact hK _ _ (h zs hl)
end

theorem filter_take {α : Type} (p : α → Bool) (l : List α) (k : Nat) (hk : k < l.length) : (l.take (k + 1)).filter p = (l.take k).filter p ++ (if p l[k] then [l[k]] else []) := by
  rw [List.take_succ_eq_append_getElem hk, List.filter_append]
  congr 1
  by_cases h : p l[k] = true <;> simp [h]
theorem filter_len {α : Type} (p : α → Bool) (l : List α) (k : Nat) : ((l.take k).filter p).length ≤ k := by
  have h1 := List.length_filter_le p (l.take k)
  have h2 : (l.take k).length ≤ k := by rw [List.length_take]; omega
  omega
theorem filter_first {α : Type} {p : α → Bool} {l : List α} {k : Nat} (h : ∀ q x, q < k → l[q]? = some x → p x = false) : (l.take k).filter (fun x => !p x) = l.take k := by
  rw [List.filter_eq_self]
  intro x hx
  obtain ⟨q, hq⟩ := List.mem_iff_getElem?.1 hx
  rw [List.getElem?_take] at hq
  split at hq
  · rename_i hqk
    rw [h q x hqk hq]; rfl
  · cases hq
theorem idx_none {α : Type} {p : α → Bool} {l : List α} (h : ∀ x ∈ l, p x = false) : idxOf p l = -1 := by
  unfold idxOf
  rw [List.findIdx?_eq_none_iff.2 (fun x hx => by rw [h x hx])]
theorem idx_some {α : Type} {p : α → Bool} {l : List α} {k : Nat} (hk : k < l.length) (h : p l[k] = true) (hn : ∀ q x, q < k → l[q]? = some x → p x = false) : idxOf p l = (k : Int) := by
  unfold idxOf
  have : l.findIdx? p = some k := by
    rw [List.findIdx?_eq_some_iff_getElem]
    exact ⟨hk, h, fun j hj => by rw [hn j _ hj (List.getElem?_eq_getElem _)]; simp⟩
  rw [this]
theorem idx_any {α : Type} {p : α → Bool} {l : List α} : decide (0 ≤ idxOf p l) = l.any p := by
  unfold idxOf
  cases h : l.findIdx? p with
  | none =>
    rw [List.findIdx?_eq_none_iff] at h
    have : l.any p = false := by rw [List.any_eq_false]; intro x hx; rw [h x hx]; simp
    rw [this]; rfl
  | some k =>
    obtain ⟨hk, h1, _⟩ := List.findIdx?_eq_some_iff_getElem.1 h
    rw [List.any_eq_true.2 ⟨_, List.getElem_mem hk, h1⟩]
    simp
theorem idx_cases {α : Type} (p : α → Bool) (l : List α) : (idxOf p l = -1 ∧ ∀ x ∈ l, p x = false) ∨ ∃ k, ∃ hk : k < l.length, idxOf p l = (k : Int) ∧ p l[k] = true ∧ ∀ q x, q < k → l[q]? = some x → p x = false := by
  unfold idxOf
  cases h : l.findIdx? p with
  | none =>
    rw [List.findIdx?_eq_none_iff] at h
    exact .inl ⟨rfl, h⟩
  | some k =>
    obtain ⟨hk, h1, h2⟩ := List.findIdx?_eq_some_iff_getElem.1 h
    refine .inr ⟨k, hk, rfl, h1, fun q x hq hx => ?_⟩
    obtain ⟨hq', rfl⟩ := List.getElem?_eq_some_iff.1 hx
    simpa using h2 q hq

/-- a list in a cell. -/
def RL {α : Type} (B : Nat) (e : TypeId) (R : World → List Value → α → Prop) (sz : Nat) (w : World) (cs : List Value) (l : List α) : Prop := ∃ A c, cs = [.slice A l.length c] ∧ Sl B e R sz w A l
theorem RL.monoE {α : Type} {B : Nat} {e : TypeId} {R : World → List Value → α → Prop} {sz : Nat} (m : Mono B [] R) : Mono B [] (RL B e R sz) := by
  rintro w w' cs l x ⟨A, c, rfl, h⟩
  exact ⟨A, c, rfl, h.chg m (by simp) x⟩
end Go.Proofs.Ytmedmfjhpabfdaa

namespace Go.Proofs.Ytmedmfjhpabfdaa
open Go Go.RowKit

section
variable {P : Program} {ops : Array Oper} {rest : List Oper} {o : Oper} {a : Act} {w : World} {Q : Exit → Act → World → Prop} {t e : TypeId}

end

section
variable {α : Type} {P : Program} {R : World → List Value → α → Prop} {sz bytes : Nat} {t ty e : TypeId} {w : World} {B B' : Nat} {ys : List α} {A A0 : Option Addr} {c : Nat}

/-- what 'append(s[:0:0], s...)' leaves: the list in a row of its own, or nothing. -/
def OwnZ {α : Type} (R : World → List Value → α → Prop) (sz : Nat) (e : TypeId) (w : World) (base : Nat) (v : Value) (l : List α) : Prop :=
  Own R sz e w base v l ∨ (l = [] ∧ ∃ A, v = .slice A 0 0)

theorem OwnZ.isSl (B : Nat) {base : Nat} {v : Value} {l : List α} (h : OwnZ R sz e w base v l) : IsSl B e R sz w v l := by
  rcases h with h | ⟨rfl, A, rfl⟩
  · exact h.isSl B
  · exact ⟨A, 0, rfl, Nat.le_refl _, Nat.zero_le _, Sl.nil⟩

theorem OwnZ.ext {base : Nat} {v : Value} {l : List α} {w' : World} (m : Mono B [] R) (h : OwnZ R sz e w base v l) (x : Ext w w') : OwnZ R sz e w' base v l := h.imp (fun h => h.ext m x) id

end
end Go.Proofs.Ytmedmfjhpabfdaa
