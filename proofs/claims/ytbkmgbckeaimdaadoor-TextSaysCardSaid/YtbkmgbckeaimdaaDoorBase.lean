/- Base: Rep, Data, SpanP, CubeP, FilP, Open, OpenP, Arr, FilD, Qext, Step, Make in one text: data, readings, plain laws, small walks. No condition. -/
import Derived.ChangeOld
import Derived.ChangeSame
import Derived.Deep.Draws
import Derived.Deep.Fields
import Derived.Deep.MidRow
import Derived.Deep.QuietTactic
import Derived.Deep.RegionLaw
import Derived.Deep.Slices
import Derived.Deep.WholeRow
import Derived.Laws.BitsAllLaws
import Derived.Laws.MakeOwn
import Derived.Laws.Tables
import Derived.Lib.SmallJoins
import Derived.Maps.AppendAt
import Derived.OpenShut
import Derived.ProofKit
import Derived.ShutString
import Derived.Test.YtbkmgbckeaimdaaDoorChecked
import Derived.Test.YtbkmgbckeaimdaaDoorProg
import Derived.WalkKit
namespace Go.Proofs.YtbkmgbckeaimdaaDoor
open Go Go.RowKit

theorem hid {p : Prop} (h : p) : Hid p := h
theorem ret_bool {a b : Bool} (h : a = b) : Ending.returned (.bool a) = .returned (.bool b) := by rw [h]
theorem ret_int {k : IntKind} {a b : Int} (h : a = b) : Ending.returned (.int k a) = .returned (.int k b) := by rw [h]
theorem ret_val {a b : Value} (h : a = b) : Ending.returned a = .returned b := by rw [h]

/-- the world w' is as w was, but for new blocks and draws. -/
def Ext (w w' : World) : Prop := Below w.heap.size w w'

namespace Ext
variable {a b c w : World}
theorem refl (w : World) : Ext w w := Below.refl _ _
theorem size (h : Ext a b) : a.heap.size ≤ b.heap.size := Below.size h
theorem trans (h : Ext a b) (k : Ext b c) : Ext a c := Below.trans h (Below.mono k h.size)
theorem alloc (h : Ext a w) (o : Obj) : Ext a (w.alloc o) := Below.alloc h h.size o
theorem drew (h : Ext a w) : Ext a w.drew := Below.drew h
theorem drewN (h : Ext a w) (n : Nat) : Ext a (w.drewN n) := by
  obtain ⟨h1, h2, h3, h4, h5⟩ := h
  exact ⟨h1, h2, h3, h4, h5⟩
theorem setCell (h : Ext a w) {p : Addr} (hp : a.heap.size ≤ p.block) (u : Value) : Ext a (w.setCell p u) := Below.setCell h hp u
theorem cellAt (h : Ext a w) {k o : Nat} (hb : k < a.heap.size) : w.cell? ⟨k, o, none⟩ = a.cell? ⟨k, o, none⟩ := Below.cell (p := ⟨k, o, none⟩) h hb
theorem cell (h : Ext a w) {p : Addr} {u : Value} (hc : a.cell? p = some u) : w.cell? p = some u := (Below.cell h (World.block_lt_of_cell? _ p hc)).trans hc
theorem frozenAt (h : Ext a w) {k o : Nat} (hb : k < a.heap.size) : w.frozen? ⟨k, o, none⟩ = a.frozen? ⟨k, o, none⟩ := Below.frozen (p := ⟨k, o, none⟩) h hb
theorem blockAt (h : Ext a w) {k : Nat} (hb : k < a.heap.size) : w.heap[k]? = a.heap[k]? := Below.block h k hb
/-- what the walk needs of an older world. -/
theorem cells (h : Ext a w) : ∀ k o, k < a.heap.size → w.cell? ⟨k, o, none⟩ = a.cell? ⟨k, o, none⟩ := fun _ _ hb => h.cellAt hb
end Ext

/-- of what type the elements of block k are. -/
def tyAt (w : World) (k : Nat) : Option TypeId := match w.heap[k]? with | some (.cells _ e _) => some e | _ => none
theorem tyAt_of {w w' : World} {k : Nat} (h : w'.heap[k]? = w.heap[k]?) : tyAt w' k = tyAt w k := by unfold tyAt; rw [h]

/-- w' is w with new blocks, and with writes to blocks from B on whose elements are of the types ts alone. -/
structure Chg (B : Nat) (ts : List TypeId) (w w' : World) : Prop where
  os : w'.os = w.os
  tape : w'.tape = w.tape
  output : w'.output = w.output
  size : w.heap.size ≤ w'.heap.size
  block : ∀ k, k < w.heap.size → (k < B ∨ ∀ t ∈ ts, tyAt w k ≠ some t) → w'.heap[k]? = w.heap[k]?

namespace Chg
variable {B : Nat} {ts us : List TypeId} {a b c w w' : World}
theorem of_ext (h : Ext a b) : Chg B ts a b := ⟨Below.os h, Below.tape h, Below.output h, h.size, fun _ hk _ => h.blockAt hk⟩
theorem refl (w : World) : Chg B ts w w := of_ext (Ext.refl w)
theorem more (h : Chg B ts a b) (hs : ∀ t ∈ ts, t ∈ us) : Chg B us a b := ⟨h.os, h.tape, h.output, h.size, fun k hk hc => h.block k hk (hc.imp id fun g t ht => g t (hs t ht))⟩
theorem trans (h : Chg B ts a b) (k : Chg B ts b c) : Chg B ts a c := by
  refine ⟨k.os.trans h.os, k.tape.trans h.tape, k.output.trans h.output, Nat.le_trans h.size k.size, fun i hi hc => ?_⟩
  have h1 := h.block i hi hc
  refine (k.block i (Nat.lt_of_lt_of_le hi h.size) ?_).trans h1
  rcases hc with hc | hc
  · exact .inl hc
  · exact .inr fun t ht => by rw [tyAt_of h1]; exact hc t ht
theorem cell (h : Chg B ts a b) {k o : Nat} {u : Value} (hk : k < B ∨ ∀ t ∈ ts, tyAt a k ≠ some t) (hc : a.cell? ⟨k, o, none⟩ = some u) : b.cell? ⟨k, o, none⟩ = some u :=
  (World.cell?_of_block (w := a) (h.block k (World.block_lt_of_cell? _ _ hc) hk)).trans hc
/-- what was there when the call began, and not from B on, has not turned. -/
theorem ext (h : Chg B ts a b) (hB : a.heap.size ≤ B) : Ext a b := ⟨h.os, h.tape, h.output, h.size, fun k hk => h.block k hk (.inl (by omega))⟩
theorem setCell (h : Chg B ts a w) {p : Addr} {t : TypeId} (ht : tyAt w p.block = some t) (hm : t ∈ ts) (u : Value) (hB : B ≤ p.block) : Chg B ts a (w.setCell p u) := by
  refine h.trans ⟨rfl, rfl, rfl, by simp [World.setCell], fun k hk hc => Below.heap_setCell _ _ _ _ ?_⟩
  rintro rfl
  rcases hc with hc | hc
  · omega
  · exact hc t hm ht
end Chg

/-- cells one behind the other. -/
def CellsAt (w : World) (b off : Nat) (cs : List Value) : Prop := ∀ j u, cs[j]? = some u → w.cell? ⟨b, off + j, none⟩ = some u

/-- a block of old memory, or of elements of type e. -/
def Okb (B : Nat) (e : TypeId) (w : World) (b : Nat) : Prop := b < B ∨ tyAt w b = some e

/-- the element's cells of a slice from address A on: element i's cells read as the list's i-th. -/
def Sl {α : Type} (B : Nat) (e : TypeId) (R : World → List Value → α → Prop) (sz : Nat) (w : World) (A : Option Addr) (l : List α) : Prop :=
  ∀ i x, l[i]? = some x → ∃ b off cs, A = some ⟨b, off, none⟩ ∧ b < w.heap.size ∧ Okb B e w b ∧ cs.length = sz ∧ CellsAt w b (off + i * sz) cs ∧ R w cs x

/-- a slice value that reads as a list. -/
def IsSl {α : Type} (B : Nat) (e : TypeId) (R : World → List Value → α → Prop) (sz : Nat) (w : World) (v : Value) (l : List α) : Prop :=
  ∃ A c, v = .slice A l.length c ∧ l.length ≤ c ∧ c ≤ maxLen ∧ Sl B e R sz w A l

/-- a reading that stays when the world turns in blocks of the types ts alone. -/
def Mono {α : Type} (B : Nat) (ts : List TypeId) (R : World → List Value → α → Prop) : Prop := ∀ (w w' : World) (cs : List Value) (x : α), Chg B ts w w' → R w cs x → R w' cs x

theorem CellsAt.chg {w w' : World} {B : Nat} {ts : List TypeId} {b off : Nat} {cs : List Value} (h : CellsAt w b off cs) (x : Chg B ts w w') (hb : b < B ∨ ∀ t ∈ ts, tyAt w b ≠ some t) : CellsAt w' b off cs :=
  fun j u hj => x.cell hb (h j u hj)

section
variable {α : Type} {B : Nat} {e : TypeId} {ts : List TypeId} {R : World → List Value → α → Prop} {sz : Nat} {w w' : World} {A : Option Addr} {v : Value} {l : List α}

theorem Sl.chg (m : Mono B ts R) (he : e ∉ ts) (h : Sl B e R sz w A l) (x : Chg B ts w w') : Sl B e R sz w' A l := by
  intro i y hy
  obtain ⟨b, off, cs, hA, hb, hk, hl, hc, hR⟩ := h i y hy
  have ho : b < B ∨ ∀ t ∈ ts, tyAt w b ≠ some t := by
    rcases hk with hk | hk
    · exact .inl hk
    · refine .inr fun t ht h2 => ?_
      rw [hk] at h2
      injection h2 with h2
      exact he (h2 ▸ ht)
  refine ⟨b, off, cs, hA, Nat.lt_of_lt_of_le hb x.size, ?_, hl, hc.chg x ho, m _ _ _ _ x hR⟩
  rcases hk with hk | hk
  · exact .inl hk
  · exact .inr ((tyAt_of (x.block b hb ho)).trans hk)

theorem Sl.ext (m : Mono B [] R) (h : Sl B e R sz w A l) (x : Ext w w') : Sl B e R sz w' A l := h.chg m (by simp) (.of_ext x)

theorem IsSl.chg (m : Mono B ts R) (he : e ∉ ts) (h : IsSl B e R sz w v l) (x : Chg B ts w w') : IsSl B e R sz w' v l := by
  obtain ⟨A, c, hv, h1, h2, hs⟩ := h
  exact ⟨A, c, hv, h1, h2, hs.chg m he x⟩

theorem IsSl.ext (m : Mono B [] R) (h : IsSl B e R sz w v l) (x : Ext w w') : IsSl B e R sz w' v l := h.chg m (by simp) (.of_ext x)

theorem Sl.nil : Sl B e R sz w A ([] : List α) := by
  intro i x h; simp at h

theorem IsSl.nil : IsSl B e R sz w (.slice none 0 0) ([] : List α) := ⟨none, 0, rfl, Nat.le_refl _, Nat.zero_le _, Sl.nil⟩

/-- the cells of an element: what a round asks. -/
theorem Sl.at_ (h : Sl B e R sz w A l) {i : Nat} (hi : i < l.length) :
    ∃ b off cs, A = some ⟨b, off, none⟩ ∧ b < w.heap.size ∧ cs.length = sz ∧ CellsAt w b (off + i * sz) cs ∧ R w cs l[i] := by
  obtain ⟨b, off, cs, h1, h2, _, h3, h4, h5⟩ := h i _ (List.getElem?_eq_getElem hi)
  exact ⟨b, off, cs, h1, h2, h3, h4, h5⟩

theorem Sl.old {B' : Nat} (m : ∀ cs x, R w cs x → R w cs x) (h : Sl B e R sz w A l) (hB : B ≤ B') : Sl B' e R sz w A l := by
  intro i y hy
  obtain ⟨b, off, cs, hA, hb, hk, hl, hc, hR⟩ := h i y hy
  exact ⟨b, off, cs, hA, hb, hk.imp (fun h => by omega) id, hl, hc, m _ _ hR⟩
end

/-! integers, and structs whose fields are integers: their cells are known. -/
def RInt (_ : World) (cs : List Value) (n : Int) : Prop := cs = [.int .i64 n]
theorem RInt.mono {B : Nat} {ts : List TypeId} : Mono B ts RInt := fun _ _ _ _ _ h => h
theorem Sl.int {B : Nat} {e : TypeId} {w : World} {A : Option Addr} {l : List Int} (h : Sl B e RInt 1 w A l) {i : Nat} (hi : i < l.length) : ∃ b off, A = some ⟨b, off, none⟩ ∧ b < w.heap.size ∧ w.cell? ⟨b, off + i, none⟩ = some (.int .i64 l[i]) := by
  obtain ⟨b, off, cs, hA, hb, _, hc, rfl⟩ := h.at_ hi
  have := hc 0 _ rfl
  simp only [Nat.mul_one, Nat.add_zero] at this
  exact ⟨b, off, hA, hb, this⟩

/-- a struct of two integers. -/
def RPair {α : Type} (f g : α → Int) (_ : World) (cs : List Value) (x : α) : Prop := cs = [.int .i64 (f x), .int .i64 (g x)]
theorem RPair.mono {α : Type} {f g : α → Int} {B : Nat} {ts : List TypeId} : Mono B ts (RPair f g) := fun _ _ _ _ _ h => h
/-- a struct of three integers. -/
def RTrip {α : Type} (f g k : α → Int) (_ : World) (cs : List Value) (x : α) : Prop := cs = [.int .i64 (f x), .int .i64 (g x), .int .i64 (k x)]
theorem RTrip.mono {α : Type} {f g k : α → Int} {B : Nat} {ts : List TypeId} : Mono B ts (RTrip f g k) := fun _ _ _ _ _ h => h
theorem Sl.trip {α : Type} {f g k : α → Int} {B : Nat} {e : TypeId} {w : World} {A : Option Addr} {l : List α} (h : Sl B e (RTrip f g k) 3 w A l) {i : Nat} (hi : i < l.length) :
    ∃ b off, A = some ⟨b, off, none⟩ ∧ b < w.heap.size ∧ w.cell? ⟨b, off + i * 3, none⟩ = some (.int .i64 (f l[i])) ∧ w.cell? ⟨b, off + i * 3 + 1, none⟩ = some (.int .i64 (g l[i])) ∧ w.cell? ⟨b, off + i * 3 + 2, none⟩ = some (.int .i64 (k l[i])) := by
  obtain ⟨b, off, cs, hA, hb, _, hc, rfl⟩ := h.at_ hi
  have h0 := hc 0 _ rfl
  have h1 := hc 1 _ rfl
  have h2 := hc 2 _ rfl
  simp only [Nat.add_zero] at h0
  exact ⟨b, off, hA, hb, h0, h1, h2⟩

/-! a row of the call's own. -/
/-- the row that v owns among the blocks from base on reads as the list l. -/
def Own {α : Type} (R : World → List Value → α → Prop) (sz : Nat) (e : TypeId) (w : World) (base : Nat) (v : Value) (l : List α) : Prop :=
  ∃ xs : List (List Value), xs.length = l.length ∧ (∀ (i : Nat) (cs : List Value) (x : α), xs[i]? = some cs → l[i]? = some x → cs.length = sz ∧ R w cs x) ∧ w.ownsRow base e sz v l.length xs.flatten

theorem flatten_get {α : Type} (sz : Nat) : ∀ (xs : List (List α)) (_ : ∀ cs ∈ xs, cs.length = sz) (i j : Nat) (cs : List α), xs[i]? = some cs → j < sz → xs.flatten[i * sz + j]? = cs[j]? := by
  intro xs
  induction xs with
  | nil => intro _ i j cs h; simp at h
  | cons y ys ih =>
    intro hl i j cs h hj
    have hy : y.length = sz := hl y (by simp)
    rw [List.flatten_cons]
    cases i with
    | zero =>
      simp at h; subst h
      rw [Nat.zero_mul, Nat.zero_add, List.getElem?_append_left (by omega)]
    | succ i =>
      have h' : ys[i]? = some cs := by simpa using h
      rw [List.getElem?_append_right (by rw [hy, Nat.succ_mul]; omega), hy]
      have e : (i + 1) * sz + j - sz = i * sz + j := by rw [Nat.succ_mul]; omega
      rw [e]
      exact ih (fun c hc => hl c (by simp [hc])) i j cs h' hj

theorem flatten_back {α : Type} (sz : Nat) (hsz : 0 < sz) : ∀ (xs : List (List α)) (_ : ∀ cs ∈ xs, cs.length = sz) (q : Nat) (u : α), xs.flatten[q]? = some u → ∃ cs, xs[q / sz]? = some cs ∧ cs[q % sz]? = some u := by
  intro xs hl q u hq
  have hlen : ∀ (ys : List (List α)), (∀ cs ∈ ys, cs.length = sz) → ys.flatten.length = ys.length * sz := by
    intro ys
    induction ys with
    | nil => simp
    | cons y ys ih => intro h; simp [h y (by simp), ih (fun c hc => h c (by simp [hc])), Nat.succ_mul, Nat.add_comm]
  have hq1 : q < xs.length * sz := by rw [← hlen xs hl]; exact (List.getElem?_eq_some_iff.1 hq).1
  have hd : q / sz < xs.length := Nat.div_lt_of_lt_mul (by rw [Nat.mul_comm]; exact hq1)
  refine ⟨xs[q / sz], List.getElem?_eq_getElem hd, ?_⟩
  rw [← flatten_get sz xs hl (q / sz) (q % sz) _ (List.getElem?_eq_getElem hd) (Nat.mod_lt _ hsz)]
  have : q / sz * sz + q % sz = q := by rw [Nat.mul_comm]; exact Nat.div_add_mod q sz
  rw [this]; exact hq

section
variable {α : Type} {B : Nat} {R : World → List Value → α → Prop} {sz : Nat} {e : TypeId} {w w' : World} {base : Nat} {v : Value} {l : List α}

theorem Own.nil : Own R sz e w base (.slice none 0 0) ([] : List α) := ⟨[], rfl, by intro i cs x h; simp at h, World.ownsRow_nil _ _ _ _⟩

theorem Own.len (h : Own R sz e w base v l) : ∃ A c, v = .slice A l.length c ∧ l.length ≤ c ∧ c ≤ maxLen := by
  obtain ⟨xs, _, _, ho⟩ := h
  rcases ho.2 with ⟨hv, hn⟩ | ⟨g, cap, cur, hv, _, _, h1, h2, _⟩
  · exact ⟨none, 0, by rw [hv, hn], by omega, Nat.zero_le _⟩
  · exact ⟨_, cap, hv, h1, h2⟩

/-- where the row lies. -/
theorem Own.at_ (h : Own R sz e w base v l) : (v = .slice none 0 0 ∧ l = []) ∨ ∃ g c, v = .slice (some ⟨g, 0, none⟩) l.length c ∧ base ≤ g ∧ g < w.heap.size ∧ tyAt w g = some e ∧ (∀ o, w.frozen? ⟨g, o, none⟩ = false) ∧
    ∀ i x, l[i]? = some x → ∃ cs, cs.length = sz ∧ CellsAt w g (i * sz) cs ∧ R w cs x := by
  obtain ⟨xs, hx, hR, ho⟩ := h
  have hall : ∀ cs ∈ xs, cs.length = sz := by
    intro cs hcs
    obtain ⟨i, hi, rfl⟩ := List.getElem_of_mem hcs
    exact (hR i _ _ (List.getElem?_eq_getElem hi) (List.getElem?_eq_getElem (by omega))).1
  rcases ho.2 with ⟨rfl, hn⟩ | ⟨g, cap, cur, rfl, hb, hg, h1, h2, h3, h4⟩
  · exact .inl ⟨rfl, List.eq_nil_of_length_eq_zero hn⟩
  · refine .inr ⟨g, cap, rfl, hb, (Array.getElem?_eq_some_iff.1 hg).1, by unfold tyAt; rw [hg], fun o => by simp [World.frozen?, hg], ?_⟩
    intro i x hix
    have hil : i < l.length := (List.getElem?_eq_some_iff.1 hix).1
    have hxi : xs[i]? = some xs[i] := List.getElem?_eq_getElem (by omega)
    obtain ⟨hlen, hr⟩ := hR i _ _ hxi hix
    refine ⟨xs[i], hlen, ?_, hr⟩
    intro j u hj
    have hj' : j < sz := by have := (List.getElem?_eq_some_iff.1 hj).1; omega
    have := ho.cells (g := g) rfl (i * sz + j) u (by rw [flatten_get sz xs hall i j _ hxi hj']; exact hj)
    have e1 : (⟨g, 0, none⟩ : Addr).add (i * sz + j) = ⟨g, i * sz + j, none⟩ := by unfold Addr.add; split <;> simp_all
    rwa [e1] at this

theorem Own.isSl (B : Nat) (h : Own R sz e w base v l) : IsSl B e R sz w v l := by
  obtain ⟨A, c, hv, h1, h2⟩ := h.len
  refine ⟨A, c, hv, h1, h2, ?_⟩
  rcases h.at_ with ⟨_, rfl⟩ | ⟨g, c', hv', hb, hlt, ht, _, hc⟩
  · exact Sl.nil
  · rw [hv] at hv'
    injection hv' with hA _ _
    subst hA
    intro i x hix
    obtain ⟨cs, h3, h4, h5⟩ := hc i x hix
    exact ⟨g, 0, cs, rfl, hlt, .inr ht, h3, by rw [Nat.zero_add]; exact h4, h5⟩

theorem Own.chg {ts : List TypeId} (m : Mono B ts R) (h : Own R sz e w base v l) (x : Chg B ts w w') (hk : ∀ g, v.ownBlock = some g → w'.heap[g]? = w.heap[g]?) : Own R sz e w' base v l := by
  obtain ⟨xs, hx, hR, ho⟩ := h
  refine ⟨xs, hx, fun i cs y h1 h2 => ⟨(hR i cs y h1 h2).1, m _ _ _ _ x (hR i cs y h1 h2).2⟩, ho.1, ?_⟩
  rcases ho.2 with hn | ⟨g, cap, cur, rfl, hb, hgg, rest⟩
  · exact .inl hn
  · exact .inr ⟨g, cap, cur, rfl, hb, (hk g (by simp [Value.ownBlock])).trans hgg, rest⟩

theorem Own.lt (h : Own R sz e w base v l) {g : Nat} (hg : v.ownBlock = some g) : base ≤ g ∧ g < w.heap.size := by
  obtain ⟨xs, _, _, ho⟩ := h
  exact ho.lt g hg

theorem Own.ext (m : Mono B [] R) (h : Own R sz e w base v l) (x : Ext w w') : Own R sz e w' base v l :=
  h.chg m (.of_ext x) fun _ hg => x.blockAt (h.lt hg).2

/-- what an append leaves: blocks of the row's own type alone have turned. -/
theorem Own.chg_of (h : Own R sz e w base v l) (hB : B ≤ base) (hg : w.grownBy w' v.ownBlock) : Chg B [e] w w' := by
  refine ⟨hg.os, hg.tape, hg.output, hg.size, fun k hk hc => hg.block k hk fun he => ?_⟩
  rcases h.at_ with ⟨rfl, _⟩ | ⟨g, c, rfl, hb, _, ht, _⟩
  · simp [Value.ownBlock] at he
  · simp [Value.ownBlock] at he
    subst he
    rcases hc with hc | hc
    · omega
    · exact hc e (by simp) ht

theorem Own.below_of (h : Own R sz e w base v l) (hg : w.grownBy w' v.ownBlock) (hb : base ≤ w.heap.size) : Below base w w' :=
  (Below.refl base w).grown hg hb fun _ hk => (h.lt hk).1
end

/-- the row of the type table that an append asks for. -/
def ElemInfo (P : Program) (t e : TypeId) (sz bytes : Nat) : Prop :=
  ∃ i z, P.underlying t = some (.slice e) ∧ P.info? e = some i ∧ i.zero = some z ∧ i.size = sz ∧ i.bytes = bytes ∧ z.cells.size = sz ∧ 0 < sz

theorem ElemInfo.mk_ {P : Program} {t e : TypeId} {z : Value} {sz bytes : Nat} (ht : P.underlying t = some (.slice e)) (hi : (P.info? e).map (fun i => (i.zero, i.size, i.bytes)) = some (some z, sz, bytes)) (hz : z.cells.size = sz) (hs : 0 < sz) : ElemInfo P t e sz bytes := by
  cases h : P.info? e with
  | none => rw [h] at hi; cases hi
  | some i =>
    rw [h] at hi
    simp only [Option.map_some, Option.some.injEq, Prod.mk.injEq] at hi
    exact ⟨i, z, ht, h, hi.1, hi.2.1, hi.2.2, hz, hs⟩

/-- every cell of a reading holds the value of one cell. -/
def OneC {α : Type} (R : World → List Value → α → Prop) : Prop := ∀ w cs x, R w cs x → ∀ u ∈ cs, u.oneCell' = true

theorem RInt.oneC : OneC RInt := by rintro w cs x rfl u hu; simp at hu; subst hu; rfl
theorem RPair.oneC {α : Type} {f g : α → Int} : OneC (RPair f g) := by
  rintro w cs x rfl u hu
  simp at hu
  rcases hu with rfl | rfl <;> rfl
theorem RTrip.oneC {α : Type} {f g k : α → Int} : OneC (RTrip f g k) := by
  rintro w cs x rfl u hu
  simp at hu
  rcases hu with rfl | rfl | rfl <;> rfl

section
variable {α : Type} {P : Program} {R : World → List Value → α → Prop} {sz bytes : Nat} {t ty e : TypeId} {w : World} {base B B' : Nat} {v : Value} {l ys : List α} {A : Option Addr} {c : Nat}

theorem run_app_nil (ei : ElemInfo P t e sz bytes) (hown : Own R sz e w base v l) (A : Option Addr) (c : Nat) : (Builtin.append_ #[t, t] ty #[v, .slice A 0 c]).run P w = .ok v w := by
  obtain ⟨i, z, ht, hi, hz, hs, hb, hzs, h0⟩ := ei
  obtain ⟨xs, _, _, ho⟩ := hown
  rcases ho.2 with ⟨rfl, hn⟩ | ⟨g, cap, cur, rfl, _, _, hnc, _⟩
  · cases A <;> simp [Builtin.append_, run_underlying ht, sizeOf, typeInfo, hi, Builtin.lenOf, Builtin.firstCells, loadCells, loadCellsFrom]
  · cases A <;> simp [Builtin.append_, run_underlying ht, sizeOf, typeInfo, hi, Builtin.lenOf, Builtin.firstCells, hnc, storeCells, loadCells, loadCellsFrom]

theorem choose_list {β : Type} {p : Nat → β → Prop} : ∀ n : Nat, (∀ i, i < n → ∃ c, p i c) → ∃ zs : List β, zs.length = n ∧ ∀ i c, zs[i]? = some c → p i c := by
  intro n
  induction n with
  | zero => intro _; exact ⟨[], rfl, by simp⟩
  | succ n ih =>
    intro h
    obtain ⟨zs, hl, hz⟩ := ih fun i hi => h i (by omega)
    obtain ⟨c, hc⟩ := h n (by omega)
    refine ⟨zs ++ [c], by simp [hl], fun i d hd => ?_⟩
    by_cases hi : i < n
    · rw [List.getElem?_append_left (by omega)] at hd; exact hz i d hd
    · have : i = n := by
        have := (List.getElem?_eq_some_iff.1 hd).1
        simp [hl] at this
        omega
      subst this
      rw [List.getElem?_append_right (by omega), hl, Nat.sub_self] at hd
      simp at hd; subst hd; exact hc

theorem run_app2 (ei : ElemInfo P t e sz bytes) (hown : Own R sz e w base v l) (hB : B ≤ base) (hb : base ≤ w.heap.size) {e' : TypeId} (hs : Sl B' e' R sz w A ys) (h1 : OneC R) (m : Mono B [e] R)
    (h63 : l.length + ys.length ≤ maxLen) (hby : (l.length + ys.length) * bytes ≤ 140737488355328) :
    ∃ v' w', (Builtin.append_ #[t, t] ty #[v, .slice A ys.length c]).run P w = .ok v' w' ∧ Own R sz e w' base v' (l ++ ys) ∧ w.grownBy w' v.ownBlock ∧ Chg B [e] w w' ∧ Below base w w' ∧ (v'.ownBlock = v.ownBlock ∨ v'.ownBlock = some w.heap.size) := by
  by_cases hy : ys = []
  · subst hy
    refine ⟨v, w, run_app_nil ei hown A c, by simpa using hown, World.grownBy.refl w _, Chg.refl w, Below.refl _ _, .inl rfl⟩
  have hpos : 0 < ys.length := List.length_pos_iff.2 hy
  obtain ⟨b, off, _, rfl, _, _, _⟩ := hs.at_ hpos
  obtain ⟨zs, hzl, hz⟩ := choose_list (p := fun i cs => ∀ x, ys[i]? = some x → cs.length = sz ∧ CellsAt w b (off + i * sz) cs ∧ R w cs x) ys.length (by
    intro i hi
    obtain ⟨b', off', cs, hA, _, h3, h4, h5⟩ := hs.at_ hi
    injection hA with hA
    injection hA with hb' ho' _
    subst hb' ho'
    refine ⟨cs, fun x hx => ?_⟩
    rw [List.getElem?_eq_getElem hi] at hx
    injection hx with hx
    subst hx
    exact ⟨h3, h4, h5⟩)
  have hyi : ∀ i cs, zs[i]? = some cs → ∃ x, ys[i]? = some x := fun i cs h => ⟨ys[i]'(by have := (List.getElem?_eq_some_iff.1 h).1; omega), List.getElem?_eq_getElem _⟩
  have hzall : ∀ cs ∈ zs, cs.length = sz := by
    intro cs hcs
    obtain ⟨i, hi, rfl⟩ := List.getElem_of_mem hcs
    obtain ⟨x, hx⟩ := hyi i _ (List.getElem?_eq_getElem hi)
    exact (hz i _ (List.getElem?_eq_getElem hi) x hx).1
  have hsz0 : 0 < sz := by obtain ⟨_, _, _, _, _, _, _, _, h⟩ := ei; exact h
  have hnews : ∀ j u, zs.flatten[j]? = some u → w.cell? ((⟨b, off, none⟩ : Addr).add j) = some u := by
    intro j u hj
    obtain ⟨cs, h3, h4⟩ := flatten_back sz hsz0 zs hzall j u hj
    obtain ⟨x, hx⟩ := hyi _ _ h3
    have := (hz _ _ h3 x hx).2.1 _ u h4
    have e1 : off + j / sz * sz + j % sz = off + j := by
      have := Nat.div_add_mod j sz
      rw [Nat.mul_comm] at this
      omega
    rw [e1] at this
    unfold Addr.add
    split
    · subst_vars; simpa using this
    · exact this
  have hlen : zs.flatten.length = ys.length * sz := by
    rw [← hzl]
    clear hyi hz hnews hzl
    induction zs with
    | nil => simp
    | cons y ys ih => simp [hzall y (by simp), ih (fun c hc => hzall c (by simp [hc])), Nat.succ_mul, Nat.add_comm]
  have hone : ∀ u ∈ zs.flatten, u.oneCell' = true := by
    intro u hu
    obtain ⟨cs, hcs, hu⟩ := List.mem_flatten.1 hu
    obtain ⟨i, hi, rfl⟩ := List.getElem_of_mem hcs
    obtain ⟨x, hx⟩ := hyi i _ (List.getElem?_eq_getElem hi)
    exact h1 _ _ _ (hz i _ (List.getElem?_eq_getElem hi) x hx).2.2 u hu
  obtain ⟨i, z, ht, hi, hz0, hs0, hby0, hzs, _⟩ := ei
  obtain ⟨xs, hxl, hxR, ho⟩ := id hown
  obtain ⟨v', w', hrun, hown', hg, _, hob⟩ := run_append_own_at (P := P) w base t ty e i z sz bytes ht hi hz0 hs0 hby0 hzs hsz0 v l.length xs.flatten ho ⟨b, off, none⟩ ys.length c zs.flatten hlen hnews hone h63 hby hb
  have hc : Chg B [e] w w' := hown.chg_of hB hg
  refine ⟨v', w', hrun, ⟨xs ++ zs, by simp [hxl, hzl], ?_, by rw [List.length_append, List.flatten_append]; exact hown'⟩, hg, hc, hown.below_of hg hb, hob⟩
  intro k cs x hk hx
  by_cases hkl : k < l.length
  · rw [List.getElem?_append_left (by omega)] at hk hx
    exact ⟨(hxR k cs x hk hx).1, m _ _ _ _ hc (hxR k cs x hk hx).2⟩
  · rw [List.getElem?_append_right (by omega), hxl] at hk
    rw [List.getElem?_append_right (by omega)] at hx
    exact ⟨(hz _ _ hk x hx).1, m _ _ _ _ hc (hz _ _ hk x hx).2.2⟩

theorem run_app (ei : ElemInfo P t e sz bytes) (hown : Own R sz e w base v l) (hB : B ≤ base) (hb : base ≤ w.heap.size) {e' : TypeId} (hs : Sl B' e' R sz w A ys) (h1 : OneC R) (m : Mono B [e] R)
    (h63 : l.length + ys.length ≤ maxLen) (hby : (l.length + ys.length) * bytes ≤ 140737488355328) :
    ∃ v' w', (Builtin.append_ #[t, t] ty #[v, .slice A ys.length c]).run P w = .ok v' w' ∧ Own R sz e w' base v' (l ++ ys) ∧ w.grownBy w' v.ownBlock ∧ Chg B [e] w w' ∧ Below base w w' :=
  let ⟨v', w', h1', h2', h3', h4', h5', _⟩ := run_app2 ei hown hB hb hs h1 m h63 hby
  ⟨v', w', h1', h2', h3', h4', h5'⟩

/-- append to a row of the call's own, as an operation of the walk. -/
theorem wpList_app {ops : Array Oper} {rest : List Oper} {o : Oper} {a : Act} {Q : Exit → Act → World → Prop} (hgd : o.guard = none) (s x : Operand)
    (ho : o.op = .call { callee := .builtin .append, args := #[s, x], argTypes := #[t, t] }) (ei : ElemInfo P t e sz bytes)
    (hs : a.eval s = v) (hown : Own R sz e w base v l) (hB : B ≤ base) (hb : base ≤ w.heap.size) {e' : TypeId} (hx : a.eval x = .slice A ys.length c) (hsl : Sl B' e' R sz w A ys) (h1 : OneC R) (m : Mono B [e] R)
    (h63 : l.length + ys.length ≤ maxLen) (hby : (l.length + ys.length) * bytes ≤ 140737488355328)
    (h : ∀ v' w', Own R sz e w' base v' (l ++ ys) → Chg B [e] w w' → Below base w w' → w.grownBy w' v.ownBlock → wpList P ops Q rest (a.put o.dst v') w') : wpList P ops Q (o :: rest) a w := by
  refine wpList_plain hgd fun K hK => ?_
  obtain ⟨v', w', hr, h2, h3, h4, h5⟩ := run_app (P := P) (t := t) (ty := o.type) (c := c) ei hown hB hb hsl h1 m h63 hby
  unfold Oper.wp execOp
  simp only [ho, resolve, invoke, builtin, Sem.run_bind, Sem.run_pure, Result.andThen_ok, List.map_toArray, List.map_cons, List.map_nil, hs, hx, hr]
  exact hK _ _ (h v' w' h2 h4 h5 h3)

/-- the one element that 'append(out, x)' lays in a block of its own. -/
theorem Sl.one {o : World} {cs : List Value} {y : α} (ho : o = w.alloc (.cells cs.toArray e)) (hl : cs.length = sz) (hR : R o cs y) : Sl B e R sz o (some ⟨w.heap.size, 0, none⟩) [y] := by
  subst ho
  intro i x hi
  match i, hi with
  | 0, hi =>
    simp at hi; subst hi
    refine ⟨_, 0, cs, rfl, by simp, .inr (by unfold tyAt; rw [heap_alloc_new]), hl, fun j u hj => ?_, hR⟩
    rw [cell_of_row _ _ _ _ e (0, 0) (heap_alloc_new w _)]
    simpa using hj

end

theorem flatten_set {α : Type} (sz : Nat) : ∀ (xs : List (List α)) (_ : ∀ cs ∈ xs, cs.length = sz) (i j : Nat) (cs : List α) (u : α), xs[i]? = some cs → j < sz → (xs.set i (cs.set j u)).flatten = xs.flatten.set (i * sz + j) u := by
  intro xs
  induction xs with
  | nil => intro _ i j cs u h; simp at h
  | cons y ys ih =>
    intro hl i j cs u h hj
    have hy : y.length = sz := hl y (by simp)
    cases i with
    | zero =>
      simp at h; subst h
      simp only [List.set_cons_zero, List.flatten_cons, Nat.zero_mul, Nat.zero_add]
      rw [List.set_append_left _ _ (by omega)]
    | succ i =>
      have h' : ys[i]? = some cs := by simpa using h
      simp only [List.set_cons_succ, List.flatten_cons]
      rw [ih (fun c hc => hl c (by simp [hc])) i j cs u h' hj, List.set_append_right _ _ (by rw [hy, Nat.succ_mul]; omega)]
      congr 2
      rw [hy, Nat.succ_mul]; omega

/-- a store into the row. -/
theorem Own.set {α : Type} {R : World → List Value → α → Prop} {sz : Nat} {e : TypeId} {w : World} {base B g c : Nat} {l : List α} (h : Own R sz e w base (.slice (some ⟨g, 0, none⟩) l.length c) l) (m : Mono B [e] R) (hB : B ≤ base)
    {i j : Nat} (hi : i < l.length) (hj : j < sz) (u : Value) (y : α) (hy : ∀ cs, cs.length = sz → R w cs l[i] → R (w.setCell ⟨g, i * sz + j, none⟩ u) (cs.set j u) y) :
    Own R sz e (w.setCell ⟨g, i * sz + j, none⟩ u) base (.slice (some ⟨g, 0, none⟩) l.length c) (l.set i y) ∧ Chg B [e] w (w.setCell ⟨g, i * sz + j, none⟩ u) ∧ Below base w (w.setCell ⟨g, i * sz + j, none⟩ u) := by
  obtain ⟨xs, hx, hR, ho⟩ := id h
  have hxi : xs[i]? = some xs[i] := List.getElem?_eq_getElem (by omega)
  obtain ⟨hlen, hr⟩ := hR i _ _ hxi (List.getElem?_eq_getElem hi)
  have hall : ∀ cs ∈ xs, cs.length = sz := by
    intro cs hcs
    obtain ⟨k, hk, rfl⟩ := List.getElem_of_mem hcs
    exact (hR k _ _ (List.getElem?_eq_getElem hk) (List.getElem?_eq_getElem (by omega))).1
  obtain ⟨ho', hg⟩ := ho.stored (i * sz + j) u
  have hg' : w.grownBy (w.setCell ⟨g, i * sz + j, none⟩ u) (Value.slice (some ⟨g, 0, none⟩) l.length c).ownBlock := hg
  have hc : Chg B [e] w (w.setCell ⟨g, i * sz + j, none⟩ u) := h.chg_of hB hg'
  refine ⟨⟨xs.set i (xs[i].set j u), by simp [hx], ?_, ?_⟩, hc, ?_⟩
  · intro k cs x hk hxk
    by_cases hki : i = k
    · subst hki
      rw [List.getElem?_set_self (by omega)] at hk
      rw [List.getElem?_set_self hi] at hxk
      injection hk with hk; injection hxk with hxk
      subst hk hxk
      exact ⟨by simp [hlen], hy _ hlen hr⟩
    · rw [List.getElem?_set_ne hki] at hk hxk
      exact ⟨(hR k cs x hk hxk).1, m _ _ _ _ hc (hR k cs x hk hxk).2⟩
  · rw [flatten_set sz xs hall i j _ u hxi hj, List.length_set]
    exact ho'
  · refine (Below.refl base w).setCell (p := ⟨g, i * sz + j, none⟩) ?_ u
    exact (h.lt (g := g) rfl).1

end Go.Proofs.YtbkmgbckeaimdaaDoor

namespace Go.Proofs.YtbkmgbckeaimdaaDoor
open Go Go.RowKit

structure Span where
  fr : Int
  to : Int
deriving DecidableEq, Inhabited
structure Cube where
  yes : Int
  no : Int
deriving DecidableEq, Inhabited
structure Box where
  cube : Cube
  spans : List Span
deriving DecidableEq, Inhabited
structure Node where
  kind : Int
  a : Int
  b : Int
deriving DecidableEq, Inhabited
abbrev RSpan : World → List Value → Span → Prop := RPair Span.fr Span.to
abbrev RNode : World → List Value → Node → Prop := RTrip Node.kind Node.a Node.b
abbrev SlSpans (B : Nat) := Sl B 56 RSpan 2
abbrev IsSpans (B : Nat) := IsSl B 56 RSpan 2
abbrev IsNodes (B : Nat) := IsSl B 39 RNode 3

def spanIn : List Span → Int → Bool
  | [], _ => false
  | s :: r, n => if s.fr ≤ n ∧ n < s.to then true else spanIn r n

/-- spans whose numbers may be. -/
def SpansOk (l : List Span) : Prop := ∀ s ∈ l, 0 ≤ s.fr ∧ s.fr < s.to ∧ s.to ≤ 32
/-- a set as spans, from behind. -/
def toldStep (p : Nat → Bool) (out : List Span) (n : Nat) : List Span :=
  if p n then
    match out with
    | s :: r => if s.fr = n + 1 then ⟨n, s.to⟩ :: r else ⟨n, n + 1⟩ :: s :: r
    | [] => [⟨n, n + 1⟩]
  else out
def toldK (p : Nat → Bool) : Nat → List Span
  | 0 => []
  | k + 1 => toldStep p (toldK p k) (31 - k)
def told (p : Nat → Bool) : List Span := toldK p 32
end Go.Proofs.YtbkmgbckeaimdaaDoor

namespace Go.Proofs.YtbkmgbckeaimdaaDoor
open Go

/-- spans in their form, all of them above lo. -/
def Canon : Int → List Span → Prop
  | _, [] => True
  | lo, s :: r => lo < s.fr ∧ s.fr < s.to ∧ Canon s.to r

theorem Canon.mono : ∀ {l : List Span} {lo lo' : Int}, Canon lo l → lo' ≤ lo → Canon lo' l
  | [], _, _, _, _ => trivial
  | s :: r, lo, lo', h, hl => ⟨by have := h.1; omega, h.2⟩

theorem spanIn_cons (s : Span) (r : List Span) (x : Int) : spanIn (s :: r) x = (decide (s.fr ≤ x ∧ x < s.to) || spanIn r x) := by
  rw [spanIn]
  by_cases h : s.fr ≤ x ∧ x < s.to <;> simp [h]

theorem Canon.above : ∀ {l : List Span} {lo x : Int}, Canon lo l → spanIn l x = true → lo < x
  | [], _, _, _, h => by simp [spanIn] at h
  | s :: r, lo, x, hc, h => by
    rw [spanIn_cons, Bool.or_eq_true, decide_eq_true_eq] at h
    rcases h with h | h
    · have := hc.1; omega
    · have := Canon.above hc.2.2 h
      have := hc.1; have := hc.2.1; omega

theorem Canon.split : ∀ {l : List Span} {lo : Int} {s : Span}, Canon lo (l ++ [s]) → Canon lo l ∧ lo < s.fr ∧ s.fr < s.to ∧ ∀ t ∈ l, t.to < s.fr
  | [], _, _, h => ⟨trivial, h.1, h.2.1, by simp⟩
  | t :: r, lo, s, h => by
    obtain ⟨h1, h2, h3, h4⟩ := Canon.split (l := r) h.2.2
    refine ⟨⟨h.1, h.2.1, h1⟩, by have := h.1; have := h.2.1; omega, h3, fun u hu => ?_⟩
    rcases List.mem_cons.1 hu with rfl | hu
    · exact h2
    · exact h4 u hu

end Go.Proofs.YtbkmgbckeaimdaaDoor

namespace Go.Proofs.YtbkmgbckeaimdaaDoor
open Go

/-- bit k of v. -/
def bitb (v k : Nat) : Bool := v / 2 ^ k % 2 == 1
end Go.Proofs.YtbkmgbckeaimdaaDoor

namespace Go.Proofs.YtbkmgbckeaimdaaDoor
open Go

theorem SpansOk.take {l : List Span} (h : SpansOk l) (k : Nat) : SpansOk (l.take k) := fun s hs => h s (List.mem_of_mem_take hs)
end Go.Proofs.YtbkmgbckeaimdaaDoor

namespace Go.Proofs.YtbkmgbckeaimdaaDoor
open Go Go.RowKit Go.ChangeShapes Go.WideShapes Go.Deep

section
variable {H : Type} {enc : TypeId × Value → H} {P : Program} {w : World} {spare : Nat → Bool} {held : Bool}

theorem sl_of_trod {α : Type} {R : World → List Value → α → Prop} {sz : Nat} {Q : α → Prop} {t e : TypeId} {fuel : Nat} {A : Option Addr} {len cap : Nat} {x : DataW H × List MemPlace} (ht : P.underlying t = some (.slice e)) (hC : P.cellsOf e = sz) (hsz : 0 < sz)
    (helem : ∀ (n : Nat) (cs : List Value) (y : DataW H × List MemPlace), cs.length = sz → DataW.trod enc P w 0 spare held n e cs = some y → ∃ z : α, R w cs z ∧ Q z)
    (h : DataW.trod enc P w 0 spare held fuel t [.slice A len cap] = some x) :
    ∃ l : List α, l.length = len ∧ len ≤ cap ∧ cap ≤ maxLen ∧ Sl w.heap.size e R sz w A l ∧ ∀ z ∈ l, Q z := by
  rcases open_slice ht h with ⟨h0, _⟩ | ⟨a, len', cap', m, n, D, Pl, hcs, hb, hl, hm, hmm, hx, hi⟩
  · simp only [List.cons.injEq, Value.slice.injEq, and_true] at h0
    obtain ⟨rfl, rfl, rfl⟩ := h0
    exact ⟨[], rfl, Nat.le_refl _, Nat.zero_le _, Sl.nil, by simp⟩
  · simp only [List.cons.injEq, Value.slice.injEq, and_true] at hcs
    obtain ⟨rfl, rfl, rfl⟩ := hcs
    have hlm : len ≤ m := by rw [hmm]; split <;> omega
    have key : ∀ i, i < len → ∃ z : α, (∃ cs, cs.length = sz ∧ (∀ j, j < sz → w.cell? ((a.add (i * sz)).add j) = cs[j]?) ∧ R w cs z) ∧ Q z := by
      intro i hil
      obtain ⟨cs', hc, ht'⟩ := hi i (by omega)
      rw [hC] at hc
      obtain ⟨_, hcl, hat⟩ := World.cells?_some hc
      obtain ⟨z, hz, hq⟩ := helem n cs' _ hcl ht'
      exact ⟨z, ⟨cs', hcl, hat, hz⟩, hq⟩
    obtain ⟨l, hll, hlz⟩ := choose_list (p := fun i z => (∃ cs, cs.length = sz ∧ (∀ j, j < sz → w.cell? ((a.add (i * sz)).add j) = cs[j]?) ∧ R w cs z) ∧ Q z) len key
    refine ⟨l, hll, hl, hm, ?_, ?_⟩
    · intro i z hz
      obtain ⟨⟨cs, h1, h2, h3⟩, _⟩ := hlz i z hz
      have hil : i < len := by have := (List.getElem?_eq_some_iff.1 hz).1; omega
      -- the address has no spot: its first cell is there
      obtain ⟨⟨cs0, g1, g2, _⟩, _⟩ := hlz 0 _ (List.getElem?_eq_getElem (show 0 < l.length by omega))
      obtain ⟨b, off, spot⟩ := a
      have e0 := g2 0 hsz
      have hsome : ∃ u, cs0[0]? = some u := ⟨cs0[0]'(by omega), List.getElem?_eq_getElem (by omega)⟩
      obtain ⟨u, hu⟩ := hsome
      rw [hu] at e0
      have ea : ((⟨b, off, spot⟩ : Addr).add (0 * sz)).add 0 = ⟨b, off, spot⟩ := by simp [Addr.add]
      rw [ea] at e0
      have hspot : spot = none := by
        unfold World.cell? at e0
        split at e0
        · cases spot with
          | none => rfl
          | some s => simp at e0
        · cases e0
      subst hspot
      have hbl : b < w.heap.size := World.block_lt_of_cell? _ _ e0
      refine ⟨b, off, cs, rfl, hbl, .inl hbl, h1, ?_, h3⟩
      intro j v hj
      have hjs : j < sz := by have := (List.getElem?_eq_some_iff.1 hj).1; omega
      have := h2 j hjs
      rw [hj] at this
      have ea2 : (((⟨b, off, none⟩ : Addr).add (i * sz)).add j) = ⟨b, off + i * sz + j, none⟩ := by
        unfold Addr.add
        by_cases h1 : i * sz = 0 <;> by_cases h2 : j = 0 <;> simp [h1, h2]
      rwa [ea2] at this
    · intro z hz
      obtain ⟨i, hi, rfl⟩ := List.getElem_of_mem hz
      exact (hlz i _ (List.getElem?_eq_getElem hi)).2

/-- integers that fit int64. -/
def InI64 (n : Int) : Prop := -9223372036854775808 ≤ n ∧ n ≤ 9223372036854775807

theorem inI64_of_wf {n : Int} (h : (Lit.int .i64 n).wf = true) : InI64 n := by
  simp [Lit.wf] at h
  unfold InI64
  first
    | exact h
    | (simp [IntKind.min, IntKind.max] at h; omega)
    | skip
theorem int_cell {i : TypeId} {n : Nat} {cs : List Value} {y : DataW H × List MemPlace} (hi : P.underlying i = some (.int .i64)) (h : DataW.trod enc P w 0 spare held n i cs = some y) : ∃ a, cs = [.int .i64 a] ∧ InI64 a := by
  obtain ⟨n0, e0, _, w0⟩ := DataW.trod_int hi h
  exact ⟨n0, e0, inI64_of_wf w0⟩

theorem slice_arg {α : Type} {R : World → List Value → α → Prop} {sz : Nat} {Q : α → Prop} {t e : TypeId} (ht : P.underlying t = some (.slice e)) (hC : P.cellsOf e = sz) (hsz : 0 < sz)
    (helem : ∀ (n : Nat) (cs : List Value) (y : DataW H × List MemPlace), cs.length = sz → DataW.trod enc P w 0 spare held n e cs = some y → ∃ z : α, R w cs z ∧ Q z)
    {A : Option Addr} {len cap : Nat} {d : DataW H} {p : List MemPlace} (h : DataW.Trod enc P w 0 spare held t (.slice A len cap) d p) :
    ∃ l : List α, l.length = len ∧ len ≤ maxLen ∧ Sl w.heap.size e R sz w A l ∧ ∀ z ∈ l, Q z := by
  obtain ⟨fuel, hf⟩ := h
  obtain ⟨l, hl, h1, h2, h3, h4⟩ := sl_of_trod (R := R) ht hC hsz helem hf
  exact ⟨l, hl, by omega, h3, h4⟩
end

end Go.Proofs.YtbkmgbckeaimdaaDoor

namespace Go.Proofs.YtbkmgbckeaimdaaDoor
open Go Go.RowKit Go.ChangeShapes Go.WideShapes Go.Deep

theorem own : ownKnob Tryd.prog.godebug = none := by kernel_rfl
theorem laidOut : laidOutB Tryd.prog = true := by kernel_rfl
theorem cells_int : Tryd.prog.cellsOf 3 = 1 := by kernel_rfl

section
variable {H : Type} {enc : TypeId × Value → H} {w : World} {spare : Nat → Bool} {held : Bool}

end
end Go.Proofs.YtbkmgbckeaimdaaDoor

namespace Go.Proofs.YtbkmgbckeaimdaaDoor
open Go Go.RowKit

/-- the cells f 0, .., f (n - 1). -/
def rowF (n : Nat) (f : Nat → Value) : Array Value := Array.ofFn (fun i : Fin n => f i)
theorem rowF_get {n : Nat} (f : Nat → Value) {i : Nat} (h : i < n) : (rowF n f)[i]? = some (f i) := by simp [rowF, h]
theorem rowF_set (n : Nat) (f : Nat → Value) (i : Nat) (u : Value) : (rowF n f).setIfInBounds i u = rowF n (fun j => if j = i then u else f j) := by
  apply Array.ext
  · simp [rowF]
  · intro j h1 h2
    simp only [rowF, Array.size_setIfInBounds, Array.size_ofFn] at h1
    by_cases hij : i = j
    · subst hij; simp [rowF]
    · rw [Array.getElem_setIfInBounds_ne (by simpa [rowF] using h1) hij]
      simp [rowF, show ¬ j = i from fun e => hij e.symm]
theorem rowF_congr {n : Nat} {f g : Nat → Value} (h : ∀ i, i < n → f i = g i) : rowF n f = rowF n g := by
  unfold rowF
  congr 1
  funext i
  exact h i i.isLt
/-- block b is just these cells of type e, none frozen. -/
def Blk (w : World) (b : Nat) (e : TypeId) (cs : Array Value) : Prop := w.heap[b]? = some (.cells cs e (0, 0))

section
variable {w w' : World} {b : Nat} {e : TypeId} {cs : Array Value}
theorem Blk.lt (h : Blk w b e cs) : b < w.heap.size := (Array.getElem?_eq_some_iff.1 h).1
theorem Blk.ty (h : Blk w b e cs) : tyAt w b = some e := by unfold tyAt; rw [h]
theorem Blk.cell (h : Blk w b e cs) {i : Nat} {u : Value} (hu : cs[i]? = some u) : w.cell? ⟨b, i, none⟩ = some u := (cell_of_row w b i cs e (0, 0) h).trans hu
theorem Blk.ce (h : Blk w b e cs) (i : Nat) (u : Value) (hu : cs[i]? = some u) : w.cell? ⟨b, i, none⟩ = some u := h.cell hu
theorem Blk.frozen (h : Blk w b e cs) (i : Nat) : w.frozen? ⟨b, i, none⟩ = false := by
  unfold Blk at h
  simp [World.frozen?, h]
theorem Blk.new (w : World) (e : TypeId) (cs : Array Value) : Blk (w.alloc (.cells cs e)) w.heap.size e cs := heap_alloc_new w _
theorem Blk.ext (h : Blk w b e cs) (x : Ext w w') : Blk w' b e cs := (x.blockAt h.lt).trans h
theorem Blk.chg {B : Nat} {ts : List TypeId} (h : Blk w b e cs) (x : Chg B ts w w') (he : e ∉ ts) : Blk w' b e cs := by
  refine (x.block b h.lt (.inr fun t ht h2 => ?_)).trans h
  rw [h.ty] at h2
  injection h2 with h2
  exact he (h2 ▸ ht)
theorem Blk.set (h : Blk w b e cs) (i : Nat) (u : Value) : Blk (w.setCell ⟨b, i, none⟩ u) b e (cs.setIfInBounds i u) := by
  unfold Blk at h ⊢
  simp [World.setCell, Array.getElem?_modify, h]
theorem Blk.far (h : Blk w b e cs) {p : Addr} (hp : b ≠ p.block) (u : Value) : Blk (w.setCell p u) b e cs := (Below.heap_setCell w p u b hp).trans h
theorem Blk.alloc (h : Blk w b e cs) (o : Obj) : Blk (w.alloc o) b e cs := h.ext ((Ext.refl w).alloc o)
theorem Blk.other (h : Blk w b e cs) {k : Nat} (ho : ∀ j, j ≠ k → w'.heap[j]? = w.heap[j]?) (hb : b ≠ k) : Blk w' b e cs := (ho b hb).trans h
end

section
variable {P : Program} {ops : Array Oper} {rest : List Oper} {o : Oper} {a : Act} {w : World} {Q : Exit → Act → World → Prop} {K : Act → World → Prop} {t : TypeId} {n : Nat}

/-- which operation stands next: the guard of an arm. -/
theorem at_op {ty : TypeId} {pos : String} {after : Array Edge} {g : Option (Nat × Bool)} (dst : Option Tmp) (op : Op) (h : wpList P ops Q (⟨dst, op, ty, pos, after, g⟩ :: rest) a w) : wpList P ops Q (⟨dst, op, ty, pos, after, g⟩ :: rest) a w := h

end

end Go.Proofs.YtbkmgbckeaimdaaDoor

namespace Go.Proofs.YtbkmgbckeaimdaaDoor
open Go Go.RowKit Go.ChangeShapes Go.WideShapes Go.Deep Go.Joins

/-- a box: its cube's two integers, and its spans. -/
def RBox (B : Nat) (w : World) (cs : List Value) (b : Box) : Prop := ∃ v, cs = [.int .i64 b.cube.yes, .int .i64 b.cube.no, v] ∧ IsSpans B w v b.spans
theorem RBox.mono {B : Nat} {ts : List TypeId} (h : 56 ∉ ts) : Mono B ts (RBox B) := by
  rintro w w' cs b x ⟨v, rfl, hv⟩
  exact ⟨v, rfl, hv.chg RPair.mono h x⟩
theorem RBox.oneC {B : Nat} : OneC (RBox B) := by
  rintro w cs b ⟨v, rfl, A, c, rfl, _⟩ u hu
  simp at hu
  rcases hu with rfl | rfl | rfl <;> rfl
abbrev SlBoxes (B : Nat) := Sl B 51 (RBox B) 3
theorem Sl.box {B : Nat} {w : World} {A : Option Addr} {l : List Box} (h : SlBoxes B w A l) {i : Nat} (hi : i < l.length) :
    ∃ b off A' c', A = some ⟨b, off, none⟩ ∧ b < w.heap.size ∧ w.cell? ⟨b, off + i * 3, none⟩ = some (.int .i64 l[i].cube.yes) ∧ w.cell? ⟨b, off + i * 3 + 1, none⟩ = some (.int .i64 l[i].cube.no) ∧
      w.cell? ⟨b, off + i * 3 + 2, none⟩ = some (.slice A' l[i].spans.length c') ∧ l[i].spans.length ≤ maxLen ∧ SlSpans B w A' l[i].spans := by
  obtain ⟨b, off, cs, hA, hb, _, hc, v, rfl, A', c', rfl, h1, h2, h3⟩ := h.at_ hi
  have g0 := hc 0 _ rfl
  have g1 := hc 1 _ rfl
  have g2 := hc 2 _ rfl
  simp only [Nat.add_zero] at g0
  exact ⟨b, off, A', c', hA, hb, g0, g1, g2, by omega, h3⟩

section
variable {H : Type} {enc : TypeId × Value → H} {w : World} {spare : Nat → Bool} {held : Bool}

theorem cells_node : Tryd.prog.cellsOf 39 = 3 := by kernel_rfl
theorem node_gen {P : Program} {t i : TypeId} {f0 f1 f2 : Field} (ht : P.underlying t = some (.struct #[f0, f1, f2])) (hi : P.underlying i = some (.int .i64)) (h0 : f0.type = i ∧ f0.offset = 0) (h1 : f1.type = i ∧ f1.offset = 1) (h2 : f2.type = i ∧ f2.offset = 2) (hc : P.cellsOf i = 1)
    (n : Nat) (cs : List Value) (y : DataW H × List MemPlace) (hl : cs.length = 3) (h : DataW.trod enc P w 0 spare held n t cs = some y) : ∃ a b c, cs = [.int .i64 a, .int .i64 b, .int .i64 c] ∧ InI64 a ∧ InI64 b ∧ InI64 c := by
  obtain ⟨xs, m, _, _, _, hx, hg⟩ := DataW.trod_struct ht h
  match cs, hl with
  | [c0, c1, c2], _ =>
    match xs, hx with
    | [y0, y1, y2], _ =>
      have g0 := hg 0 f0 rfl
      have g1 := hg 1 f1 rfl
      have g2 := hg 2 f2 rfl
      rw [h0.1, h0.2, hc] at g0
      rw [h1.1, h1.2, hc] at g1
      rw [h2.1, h2.2, hc] at g2
      obtain ⟨a, e0, w0⟩ := int_cell hi g0
      obtain ⟨b, e1, w1⟩ := int_cell hi g1
      obtain ⟨c, e2, w2⟩ := int_cell hi g2
      simp at e0 e1 e2
      subst e0 e1 e2
      exact ⟨a, b, c, rfl, w0, w1, w2⟩
theorem node_elem (n : Nat) (cs : List Value) (y : DataW H × List MemPlace) (hl : cs.length = 3) (h : DataW.trod enc Tryd.prog w 0 spare held n 39 cs = some y) : ∃ z : Node, RNode w cs z ∧ (InI64 z.kind ∧ InI64 z.a ∧ InI64 z.b) := by
  obtain ⟨a, b, c, h1, h2⟩ := node_gen (P := Tryd.prog) Tryd.underlying39 Tryd.underlying3 (And.intro rfl rfl) (And.intro rfl rfl) (And.intro rfl rfl) cells_int n cs y hl h
  exact ⟨⟨a, b, c⟩, h1, h2⟩
theorem open_nodes {A : Option Addr} {len cap : Nat} {d : DataW H} {p : List MemPlace} (h : DataW.Trod enc Tryd.prog w 0 spare held 26 (.slice A len cap) d p) :
    ∃ l : List Node, l.length = len ∧ len ≤ maxLen ∧ Sl w.heap.size 39 RNode 3 w A l ∧ ∀ z ∈ l, InI64 z.kind ∧ InI64 z.a ∧ InI64 z.b :=
  slice_arg Tryd.underlying26 cells_node (by omega) node_elem h

end
end Go.Proofs.YtbkmgbckeaimdaaDoor

namespace Go.Proofs.YtbkmgbckeaimdaaDoor
open Go Go.RowKit

section
variable {P : Program} {ops : Array Oper} {C : World → Prop} {Q : Act → Prop} {rest : List Oper} {a : Act} {dst : Option Tmp} {ty : TypeId} {pos : String} {after : Array Edge} {g : Option (Nat × Bool)}
theorem wp_region_class (C : World → Prop) {id : Nat} {Q : Exit → Act → World → Prop} {a : Act} {w : World} {l : List Oper} (hm : P.follows .mixedOrders = true) (hB : Region.lexB .any l.toArray = true) (hC : C w.drew)
    (h : wpQuiet P l.toArray C (fun a' => ∀ w', C w' → Q .normal a' w') l a) : (Code.region id l.toArray true).wp P Q a w :=
  wp_region_quiet (C := C) hm hB hC (by simpa using h)
theorem wpQuiet_read {o : Oper} {v : Value} (hw : Region.wanted o (yielded ops a.tmps) = true) (hy : ∀ w, C w → (execOp a.eval o).run P w = .ok (.value v) w) (h : wpQuiet P ops C Q rest (a.put o.dst v)) : wpQuiet P ops C Q (o :: rest) a := by
  unfold wpQuiet
  rw [if_pos hw]
  refine ⟨v, fun w hw' => ?_, h⟩
  unfold Oper.quietAt
  rw [hy w hw']
  exact ⟨rfl, rfl⟩
theorem wpQuiet_off {o : Oper} (hw : Region.wanted o (yielded ops a.tmps) = false) (h : wpQuiet P ops C Q rest (a.put o.dst undef)) : wpQuiet P ops C Q (o :: rest) a := by
  unfold wpQuiet
  rw [if_neg (by rw [hw]; simp)]
  exact h
theorem wpQuiet_call {f : FuncId} {xs : Array Operand} {ts : Array TypeId} {args : Array Value} {v : Value} (hcall : ∀ (av : Array Value) (w : World), (callFunc f av).run P w = .ok (.enter f av) w)
    (hw : Region.wanted (⟨dst, .call { callee := .value (.func f), args := xs, argTypes := ts }, ty, pos, after, g⟩ : Oper) (yielded ops a.tmps) = true) (ha : (xs.toList.map a.eval).toArray = args)
    (hc : ∀ w, C w → Calls P f args w fun e w' => e = .returned v ∧ C w')
    (h : wpQuiet P ops C Q rest (a.put dst v)) : wpQuiet P ops C Q (⟨dst, .call { callee := .value (.func f), args := xs, argTypes := ts }, ty, pos, after, g⟩ :: rest) a := by
  unfold wpQuiet
  rw [if_pos hw]
  refine ⟨v, fun w hw' => ?_, h⟩
  have hr : (execOp a.eval (⟨dst, .call { callee := .value (.func f), args := xs, argTypes := ts }, ty, pos, after, g⟩ : Oper)).run P w = .ok (.enter f args) w := by
    subst ha
    unfold execOp
    simp [resolve, invoke, Act.eval, hcall, go_sem]
    rw [← Array.toList_map]
  unfold Oper.quietAt
  rw [hr]
  exact ⟨rfl, hc w hw'⟩
theorem yields_at {l : List Oper} {ts : List Value} {j d : Nat} {o : Oper} {b : Bool} (h1 : l[j]? = some o) (h2 : o.dst = some d) (h3 : ts[d]? = some (.bool b)) : yielded l.toArray ts.toArray j = some b := by
  unfold yielded
  simp [h1, h2, h3]
/-- the same, shut: so that nobody unfolds it. -/
structure WQ (P : Program) (ops : Array Oper) (C : World → Prop) (Q : Act → Prop) (l : List Oper) (a : Act) : Prop where
  out : wpQuiet P ops C Q l a
theorem wq_region (C : World → Prop) {id : Nat} {Q : Exit → Act → World → Prop} {a : Act} {w : World} {l : List Oper} (hm : P.follows .mixedOrders = true) (hB : Region.lexB .any l.toArray = true) (hC : C w.drew)
    (h : WQ P l.toArray C (fun a' => ∀ w', C w' → Q .normal a' w') l a) : (Code.region id l.toArray true).wp P Q a w :=
  wp_region_class C hm hB hC h.out
theorem wq_nil (h : Q a) : WQ P ops C Q [] a := ⟨wpQuiet_nil h⟩
theorem wq_get {op : Op} {v : Value} (hy : ∀ w, C w → (execOp a.eval ⟨dst, op, ty, pos, after, none⟩).run P w = .ok (.value v) w) (h : WQ P ops C Q rest (a.put dst v)) : WQ P ops C Q (⟨dst, op, ty, pos, after, none⟩ :: rest) a :=
  ⟨wpQuiet_read rfl hy h.out⟩
theorem wq_getOn {op : Op} {v : Value} {j : Nat} {b : Bool} (hg : yielded ops a.tmps j = some b) (hy : ∀ w, C w → (execOp a.eval ⟨dst, op, ty, pos, after, some (j, b)⟩).run P w = .ok (.value v) w) (h : WQ P ops C Q rest (a.put dst v)) : WQ P ops C Q (⟨dst, op, ty, pos, after, some (j, b)⟩ :: rest) a :=
  ⟨wpQuiet_read (by simp [Region.wanted, hg]) hy h.out⟩
theorem wqg {op : Op} {D : World → Prop} (hA : ∀ w', C w' → D w') (v : Value) (h : WQ P ops C Q rest (a.put dst v)) (hy : ∀ w, D w → (execOp a.eval ⟨dst, op, ty, pos, after, none⟩).run P w = .ok (.value v) w := by (intro w' hA; (try dsimp only at hA); go_split_ands; go_simp <;> with_reducible rfl)) : WQ P ops C Q (⟨dst, op, ty, pos, after, none⟩ :: rest) a :=
  wq_get (fun w hw => hy w (hA w hw)) h
theorem wqo {op : Op} {j : Nat} {b : Bool} {D : World → Prop} (hA : ∀ w', C w' → D w') (v : Value) (hg : yielded ops a.tmps j = some b) (h : WQ P ops C Q rest (a.put dst v)) (hy : ∀ w, D w → (execOp a.eval ⟨dst, op, ty, pos, after, some (j, b)⟩).run P w = .ok (.value v) w := by (intro w' hA; (try dsimp only at hA); go_split_ands; go_simp <;> with_reducible rfl)) : WQ P ops C Q (⟨dst, op, ty, pos, after, some (j, b)⟩ :: rest) a :=
  wq_getOn hg (fun w hw => hy w (hA w hw)) h
theorem wq_skip {op : Op} {j : Nat} {b : Bool} (hg : yielded ops a.tmps j = some (!b)) (h : WQ P ops C Q rest (a.put dst undef)) : WQ P ops C Q (⟨dst, op, ty, pos, after, some (j, b)⟩ :: rest) a :=
  ⟨wpQuiet_off (by cases b <;> simp [Region.wanted, hg]) h.out⟩
theorem wq_call {f : FuncId} {xs : Array Operand} {ts : Array TypeId} {args : Array Value} {v : Value} (hcall : ∀ (av : Array Value) (w : World), (callFunc f av).run P w = .ok (.enter f av) w)
    (ha : (xs.toList.map a.eval).toArray = args) (hc : ∀ w, C w → Calls P f args w fun e w' => e = .returned v ∧ C w')
    (h : WQ P ops C Q rest (a.put dst v)) : WQ P ops C Q (⟨dst, .call { callee := .value (.func f), args := xs, argTypes := ts }, ty, pos, after, none⟩ :: rest) a :=
  ⟨wpQuiet_call hcall rfl ha hc h.out⟩
end
end Go.Proofs.YtbkmgbckeaimdaaDoor

namespace Go.Proofs.YtbkmgbckeaimdaaDoor
open Go Go.RowKit

section
variable {α : Type} {P : Program} {R : World → List Value → α → Prop} {sz bytes : Nat} {t e : TypeId} {w : World} {base B B' : Nat} {v : Value} {l ys : List α} {A : Option Addr} {c : Nat}
theorem step_app {ops : Array Oper} {dst : Option Tmp} {ty : TypeId} {pos : String} {after : Array Edge} {s x : Operand} {a : Act} {K : Act → World → Prop} {Q : Exit → Act → World → Prop} {E : Prop} (ei : ElemInfo P t e sz bytes)
    (hs : a.eval s = v) (hown : Own R sz e w base v l) (hB : B ≤ base) (hb : base ≤ w.heap.size) {e' : TypeId} (hx : a.eval x = .slice A ys.length c) (hsl : Sl B' e' R sz w A ys) (h1 : OneC R) (m : Mono B [e] R)
    (h63 : l.length + ys.length ≤ maxLen) (hby : (l.length + ys.length) * bytes ≤ 140737488355328)
    (h : ∀ v' w', Own R sz e w' base v' (l ++ ys) → Chg B [e] w w' → Below base w w' → w.grownBy w' v.ownBlock → K (a.put dst v') w') :
    if Region.wanted (⟨dst, .call { callee := .builtin .append, args := #[s, x], argTypes := #[t, t] }, ty, pos, after, none⟩ : Oper) (yielded ops a.tmps) = true then Oper.wp P ⟨dst, .call { callee := .builtin .append, args := #[s, x], argTypes := #[t, t] }, ty, pos, after, none⟩ a w K Q else E := by
  have hw : Region.wanted (⟨dst, .call { callee := .builtin .append, args := #[s, x], argTypes := #[t, t] }, ty, pos, after, none⟩ : Oper) (yielded ops a.tmps) = true := by simp [Region.wanted]
  rw [if_pos hw]
  obtain ⟨v', w', hr, h2, h3, h4, h5⟩ := run_app (P := P) (t := t) (ty := ty) (c := c) ei hown hB hb hsl h1 m h63 hby
  unfold Oper.wp execOp
  simp only [resolve, invoke, builtin, Sem.run_bind, Sem.run_pure, Result.andThen_ok, List.map_toArray, List.map_cons, List.map_nil, hs, hx, hr]
  exact h v' w' h2 h4 h5 h3

end
end Go.Proofs.YtbkmgbckeaimdaaDoor

namespace Go.Proofs.YtbkmgbckeaimdaaDoor
open Go Go.RowKit

section
variable {P : Program} {ops : Array Oper} {rest : List Oper} {o : Oper} {a : Act} {w : World} {Q : Exit → Act → World → Prop} {t e : TypeId}

theorem madeCells_one (z : Value) (n : Nat) : madeCells #[z] n = rowF n fun _ => z := by
  apply Array.ext
  · simp [madeCells, rowF]
  · intro i h1 h2
    have hm : i % 1 = 0 := Nat.mod_one i
    simp only [madeCells, rowF, Array.getElem_map, Array.getElem_ofFn]
    simp [hm]

/-- 'make([]T, n)', T of one cell: a row known whole, whose number has a name. -/
theorem wpList_makeArr {z : Value} {bytes : Nat} (ei : ElemInfo P t e 1 bytes) (hz0 : (P.info? e).bind (·.zero) = some z) (hzc : z.cells = #[z]) (x y : Operand) (ho : o.op = .makeSlice t x y) (hg : o.guard = none) (n : Nat) (hx : a.eval x = .int .i64 (n : Int)) (hy : a.eval y = .int .i64 (n : Int)) (hn : n * bytes ≤ 281474976710656) (h63 : n ≤ maxLen)
    (h : ∀ b w', w.heap.size = b → Ext w w' → Blk w' b e (rowF n fun _ => z) → w'.heap.size = b + 1 → wpList P ops Q rest (a.put o.dst (.slice (some ⟨b, 0, none⟩) n n)) w') : wpList P ops Q (o :: rest) a w := by
  obtain ⟨i, z', ht, hi, hz, hs, hb, hzs, h0⟩ := ei
  obtain rfl : z' = z := by rw [hi] at hz0; simp [hz] at hz0; exact hz0
  refine wpList_plain hg fun K hK => ?_
  have hr := run_make (P := P) w t e i z' ht hi hz .i64 .i64 n n (by omega) (by omega) (by rw [hb, Int.mul_comm]; omega) (by unfold maxLen at h63; omega)
  rw [Int.toNat_natCast, hs, Nat.mul_one, hzc, madeCells_one] at hr
  unfold Oper.wp execOp
  simp only [ho, hx, hy, Sem.run_bind, hr, Sem.run_pure, Result.andThen_ok]
  exact hK _ _ (h _ _ rfl ((Ext.refl w).alloc _) (Blk.new w e _) (by simp))
end

section
variable {α : Type} {P : Program} {R : World → List Value → α → Prop} {sz bytes : Nat} {t ty e : TypeId} {w : World} {B B' : Nat} {ys : List α} {A A0 : Option Addr} {c : Nat}

/-- what 'append(s[:0:0], s...)' leaves: the list in a row of its own, or nothing. -/
def OwnZ {α : Type} (R : World → List Value → α → Prop) (sz : Nat) (e : TypeId) (w : World) (base : Nat) (v : Value) (l : List α) : Prop :=
  Own R sz e w base v l ∨ (l = [] ∧ ∃ A, v = .slice A 0 0)

theorem OwnZ.isSl (B : Nat) {base : Nat} {v : Value} {l : List α} (h : OwnZ R sz e w base v l) : IsSl B e R sz w v l := by
  rcases h with h | ⟨rfl, A, rfl⟩
  · exact h.isSl B
  · exact ⟨A, 0, rfl, Nat.le_refl _, Nat.zero_le _, Sl.nil⟩

theorem OwnZ.ext {base : Nat} {v : Value} {l : List α} {w' : World} (m : Mono B [] R) (h : OwnZ R sz e w base v l) (x : Ext w w') : OwnZ R sz e w' base v l := h.imp (fun h => h.ext m x) id

end
end Go.Proofs.YtbkmgbckeaimdaaDoor
