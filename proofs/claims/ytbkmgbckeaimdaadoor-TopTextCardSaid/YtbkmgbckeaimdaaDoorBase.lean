/- Base: Rep, Data, SpanP, CubeP, FilP, Open, OpenP, Arr, FilD, Qext, Step, Make, FilQ, OwnE in one text: data, readings, plain laws, small walks. No condition. -/
import Derived.ChangeOld
import Derived.ChangeSame
import Derived.Deep.Draws
import Derived.Deep.Fields
import Derived.Deep.MidRow
import Derived.Deep.QuietTactic
import Derived.Deep.RegionLaw
import Derived.Deep.Slices
import Derived.Deep.WholeRow
import Derived.Laws.BitsAllLaws
import Derived.Laws.MakeOwn
import Derived.Laws.Tables
import Derived.Lib.SmallJoins
import Derived.Maps.AppendAt
import Derived.OpenShut
import Derived.ProofKit
import Derived.ShutString
import Derived.Test.YtbkmgbckeaimdaaDoorChecked
import Derived.Test.YtbkmgbckeaimdaaDoorProg
import Derived.WalkKit
namespace Go.Proofs.YtbkmgbckeaimdaaDoor
open Go Go.RowKit

theorem hid {p : Prop} (h : p) : Hid p := h
theorem ret_bool {a b : Bool} (h : a = b) : Ending.returned (.bool a) = .returned (.bool b) := by rw [h]
theorem ret_int {k : IntKind} {a b : Int} (h : a = b) : Ending.returned (.int k a) = .returned (.int k b) := by rw [h]
theorem len_beq {α : Type} [DecidableEq α] (l : List α) : ((l.length : Int) == 0) = decide (l = []) := by
  cases l with
  | nil => simp
  | cons a l => simp; omega

/-- the world w' is as w was, but for new blocks and draws. -/
def Ext (w w' : World) : Prop := Below w.heap.size w w'

namespace Ext
variable {a b c w : World}
theorem refl (w : World) : Ext w w := Below.refl _ _
theorem size (h : Ext a b) : a.heap.size ≤ b.heap.size := Below.size h
theorem trans (h : Ext a b) (k : Ext b c) : Ext a c := Below.trans h (Below.mono k h.size)
theorem alloc (h : Ext a w) (o : Obj) : Ext a (w.alloc o) := Below.alloc h h.size o
theorem drew (h : Ext a w) : Ext a w.drew := Below.drew h
theorem drewN (h : Ext a w) (n : Nat) : Ext a (w.drewN n) := by
  obtain ⟨h1, h2, h3, h4, h5⟩ := h
  exact ⟨h1, h2, h3, h4, h5⟩
theorem setCell (h : Ext a w) {p : Addr} (hp : a.heap.size ≤ p.block) (u : Value) : Ext a (w.setCell p u) := Below.setCell h hp u
theorem below {B : Nat} (h : Ext a w) (k : Below B w b) (hB : a.heap.size ≤ B) : Ext a b := Below.trans h (Below.mono k hB)
theorem cellAt (h : Ext a w) {k o : Nat} (hb : k < a.heap.size) : w.cell? ⟨k, o, none⟩ = a.cell? ⟨k, o, none⟩ := Below.cell (p := ⟨k, o, none⟩) h hb
theorem cell (h : Ext a w) {p : Addr} {u : Value} (hc : a.cell? p = some u) : w.cell? p = some u := (Below.cell h (World.block_lt_of_cell? _ p hc)).trans hc
theorem frozenAt (h : Ext a w) {k o : Nat} (hb : k < a.heap.size) : w.frozen? ⟨k, o, none⟩ = a.frozen? ⟨k, o, none⟩ := Below.frozen (p := ⟨k, o, none⟩) h hb
theorem blockAt (h : Ext a w) {k : Nat} (hb : k < a.heap.size) : w.heap[k]? = a.heap[k]? := Below.block h k hb
/-- what the walk needs of an older world. -/
theorem cells (h : Ext a w) : ∀ k o, k < a.heap.size → w.cell? ⟨k, o, none⟩ = a.cell? ⟨k, o, none⟩ := fun _ _ hb => h.cellAt hb
end Ext

/-- of what type the elements of block k are. -/
def tyAt (w : World) (k : Nat) : Option TypeId := match w.heap[k]? with | some (.cells _ e _) => some e | _ => none
theorem tyAt_of {w w' : World} {k : Nat} (h : w'.heap[k]? = w.heap[k]?) : tyAt w' k = tyAt w k := by unfold tyAt; rw [h]

/-- w' is w with new blocks, and with writes to blocks from B on whose elements are of the types ts alone. -/
structure Chg (B : Nat) (ts : List TypeId) (w w' : World) : Prop where
  os : w'.os = w.os
  tape : w'.tape = w.tape
  output : w'.output = w.output
  size : w.heap.size ≤ w'.heap.size
  block : ∀ k, k < w.heap.size → (k < B ∨ ∀ t ∈ ts, tyAt w k ≠ some t) → w'.heap[k]? = w.heap[k]?

namespace Chg
variable {B : Nat} {ts us : List TypeId} {a b c w w' : World}
theorem of_ext (h : Ext a b) : Chg B ts a b := ⟨Below.os h, Below.tape h, Below.output h, h.size, fun _ hk _ => h.blockAt hk⟩
theorem refl (w : World) : Chg B ts w w := of_ext (Ext.refl w)
theorem more (h : Chg B ts a b) (hs : ∀ t ∈ ts, t ∈ us) : Chg B us a b := ⟨h.os, h.tape, h.output, h.size, fun k hk hc => h.block k hk (hc.imp id fun g t ht => g t (hs t ht))⟩
theorem trans (h : Chg B ts a b) (k : Chg B ts b c) : Chg B ts a c := by
  refine ⟨k.os.trans h.os, k.tape.trans h.tape, k.output.trans h.output, Nat.le_trans h.size k.size, fun i hi hc => ?_⟩
  have h1 := h.block i hi hc
  refine (k.block i (Nat.lt_of_lt_of_le hi h.size) ?_).trans h1
  rcases hc with hc | hc
  · exact .inl hc
  · exact .inr fun t ht => by rw [tyAt_of h1]; exact hc t ht
theorem cell (h : Chg B ts a b) {k o : Nat} {u : Value} (hk : k < B ∨ ∀ t ∈ ts, tyAt a k ≠ some t) (hc : a.cell? ⟨k, o, none⟩ = some u) : b.cell? ⟨k, o, none⟩ = some u :=
  (World.cell?_of_block (w := a) (h.block k (World.block_lt_of_cell? _ _ hc) hk)).trans hc
/-- what was there when the call began, and not from B on, has not turned. -/
theorem ext (h : Chg B ts a b) (hB : a.heap.size ≤ B) : Ext a b := ⟨h.os, h.tape, h.output, h.size, fun k hk => h.block k hk (.inl (by omega))⟩
theorem setCell (h : Chg B ts a w) {p : Addr} {t : TypeId} (ht : tyAt w p.block = some t) (hm : t ∈ ts) (u : Value) (hB : B ≤ p.block) : Chg B ts a (w.setCell p u) := by
  refine h.trans ⟨rfl, rfl, rfl, by simp [World.setCell], fun k hk hc => Below.heap_setCell _ _ _ _ ?_⟩
  rintro rfl
  rcases hc with hc | hc
  · omega
  · exact hc t hm ht
end Chg

/-- cells one behind the other. -/
def CellsAt (w : World) (b off : Nat) (cs : List Value) : Prop := ∀ j u, cs[j]? = some u → w.cell? ⟨b, off + j, none⟩ = some u

/-- a block of old memory, or of elements of type e. -/
def Okb (B : Nat) (e : TypeId) (w : World) (b : Nat) : Prop := b < B ∨ tyAt w b = some e

/-- the element's cells of a slice from address A on: element i's cells read as the list's i-th. -/
def Sl {α : Type} (B : Nat) (e : TypeId) (R : World → List Value → α → Prop) (sz : Nat) (w : World) (A : Option Addr) (l : List α) : Prop :=
  ∀ i x, l[i]? = some x → ∃ b off cs, A = some ⟨b, off, none⟩ ∧ b < w.heap.size ∧ Okb B e w b ∧ cs.length = sz ∧ CellsAt w b (off + i * sz) cs ∧ R w cs x

/-- a slice value that reads as a list. -/
def IsSl {α : Type} (B : Nat) (e : TypeId) (R : World → List Value → α → Prop) (sz : Nat) (w : World) (v : Value) (l : List α) : Prop :=
  ∃ A c, v = .slice A l.length c ∧ l.length ≤ c ∧ c ≤ maxLen ∧ Sl B e R sz w A l

/-- a reading that stays when the world turns in blocks of the types ts alone. -/
def Mono {α : Type} (B : Nat) (ts : List TypeId) (R : World → List Value → α → Prop) : Prop := ∀ (w w' : World) (cs : List Value) (x : α), Chg B ts w w' → R w cs x → R w' cs x

theorem CellsAt.chg {w w' : World} {B : Nat} {ts : List TypeId} {b off : Nat} {cs : List Value} (h : CellsAt w b off cs) (x : Chg B ts w w') (hb : b < B ∨ ∀ t ∈ ts, tyAt w b ≠ some t) : CellsAt w' b off cs :=
  fun j u hj => x.cell hb (h j u hj)

section
variable {α : Type} {B : Nat} {e : TypeId} {ts : List TypeId} {R : World → List Value → α → Prop} {sz : Nat} {w w' : World} {A : Option Addr} {v : Value} {l : List α}

theorem Sl.chg (m : Mono B ts R) (he : e ∉ ts) (h : Sl B e R sz w A l) (x : Chg B ts w w') : Sl B e R sz w' A l := by
  intro i y hy
  obtain ⟨b, off, cs, hA, hb, hk, hl, hc, hR⟩ := h i y hy
  have ho : b < B ∨ ∀ t ∈ ts, tyAt w b ≠ some t := by
    rcases hk with hk | hk
    · exact .inl hk
    · refine .inr fun t ht h2 => ?_
      rw [hk] at h2
      injection h2 with h2
      exact he (h2 ▸ ht)
  refine ⟨b, off, cs, hA, Nat.lt_of_lt_of_le hb x.size, ?_, hl, hc.chg x ho, m _ _ _ _ x hR⟩
  rcases hk with hk | hk
  · exact .inl hk
  · exact .inr ((tyAt_of (x.block b hb ho)).trans hk)

theorem Sl.ext (m : Mono B [] R) (h : Sl B e R sz w A l) (x : Ext w w') : Sl B e R sz w' A l := h.chg m (by simp) (.of_ext x)

theorem IsSl.chg (m : Mono B ts R) (he : e ∉ ts) (h : IsSl B e R sz w v l) (x : Chg B ts w w') : IsSl B e R sz w' v l := by
  obtain ⟨A, c, hv, h1, h2, hs⟩ := h
  exact ⟨A, c, hv, h1, h2, hs.chg m he x⟩

theorem IsSl.ext (m : Mono B [] R) (h : IsSl B e R sz w v l) (x : Ext w w') : IsSl B e R sz w' v l := h.chg m (by simp) (.of_ext x)

theorem Sl.nil : Sl B e R sz w A ([] : List α) := by
  intro i x h; simp at h

theorem IsSl.nil : IsSl B e R sz w (.slice none 0 0) ([] : List α) := ⟨none, 0, rfl, Nat.le_refl _, Nat.zero_le _, Sl.nil⟩

/-- the cells of an element: what a round asks. -/
theorem Sl.at_ (h : Sl B e R sz w A l) {i : Nat} (hi : i < l.length) :
    ∃ b off cs, A = some ⟨b, off, none⟩ ∧ b < w.heap.size ∧ cs.length = sz ∧ CellsAt w b (off + i * sz) cs ∧ R w cs l[i] := by
  obtain ⟨b, off, cs, h1, h2, _, h3, h4, h5⟩ := h i _ (List.getElem?_eq_getElem hi)
  exact ⟨b, off, cs, h1, h2, h3, h4, h5⟩

theorem Sl.old {B' : Nat} (m : ∀ cs x, R w cs x → R w cs x) (h : Sl B e R sz w A l) (hB : B ≤ B') : Sl B' e R sz w A l := by
  intro i y hy
  obtain ⟨b, off, cs, hA, hb, hk, hl, hc, hR⟩ := h i y hy
  exact ⟨b, off, cs, hA, hb, hk.imp (fun h => by omega) id, hl, hc, m _ _ hR⟩
end

/-! integers, and structs whose fields are integers: their cells are known. -/
def RInt (_ : World) (cs : List Value) (n : Int) : Prop := cs = [.int .i64 n]
theorem RInt.mono {B : Nat} {ts : List TypeId} : Mono B ts RInt := fun _ _ _ _ _ h => h
theorem Sl.int {B : Nat} {e : TypeId} {w : World} {A : Option Addr} {l : List Int} (h : Sl B e RInt 1 w A l) {i : Nat} (hi : i < l.length) : ∃ b off, A = some ⟨b, off, none⟩ ∧ b < w.heap.size ∧ w.cell? ⟨b, off + i, none⟩ = some (.int .i64 l[i]) := by
  obtain ⟨b, off, cs, hA, hb, _, hc, rfl⟩ := h.at_ hi
  have := hc 0 _ rfl
  simp only [Nat.mul_one, Nat.add_zero] at this
  exact ⟨b, off, hA, hb, this⟩

/-- a struct of two integers. -/
def RPair {α : Type} (f g : α → Int) (_ : World) (cs : List Value) (x : α) : Prop := cs = [.int .i64 (f x), .int .i64 (g x)]
theorem RPair.mono {α : Type} {f g : α → Int} {B : Nat} {ts : List TypeId} : Mono B ts (RPair f g) := fun _ _ _ _ _ h => h
theorem Sl.pair {α : Type} {f g : α → Int} {B : Nat} {e : TypeId} {w : World} {A : Option Addr} {l : List α} (h : Sl B e (RPair f g) 2 w A l) {i : Nat} (hi : i < l.length) :
    ∃ b off, A = some ⟨b, off, none⟩ ∧ b < w.heap.size ∧ w.cell? ⟨b, off + i * 2, none⟩ = some (.int .i64 (f l[i])) ∧ w.cell? ⟨b, off + i * 2 + 1, none⟩ = some (.int .i64 (g l[i])) := by
  obtain ⟨b, off, cs, hA, hb, _, hc, rfl⟩ := h.at_ hi
  have h0 := hc 0 _ rfl
  have h1 := hc 1 _ rfl
  simp only [Nat.add_zero] at h0
  exact ⟨b, off, hA, hb, h0, h1⟩

/-- a struct of three integers. -/
def RTrip {α : Type} (f g k : α → Int) (_ : World) (cs : List Value) (x : α) : Prop := cs = [.int .i64 (f x), .int .i64 (g x), .int .i64 (k x)]
theorem RTrip.mono {α : Type} {f g k : α → Int} {B : Nat} {ts : List TypeId} : Mono B ts (RTrip f g k) := fun _ _ _ _ _ h => h
theorem Sl.trip {α : Type} {f g k : α → Int} {B : Nat} {e : TypeId} {w : World} {A : Option Addr} {l : List α} (h : Sl B e (RTrip f g k) 3 w A l) {i : Nat} (hi : i < l.length) :
    ∃ b off, A = some ⟨b, off, none⟩ ∧ b < w.heap.size ∧ w.cell? ⟨b, off + i * 3, none⟩ = some (.int .i64 (f l[i])) ∧ w.cell? ⟨b, off + i * 3 + 1, none⟩ = some (.int .i64 (g l[i])) ∧ w.cell? ⟨b, off + i * 3 + 2, none⟩ = some (.int .i64 (k l[i])) := by
  obtain ⟨b, off, cs, hA, hb, _, hc, rfl⟩ := h.at_ hi
  have h0 := hc 0 _ rfl
  have h1 := hc 1 _ rfl
  have h2 := hc 2 _ rfl
  simp only [Nat.add_zero] at h0
  exact ⟨b, off, hA, hb, h0, h1, h2⟩

/-! a row of the call's own. -/
/-- the row that v owns among the blocks from base on reads as the list l. -/
def Own {α : Type} (R : World → List Value → α → Prop) (sz : Nat) (e : TypeId) (w : World) (base : Nat) (v : Value) (l : List α) : Prop :=
  ∃ xs : List (List Value), xs.length = l.length ∧ (∀ (i : Nat) (cs : List Value) (x : α), xs[i]? = some cs → l[i]? = some x → cs.length = sz ∧ R w cs x) ∧ w.ownsRow base e sz v l.length xs.flatten

theorem flatten_get {α : Type} (sz : Nat) : ∀ (xs : List (List α)) (_ : ∀ cs ∈ xs, cs.length = sz) (i j : Nat) (cs : List α), xs[i]? = some cs → j < sz → xs.flatten[i * sz + j]? = cs[j]? := by
  intro xs
  induction xs with
  | nil => intro _ i j cs h; simp at h
  | cons y ys ih =>
    intro hl i j cs h hj
    have hy : y.length = sz := hl y (by simp)
    rw [List.flatten_cons]
    cases i with
    | zero =>
      simp at h; subst h
      rw [Nat.zero_mul, Nat.zero_add, List.getElem?_append_left (by omega)]
    | succ i =>
      have h' : ys[i]? = some cs := by simpa using h
      rw [List.getElem?_append_right (by rw [hy, Nat.succ_mul]; omega), hy]
      have e : (i + 1) * sz + j - sz = i * sz + j := by rw [Nat.succ_mul]; omega
      rw [e]
      exact ih (fun c hc => hl c (by simp [hc])) i j cs h' hj

theorem flatten_back {α : Type} (sz : Nat) (hsz : 0 < sz) : ∀ (xs : List (List α)) (_ : ∀ cs ∈ xs, cs.length = sz) (q : Nat) (u : α), xs.flatten[q]? = some u → ∃ cs, xs[q / sz]? = some cs ∧ cs[q % sz]? = some u := by
  intro xs hl q u hq
  have hlen : ∀ (ys : List (List α)), (∀ cs ∈ ys, cs.length = sz) → ys.flatten.length = ys.length * sz := by
    intro ys
    induction ys with
    | nil => simp
    | cons y ys ih => intro h; simp [h y (by simp), ih (fun c hc => h c (by simp [hc])), Nat.succ_mul, Nat.add_comm]
  have hq1 : q < xs.length * sz := by rw [← hlen xs hl]; exact (List.getElem?_eq_some_iff.1 hq).1
  have hd : q / sz < xs.length := Nat.div_lt_of_lt_mul (by rw [Nat.mul_comm]; exact hq1)
  refine ⟨xs[q / sz], List.getElem?_eq_getElem hd, ?_⟩
  rw [← flatten_get sz xs hl (q / sz) (q % sz) _ (List.getElem?_eq_getElem hd) (Nat.mod_lt _ hsz)]
  have : q / sz * sz + q % sz = q := by rw [Nat.mul_comm]; exact Nat.div_add_mod q sz
  rw [this]; exact hq

section
variable {α : Type} {B : Nat} {R : World → List Value → α → Prop} {sz : Nat} {e : TypeId} {w w' : World} {base : Nat} {v : Value} {l : List α}

theorem Own.nil : Own R sz e w base (.slice none 0 0) ([] : List α) := ⟨[], rfl, by intro i cs x h; simp at h, World.ownsRow_nil _ _ _ _⟩

theorem Own.len (h : Own R sz e w base v l) : ∃ A c, v = .slice A l.length c ∧ l.length ≤ c ∧ c ≤ maxLen := by
  obtain ⟨xs, _, _, ho⟩ := h
  rcases ho.2 with ⟨hv, hn⟩ | ⟨g, cap, cur, hv, _, _, h1, h2, _⟩
  · exact ⟨none, 0, by rw [hv, hn], by omega, Nat.zero_le _⟩
  · exact ⟨_, cap, hv, h1, h2⟩

/-- where the row lies. -/
theorem Own.at_ (h : Own R sz e w base v l) : (v = .slice none 0 0 ∧ l = []) ∨ ∃ g c, v = .slice (some ⟨g, 0, none⟩) l.length c ∧ base ≤ g ∧ g < w.heap.size ∧ tyAt w g = some e ∧ (∀ o, w.frozen? ⟨g, o, none⟩ = false) ∧
    ∀ i x, l[i]? = some x → ∃ cs, cs.length = sz ∧ CellsAt w g (i * sz) cs ∧ R w cs x := by
  obtain ⟨xs, hx, hR, ho⟩ := h
  have hall : ∀ cs ∈ xs, cs.length = sz := by
    intro cs hcs
    obtain ⟨i, hi, rfl⟩ := List.getElem_of_mem hcs
    exact (hR i _ _ (List.getElem?_eq_getElem hi) (List.getElem?_eq_getElem (by omega))).1
  rcases ho.2 with ⟨rfl, hn⟩ | ⟨g, cap, cur, rfl, hb, hg, h1, h2, h3, h4⟩
  · exact .inl ⟨rfl, List.eq_nil_of_length_eq_zero hn⟩
  · refine .inr ⟨g, cap, rfl, hb, (Array.getElem?_eq_some_iff.1 hg).1, by unfold tyAt; rw [hg], fun o => by simp [World.frozen?, hg], ?_⟩
    intro i x hix
    have hil : i < l.length := (List.getElem?_eq_some_iff.1 hix).1
    have hxi : xs[i]? = some xs[i] := List.getElem?_eq_getElem (by omega)
    obtain ⟨hlen, hr⟩ := hR i _ _ hxi hix
    refine ⟨xs[i], hlen, ?_, hr⟩
    intro j u hj
    have hj' : j < sz := by have := (List.getElem?_eq_some_iff.1 hj).1; omega
    have := ho.cells (g := g) rfl (i * sz + j) u (by rw [flatten_get sz xs hall i j _ hxi hj']; exact hj)
    have e1 : (⟨g, 0, none⟩ : Addr).add (i * sz + j) = ⟨g, i * sz + j, none⟩ := by unfold Addr.add; split <;> simp_all
    rwa [e1] at this

theorem Own.isSl (B : Nat) (h : Own R sz e w base v l) : IsSl B e R sz w v l := by
  obtain ⟨A, c, hv, h1, h2⟩ := h.len
  refine ⟨A, c, hv, h1, h2, ?_⟩
  rcases h.at_ with ⟨_, rfl⟩ | ⟨g, c', hv', hb, hlt, ht, _, hc⟩
  · exact Sl.nil
  · rw [hv] at hv'
    injection hv' with hA _ _
    subst hA
    intro i x hix
    obtain ⟨cs, h3, h4, h5⟩ := hc i x hix
    exact ⟨g, 0, cs, rfl, hlt, .inr ht, h3, by rw [Nat.zero_add]; exact h4, h5⟩

theorem Own.chg {ts : List TypeId} (m : Mono B ts R) (h : Own R sz e w base v l) (x : Chg B ts w w') (hk : ∀ g, v.ownBlock = some g → w'.heap[g]? = w.heap[g]?) : Own R sz e w' base v l := by
  obtain ⟨xs, hx, hR, ho⟩ := h
  refine ⟨xs, hx, fun i cs y h1 h2 => ⟨(hR i cs y h1 h2).1, m _ _ _ _ x (hR i cs y h1 h2).2⟩, ho.1, ?_⟩
  rcases ho.2 with hn | ⟨g, cap, cur, rfl, hb, hgg, rest⟩
  · exact .inl hn
  · exact .inr ⟨g, cap, cur, rfl, hb, (hk g (by simp [Value.ownBlock])).trans hgg, rest⟩

theorem Own.lt (h : Own R sz e w base v l) {g : Nat} (hg : v.ownBlock = some g) : base ≤ g ∧ g < w.heap.size := by
  obtain ⟨xs, _, _, ho⟩ := h
  exact ho.lt g hg

theorem Own.ext (m : Mono B [] R) (h : Own R sz e w base v l) (x : Ext w w') : Own R sz e w' base v l :=
  h.chg m (.of_ext x) fun _ hg => x.blockAt (h.lt hg).2

/-- what an append leaves: blocks of the row's own type alone have turned. -/
theorem Own.chg_of (h : Own R sz e w base v l) (hB : B ≤ base) (hg : w.grownBy w' v.ownBlock) : Chg B [e] w w' := by
  refine ⟨hg.os, hg.tape, hg.output, hg.size, fun k hk hc => hg.block k hk fun he => ?_⟩
  rcases h.at_ with ⟨rfl, _⟩ | ⟨g, c, rfl, hb, _, ht, _⟩
  · simp [Value.ownBlock] at he
  · simp [Value.ownBlock] at he
    subst he
    rcases hc with hc | hc
    · omega
    · exact hc e (by simp) ht

theorem Own.below_of (h : Own R sz e w base v l) (hg : w.grownBy w' v.ownBlock) (hb : base ≤ w.heap.size) : Below base w w' :=
  (Below.refl base w).grown hg hb fun _ hk => (h.lt hk).1
end

/-- the row of the type table that an append asks for. -/
def ElemInfo (P : Program) (t e : TypeId) (sz bytes : Nat) : Prop :=
  ∃ i z, P.underlying t = some (.slice e) ∧ P.info? e = some i ∧ i.zero = some z ∧ i.size = sz ∧ i.bytes = bytes ∧ z.cells.size = sz ∧ 0 < sz

theorem ElemInfo.mk_ {P : Program} {t e : TypeId} {z : Value} {sz bytes : Nat} (ht : P.underlying t = some (.slice e)) (hi : (P.info? e).map (fun i => (i.zero, i.size, i.bytes)) = some (some z, sz, bytes)) (hz : z.cells.size = sz) (hs : 0 < sz) : ElemInfo P t e sz bytes := by
  cases h : P.info? e with
  | none => rw [h] at hi; cases hi
  | some i =>
    rw [h] at hi
    simp only [Option.map_some, Option.some.injEq, Prod.mk.injEq] at hi
    exact ⟨i, z, ht, h, hi.1, hi.2.1, hi.2.2, hz, hs⟩

/-- every cell of a reading holds the value of one cell. -/
def OneC {α : Type} (R : World → List Value → α → Prop) : Prop := ∀ w cs x, R w cs x → ∀ u ∈ cs, u.oneCell' = true

theorem RInt.oneC : OneC RInt := by rintro w cs x rfl u hu; simp at hu; subst hu; rfl
theorem RPair.oneC {α : Type} {f g : α → Int} : OneC (RPair f g) := by
  rintro w cs x rfl u hu
  simp at hu
  rcases hu with rfl | rfl <;> rfl
theorem RTrip.oneC {α : Type} {f g k : α → Int} : OneC (RTrip f g k) := by
  rintro w cs x rfl u hu
  simp at hu
  rcases hu with rfl | rfl | rfl <;> rfl

section
variable {α : Type} {P : Program} {R : World → List Value → α → Prop} {sz bytes : Nat} {t ty e : TypeId} {w : World} {base B B' : Nat} {v : Value} {l ys : List α} {A : Option Addr} {c : Nat}

theorem run_app_nil (ei : ElemInfo P t e sz bytes) (hown : Own R sz e w base v l) (A : Option Addr) (c : Nat) : (Builtin.append_ #[t, t] ty #[v, .slice A 0 c]).run P w = .ok v w := by
  obtain ⟨i, z, ht, hi, hz, hs, hb, hzs, h0⟩ := ei
  obtain ⟨xs, _, _, ho⟩ := hown
  rcases ho.2 with ⟨rfl, hn⟩ | ⟨g, cap, cur, rfl, _, _, hnc, _⟩
  · cases A <;> simp [Builtin.append_, run_underlying ht, sizeOf, typeInfo, hi, Builtin.lenOf, Builtin.firstCells, loadCells, loadCellsFrom]
  · cases A <;> simp [Builtin.append_, run_underlying ht, sizeOf, typeInfo, hi, Builtin.lenOf, Builtin.firstCells, hnc, storeCells, loadCells, loadCellsFrom]

theorem choose_list {β : Type} {p : Nat → β → Prop} : ∀ n : Nat, (∀ i, i < n → ∃ c, p i c) → ∃ zs : List β, zs.length = n ∧ ∀ i c, zs[i]? = some c → p i c := by
  intro n
  induction n with
  | zero => intro _; exact ⟨[], rfl, by simp⟩
  | succ n ih =>
    intro h
    obtain ⟨zs, hl, hz⟩ := ih fun i hi => h i (by omega)
    obtain ⟨c, hc⟩ := h n (by omega)
    refine ⟨zs ++ [c], by simp [hl], fun i d hd => ?_⟩
    by_cases hi : i < n
    · rw [List.getElem?_append_left (by omega)] at hd; exact hz i d hd
    · have : i = n := by
        have := (List.getElem?_eq_some_iff.1 hd).1
        simp [hl] at this
        omega
      subst this
      rw [List.getElem?_append_right (by omega), hl, Nat.sub_self] at hd
      simp at hd; subst hd; exact hc

theorem run_app2 (ei : ElemInfo P t e sz bytes) (hown : Own R sz e w base v l) (hB : B ≤ base) (hb : base ≤ w.heap.size) {e' : TypeId} (hs : Sl B' e' R sz w A ys) (h1 : OneC R) (m : Mono B [e] R)
    (h63 : l.length + ys.length ≤ maxLen) (hby : (l.length + ys.length) * bytes ≤ 140737488355328) :
    ∃ v' w', (Builtin.append_ #[t, t] ty #[v, .slice A ys.length c]).run P w = .ok v' w' ∧ Own R sz e w' base v' (l ++ ys) ∧ w.grownBy w' v.ownBlock ∧ Chg B [e] w w' ∧ Below base w w' ∧ (v'.ownBlock = v.ownBlock ∨ v'.ownBlock = some w.heap.size) := by
  by_cases hy : ys = []
  · subst hy
    refine ⟨v, w, run_app_nil ei hown A c, by simpa using hown, World.grownBy.refl w _, Chg.refl w, Below.refl _ _, .inl rfl⟩
  have hpos : 0 < ys.length := List.length_pos_iff.2 hy
  obtain ⟨b, off, _, rfl, _, _, _⟩ := hs.at_ hpos
  obtain ⟨zs, hzl, hz⟩ := choose_list (p := fun i cs => ∀ x, ys[i]? = some x → cs.length = sz ∧ CellsAt w b (off + i * sz) cs ∧ R w cs x) ys.length (by
    intro i hi
    obtain ⟨b', off', cs, hA, _, h3, h4, h5⟩ := hs.at_ hi
    injection hA with hA
    injection hA with hb' ho' _
    subst hb' ho'
    refine ⟨cs, fun x hx => ?_⟩
    rw [List.getElem?_eq_getElem hi] at hx
    injection hx with hx
    subst hx
    exact ⟨h3, h4, h5⟩)
  have hyi : ∀ i cs, zs[i]? = some cs → ∃ x, ys[i]? = some x := fun i cs h => ⟨ys[i]'(by have := (List.getElem?_eq_some_iff.1 h).1; omega), List.getElem?_eq_getElem _⟩
  have hzall : ∀ cs ∈ zs, cs.length = sz := by
    intro cs hcs
    obtain ⟨i, hi, rfl⟩ := List.getElem_of_mem hcs
    obtain ⟨x, hx⟩ := hyi i _ (List.getElem?_eq_getElem hi)
    exact (hz i _ (List.getElem?_eq_getElem hi) x hx).1
  have hsz0 : 0 < sz := by obtain ⟨_, _, _, _, _, _, _, _, h⟩ := ei; exact h
  have hnews : ∀ j u, zs.flatten[j]? = some u → w.cell? ((⟨b, off, none⟩ : Addr).add j) = some u := by
    intro j u hj
    obtain ⟨cs, h3, h4⟩ := flatten_back sz hsz0 zs hzall j u hj
    obtain ⟨x, hx⟩ := hyi _ _ h3
    have := (hz _ _ h3 x hx).2.1 _ u h4
    have e1 : off + j / sz * sz + j % sz = off + j := by
      have := Nat.div_add_mod j sz
      rw [Nat.mul_comm] at this
      omega
    rw [e1] at this
    unfold Addr.add
    split
    · subst_vars; simpa using this
    · exact this
  have hlen : zs.flatten.length = ys.length * sz := by
    rw [← hzl]
    clear hyi hz hnews hzl
    induction zs with
    | nil => simp
    | cons y ys ih => simp [hzall y (by simp), ih (fun c hc => hzall c (by simp [hc])), Nat.succ_mul, Nat.add_comm]
  have hone : ∀ u ∈ zs.flatten, u.oneCell' = true := by
    intro u hu
    obtain ⟨cs, hcs, hu⟩ := List.mem_flatten.1 hu
    obtain ⟨i, hi, rfl⟩ := List.getElem_of_mem hcs
    obtain ⟨x, hx⟩ := hyi i _ (List.getElem?_eq_getElem hi)
    exact h1 _ _ _ (hz i _ (List.getElem?_eq_getElem hi) x hx).2.2 u hu
  obtain ⟨i, z, ht, hi, hz0, hs0, hby0, hzs, _⟩ := ei
  obtain ⟨xs, hxl, hxR, ho⟩ := id hown
  obtain ⟨v', w', hrun, hown', hg, _, hob⟩ := run_append_own_at (P := P) w base t ty e i z sz bytes ht hi hz0 hs0 hby0 hzs hsz0 v l.length xs.flatten ho ⟨b, off, none⟩ ys.length c zs.flatten hlen hnews hone h63 hby hb
  have hc : Chg B [e] w w' := hown.chg_of hB hg
  refine ⟨v', w', hrun, ⟨xs ++ zs, by simp [hxl, hzl], ?_, by rw [List.length_append, List.flatten_append]; exact hown'⟩, hg, hc, hown.below_of hg hb, hob⟩
  intro k cs x hk hx
  by_cases hkl : k < l.length
  · rw [List.getElem?_append_left (by omega)] at hk hx
    exact ⟨(hxR k cs x hk hx).1, m _ _ _ _ hc (hxR k cs x hk hx).2⟩
  · rw [List.getElem?_append_right (by omega), hxl] at hk
    rw [List.getElem?_append_right (by omega)] at hx
    exact ⟨(hz _ _ hk x hx).1, m _ _ _ _ hc (hz _ _ hk x hx).2.2⟩

theorem run_app (ei : ElemInfo P t e sz bytes) (hown : Own R sz e w base v l) (hB : B ≤ base) (hb : base ≤ w.heap.size) {e' : TypeId} (hs : Sl B' e' R sz w A ys) (h1 : OneC R) (m : Mono B [e] R)
    (h63 : l.length + ys.length ≤ maxLen) (hby : (l.length + ys.length) * bytes ≤ 140737488355328) :
    ∃ v' w', (Builtin.append_ #[t, t] ty #[v, .slice A ys.length c]).run P w = .ok v' w' ∧ Own R sz e w' base v' (l ++ ys) ∧ w.grownBy w' v.ownBlock ∧ Chg B [e] w w' ∧ Below base w w' :=
  let ⟨v', w', h1', h2', h3', h4', h5', _⟩ := run_app2 ei hown hB hb hs h1 m h63 hby
  ⟨v', w', h1', h2', h3', h4', h5'⟩

/-- append to a row of the call's own, as an operation of the walk. -/
theorem wpList_app {ops : Array Oper} {rest : List Oper} {o : Oper} {a : Act} {Q : Exit → Act → World → Prop} (hgd : o.guard = none) (s x : Operand)
    (ho : o.op = .call { callee := .builtin .append, args := #[s, x], argTypes := #[t, t] }) (ei : ElemInfo P t e sz bytes)
    (hs : a.eval s = v) (hown : Own R sz e w base v l) (hB : B ≤ base) (hb : base ≤ w.heap.size) {e' : TypeId} (hx : a.eval x = .slice A ys.length c) (hsl : Sl B' e' R sz w A ys) (h1 : OneC R) (m : Mono B [e] R)
    (h63 : l.length + ys.length ≤ maxLen) (hby : (l.length + ys.length) * bytes ≤ 140737488355328)
    (h : ∀ v' w', Own R sz e w' base v' (l ++ ys) → Chg B [e] w w' → Below base w w' → w.grownBy w' v.ownBlock → wpList P ops Q rest (a.put o.dst v') w') : wpList P ops Q (o :: rest) a w := by
  refine wpList_plain hgd fun K hK => ?_
  obtain ⟨v', w', hr, h2, h3, h4, h5⟩ := run_app (P := P) (t := t) (ty := o.type) (c := c) ei hown hB hb hsl h1 m h63 hby
  unfold Oper.wp execOp
  simp only [ho, resolve, invoke, builtin, Sem.run_bind, Sem.run_pure, Result.andThen_ok, List.map_toArray, List.map_cons, List.map_nil, hs, hx, hr]
  exact hK _ _ (h v' w' h2 h4 h5 h3)

/-- the one element that 'append(out, x)' lays in a block of its own. -/
theorem Sl.one {o : World} {cs : List Value} {y : α} (ho : o = w.alloc (.cells cs.toArray e)) (hl : cs.length = sz) (hR : R o cs y) : Sl B e R sz o (some ⟨w.heap.size, 0, none⟩) [y] := by
  subst ho
  intro i x hi
  match i, hi with
  | 0, hi =>
    simp at hi; subst hi
    refine ⟨_, 0, cs, rfl, by simp, .inr (by unfold tyAt; rw [heap_alloc_new]), hl, fun j u hj => ?_, hR⟩
    rw [cell_of_row _ _ _ _ e (0, 0) (heap_alloc_new w _)]
    simpa using hj

end

theorem flatten_set {α : Type} (sz : Nat) : ∀ (xs : List (List α)) (_ : ∀ cs ∈ xs, cs.length = sz) (i j : Nat) (cs : List α) (u : α), xs[i]? = some cs → j < sz → (xs.set i (cs.set j u)).flatten = xs.flatten.set (i * sz + j) u := by
  intro xs
  induction xs with
  | nil => intro _ i j cs u h; simp at h
  | cons y ys ih =>
    intro hl i j cs u h hj
    have hy : y.length = sz := hl y (by simp)
    cases i with
    | zero =>
      simp at h; subst h
      simp only [List.set_cons_zero, List.flatten_cons, Nat.zero_mul, Nat.zero_add]
      rw [List.set_append_left _ _ (by omega)]
    | succ i =>
      have h' : ys[i]? = some cs := by simpa using h
      simp only [List.set_cons_succ, List.flatten_cons]
      rw [ih (fun c hc => hl c (by simp [hc])) i j cs u h' hj, List.set_append_right _ _ (by rw [hy, Nat.succ_mul]; omega)]
      congr 2
      rw [hy, Nat.succ_mul]; omega

/-- a store into the row. -/
theorem Own.set {α : Type} {R : World → List Value → α → Prop} {sz : Nat} {e : TypeId} {w : World} {base B g c : Nat} {l : List α} (h : Own R sz e w base (.slice (some ⟨g, 0, none⟩) l.length c) l) (m : Mono B [e] R) (hB : B ≤ base)
    {i j : Nat} (hi : i < l.length) (hj : j < sz) (u : Value) (y : α) (hy : ∀ cs, cs.length = sz → R w cs l[i] → R (w.setCell ⟨g, i * sz + j, none⟩ u) (cs.set j u) y) :
    Own R sz e (w.setCell ⟨g, i * sz + j, none⟩ u) base (.slice (some ⟨g, 0, none⟩) l.length c) (l.set i y) ∧ Chg B [e] w (w.setCell ⟨g, i * sz + j, none⟩ u) ∧ Below base w (w.setCell ⟨g, i * sz + j, none⟩ u) := by
  obtain ⟨xs, hx, hR, ho⟩ := id h
  have hxi : xs[i]? = some xs[i] := List.getElem?_eq_getElem (by omega)
  obtain ⟨hlen, hr⟩ := hR i _ _ hxi (List.getElem?_eq_getElem hi)
  have hall : ∀ cs ∈ xs, cs.length = sz := by
    intro cs hcs
    obtain ⟨k, hk, rfl⟩ := List.getElem_of_mem hcs
    exact (hR k _ _ (List.getElem?_eq_getElem hk) (List.getElem?_eq_getElem (by omega))).1
  obtain ⟨ho', hg⟩ := ho.stored (i * sz + j) u
  have hg' : w.grownBy (w.setCell ⟨g, i * sz + j, none⟩ u) (Value.slice (some ⟨g, 0, none⟩) l.length c).ownBlock := hg
  have hc : Chg B [e] w (w.setCell ⟨g, i * sz + j, none⟩ u) := h.chg_of hB hg'
  refine ⟨⟨xs.set i (xs[i].set j u), by simp [hx], ?_, ?_⟩, hc, ?_⟩
  · intro k cs x hk hxk
    by_cases hki : i = k
    · subst hki
      rw [List.getElem?_set_self (by omega)] at hk
      rw [List.getElem?_set_self hi] at hxk
      injection hk with hk; injection hxk with hxk
      subst hk hxk
      exact ⟨by simp [hlen], hy _ hlen hr⟩
    · rw [List.getElem?_set_ne hki] at hk hxk
      exact ⟨(hR k cs x hk hxk).1, m _ _ _ _ hc (hR k cs x hk hxk).2⟩
  · rw [flatten_set sz xs hall i j _ u hxi hj, List.length_set]
    exact ho'
  · refine (Below.refl base w).setCell (p := ⟨g, i * sz + j, none⟩) ?_ u
    exact (h.lt (g := g) rfl).1

end Go.Proofs.YtbkmgbckeaimdaaDoor

namespace Go.Proofs.YtbkmgbckeaimdaaDoor
open Go Go.RowKit

structure Span where
  fr : Int
  to : Int
deriving DecidableEq, Inhabited
structure Cube where
  yes : Int
  no : Int
deriving DecidableEq, Inhabited
structure Box where
  cube : Cube
  spans : List Span
deriving DecidableEq, Inhabited
structure Node where
  kind : Int
  a : Int
  b : Int
deriving DecidableEq, Inhabited
abbrev RSpan : World → List Value → Span → Prop := RPair Span.fr Span.to
abbrev RNode : World → List Value → Node → Prop := RTrip Node.kind Node.a Node.b
abbrev SlSpans (B : Nat) := Sl B 56 RSpan 2
abbrev IsSpans (B : Nat) := IsSl B 56 RSpan 2
abbrev IsNodes (B : Nat) := IsSl B 39 RNode 3

/-! span. -/
def spanBad (s : Span) : Bool := decide (s.fr < 0) || decide (32 < s.to) || decide (s.to ≤ s.fr)
/-- what Check finds behind a span that ends at last. -/
def spanGo : Int → List Span → Int
  | _, [] => 0
  | last, s :: r => if spanBad s then 1 else if s.fr ≤ last then 3 else spanGo s.to r
def spanCheck (l : List Span) : Int := if 16 < l.length then 2 else spanGo (-1) l
/-- where the span ahead of the k-th ends. -/
def lastTo (l : List Span) (k : Nat) : Int := if k = 0 then -1 else (l[k - 1]?.map Span.to).getD 0

theorem spanGo_drop (l : List Span) (k : Nat) (hk : k < l.length) : spanGo (lastTo l k) (l.drop k) = if l[k].fr < 0 ∨ 32 < l[k].to ∨ l[k].to ≤ l[k].fr then 1 else if l[k].fr ≤ lastTo l k then 3 else spanGo (lastTo l (k + 1)) (l.drop (k + 1)) := by
  rw [List.drop_eq_getElem_cons hk, spanGo]
  have : lastTo l (k + 1) = l[k].to := by simp [lastTo, hk]
  rw [this]
  simp [spanBad, or_assoc]

def spanIn : List Span → Int → Bool
  | [], _ => false
  | s :: r, n => if s.fr ≤ n ∧ n < s.to then true else spanIn r n

/-- the spans of the numbers up to n for which it is so, as Make lays them. -/
def mkStep (p : Int → Bool) (out : List Span) (n : Int) : List Span :=
  if p n then
    match out.getLast? with
    | some s => if s.to = n then out.set (out.length - 1) ⟨s.fr, n + 1⟩ else out ++ [⟨n, n + 1⟩]
    | none => [⟨n, n + 1⟩]
  else out
def mkSpans (p : Int → Bool) : Nat → List Span
  | 0 => []
  | n + 1 => mkStep p (mkSpans p n) n

theorem mkStep_len (p : Int → Bool) (out : List Span) (n : Int) : (mkStep p out n).length ≤ out.length + 1 := by
  unfold mkStep
  split
  · split
    · split
      · simp
      · simp
    · simp
  · omega
theorem mkSpans_len (p : Int → Bool) : ∀ n, (mkSpans p n).length ≤ n
  | 0 => by simp [mkSpans]
  | n + 1 => by
    rw [mkSpans]
    have := mkStep_len p (mkSpans p n) n
    have := mkSpans_len p n
    omega

/-- spans whose numbers may be. -/
def SpansOk (l : List Span) : Prop := ∀ s ∈ l, 0 ≤ s.fr ∧ s.fr < s.to ∧ s.to ≤ 32
theorem spanGo_ok : ∀ (l : List Span) (last : Int), spanGo last l = 0 → SpansOk l
  | [], _, _ => by intro s h; simp at h
  | s :: r, last, h => by
    rw [spanGo] at h
    by_cases hb : spanBad s = true
    · simp [hb] at h
    · by_cases hl : s.fr ≤ last
      · simp [hb, hl] at h
      · have h2 : spanGo s.to r = 0 := by simpa [hb, hl] using h
        intro t ht
        rcases List.mem_cons.1 ht with rfl | ht
        · simp [spanBad] at hb
          omega
        · exact spanGo_ok r _ h2 t ht
theorem spanCheck_ok {l : List Span} (h : spanCheck l = 0) : SpansOk l ∧ l.length ≤ 16 := by
  unfold spanCheck at h
  by_cases hl : 16 < l.length
  · simp [hl] at h
  · rw [if_neg hl] at h
    exact ⟨spanGo_ok l _ h, by omega⟩
/-- a set as spans, from behind. -/
def toldStep (p : Nat → Bool) (out : List Span) (n : Nat) : List Span :=
  if p n then
    match out with
    | s :: r => if s.fr = n + 1 then ⟨n, s.to⟩ :: r else ⟨n, n + 1⟩ :: s :: r
    | [] => [⟨n, n + 1⟩]
  else out
def toldK (p : Nat → Bool) : Nat → List Span
  | 0 => []
  | k + 1 => toldStep p (toldK p k) (31 - k)
def told (p : Nat → Bool) : List Span := toldK p 32
end Go.Proofs.YtbkmgbckeaimdaaDoor

namespace Go.Proofs.YtbkmgbckeaimdaaDoor
open Go

/-- spans in their form, all of them above lo. -/
def Canon : Int → List Span → Prop
  | _, [] => True
  | lo, s :: r => lo < s.fr ∧ s.fr < s.to ∧ Canon s.to r

theorem Canon.mono : ∀ {l : List Span} {lo lo' : Int}, Canon lo l → lo' ≤ lo → Canon lo' l
  | [], _, _, _, _ => trivial
  | s :: r, lo, lo', h, hl => ⟨by have := h.1; omega, h.2⟩

theorem spanIn_cons (s : Span) (r : List Span) (x : Int) : spanIn (s :: r) x = (decide (s.fr ≤ x ∧ x < s.to) || spanIn r x) := by
  rw [spanIn]
  by_cases h : s.fr ≤ x ∧ x < s.to <;> simp [h]

theorem spanIn_one (s : Span) (x : Int) : spanIn [s] x = decide (s.fr ≤ x ∧ x < s.to) := by
  rw [spanIn_cons, spanIn, Bool.or_false]

theorem spanIn_append (l m : List Span) (x : Int) : spanIn (l ++ m) x = (spanIn l x || spanIn m x) := by
  induction l with
  | nil => simp [spanIn]
  | cons s r ih => rw [List.cons_append, spanIn_cons, spanIn_cons, ih, Bool.or_assoc]

theorem Canon.above : ∀ {l : List Span} {lo x : Int}, Canon lo l → spanIn l x = true → lo < x
  | [], _, _, _, h => by simp [spanIn] at h
  | s :: r, lo, x, hc, h => by
    rw [spanIn_cons, Bool.or_eq_true, decide_eq_true_eq] at h
    rcases h with h | h
    · have := hc.1; omega
    · have := Canon.above hc.2.2 h
      have := hc.1; have := hc.2.1; omega

/-! Make. -/
theorem Canon.concat : ∀ {l : List Span} {lo : Int} {s : Span}, Canon lo l → lo < s.fr → s.fr < s.to → (∀ t ∈ l, t.to < s.fr) → Canon lo (l ++ [s])
  | [], _, _, _, h1, h2, _ => ⟨h1, h2, trivial⟩
  | t :: r, _, s, hc, _, h2, h3 => ⟨hc.1, hc.2.1, Canon.concat hc.2.2 (h3 t (by simp)) h2 fun u hu => h3 u (by simp [hu])⟩
theorem Canon.split : ∀ {l : List Span} {lo : Int} {s : Span}, Canon lo (l ++ [s]) → Canon lo l ∧ lo < s.fr ∧ s.fr < s.to ∧ ∀ t ∈ l, t.to < s.fr
  | [], _, _, h => ⟨trivial, h.1, h.2.1, by simp⟩
  | t :: r, lo, s, h => by
    obtain ⟨h1, h2, h3, h4⟩ := Canon.split (l := r) h.2.2
    refine ⟨⟨h.1, h.2.1, h1⟩, by have := h.1; have := h.2.1; omega, h3, fun u hu => ?_⟩
    rcases List.mem_cons.1 hu with rfl | hu
    · exact h2
    · exact h4 u hu

theorem mkSpans_ok (p : Int → Bool) : ∀ n : Nat, Canon (-1) (mkSpans p n) ∧ (∀ s ∈ mkSpans p n, s.to ≤ n) ∧ ∀ x : Int, spanIn (mkSpans p n) x = (decide (0 ≤ x ∧ x < n) && p x)
  | 0 => ⟨trivial, by simp [mkSpans], fun x => by
      have : ¬ (0 ≤ x ∧ x < ((0 : Nat) : Int)) := by omega
      simp only [mkSpans, spanIn, this, decide_false, Bool.false_and]⟩
  | n + 1 => by
    obtain ⟨hc, ht, hi⟩ := mkSpans_ok p n
    have hrange : ∀ x : Int, (decide (0 ≤ x ∧ x < ((n + 1 : Nat) : Int)) && p x) = ((decide (0 ≤ x ∧ x < (n : Int)) && p x) || (decide (x = n) && p n)) := by
      intro x
      by_cases hx : x = n
      · subst hx
        have h1 : (0 : Int) ≤ n ∧ (n : Int) < ((n + 1 : Nat) : Int) := by omega
        have h2 : ¬ ((0 : Int) ≤ n ∧ (n : Int) < n) := by omega
        rw [decide_eq_true h1, decide_eq_false h2]; simp
      · have h1 : (0 ≤ x ∧ x < ((n + 1 : Nat) : Int)) ↔ (0 ≤ x ∧ x < (n : Int)) := by omega
        simp only [hx, decide_false, Bool.false_and, Bool.or_false]
        rw [decide_eq_decide.2 h1]
    have new : ∀ L : List Span, Canon (-1) L → (∀ t ∈ L, t.to < (n : Int)) → (∀ x, spanIn L x = (decide (0 ≤ x ∧ x < (n : Int)) && p x)) → p n = true →
        Canon (-1) (L ++ [⟨n, n + 1⟩]) ∧ (∀ s ∈ L ++ [⟨n, n + 1⟩], s.to ≤ ((n + 1 : Nat) : Int)) ∧ ∀ x : Int, spanIn (L ++ [⟨n, n + 1⟩]) x = (decide (0 ≤ x ∧ x < ((n + 1 : Nat) : Int)) && p x) := by
      intro L h1 h2 h3 hp
      refine ⟨Canon.concat h1 (by show (-1 : Int) < n; omega) (by show (n : Int) < n + 1; omega) h2, ?_, fun x => ?_⟩
      · intro s hs
        rcases List.mem_append.1 hs with hs | hs
        · have := h2 s hs; omega
        · simp at hs; subst hs; show (n : Int) + 1 ≤ _; omega
      · rw [hrange, ← h3, hp, spanIn_append]
        congr 1
        simp only [spanIn_one, Bool.and_true]
        rw [decide_eq_decide]
        show ((n : Int) ≤ x ∧ x < n + 1) ↔ _
        omega
    rw [mkSpans]
    generalize mkSpans p n = L at *
    unfold mkStep
    by_cases hp : p n = true
    · rw [if_pos hp]
      rcases List.eq_nil_or_concat L with rfl | ⟨L', s, rfl⟩
      · simpa using new [] trivial (by simp) hi hp
      · simp only [List.concat_eq_append, List.getLast?_append, List.getLast?_singleton, Option.some_or] at *
        obtain ⟨k1, k2, k3, k4⟩ := Canon.split hc
        by_cases he : s.to = n
        · simp only [he, if_true]
          have hset : (L' ++ [s]).set ((L' ++ [s]).length - 1) ⟨s.fr, (n : Int) + 1⟩ = L' ++ [⟨s.fr, (n : Int) + 1⟩] := by
            rw [List.length_append, List.set_append_right _ _ (by simp)]
            simp
          rw [hset]
          refine ⟨Canon.concat k1 k2 (by show s.fr < (n : Int) + 1; omega) k4, ?_, fun x => ?_⟩
          · intro t ht'
            rcases List.mem_append.1 ht' with h | h
            · have := ht t (by simp [h]); omega
            · simp at h; subst h; show (n : Int) + 1 ≤ _; omega
          · rw [hrange, ← hi, hp, spanIn_append, spanIn_append, Bool.or_assoc]
            congr 1
            simp only [spanIn_one, Bool.and_true]
            rw [← Bool.decide_or, decide_eq_decide]
            show (s.fr ≤ x ∧ x < (n : Int) + 1) ↔ _
            omega
        · simp only [he, if_false]
          refine new (L' ++ [s]) hc ?_ hi hp
          intro t ht'
          rcases List.mem_append.1 ht' with h | h
          · have := k4 t h
            have := ht s (by simp)
            omega
          · simp at h; subst h
            have := ht t (by simp)
            omega
    · rw [if_neg hp]
      refine ⟨hc, fun s hs => by have := ht s hs; omega, fun x => ?_⟩
      rw [hrange, hi]
      simp [hp]

/-- so for all numbers below. -/
def allTo (p : Nat → Bool) : Nat → Bool
  | 0 => true
  | k + 1 => allTo p k && p k
theorem allTo_iff (p : Nat → Bool) : ∀ n, allTo p n = true ↔ ∀ i, i < n → p i = true
  | 0 => by simp [allTo]
  | n + 1 => by
    rw [allTo, Bool.and_eq_true, allTo_iff p n]
    constructor
    · rintro ⟨h1, h2⟩ i hi
      by_cases h : i = n
      · subst h; exact h2
      · exact h1 i (by omega)
    · intro h
      exact ⟨fun i hi => h i (by omega), h n (by omega)⟩

/-! what SpanSays counts. -/
def countTo (p : Nat → Bool) : Nat → Int
  | 0 => 0
  | k + 1 => countTo p k + if p k then 1 else 0
theorem countTo_bd (p : Nat → Bool) : ∀ k : Nat, 0 ≤ countTo p k ∧ countTo p k ≤ k
  | 0 => by simp [countTo]
  | k + 1 => by
    have := countTo_bd p k
    rw [countTo]
    split <;> omega
theorem countTo_congr {p q : Nat → Bool} : ∀ {k : Nat}, (∀ i, i < k → p i = q i) → countTo p k = countTo q k
  | 0, _ => rfl
  | k + 1, h => by rw [countTo, countTo, countTo_congr fun i hi => h i (by omega), h k (by omega)]
theorem countTo_zero : ∀ k, countTo (fun _ => false) k = 0
  | 0 => rfl
  | k + 1 => by rw [countTo, countTo_zero k]; simp

end Go.Proofs.YtbkmgbckeaimdaaDoor

namespace Go.Proofs.YtbkmgbckeaimdaaDoor
open Go

theorem and16 : ∀ a, a < 16 → ∀ b, b < 16 → bits .and .i64 ((a : Nat) : Int) ((b : Nat) : Int) = ((a &&& b : Nat) : Int) := by decide +kernel
theorem or16 : ∀ a, a < 16 → ∀ b, b < 16 → bits .or .i64 ((a : Nat) : Int) ((b : Nat) : Int) = ((a ||| b : Nat) : Int) := by decide +kernel
theorem or16_lt : ∀ a, a < 16 → ∀ b, b < 16 → a ||| b < 16 := by decide +kernel

def tagsOk (n : Int) : Bool := decide (0 ≤ n ∧ n ≤ 15)
def cubeCheck (c : Cube) : Int :=
  if tagsOk c.yes = true ∧ tagsOk c.no = true then (if c.yes.toNat &&& c.no.toNat = 0 then 0 else 3) else 1
/-- a cube that may be, by its bits. -/
structure CubeOk (c : Cube) (y n : Nat) : Prop where
  yes : c.yes = (y : Int)
  no : c.no = (n : Int)
  hy : y < 16
  hn : n < 16
  dis : y &&& n = 0
theorem tagsOk_iff {n : Int} : tagsOk n = true ↔ 0 ≤ n ∧ n ≤ 15 := by simp [tagsOk]
theorem cubeOk_of {c : Cube} (h : cubeCheck c = 0) : ∃ y n, CubeOk c y n := by
  unfold cubeCheck at h
  split at h
  · rename_i h1
    split at h
    · rename_i h2
      have a := tagsOk_iff.1 h1.1
      have b := tagsOk_iff.1 h1.2
      exact ⟨c.yes.toNat, c.no.toNat, by omega, by omega, by omega, by omega, h2⟩
    · simp at h
  · simp at h
/-- are tags in a cube? -/
def cubeIn (y n t : Nat) : Bool := (t &&& y == y) && (t &&& n == 0)

theorem cast_beq (a b : Nat) : ((a : Int) == (b : Int)) = (a == b) := by
  rw [Bool.eq_iff_iff, beq_iff_eq, beq_iff_eq]; omega
theorem cast_beq0 (a : Nat) : ((a : Int) == 0) = (a == 0) := cast_beq a 0

/-- bit k of v. -/
def bitb (v k : Nat) : Bool := v / 2 ^ k % 2 == 1
/-- tag k says nothing against it. -/
def goodb (y n t k : Nat) : Bool := !(bitb y k && !bitb t k || bitb n k && bitb t k)
theorem cubeIn_bits : ∀ y, y < 16 → ∀ n, n < 16 → ∀ t, t < 16 → cubeIn y n t = allTo (goodb y n t) 4 := by decide +kernel

end Go.Proofs.YtbkmgbckeaimdaaDoor

namespace Go.Proofs.YtbkmgbckeaimdaaDoor
open Go

/-! bits -/
theorem bit_run (a b i : Nat) : (2 ^ b - 2 ^ a).testBit i = decide (a ≤ i ∧ i < b) := by
  by_cases h : a ≤ b
  · obtain ⟨c, rfl⟩ := Nat.exists_eq_add_of_le h
    have e : 2 ^ (a + c) - 2 ^ a = 2 ^ a * (2 ^ c - 1) := by rw [Nat.pow_add, Nat.mul_sub, Nat.mul_one]
    rw [e, Nat.testBit_two_pow_mul, Nat.testBit_two_pow_sub_one]
    rw [Bool.eq_iff_iff]
    simp
    omega
  · have e : 2 ^ b - 2 ^ a = 0 := Nat.sub_eq_zero_of_le (Nat.pow_le_pow_right (by omega) (by omega))
    rw [e]
    have : ¬ (a ≤ i ∧ i < b) := by omega
    simp [this]
theorem or32_lt {a b : Nat} (ha : a < 4294967296) (hb : b < 4294967296) : a ||| b < 4294967296 := Nat.or_lt_two_pow (n := 32) ha hb
theorem and32_lt {a b : Nat} (ha : a < 4294967296) : a &&& b < 4294967296 := Nat.lt_of_le_of_lt Nat.and_le_left ha
theorem xor32_lt {a b : Nat} (ha : a < 4294967296) (hb : b < 4294967296) : a ^^^ b < 4294967296 := Nat.xor_lt_two_pow (n := 32) ha hb
theorem high32 {a i : Nat} (ha : a < 4294967296) (hi : 32 ≤ i) : a.testBit i = false :=
  Nat.testBit_lt_two_pow (Nat.lt_of_lt_of_le ha (show 2 ^ 32 ≤ 2 ^ i from Nat.pow_le_pow_right (by omega) hi))
theorem eq32 {a b : Nat} (ha : a < 4294967296) (hb : b < 4294967296) (h : ∀ i, i < 32 → a.testBit i = b.testBit i) : a = b := by
  apply Nat.eq_of_testBit_eq
  intro i
  by_cases hi : i < 32
  · exact h i hi
  · rw [high32 ha (by omega), high32 hb (by omega)]
theorem not32_bit (b i : Nat) (hi : i < 32) (hb : b < 4294967296) : (4294967295 - b).testBit i = !b.testBit i := by
  have := Nat.testBit_two_pow_sub_succ (n := 32) (x := b) hb i
  have e : 2 ^ 32 - (b + 1) = 4294967295 - b := by omega
  rw [e] at this
  rw [this]; simp [hi]

/-! what may be -/
def filterGo : List Box → Int
  | [] => 0
  | b :: r => if cubeCheck b.cube = 0 then (if spanCheck b.spans = 0 then filterGo r else spanCheck b.spans) else cubeCheck b.cube
def filterCheck (f : List Box) : Int := if 40 < f.length then 2 else filterGo f
theorem filterGo_drop (f : List Box) (k : Nat) (hk : k < f.length) : filterGo (f.drop k) = if cubeCheck f[k].cube = 0 then (if spanCheck f[k].spans = 0 then filterGo (f.drop (k + 1)) else spanCheck f[k].spans) else cubeCheck f[k].cube := by
  rw [List.drop_eq_getElem_cons hk, filterGo]
def BoxOk (b : Box) : Prop := cubeCheck b.cube = 0 ∧ spanCheck b.spans = 0
theorem filterGo_ok : ∀ f : List Box, filterGo f = 0 ↔ ∀ b ∈ f, BoxOk b
  | [] => by simp [filterGo]
  | b :: r => by
    rw [filterGo]
    by_cases h1 : cubeCheck b.cube = 0
    · by_cases h2 : spanCheck b.spans = 0
      · rw [if_pos h1, if_pos h2, filterGo_ok r]
        simp [BoxOk, h1, h2]
      · rw [if_pos h1, if_neg h2]
        simp [BoxOk, h2]
    · rw [if_neg h1]
      simp [BoxOk, h1]
theorem filterCheck_ok {f : List Box} (h : filterCheck f = 0) : f.length ≤ 40 ∧ ∀ b ∈ f, BoxOk b := by
  unfold filterCheck at h
  by_cases hl : 40 < f.length
  · simp [hl] at h
  · rw [if_neg hl] at h
    exact ⟨by omega, (filterGo_ok f).1 h⟩
theorem filterCheck_of {f : List Box} (h : f.length ≤ 40) (hb : ∀ b ∈ f, BoxOk b) : filterCheck f = 0 := by
  rw [filterCheck, if_neg (by omega)]
  exact (filterGo_ok f).2 hb
def filterTwo (f g : List Box) : Int := if filterCheck f = 0 then filterCheck g else filterCheck f

/-- are tags in a box's cube? -/
def boxIn (b : Box) (t : Nat) : Bool := cubeIn b.cube.yes.toNat b.cube.no.toNat t
/-- the points of a filter: of tags and a number at 32 times the tags and the number. -/
def pts (f : List Box) (i : Nat) : Bool := f.any fun b => spanIn b.spans (i % 32 : Nat) && boxIn b (i / 32)
/-! a filter's table -/
def spanBits (l : List Span) : Nat := l.foldl (fun acc s => acc ||| (2 ^ s.to.toNat - 2 ^ s.fr.toNat)) 0
theorem spanBits_take (l : List Span) (k : Nat) (hk : k < l.length) : spanBits (l.take (k + 1)) = spanBits (l.take k) ||| (2 ^ l[k].to.toNat - 2 ^ l[k].fr.toNat) := by
  rw [List.take_succ_eq_append_getElem hk, spanBits, List.foldl_append]
  rfl
theorem spanBits_fold (l : List Span) (h : SpansOk l) : ∀ (a n : Nat), (l.foldl (fun acc s => acc ||| (2 ^ s.to.toNat - 2 ^ s.fr.toNat)) a).testBit n = (a.testBit n || spanIn l n) := by
  induction l with
  | nil => intro a n; simp [spanIn]
  | cons s r ih =>
    intro a n
    rw [List.foldl_cons, ih (fun t ht => h t (by simp [ht])), Nat.testBit_or, bit_run, spanIn_cons, Bool.or_assoc]
    have := h s (by simp)
    congr 2
    rw [decide_eq_decide]
    omega
theorem spanBits_bit (l : List Span) (h : SpansOk l) (n : Nat) : (spanBits l).testBit n = spanIn l n := by
  rw [spanBits, spanBits_fold l h]; simp
theorem pow32_le {t : Nat} (h : t ≤ 32) : 2 ^ t ≤ 4294967296 := Nat.pow_le_pow_right (n := 2) (j := 32) (by omega) h
theorem run32_lt {f t : Nat} (_h : f < t) (ht : t ≤ 32) : 2 ^ t - 2 ^ f < 4294967296 := by
  have := pow32_le ht
  have := Nat.two_pow_pos f
  omega
theorem spanBits_fold_lt (l : List Span) (h : SpansOk l) : ∀ a, a < 4294967296 → (l.foldl (fun acc s => acc ||| (2 ^ s.to.toNat - 2 ^ s.fr.toNat)) a) < 4294967296 := by
  induction l with
  | nil => intro a ha; exact ha
  | cons s r ih =>
    intro a ha
    rw [List.foldl_cons]
    refine ih (fun t ht => h t (by simp [ht])) _ (or32_lt ha ?_)
    have := h s (by simp)
    exact run32_lt (by omega) (by omega)
theorem SpansOk.take {l : List Span} (h : SpansOk l) (k : Nat) : SpansOk (l.take k) := fun s hs => h s (List.mem_of_mem_take hs)
theorem spanBits_lt {l : List Span} (h : SpansOk l) : spanBits l < 4294967296 := spanBits_fold_lt l h 0 (by omega)

/-- of all tags which numbers. -/
def tab (f : List Box) (t : Nat) : Nat := f.foldl (fun acc b => if boxIn b t then acc ||| spanBits b.spans else acc) 0
theorem tab_take (f : List Box) (k : Nat) (hk : k < f.length) (t : Nat) : tab (f.take (k + 1)) t = if boxIn f[k] t then tab (f.take k) t ||| spanBits f[k].spans else tab (f.take k) t := by
  rw [List.take_succ_eq_append_getElem hk, tab, List.foldl_append]
  rfl
theorem tab_fold (f : List Box) (h : ∀ b ∈ f, BoxOk b) (t : Nat) : ∀ (a n : Nat), (f.foldl (fun acc b => if boxIn b t then acc ||| spanBits b.spans else acc) a).testBit n = (a.testBit n || f.any fun b => spanIn b.spans n && boxIn b t) := by
  induction f with
  | nil => intro a n; simp
  | cons b r ih =>
    intro a n
    rw [List.foldl_cons, ih (fun x hx => h x (by simp [hx])), List.any_cons, ← Bool.or_assoc]
    congr 1
    have hb := spanBits_bit b.spans (spanCheck_ok (h b (by simp)).2).1 n
    by_cases hi : boxIn b t = true
    · simp [hi, hb]
    · simp [hi]
theorem tab_bit {f : List Box} (h : ∀ b ∈ f, BoxOk b) (t n : Nat) : (tab f t).testBit n = f.any fun b => spanIn b.spans n && boxIn b t := by
  rw [tab, tab_fold f h]; simp
theorem tab_fold_lt (f : List Box) (h : ∀ b ∈ f, BoxOk b) (t : Nat) : ∀ a, a < 4294967296 → (f.foldl (fun acc b => if boxIn b t then acc ||| spanBits b.spans else acc) a) < 4294967296 := by
  induction f with
  | nil => intro a ha; exact ha
  | cons b r ih =>
    intro a ha
    rw [List.foldl_cons]
    refine ih (fun x hx => h x (by simp [hx])) _ ?_
    split
    · exact or32_lt ha (spanBits_lt (spanCheck_ok (h b (by simp)).2).1)
    · exact ha
theorem tab_lt {f : List Box} (h : ∀ b ∈ f, BoxOk b) (t : Nat) : tab f t < 4294967296 := tab_fold_lt f h t 0 (by omega)
theorem pts_tab {f : List Box} (h : ∀ b ∈ f, BoxOk b) (i : Nat) : pts f i = (tab f (i / 32)).testBit (i % 32) := by
  rw [tab_bit h, pts]

/-! the boxes told of a table -/
/-- v without bit k. -/
def clr (v k : Nat) : Nat := v &&& (15 - 2 ^ k)
def sameAll (T : Nat → Nat) (t : Nat) (d : Nat × Nat) : Bool := allTo (fun o => !cubeIn d.1 d.2 o || T o == T t) 16
def growK (T : Nat → Nat) (t : Nat) : Nat → Nat × Nat
  | 0 => (t, 15 - t)
  | k + 1 => if sameAll T t (clr (growK T t k).1 k, clr (growK T t k).2 k) then (clr (growK T t k).1 k, clr (growK T t k).2 k) else growK T t k
/-- the box of a value of a table. -/
def boxOf (T : Nat → Nat) (t : Nat) : Box := ⟨⟨((growK T t 4).1 : Int), ((growK T t 4).2 : Int)⟩, mkSpans (fun n => (T t).testBit n.toNat) 32⟩
def boxK (T : Nat → Nat) : Nat → (Nat → Bool) × List Box
  | 0 => (fun _ => false, [])
  | k + 1 => if (boxK T k).1 k || T k == 0 then boxK T k else (fun o => (boxK T k).1 o || cubeIn (growK T k 4).1 (growK T k 4).2 o, (boxK T k).2 ++ [boxOf T k])
def mkBoxes (T : Nat → Nat) : List Box := (boxK T 16).2

theorem grow_start : ∀ t, t < 16 → cubeIn t (15 - t) t = true ∧ (∀ o, o < 16 → cubeIn t (15 - t) o = true → o = t) ∧ 15 - t < 16 ∧ t &&& (15 - t) = 0 := by decide +kernel
theorem clr_in : ∀ k, k < 4 → ∀ y, y < 16 → ∀ n, n < 16 → ∀ t, t < 16 → cubeIn y n t = true → cubeIn (clr y k) (clr n k) t = true := by decide +kernel
theorem clr_lt : ∀ k, k < 4 → ∀ y, y < 16 → clr y k < 16 := by decide +kernel
theorem clr_dis : ∀ k, k < 4 → ∀ y, y < 16 → ∀ n, n < 16 → y &&& n = 0 → clr y k &&& clr n k = 0 := by decide +kernel

structure GrowOk (T : Nat → Nat) (t : Nat) (c : Nat × Nat) : Prop where
  y : c.1 < 16
  n : c.2 < 16
  dis : c.1 &&& c.2 = 0
  self : cubeIn c.1 c.2 t = true
  same : ∀ o, o < 16 → cubeIn c.1 c.2 o = true → T o = T t
theorem growK_ok (T : Nat → Nat) (t : Nat) (ht : t < 16) : ∀ k, k ≤ 4 → GrowOk T t (growK T t k)
  | 0, _ => by
    obtain ⟨h1, h2, h3, h4⟩ := grow_start t ht
    exact ⟨ht, h3, h4, h1, fun o ho hc => by rw [h2 o ho hc]⟩
  | k + 1, hk => by
    have g := growK_ok T t ht k (by omega)
    rw [growK]
    by_cases hs : sameAll T t (clr (growK T t k).1 k, clr (growK T t k).2 k) = true
    · rw [if_pos hs]
      refine ⟨clr_lt k (by omega) _ g.y, clr_lt k (by omega) _ g.n, clr_dis k (by omega) _ g.y _ g.n g.dis, clr_in k (by omega) _ g.y _ g.n t ht g.self, fun o ho hc => ?_⟩
      have := (allTo_iff _ 16).1 hs o ho
      simp only [hc, Bool.not_true, Bool.false_or, beq_iff_eq] at this
      exact this
    · rw [if_neg hs]; exact g

theorem canon_len : ∀ {l : List Span} {lo : Int}, Canon lo l → SpansOk l → lo ≤ 32 → 2 * (l.length : Int) ≤ 32 - lo
  | [], lo, _, _, h => by simp; omega
  | s :: r, lo, h, hok, hlo => by
    have h1 := hok s (by simp)
    have ih := canon_len (l := r) (lo := s.to) h.2.2 (fun t ht => hok t (by simp [ht])) h1.2.2
    have := h.1
    have := h.2.1
    simp only [List.length_cons]
    omega
theorem canon_go : ∀ {l : List Span} {lo : Int}, Canon lo l → SpansOk l → spanGo lo l = 0
  | [], _, _, _ => rfl
  | s :: r, lo, h, hok => by
    have h1 := hok s (by simp)
    rw [spanGo]
    have hb : spanBad s = false := by simp [spanBad]; omega
    have hl : ¬ s.fr ≤ lo := by have := h.1; omega
    rw [hb, if_neg (by simp), if_neg hl]
    exact canon_go h.2.2 fun t ht => hok t (by simp [ht])
theorem canon_ok : ∀ {l : List Span} {lo : Int}, Canon lo l → -1 ≤ lo → (∀ s ∈ l, s.to ≤ 32) → SpansOk l
  | [], _, _, _, _ => by intro s h; simp at h
  | s :: r, lo, h, hlo, ht => by
    have h1 := h.1
    have h2 := h.2.1
    intro t hm
    rcases List.mem_cons.1 hm with rfl | hm
    · exact ⟨by omega, by omega, ht _ (by simp)⟩
    · exact canon_ok h.2.2 (by omega) (fun u hu => ht u (by simp [hu])) t hm
theorem mkSpans_check (p : Int → Bool) : spanCheck (mkSpans p 32) = 0 := by
  obtain ⟨h1, h2, _⟩ := mkSpans_ok p 32
  have hok := canon_ok h1 (by omega) (by intro s hs; have := h2 s hs; omega)
  have hl := canon_len h1 hok (by omega)
  rw [spanCheck, if_neg (by omega)]
  exact canon_go h1 hok
theorem mkSpans_in (p : Int → Bool) (n : Nat) (hn : n < 32) : spanIn (mkSpans p 32) n = p n := by
  rw [(mkSpans_ok p 32).2.2 n]
  have : decide ((0 : Int) ≤ n ∧ (n : Int) < (32 : Nat)) = true := by simp; omega
  rw [this, Bool.true_and]

theorem boxOf_ok (T : Nat → Nat) (t : Nat) (ht : t < 16) : BoxOk (boxOf T t) := by
  have g := growK_ok T t ht 4 (by omega)
  have hs : spanCheck (boxOf T t).spans = 0 := by unfold boxOf; exact mkSpans_check (fun n => (T t).testBit n.toNat)
  refine ⟨?_, hs⟩
  have h1 : tagsOk (((growK T t 4).1 : Nat) : Int) = true := tagsOk_iff.2 ⟨by omega, by have := g.y; omega⟩
  have h2 : tagsOk (((growK T t 4).2 : Nat) : Int) = true := tagsOk_iff.2 ⟨by omega, by have := g.n; omega⟩
  rw [boxOf, cubeCheck, if_pos ⟨h1, h2⟩]
  simp only [Int.toNat_natCast]
  rw [if_pos g.dis]
theorem boxOf_in (T : Nat → Nat) (t o : Nat) : boxIn (boxOf T t) o = cubeIn (growK T t 4).1 (growK T t 4).2 o := by
  simp [boxIn, boxOf]

structure BoxesOk (T : Nat → Nat) (k : Nat) (s : (Nat → Bool) × List Box) : Prop where
  len : s.2.length ≤ k
  ok : ∀ b ∈ s.2, BoxOk b
  done : ∀ o, o < 16 → (s.1 o = true ↔ ∃ b ∈ s.2, boxIn b o = true)
  val : ∀ b ∈ s.2, ∀ o, o < 16 → boxIn b o = true → T o ≠ 0 ∧ ∀ n, n < 32 → spanIn b.spans (n : Nat) = (T o).testBit n
  all : ∀ o, o < k → T o ≠ 0 → s.1 o = true
theorem boxK_ok (T : Nat → Nat) : ∀ k, k ≤ 16 → BoxesOk T k (boxK T k)
  | 0, _ => ⟨by simp [boxK], by simp [boxK], by simp [boxK], by simp [boxK], by omega⟩
  | k + 1, hk => by
    have h := boxK_ok T k (by omega)
    rw [boxK]
    by_cases hc : ((boxK T k).1 k || T k == 0) = true
    · rw [if_pos hc]
      refine ⟨Nat.le_succ_of_le h.len, h.ok, h.done, h.val, fun o ho hT => ?_⟩
      by_cases hok : o < k
      · exact h.all o hok hT
      · obtain rfl : o = k := by omega
        simp only [Bool.or_eq_true, beq_iff_eq] at hc
        exact hc.resolve_right hT
    · rw [if_neg hc]
      simp only [Bool.or_eq_true, beq_iff_eq, not_or] at hc
      have g := growK_ok T k (by omega) 4 (by omega)
      refine ⟨by simp; exact h.len, ?_, ?_, ?_, ?_⟩
      · intro b hb
        rcases List.mem_append.1 hb with hb | hb
        · exact h.ok b hb
        · rw [List.mem_singleton.1 hb]; exact boxOf_ok T k (by omega)
      · intro o ho
        have := h.done o ho
        simp only [Bool.or_eq_true, this, List.mem_append, List.mem_singleton]
        constructor
        · rintro (⟨b, hb, hi⟩ | hi)
          · exact ⟨b, .inl hb, hi⟩
          · exact ⟨_, .inr rfl, by rw [boxOf_in]; exact hi⟩
        · rintro ⟨b, hb | rfl, hi⟩
          · exact .inl ⟨b, hb, hi⟩
          · exact .inr (by rw [boxOf_in] at hi; exact hi)
      · intro b hb o ho hi
        rcases List.mem_append.1 hb with hb | hb
        · exact h.val b hb o ho hi
        · obtain rfl := List.mem_singleton.1 hb
          rw [boxOf_in] at hi
          have e := g.same o ho hi
          rw [e]
          refine ⟨hc.2, fun n hn => ?_⟩
          unfold boxOf
          simp only
          rw [mkSpans_in _ n hn, Int.toNat_natCast]
      · intro o ho hT
        by_cases hok : o < k
        · simp [h.all o hok hT]
        · obtain rfl : o = k := by omega
          simp [g.self]

theorem mkBoxes_len (T : Nat → Nat) : (mkBoxes T).length ≤ 16 := (boxK_ok T 16 (by omega)).len
theorem mkBoxes_ok (T : Nat → Nat) : ∀ b ∈ mkBoxes T, BoxOk b := (boxK_ok T 16 (by omega)).ok
theorem mkBoxes_check (T : Nat → Nat) : filterCheck (mkBoxes T) = 0 := filterCheck_of (by have := mkBoxes_len T; omega) (mkBoxes_ok T)
theorem mkBoxes_pts (T : Nat → Nat) (i : Nat) (hi : i < 512) : pts (mkBoxes T) i = (T (i / 32)).testBit (i % 32) := by
  have h := boxK_ok T 16 (by omega)
  have ho : i / 32 < 16 := by omega
  have hn : i % 32 < 32 := by omega
  rw [Bool.eq_iff_iff]
  simp only [pts, List.any_eq_true, Bool.and_eq_true]
  constructor
  · rintro ⟨b, hb, h1, h2⟩
    rw [← (h.val b hb _ ho h2).2 _ hn]; exact h1
  · intro ht
    have hT : T (i / 32) ≠ 0 := by
      intro e; rw [e] at ht; simp at ht
    obtain ⟨b, hb, h2⟩ := (h.done _ ho).1 (h.all _ ho hT)
    exact ⟨b, hb, by rw [(h.val b hb _ ho h2).2 _ hn]; exact ht, h2⟩
theorem mkBoxes_nil (T : Nat → Nat) : mkBoxes T = [] ↔ ∀ o, o < 16 → T o = 0 := by
  have h := boxK_ok T 16 (by omega)
  constructor
  · intro e o ho
    apply Classical.byContradiction
    intro hT
    obtain ⟨b, hb, _⟩ := (h.done o ho).1 (h.all o ho hT)
    rw [show (boxK T 16).2 = [] from e] at hb
    simp at hb
  · intro hz
    apply List.eq_nil_iff_forall_not_mem.2
    have : ∀ k, k ≤ 16 → (boxK T k).2 = [] := by
      intro k
      induction k with
      | zero => intro _; rfl
      | succ k ih =>
        intro hk
        rw [boxK, if_pos (by simp [hz k (by omega)])]
        exact ih (by omega)
    intro b hb
    rw [mkBoxes, this 16 (by omega)] at hb
    simp at hb

/-- what an operation on bits answers. -/
def filterOp (d : Nat → Nat → Nat) (f g : List Box) : List Box := if filterTwo f g = 0 then mkBoxes (fun t => d (tab f t) (tab g t)) else []

/-! how many -/
/-- the ones of a number below 2 to the n. -/
def popTo (v : Nat) (n : Nat) : Int := countTo (fun i => v.testBit i) n
theorem low_out (v : Nat) (hv : v ≠ 0) : ∃ k, v.testBit k = true ∧ ∀ i, (v &&& (v - 1)).testBit i = (v.testBit i && !decide (i = k)) := by
  induction v using Nat.strongRecOn with
  | _ v ih =>
    by_cases ho : v % 2 = 1
    · refine ⟨0, by simp [Nat.testBit_zero, ho], fun i => ?_⟩
      cases i with
      | zero => simp [Nat.testBit_zero, ho]; omega
      | succ i =>
        rw [Nat.testBit_and, Nat.testBit_succ, Nat.testBit_succ, show (v - 1) / 2 = v / 2 by omega]
        simp
    · obtain ⟨m, rfl⟩ : ∃ m, v = 2 * m := ⟨v / 2, by omega⟩
      obtain ⟨k, hk, h⟩ := ih m (by omega) (by omega)
      refine ⟨k + 1, by rw [Nat.testBit_succ, show 2 * m / 2 = m by omega]; exact hk, fun i => ?_⟩
      cases i with
      | zero => simp [Nat.testBit_zero]
      | succ i =>
        rw [Nat.testBit_and, Nat.testBit_succ, Nat.testBit_succ, show (2 * m - 1) / 2 = m - 1 by omega, show 2 * m / 2 = m by omega, ← Nat.testBit_and, h i]
        simp
theorem countTo_out (p : Nat → Bool) (k : Nat) : ∀ n, k < n → p k = true → countTo (fun i => p i && !decide (i = k)) n + 1 = countTo p n
  | 0, h, _ => by omega
  | n + 1, h, hp => by
    rw [countTo, countTo]
    by_cases hk : k = n
    · subst hk
      have := countTo_congr (p := fun i => p i && !decide (i = k)) (q := p) (k := k) (fun i hi => by simp; omega)
      rw [this]; simp [hp]
    · have := countTo_out p k n (by omega) hp
      have : ¬ n = k := fun e => hk e.symm
      simp only [this, decide_false, Bool.not_false, Bool.and_true]
      omega
theorem popTo_low (v : Nat) (hv : v ≠ 0) (h : v < 4294967296) : popTo (v &&& (v - 1)) 32 + 1 = popTo v 32 := by
  obtain ⟨k, hk, h'⟩ := low_out v hv
  have hk32 : k < 32 := by
    apply Classical.byContradiction
    intro hn
    rw [high32 h (by omega)] at hk
    cases hk
  unfold popTo
  rw [countTo_congr (fun i _ => h' i)]
  exact countTo_out _ k 32 hk32 hk
theorem popTo_bd (v n : Nat) : 0 ≤ popTo v n ∧ popTo v n ≤ n := countTo_bd _ _
theorem popTo_zero (n : Nat) : popTo 0 n = 0 := by unfold popTo; rw [countTo_congr (q := fun _ => false) (by simp)]; exact countTo_zero n
/-- the ones of a table's first k values. -/
def popSum (T : Nat → Nat) : Nat → Int
  | 0 => 0
  | k + 1 => popSum T k + popTo (T k) 32
theorem popSum_bd (T : Nat → Nat) : ∀ k : Nat, 0 ≤ popSum T k ∧ popSum T k ≤ 32 * k
  | 0 => by simp [popSum]
  | k + 1 => by
    have := popSum_bd T k
    have := popTo_bd (T k) 32
    rw [popSum]
    omega
def filterCount (f : List Box) : Int := if filterCheck f = 0 then popSum (tab f) 16 else 0

end Go.Proofs.YtbkmgbckeaimdaaDoor

namespace Go.Proofs.YtbkmgbckeaimdaaDoor
open Go Go.RowKit Go.ChangeShapes Go.WideShapes Go.Deep

section
variable {H : Type} {enc : TypeId × Value → H} {P : Program} {w : World} {spare : Nat → Bool} {held : Bool}

theorem sl_of_trod {α : Type} {R : World → List Value → α → Prop} {sz : Nat} {Q : α → Prop} {t e : TypeId} {fuel : Nat} {A : Option Addr} {len cap : Nat} {x : DataW H × List MemPlace} (ht : P.underlying t = some (.slice e)) (hC : P.cellsOf e = sz) (hsz : 0 < sz)
    (helem : ∀ (n : Nat) (cs : List Value) (y : DataW H × List MemPlace), cs.length = sz → DataW.trod enc P w 0 spare held n e cs = some y → ∃ z : α, R w cs z ∧ Q z)
    (h : DataW.trod enc P w 0 spare held fuel t [.slice A len cap] = some x) :
    ∃ l : List α, l.length = len ∧ len ≤ cap ∧ cap ≤ maxLen ∧ Sl w.heap.size e R sz w A l ∧ ∀ z ∈ l, Q z := by
  rcases open_slice ht h with ⟨h0, _⟩ | ⟨a, len', cap', m, n, D, Pl, hcs, hb, hl, hm, hmm, hx, hi⟩
  · simp only [List.cons.injEq, Value.slice.injEq, and_true] at h0
    obtain ⟨rfl, rfl, rfl⟩ := h0
    exact ⟨[], rfl, Nat.le_refl _, Nat.zero_le _, Sl.nil, by simp⟩
  · simp only [List.cons.injEq, Value.slice.injEq, and_true] at hcs
    obtain ⟨rfl, rfl, rfl⟩ := hcs
    have hlm : len ≤ m := by rw [hmm]; split <;> omega
    have key : ∀ i, i < len → ∃ z : α, (∃ cs, cs.length = sz ∧ (∀ j, j < sz → w.cell? ((a.add (i * sz)).add j) = cs[j]?) ∧ R w cs z) ∧ Q z := by
      intro i hil
      obtain ⟨cs', hc, ht'⟩ := hi i (by omega)
      rw [hC] at hc
      obtain ⟨_, hcl, hat⟩ := World.cells?_some hc
      obtain ⟨z, hz, hq⟩ := helem n cs' _ hcl ht'
      exact ⟨z, ⟨cs', hcl, hat, hz⟩, hq⟩
    obtain ⟨l, hll, hlz⟩ := choose_list (p := fun i z => (∃ cs, cs.length = sz ∧ (∀ j, j < sz → w.cell? ((a.add (i * sz)).add j) = cs[j]?) ∧ R w cs z) ∧ Q z) len key
    refine ⟨l, hll, hl, hm, ?_, ?_⟩
    · intro i z hz
      obtain ⟨⟨cs, h1, h2, h3⟩, _⟩ := hlz i z hz
      have hil : i < len := by have := (List.getElem?_eq_some_iff.1 hz).1; omega
      -- the address has no spot: its first cell is there
      obtain ⟨⟨cs0, g1, g2, _⟩, _⟩ := hlz 0 _ (List.getElem?_eq_getElem (show 0 < l.length by omega))
      obtain ⟨b, off, spot⟩ := a
      have e0 := g2 0 hsz
      have hsome : ∃ u, cs0[0]? = some u := ⟨cs0[0]'(by omega), List.getElem?_eq_getElem (by omega)⟩
      obtain ⟨u, hu⟩ := hsome
      rw [hu] at e0
      have ea : ((⟨b, off, spot⟩ : Addr).add (0 * sz)).add 0 = ⟨b, off, spot⟩ := by simp [Addr.add]
      rw [ea] at e0
      have hspot : spot = none := by
        unfold World.cell? at e0
        split at e0
        · cases spot with
          | none => rfl
          | some s => simp at e0
        · cases e0
      subst hspot
      have hbl : b < w.heap.size := World.block_lt_of_cell? _ _ e0
      refine ⟨b, off, cs, rfl, hbl, .inl hbl, h1, ?_, h3⟩
      intro j v hj
      have hjs : j < sz := by have := (List.getElem?_eq_some_iff.1 hj).1; omega
      have := h2 j hjs
      rw [hj] at this
      have ea2 : (((⟨b, off, none⟩ : Addr).add (i * sz)).add j) = ⟨b, off + i * sz + j, none⟩ := by
        unfold Addr.add
        by_cases h1 : i * sz = 0 <;> by_cases h2 : j = 0 <;> simp [h1, h2]
      rwa [ea2] at this
    · intro z hz
      obtain ⟨i, hi, rfl⟩ := List.getElem_of_mem hz
      exact (hlz i _ (List.getElem?_eq_getElem hi)).2

/-- integers that fit int64. -/
def InI64 (n : Int) : Prop := -9223372036854775808 ≤ n ∧ n ≤ 9223372036854775807

theorem inI64_of_wf {n : Int} (h : (Lit.int .i64 n).wf = true) : InI64 n := by
  simp [Lit.wf] at h
  unfold InI64
  first
    | exact h
    | (simp [IntKind.min, IntKind.max] at h; omega)
    | skip
theorem int_cell {i : TypeId} {n : Nat} {cs : List Value} {y : DataW H × List MemPlace} (hi : P.underlying i = some (.int .i64)) (h : DataW.trod enc P w 0 spare held n i cs = some y) : ∃ a, cs = [.int .i64 a] ∧ InI64 a := by
  obtain ⟨n0, e0, _, w0⟩ := DataW.trod_int hi h
  exact ⟨n0, e0, inI64_of_wf w0⟩

theorem pair_elem {t i : TypeId} {f0 f1 : Field} (ht : P.underlying t = some (.struct #[f0, f1])) (hi : P.underlying i = some (.int .i64)) (hf0 : f0.type = i ∧ f0.offset = 0) (hf1 : f1.type = i ∧ f1.offset = 1) (hc : P.cellsOf i = 1)
    {n : Nat} {cs : List Value} {y : DataW H × List MemPlace} (hl : cs.length = 2) (h : DataW.trod enc P w 0 spare held n t cs = some y) : ∃ a b, cs = [.int .i64 a, .int .i64 b] ∧ InI64 a ∧ InI64 b := by
  obtain ⟨xs, m, _, _, _, hx, hg⟩ := DataW.trod_struct ht h
  match cs, hl with
  | [c0, c1], _ =>
    match xs, hx with
    | [y0, y1], _ =>
      have g0 := hg 0 f0 rfl
      have g1 := hg 1 f1 rfl
      rw [hf0.1, hf0.2, hc] at g0
      rw [hf1.1, hf1.2, hc] at g1
      obtain ⟨n0, e0, w0⟩ := int_cell hi g0
      obtain ⟨n1, e1, w1⟩ := int_cell hi g1
      simp at e0 e1
      exact ⟨n0, n1, by rw [e0, e1], w0, w1⟩

theorem slice_arg {α : Type} {R : World → List Value → α → Prop} {sz : Nat} {Q : α → Prop} {t e : TypeId} (ht : P.underlying t = some (.slice e)) (hC : P.cellsOf e = sz) (hsz : 0 < sz)
    (helem : ∀ (n : Nat) (cs : List Value) (y : DataW H × List MemPlace), cs.length = sz → DataW.trod enc P w 0 spare held n e cs = some y → ∃ z : α, R w cs z ∧ Q z)
    {A : Option Addr} {len cap : Nat} {d : DataW H} {p : List MemPlace} (h : DataW.Trod enc P w 0 spare held t (.slice A len cap) d p) :
    ∃ l : List α, l.length = len ∧ len ≤ maxLen ∧ Sl w.heap.size e R sz w A l ∧ ∀ z ∈ l, Q z := by
  obtain ⟨fuel, hf⟩ := h
  obtain ⟨l, hl, h1, h2, h3, h4⟩ := sl_of_trod (R := R) ht hC hsz helem hf
  exact ⟨l, hl, by omega, h3, h4⟩
end

end Go.Proofs.YtbkmgbckeaimdaaDoor

namespace Go.Proofs.YtbkmgbckeaimdaaDoor
open Go Go.RowKit Go.ChangeShapes Go.WideShapes Go.Deep

theorem own : ownKnob Tryd.prog.godebug = none := by kernel_rfl
theorem laidOut : laidOutB Tryd.prog = true := by kernel_rfl
theorem cells_int : Tryd.prog.cellsOf 3 = 1 := by kernel_rfl

section
variable {H : Type} {enc : TypeId × Value → H} {w : World} {spare : Nat → Bool} {held : Bool}

theorem cells_span : Tryd.prog.cellsOf 56 = 2 := by kernel_rfl

theorem span_elem (n : Nat) (cs : List Value) (y : DataW H × List MemPlace) (hl : cs.length = 2) (h : DataW.trod enc Tryd.prog w 0 spare held n 56 cs = some y) : ∃ z : Span, RSpan w cs z ∧ (InI64 z.fr ∧ InI64 z.to) := by
  obtain ⟨a, b, h1, h2, h3⟩ := pair_elem (P := Tryd.prog) Tryd.underlying56 Tryd.underlying3 (And.intro rfl rfl) (And.intro rfl rfl) cells_int hl h
  exact ⟨Span.mk a b, h1, h2, h3⟩

end
end Go.Proofs.YtbkmgbckeaimdaaDoor

namespace Go.Proofs.YtbkmgbckeaimdaaDoor
open Go Go.RowKit

/-- the cells f 0, .., f (n - 1). -/
def rowF (n : Nat) (f : Nat → Value) : Array Value := Array.ofFn (fun i : Fin n => f i)
theorem rowF_size (n : Nat) (f : Nat → Value) : (rowF n f).size = n := by simp [rowF]
theorem rowF_get {n : Nat} (f : Nat → Value) {i : Nat} (h : i < n) : (rowF n f)[i]? = some (f i) := by simp [rowF, h]
theorem rowF_set (n : Nat) (f : Nat → Value) (i : Nat) (u : Value) : (rowF n f).setIfInBounds i u = rowF n (fun j => if j = i then u else f j) := by
  apply Array.ext
  · simp [rowF]
  · intro j h1 h2
    simp only [rowF, Array.size_setIfInBounds, Array.size_ofFn] at h1
    by_cases hij : i = j
    · subst hij; simp [rowF]
    · rw [Array.getElem_setIfInBounds_ne (by simpa [rowF] using h1) hij]
      simp [rowF, show ¬ j = i from fun e => hij e.symm]
theorem rowF_congr {n : Nat} {f g : Nat → Value} (h : ∀ i, i < n → f i = g i) : rowF n f = rowF n g := by
  unfold rowF
  congr 1
  funext i
  exact h i i.isLt
theorem rowF_all {n : Nat} {f : Nat → Value} (h : ∀ i, (f i).oneCell' = true) : (rowF n f).all (·.oneCell') = true := by
  rw [Array.all_eq_true]
  intro i hi
  simp [rowF, h]

/-- an array of bools, by value. -/
def rowB (n : Nat) (p : Nat → Bool) : Array Value := rowF n fun i => .bool (p i)
theorem rowB_get {n : Nat} (p : Nat → Bool) {i : Nat} (h : i < n) : (rowB n p)[i]? = some (.bool (p i)) := rowF_get _ h
theorem rowB_set (n : Nat) (p : Nat → Bool) (i : Nat) (b : Bool) : (rowB n p).setIfInBounds i (.bool b) = rowB n (fun j => if j = i then b else p j) := by
  unfold rowB
  rw [rowF_set]
  congr 1
  funext j
  by_cases h : j = i <;> simp [h]
theorem rowB_congr {n : Nat} {p q : Nat → Bool} (h : ∀ i, i < n → p i = q i) : rowB n p = rowB n q := rowF_congr fun i hi => by rw [h i hi]
/-- block b is just these cells of type e, none frozen. -/
def Blk (w : World) (b : Nat) (e : TypeId) (cs : Array Value) : Prop := w.heap[b]? = some (.cells cs e (0, 0))

section
variable {w w' : World} {b : Nat} {e : TypeId} {cs : Array Value}
theorem Blk.lt (h : Blk w b e cs) : b < w.heap.size := (Array.getElem?_eq_some_iff.1 h).1
theorem Blk.ty (h : Blk w b e cs) : tyAt w b = some e := by unfold tyAt; rw [h]
theorem Blk.cell (h : Blk w b e cs) {i : Nat} {u : Value} (hu : cs[i]? = some u) : w.cell? ⟨b, i, none⟩ = some u := (cell_of_row w b i cs e (0, 0) h).trans hu
theorem Blk.ce (h : Blk w b e cs) (i : Nat) (u : Value) (hu : cs[i]? = some u) : w.cell? ⟨b, i, none⟩ = some u := h.cell hu
theorem Blk.frozen (h : Blk w b e cs) (i : Nat) : w.frozen? ⟨b, i, none⟩ = false := by
  unfold Blk at h
  simp [World.frozen?, h]
theorem Blk.new (w : World) (e : TypeId) (cs : Array Value) : Blk (w.alloc (.cells cs e)) w.heap.size e cs := heap_alloc_new w _
theorem Blk.ext (h : Blk w b e cs) (x : Ext w w') : Blk w' b e cs := (x.blockAt h.lt).trans h
theorem Blk.below {k : Nat} (h : Blk w b e cs) (x : Below k w w') (hb : b < k) : Blk w' b e cs := (x.block b hb).trans h
theorem Blk.chg {B : Nat} {ts : List TypeId} (h : Blk w b e cs) (x : Chg B ts w w') (he : e ∉ ts) : Blk w' b e cs := by
  refine (x.block b h.lt (.inr fun t ht h2 => ?_)).trans h
  rw [h.ty] at h2
  injection h2 with h2
  exact he (h2 ▸ ht)
theorem Blk.set (h : Blk w b e cs) (i : Nat) (u : Value) : Blk (w.setCell ⟨b, i, none⟩ u) b e (cs.setIfInBounds i u) := by
  unfold Blk at h ⊢
  simp [World.setCell, Array.getElem?_modify, h]
theorem Blk.far (h : Blk w b e cs) {p : Addr} (hp : b ≠ p.block) (u : Value) : Blk (w.setCell p u) b e cs := (Below.heap_setCell w p u b hp).trans h
theorem Blk.alloc (h : Blk w b e cs) (o : Obj) : Blk (w.alloc o) b e cs := h.ext ((Ext.refl w).alloc o)
theorem Blk.other (h : Blk w b e cs) {k : Nat} (ho : ∀ j, j ≠ k → w'.heap[j]? = w.heap[j]?) (hb : b ≠ k) : Blk w' b e cs := (ho b hb).trans h
theorem Blk.setB {n : Nat} {p : Nat → Bool} (h : Blk w b e (rowB n p)) (i : Nat) (v : Bool) : Blk (w.setCell ⟨b, i, none⟩ (.bool v)) b e (rowB n fun j => if j = i then v else p j) := by
  rw [← rowB_set]; exact h.set i _
end

/-- the row of the type table of an array's type. -/
def ArrInfo (P : Program) (t : TypeId) (n : Nat) : Prop := (∃ m e, P.underlying t = some (.array m e)) ∧ (P.info? t).map (·.size) = some n
/-- its zero value. -/
def ZeroInfo (P : Program) (t : TypeId) (cs : Array Value) : Prop := ∀ w, (zeroValue t).run P w = .ok (.agg cs) w

section
variable {P : Program} {ops : Array Oper} {rest : List Oper} {o : Oper} {a : Act} {w : World} {Q : Exit → Act → World → Prop} {K : Act → World → Prop} {t : TypeId} {n : Nat}

/-- which operation stands next: the guard of an arm. -/
theorem at_op {ty : TypeId} {pos : String} {after : Array Edge} {g : Option (Nat × Bool)} (dst : Option Tmp) (op : Op) (h : wpList P ops Q (⟨dst, op, ty, pos, after, g⟩ :: rest) a w) : wpList P ops Q (⟨dst, op, ty, pos, after, g⟩ :: rest) a w := h

theorem wp_loadArr (ai : ArrInfo P t n) (x : Operand) (ho : o.op = .load t x) {b : Nat} (hx : a.eval x = .pointer (some ⟨b, 0, none⟩)) {e : TypeId} {cs : Array Value} (hb : Blk w b e cs) (hn : cs.size = n)
    (h : K (a.put o.dst (.agg cs)) w) : o.wp P a w K Q := by
  obtain ⟨⟨m, e', hu⟩, hi⟩ := ai
  exact wp_load_row t x ho b hx e cs (0, 0) _ hb hu rfl (by rw [hn]; exact hi) h

theorem wpList_loadArr (ai : ArrInfo P t n) (x : Operand) (ho : o.op = .load t x) (hg : Region.wanted o (yielded ops a.tmps) = true) {b : Nat} (hx : a.eval x = .pointer (some ⟨b, 0, none⟩)) {e : TypeId} {cs : Array Value} (hb : Blk w b e cs) (hn : cs.size = n)
    (h : wpList P ops Q rest (a.put o.dst (.agg cs)) w) : wpList P ops Q (o :: rest) a w :=
  wpList_step fun K hK => by rw [if_pos hg]; exact wp_loadArr ai x ho hx hb hn (hK _ _ h)

theorem wpList_boxArr (x : Operand) (ho : o.op = .box t x) (hg : o.guard = none) {cs : Array Value} (hx : a.eval x = .agg cs)
    (h : ∀ w', Ext w w' → Blk w' w.heap.size t cs → w'.heap.size = w.heap.size + 1 → wpList P ops Q rest (a.put o.dst (.pointer (some ⟨w.heap.size, 0, none⟩))) w') : wpList P ops Q (o :: rest) a w := by
  refine wpList_plain hg fun K hK => ?_
  unfold Oper.wp execOp
  simp only [ho, Sem.run_bind, Instr.box, newVar, newRow, run_newObj_alloc, Sem.run_pure, Result.andThen_ok, hx, Value.cells]
  exact hK _ _ (h _ ((Ext.refl w).alloc _) (Blk.new w t cs) (by simp))

theorem wpList_allocArr {cs : Array Value} (zi : ZeroInfo P t cs) (ho : o.op = .alloc t) (hg : o.guard = none)
    (h : ∀ w', Ext w w' → Blk w' w.heap.size t cs → w'.heap.size = w.heap.size + 1 → wpList P ops Q rest (a.put o.dst (.pointer (some ⟨w.heap.size, 0, none⟩))) w') : wpList P ops Q (o :: rest) a w := by
  refine wpList_plain hg fun K hK => ?_
  unfold Oper.wp execOp
  simp only [ho, Sem.run_bind, Instr.alloc, newVar, newRow, run_newObj_alloc, Sem.run_pure, Result.andThen_ok, zi w, Value.cells]
  exact hK _ _ (h _ ((Ext.refl w).alloc _) (Blk.new w t cs) (by simp))

theorem wpList_storeArr (ai : ArrInfo P t n) (x y : Operand) (ho : o.op = .store t x y) (hg : o.guard = none) {b : Nat} (hx : a.eval x = .pointer (some ⟨b, 0, none⟩)) {cs old : Array Value} (hy : a.eval y = .agg cs)
    (hb : Blk w b t old) (hn : cs.size = n) (hold : old.size = n) (h1 : cs.all (·.oneCell') = true)
    (h : ∀ w', Below b w w' → Blk w' b t cs → w'.heap.size = w.heap.size → (∀ k, k ≠ b → w'.heap[k]? = w.heap[k]?) → wpList P ops Q rest (a.put o.dst undef) w') : wpList P ops Q (o :: rest) a w := by
  obtain ⟨_, hi⟩ := ai
  have hother : ∀ k, k ≠ b → (w.setRow b cs).heap[k]? = w.heap[k]? := fun k hk => setRow_other w b k cs (by omega)
  exact wpList_store_row hg t x y ho b cs hx hy t old hb (by rw [hn]; exact hi) (by omega) h1
    (h _ ⟨rfl, rfl, rfl, by simp, fun k hk => hother k (by omega)⟩ (setRow_heap w b old _ t _ hb) (by simp) hother)

/-- an element of an array by value. -/
theorem run_index_row {t e : TypeId} {n : Nat} {f : Nat → Value} (hu : P.underlying t = some (.array n e)) (hag : ∀ w, (isAgg e).run P w = .ok false w) (hs : ∀ w, (sizeOf e).run P w = .ok 1 w) {k : Nat} (hk : k < n) (w : World) :
    (Instr.index t (.agg (rowF n f)) (.int .i64 k)).run P w = .ok (f k) w := by
  have h2 := rowF_get f hk
  simp [Instr.index, asIntOf, run_underlying hu, hk, hs, part, hag, h2]

/-- what a function hands back whose result is an array. -/
theorem ret_arr {fn : Func} {R : Ending → World → Prop} {q : Tmp} (hr : fn.results = #[.cell q t]) (ai : ArrInfo P t n) {b : Nat} (hq : a.tmps.getD q undef = .pointer (some ⟨b, 0, none⟩)) {e : TypeId} {cs : Array Value} (hb : Blk w b e cs) (hn : cs.size = n)
    (hd : a.defers = []) (h : R (.returned (.agg cs)) w) : bodyPost P fn R .ret a w := by
  obtain ⟨⟨m, e', hu⟩, hi⟩ := ai
  exact bodyPost_ret (results_cell_row hr _ _ b e cs (0, 0) _ hq hb hu rfl (by rw [hn]; exact hi)) hd h
end

end Go.Proofs.YtbkmgbckeaimdaaDoor

namespace Go.Proofs.YtbkmgbckeaimdaaDoor
open Go Go.RowKit Go.ChangeShapes Go.WideShapes Go.Deep Go.Joins

/-- a box: its cube's two integers, and its spans. -/
def RBox (B : Nat) (w : World) (cs : List Value) (b : Box) : Prop := ∃ v, cs = [.int .i64 b.cube.yes, .int .i64 b.cube.no, v] ∧ IsSpans B w v b.spans
theorem RBox.mono {B : Nat} {ts : List TypeId} (h : 56 ∉ ts) : Mono B ts (RBox B) := by
  rintro w w' cs b x ⟨v, rfl, hv⟩
  exact ⟨v, rfl, hv.chg RPair.mono h x⟩
theorem RBox.monoE {B : Nat} : Mono B [] (RBox B) := RBox.mono (by simp)
theorem RBox.oneC {B : Nat} : OneC (RBox B) := by
  rintro w cs b ⟨v, rfl, A, c, rfl, _⟩ u hu
  simp at hu
  rcases hu with rfl | rfl | rfl <;> rfl
abbrev SlBoxes (B : Nat) := Sl B 51 (RBox B) 3
abbrev IsBoxes (B : Nat) := IsSl B 51 (RBox B) 3
theorem Sl.box {B : Nat} {w : World} {A : Option Addr} {l : List Box} (h : SlBoxes B w A l) {i : Nat} (hi : i < l.length) :
    ∃ b off A' c', A = some ⟨b, off, none⟩ ∧ b < w.heap.size ∧ w.cell? ⟨b, off + i * 3, none⟩ = some (.int .i64 l[i].cube.yes) ∧ w.cell? ⟨b, off + i * 3 + 1, none⟩ = some (.int .i64 l[i].cube.no) ∧
      w.cell? ⟨b, off + i * 3 + 2, none⟩ = some (.slice A' l[i].spans.length c') ∧ l[i].spans.length ≤ maxLen ∧ SlSpans B w A' l[i].spans := by
  obtain ⟨b, off, cs, hA, hb, _, hc, v, rfl, A', c', rfl, h1, h2, h3⟩ := h.at_ hi
  have g0 := hc 0 _ rfl
  have g1 := hc 1 _ rfl
  have g2 := hc 2 _ rfl
  simp only [Nat.add_zero] at g0
  exact ⟨b, off, A', c', hA, hb, g0, g1, g2, by omega, h3⟩

section
variable {H : Type} {enc : TypeId × Value → H} {w : World} {spare : Nat → Bool} {held : Bool}

theorem isSl_of_trod {P : Program} {α : Type} {R : World → List Value → α → Prop} {sz : Nat} {Q : α → Prop} {t e : TypeId} {fuel : Nat} {cs : List Value} {x : DataW H × List MemPlace} (ht : P.underlying t = some (.slice e)) (hC : P.cellsOf e = sz) (hsz : 0 < sz)
    (helem : ∀ (n : Nat) (cs : List Value) (y : DataW H × List MemPlace), cs.length = sz → DataW.trod enc P w 0 spare held n e cs = some y → ∃ z : α, R w cs z ∧ Q z)
    (h : DataW.trod enc P w 0 spare held fuel t cs = some x) :
    ∃ v l, cs = [v] ∧ IsSl w.heap.size e R sz w v l ∧ ∀ z ∈ l, Q z := by
  have key : ∃ A n c, cs = [.slice A n c] := by
    rcases open_slice ht h with ⟨h0, _⟩ | ⟨a, len', cap', m, n, D, Pl, hcs, _⟩
    · exact ⟨_, _, _, h0⟩
    · exact ⟨_, _, _, hcs⟩
  obtain ⟨A, n, c, rfl⟩ := key
  obtain ⟨l, rfl, h1, h2, h3, h4⟩ := sl_of_trod (R := R) ht hC hsz helem h
  exact ⟨_, l, rfl, ⟨A, c, rfl, h1, h2, h3⟩, h4⟩

theorem cells_cube : Tryd.prog.cellsOf 48 = 2 := by kernel_rfl
theorem cells_box : Tryd.prog.cellsOf 51 = 3 := by kernel_rfl
theorem cells_spans : Tryd.prog.cellsOf 49 = 1 := by kernel_rfl

theorem box_gen {P : Program} {t c s : TypeId} {f0 f1 : Field} {R : World → List Value → List Span → Prop} (ht : P.underlying t = some (.struct #[f0, f1])) (h0 : f0.type = c ∧ f0.offset = 0) (h1 : f1.type = s ∧ f1.offset = 2) (hc : P.cellsOf c = 2) (hs : P.cellsOf s = 1)
    (e0 : ∀ (n : Nat) (cs : List Value) (y : DataW H × List MemPlace), cs.length = 2 → DataW.trod enc P w 0 spare held n c cs = some y → ∃ a b, cs = [.int .i64 a, .int .i64 b] ∧ InI64 a ∧ InI64 b)
    (e1 : ∀ (n : Nat) (cs : List Value) (y : DataW H × List MemPlace), DataW.trod enc P w 0 spare held n s cs = some y → ∃ v l, cs = [v] ∧ R w [v] l)
    (n : Nat) (cs : List Value) (y : DataW H × List MemPlace) (hl : cs.length = 3) (h : DataW.trod enc P w 0 spare held n t cs = some y) : ∃ a b v l, cs = [.int .i64 a, .int .i64 b, v] ∧ R w [v] l := by
  obtain ⟨xs, m, _, _, _, hx, hg⟩ := DataW.trod_struct ht h
  match cs, hl with
  | [c0, c1, c2], _ =>
    match xs, hx with
    | [y0, y1], _ =>
      have g0 := hg 0 f0 rfl
      have g1 := hg 1 f1 rfl
      rw [h0.1, h0.2, hc] at g0
      rw [h1.1, h1.2, hs] at g1
      obtain ⟨a, b, q0, _, _⟩ := e0 _ _ _ rfl g0
      obtain ⟨v, l, q1, hs⟩ := e1 _ _ _ g1
      simp at q0 q1
      obtain ⟨rfl, rfl⟩ := q0
      subst q1
      exact ⟨a, b, _, l, rfl, hs⟩
theorem cube_elem (n : Nat) (cs : List Value) (y : DataW H × List MemPlace) (hl : cs.length = 2) (h : DataW.trod enc Tryd.prog w 0 spare held n 48 cs = some y) : ∃ a b, cs = [.int .i64 a, .int .i64 b] ∧ InI64 a ∧ InI64 b :=
  pair_elem (P := Tryd.prog) Tryd.underlying48 Tryd.underlying3 (And.intro rfl rfl) (And.intro rfl rfl) cells_int hl h
theorem spans_cell (n : Nat) (cs : List Value) (y : DataW H × List MemPlace) (h : DataW.trod enc Tryd.prog w 0 spare held n 49 cs = some y) : ∃ v l, cs = [v] ∧ (fun w (cs : List Value) l => ∀ v ∈ cs, IsSpans w.heap.size w v l) w [v] l := by
  obtain ⟨v, l, h1, h2, _⟩ := isSl_of_trod (P := Tryd.prog) Tryd.underlying49 cells_span Nat.two_pos span_elem h
  exact ⟨v, l, h1, by simpa using h2⟩
theorem box_elem (n : Nat) (cs : List Value) (y : DataW H × List MemPlace) (hl : cs.length = 3) (h : DataW.trod enc Tryd.prog w 0 spare held n 51 cs = some y) : ∃ z : Box, RBox w.heap.size w cs z ∧ True := by
  obtain ⟨a, b, v, l, h1, h2⟩ := box_gen (P := Tryd.prog) (R := fun w cs l => ∀ v ∈ cs, IsSpans w.heap.size w v l) Tryd.underlying51 (And.intro rfl rfl) (And.intro rfl rfl) cells_cube cells_spans cube_elem spans_cell n cs y hl h
  exact ⟨⟨⟨a, b⟩, l⟩, ⟨v, h1, by simpa using h2⟩, trivial⟩
theorem open_boxes {A : Option Addr} {len cap : Nat} {d : DataW H} {p : List MemPlace} (h : DataW.Trod enc Tryd.prog w 0 spare held 22 (.slice A len cap) d p) :
    ∃ l : List Box, l.length = len ∧ len ≤ maxLen ∧ SlBoxes w.heap.size w A l ∧ ∀ z ∈ l, True :=
  slice_arg Tryd.underlying22 cells_box (by omega) box_elem h

end
end Go.Proofs.YtbkmgbckeaimdaaDoor

namespace Go.Proofs.YtbkmgbckeaimdaaDoor
open Go Go.RowKit

section
variable {P : Program} {ops : Array Oper} {C : World → Prop} {Q : Act → Prop} {rest : List Oper} {a : Act} {dst : Option Tmp} {ty : TypeId} {pos : String} {after : Array Edge} {g : Option (Nat × Bool)}
theorem wp_region_class (C : World → Prop) {id : Nat} {Q : Exit → Act → World → Prop} {a : Act} {w : World} {l : List Oper} (hm : P.follows .mixedOrders = true) (hB : Region.lexB .any l.toArray = true) (hC : C w.drew)
    (h : wpQuiet P l.toArray C (fun a' => ∀ w', C w' → Q .normal a' w') l a) : (Code.region id l.toArray true).wp P Q a w :=
  wp_region_quiet (C := C) hm hB hC (by simpa using h)
theorem wpQuiet_read {o : Oper} {v : Value} (hw : Region.wanted o (yielded ops a.tmps) = true) (hy : ∀ w, C w → (execOp a.eval o).run P w = .ok (.value v) w) (h : wpQuiet P ops C Q rest (a.put o.dst v)) : wpQuiet P ops C Q (o :: rest) a := by
  unfold wpQuiet
  rw [if_pos hw]
  refine ⟨v, fun w hw' => ?_, h⟩
  unfold Oper.quietAt
  rw [hy w hw']
  exact ⟨rfl, rfl⟩
theorem wpQuiet_off {o : Oper} (hw : Region.wanted o (yielded ops a.tmps) = false) (h : wpQuiet P ops C Q rest (a.put o.dst undef)) : wpQuiet P ops C Q (o :: rest) a := by
  unfold wpQuiet
  rw [if_neg (by rw [hw]; simp)]
  exact h
theorem yields_at {l : List Oper} {ts : List Value} {j d : Nat} {o : Oper} {b : Bool} (h1 : l[j]? = some o) (h2 : o.dst = some d) (h3 : ts[d]? = some (.bool b)) : yielded l.toArray ts.toArray j = some b := by
  unfold yielded
  simp [h1, h2, h3]
/-- the same, shut: so that nobody unfolds it. -/
structure WQ (P : Program) (ops : Array Oper) (C : World → Prop) (Q : Act → Prop) (l : List Oper) (a : Act) : Prop where
  out : wpQuiet P ops C Q l a
theorem wq_region (C : World → Prop) {id : Nat} {Q : Exit → Act → World → Prop} {a : Act} {w : World} {l : List Oper} (hm : P.follows .mixedOrders = true) (hB : Region.lexB .any l.toArray = true) (hC : C w.drew)
    (h : WQ P l.toArray C (fun a' => ∀ w', C w' → Q .normal a' w') l a) : (Code.region id l.toArray true).wp P Q a w :=
  wp_region_class C hm hB hC h.out
theorem wq_nil (h : Q a) : WQ P ops C Q [] a := ⟨wpQuiet_nil h⟩
theorem wq_get {op : Op} {v : Value} (hy : ∀ w, C w → (execOp a.eval ⟨dst, op, ty, pos, after, none⟩).run P w = .ok (.value v) w) (h : WQ P ops C Q rest (a.put dst v)) : WQ P ops C Q (⟨dst, op, ty, pos, after, none⟩ :: rest) a :=
  ⟨wpQuiet_read rfl hy h.out⟩
theorem wq_getOn {op : Op} {v : Value} {j : Nat} {b : Bool} (hg : yielded ops a.tmps j = some b) (hy : ∀ w, C w → (execOp a.eval ⟨dst, op, ty, pos, after, some (j, b)⟩).run P w = .ok (.value v) w) (h : WQ P ops C Q rest (a.put dst v)) : WQ P ops C Q (⟨dst, op, ty, pos, after, some (j, b)⟩ :: rest) a :=
  ⟨wpQuiet_read (by simp [Region.wanted, hg]) hy h.out⟩
theorem wqg {op : Op} {D : World → Prop} (hA : ∀ w', C w' → D w') (v : Value) (h : WQ P ops C Q rest (a.put dst v)) (hy : ∀ w, D w → (execOp a.eval ⟨dst, op, ty, pos, after, none⟩).run P w = .ok (.value v) w := by (intro w' hA; (try dsimp only at hA); go_split_ands; go_simp <;> with_reducible rfl)) : WQ P ops C Q (⟨dst, op, ty, pos, after, none⟩ :: rest) a :=
  wq_get (fun w hw => hy w (hA w hw)) h
theorem wqo {op : Op} {j : Nat} {b : Bool} {D : World → Prop} (hA : ∀ w', C w' → D w') (v : Value) (hg : yielded ops a.tmps j = some b) (h : WQ P ops C Q rest (a.put dst v)) (hy : ∀ w, D w → (execOp a.eval ⟨dst, op, ty, pos, after, some (j, b)⟩).run P w = .ok (.value v) w := by (intro w' hA; (try dsimp only at hA); go_split_ands; go_simp <;> with_reducible rfl)) : WQ P ops C Q (⟨dst, op, ty, pos, after, some (j, b)⟩ :: rest) a :=
  wq_getOn hg (fun w hw => hy w (hA w hw)) h
theorem wq_skip {op : Op} {j : Nat} {b : Bool} (hg : yielded ops a.tmps j = some (!b)) (h : WQ P ops C Q rest (a.put dst undef)) : WQ P ops C Q (⟨dst, op, ty, pos, after, some (j, b)⟩ :: rest) a :=
  ⟨wpQuiet_off (by cases b <;> simp [Region.wanted, hg]) h.out⟩
end
end Go.Proofs.YtbkmgbckeaimdaaDoor

namespace Go.Proofs.YtbkmgbckeaimdaaDoor
open Go Go.RowKit

section
variable {α : Type} {P : Program} {R : World → List Value → α → Prop} {sz bytes : Nat} {t e : TypeId} {w : World} {base B B' : Nat} {v : Value} {l ys : List α} {A : Option Addr} {c : Nat}
theorem step_app {ops : Array Oper} {dst : Option Tmp} {ty : TypeId} {pos : String} {after : Array Edge} {s x : Operand} {a : Act} {K : Act → World → Prop} {Q : Exit → Act → World → Prop} {E : Prop} (ei : ElemInfo P t e sz bytes)
    (hs : a.eval s = v) (hown : Own R sz e w base v l) (hB : B ≤ base) (hb : base ≤ w.heap.size) {e' : TypeId} (hx : a.eval x = .slice A ys.length c) (hsl : Sl B' e' R sz w A ys) (h1 : OneC R) (m : Mono B [e] R)
    (h63 : l.length + ys.length ≤ maxLen) (hby : (l.length + ys.length) * bytes ≤ 140737488355328)
    (h : ∀ v' w', Own R sz e w' base v' (l ++ ys) → Chg B [e] w w' → Below base w w' → w.grownBy w' v.ownBlock → K (a.put dst v') w') :
    if Region.wanted (⟨dst, .call { callee := .builtin .append, args := #[s, x], argTypes := #[t, t] }, ty, pos, after, none⟩ : Oper) (yielded ops a.tmps) = true then Oper.wp P ⟨dst, .call { callee := .builtin .append, args := #[s, x], argTypes := #[t, t] }, ty, pos, after, none⟩ a w K Q else E := by
  have hw : Region.wanted (⟨dst, .call { callee := .builtin .append, args := #[s, x], argTypes := #[t, t] }, ty, pos, after, none⟩ : Oper) (yielded ops a.tmps) = true := by simp [Region.wanted]
  rw [if_pos hw]
  obtain ⟨v', w', hr, h2, h3, h4, h5⟩ := run_app (P := P) (t := t) (ty := ty) (c := c) ei hown hB hb hsl h1 m h63 hby
  unfold Oper.wp execOp
  simp only [resolve, invoke, builtin, Sem.run_bind, Sem.run_pure, Result.andThen_ok, List.map_toArray, List.map_cons, List.map_nil, hs, hx, hr]
  exact h v' w' h2 h4 h5 h3

theorem step_call {ops : Array Oper} {dst : Option Tmp} {ty : TypeId} {pos : String} {after : Array Edge} {a : Act} {K : Act → World → Prop} {Q : Exit → Act → World → Prop} {E : Prop} {w : World} {f : FuncId} {xs : Array Operand} {ts : Array TypeId} {args : Array Value}
    (hcall : ∀ (av : Array Value) (w : World), (callFunc f av).run P w = .ok (.enter f av) w) (ha : (xs.toList.map a.eval).toArray = args)
    {S : Ending → World → Prop} (hc : Calls P f args w S) (h : ∀ e w', S e w' → ∃ v, e = .returned v ∧ K (a.put dst v) w') :
    if Region.wanted (⟨dst, .call { callee := .value (.func f), args := xs, argTypes := ts }, ty, pos, after, none⟩ : Oper) (yielded ops a.tmps) = true then Oper.wp P ⟨dst, .call { callee := .value (.func f), args := xs, argTypes := ts }, ty, pos, after, none⟩ a w K Q else E := by
  have hw : Region.wanted (⟨dst, .call { callee := .value (.func f), args := xs, argTypes := ts }, ty, pos, after, none⟩ : Oper) (yielded ops a.tmps) = true := by simp [Region.wanted]
  rw [if_pos hw]
  have hr : (execOp a.eval (⟨dst, .call { callee := .value (.func f), args := xs, argTypes := ts }, ty, pos, after, none⟩ : Oper)).run P w = .ok (.enter f args) w := by
    subst ha
    unfold execOp
    simp [resolve, invoke, Act.eval, hcall, go_sem]
    rw [← Array.toList_map]
  unfold Oper.wp
  rw [hr, Oper.upon_enter]
  refine hc.mono fun e w'' hh => ?_
  obtain ⟨v, rfl, hk⟩ := h e w'' hh
  exact hk
end
end Go.Proofs.YtbkmgbckeaimdaaDoor

namespace Go.Proofs.YtbkmgbckeaimdaaDoor
open Go Go.RowKit

section
variable {P : Program} {ops : Array Oper} {rest : List Oper} {o : Oper} {a : Act} {w : World} {Q : Exit → Act → World → Prop} {t e : TypeId}

theorem madeCells_one (z : Value) (n : Nat) : madeCells #[z] n = rowF n fun _ => z := by
  apply Array.ext
  · simp [madeCells, rowF]
  · intro i h1 h2
    have hm : i % 1 = 0 := Nat.mod_one i
    simp only [madeCells, rowF, Array.getElem_map, Array.getElem_ofFn]
    simp [hm]

/-- 'make([]T, n)', T of one cell: a row known whole, whose number has a name. -/
theorem wpList_makeArr {z : Value} {bytes : Nat} (ei : ElemInfo P t e 1 bytes) (hz0 : (P.info? e).bind (·.zero) = some z) (hzc : z.cells = #[z]) (x y : Operand) (ho : o.op = .makeSlice t x y) (hg : o.guard = none) (n : Nat) (hx : a.eval x = .int .i64 (n : Int)) (hy : a.eval y = .int .i64 (n : Int)) (hn : n * bytes ≤ 281474976710656) (h63 : n ≤ maxLen)
    (h : ∀ b w', w.heap.size = b → Ext w w' → Blk w' b e (rowF n fun _ => z) → w'.heap.size = b + 1 → wpList P ops Q rest (a.put o.dst (.slice (some ⟨b, 0, none⟩) n n)) w') : wpList P ops Q (o :: rest) a w := by
  obtain ⟨i, z', ht, hi, hz, hs, hb, hzs, h0⟩ := ei
  obtain rfl : z' = z := by rw [hi] at hz0; simp [hz] at hz0; exact hz0
  refine wpList_plain hg fun K hK => ?_
  have hr := run_make (P := P) w t e i z' ht hi hz .i64 .i64 n n (by omega) (by omega) (by rw [hb, Int.mul_comm]; omega) (by unfold maxLen at h63; omega)
  rw [Int.toNat_natCast, hs, Nat.mul_one, hzc, madeCells_one] at hr
  unfold Oper.wp execOp
  simp only [ho, hx, hy, Sem.run_bind, hr, Sem.run_pure, Result.andThen_ok]
  exact hK _ _ (h _ _ rfl ((Ext.refl w).alloc _) (Blk.new w e _) (by simp))
end

section
variable {α : Type} {P : Program} {R : World → List Value → α → Prop} {sz bytes : Nat} {t ty e : TypeId} {w : World} {B B' : Nat} {ys : List α} {A A0 : Option Addr} {c : Nat}

/-- what 'append(s[:0:0], s...)' leaves: the list in a row of its own, or nothing. -/
def OwnZ {α : Type} (R : World → List Value → α → Prop) (sz : Nat) (e : TypeId) (w : World) (base : Nat) (v : Value) (l : List α) : Prop :=
  Own R sz e w base v l ∨ (l = [] ∧ ∃ A, v = .slice A 0 0)

theorem OwnZ.isSl (B : Nat) {base : Nat} {v : Value} {l : List α} (h : OwnZ R sz e w base v l) : IsSl B e R sz w v l := by
  rcases h with h | ⟨rfl, A, rfl⟩
  · exact h.isSl B
  · exact ⟨A, 0, rfl, Nat.le_refl _, Nat.zero_le _, Sl.nil⟩

theorem OwnZ.ext {base : Nat} {v : Value} {l : List α} {w' : World} (m : Mono B [] R) (h : OwnZ R sz e w base v l) (x : Ext w w') : OwnZ R sz e w' base v l := h.imp (fun h => h.ext m x) id

end
end Go.Proofs.YtbkmgbckeaimdaaDoor

namespace Go.Proofs.YtbkmgbckeaimdaaDoor
open Go

def less32 (a b : Nat) : Nat := a &&& (4294967295 - b)
theorem less32_bit (a b i : Nat) (hi : i < 32) (hb : b < 4294967296) : (less32 a b).testBit i = (a.testBit i && !b.testBit i) := by
  rw [less32, Nat.testBit_and, not32_bit b i hi hb]
theorem filterTwo_ok {f g : List Box} (h : filterTwo f g = 0) : filterCheck f = 0 ∧ filterCheck g = 0 := by
  unfold filterTwo at h
  by_cases hf : filterCheck f = 0
  · rw [if_pos hf] at h; exact ⟨hf, h⟩
  · rw [if_neg hf] at h; exact absurd h hf
/-- an operation on words of 32 bits that goes bit by bit. -/
structure Bits (d : Nat → Nat → Nat) (p : Bool → Bool → Bool) : Prop where
  bit : ∀ a b i, a < 4294967296 → b < 4294967296 → i < 32 → (d a b).testBit i = p (a.testBit i) (b.testBit i)
  lt : ∀ a b, a < 4294967296 → b < 4294967296 → d a b < 4294967296
theorem bits_or : Bits (fun a b => a ||| b) (fun a b => a || b) := ⟨fun a b i _ _ _ => Nat.testBit_or a b i, fun _ _ ha hb => or32_lt ha hb⟩
theorem bits_and : Bits (fun a b => a &&& b) (fun a b => a && b) := ⟨fun a b i _ _ _ => Nat.testBit_and a b i, fun _ _ ha _ => and32_lt ha⟩
theorem bits_less : Bits less32 (fun a b => a && !b) := ⟨fun a b i _ hb hi => less32_bit a b i hi hb, fun _ _ ha _ => and32_lt ha⟩
theorem bits_xor : Bits (fun a b => a ^^^ b) (fun a b => a != b) := ⟨fun a b i _ _ _ => Nat.testBit_xor a b i, fun _ _ ha hb => xor32_lt ha hb⟩
structure OpSays (d : Nat → Nat → Nat) (p : Bool → Bool → Bool) (f g : List Box) : Prop where
  len : (filterOp d f g).length ≤ 16
  ok : filterCheck (filterOp d f g) = 0
  pts : ∀ i, i < 512 → pts (filterOp d f g) i = p (pts f i) (pts g i)
  nil : filterOp d f g = [] ↔ ∀ i, i < 512 → p (Go.Proofs.YtbkmgbckeaimdaaDoor.pts f i) (Go.Proofs.YtbkmgbckeaimdaaDoor.pts g i) = false
theorem filterOp_says {d : Nat → Nat → Nat} {p : Bool → Bool → Bool} (hd : Bits d p) {f g : List Box} (h : filterTwo f g = 0) : OpSays d p f g := by
  obtain ⟨hf, hg⟩ := filterTwo_ok h
  have kf := (filterCheck_ok hf).2
  have kg := (filterCheck_ok hg).2
  have e : filterOp d f g = mkBoxes fun t => d (tab f t) (tab g t) := by rw [filterOp, if_pos h]
  refine ⟨by rw [e]; exact mkBoxes_len _, by rw [e]; exact mkBoxes_check _, fun i hi => ?_, ?_⟩
  · rw [e, mkBoxes_pts _ i hi, hd.bit _ _ _ (tab_lt kf _) (tab_lt kg _) (by omega), pts_tab kf, pts_tab kg]
  · rw [e, mkBoxes_nil]
    constructor
    · intro hz i hi
      rw [pts_tab kf, pts_tab kg, ← hd.bit _ _ _ (tab_lt kf _) (tab_lt kg _) (show i % 32 < 32 by omega), hz (i / 32) (by omega)]
      simp
    · intro hz o ho
      refine eq32 (hd.lt _ _ (tab_lt kf _) (tab_lt kg _)) (by omega) fun n hn => ?_
      have h1 := hz (32 * o + n) (by omega)
      rw [pts_tab kf, pts_tab kg, show (32 * o + n) / 32 = o by omega, show (32 * o + n) % 32 = n by omega] at h1
      rw [hd.bit _ _ _ (tab_lt kf _) (tab_lt kg _) hn, h1]
      simp
/-- filter.Within's and filter.Same's answer. -/
def filterNone (d : Nat → Nat → Nat) (f g : List Box) : Bool := decide (filterTwo f g = 0) && decide (filterOp d f g = [])
theorem filterNone_err {d : Nat → Nat → Nat} {f g : List Box} (h : filterTwo f g ≠ 0) : filterNone d f g = false := by simp [filterNone, h]
theorem filterNone_says {d : Nat → Nat → Nat} {p : Bool → Bool → Bool} (hd : Bits d p) {f g : List Box} (h : filterTwo f g = 0) : filterNone d f g = allTo (fun i => !p (pts f i) (pts g i)) 512 := by
  rw [filterNone, h, decide_eq_true rfl, Bool.true_and, Bool.eq_iff_iff, decide_eq_true_iff, (filterOp_says hd h).nil, allTo_iff]
  simp
theorem within_says {f g : List Box} (h : filterTwo f g = 0) : filterNone less32 f g = allTo (fun i => (pts f i || pts g i) == pts g i) 512 := by
  rw [filterNone_says bits_less h]
  congr 1
  funext i
  cases pts f i <;> cases pts g i <;> rfl
theorem same_says {f g : List Box} (h : filterTwo f g = 0) : filterNone (fun a b => a ^^^ b) f g = allTo (fun i => pts f i == pts g i) 512 := by
  rw [filterNone_says bits_xor h]
  congr 1
  funext i
  cases pts f i <;> cases pts g i <;> rfl
/-! every point -/
def everyF : List Box := [⟨⟨0, 0⟩, [⟨0, 32⟩]⟩]
theorem every_check : filterCheck everyF = 0 := by decide +kernel
theorem every_pts (i : Nat) (hi : i < 512) : pts everyF i = true := by
  have h1 : spanIn [⟨0, 32⟩] ((i % 32 : Nat) : Int) = true := by simp [spanIn]; omega
  have h2 : ∀ t, t < 16 → cubeIn 0 0 t = true := by decide
  simp only [everyF, pts, List.any_cons, List.any_nil, Bool.or_false, h1, Bool.true_and]
  exact h2 (i / 32) (by omega)
end Go.Proofs.YtbkmgbckeaimdaaDoor

namespace Go.Proofs.YtbkmgbckeaimdaaDoor
open Go Go.RowKit

theorem Own.empty {α : Type} {R : World → List Value → α → Prop} {sz : Nat} {e : TypeId} {w : World} {base : Nat} (hb : base ≤ w.heap.size) :
    Own R sz e (w.alloc (.cells #[] e)) base (.slice (some ⟨w.heap.size, 0, none⟩) 0 0) ([] : List α) := by
  refine ⟨[], rfl, by intro i cs x h; simp at h, by simp, .inr ⟨w.heap.size, 0, #[], rfl, hb, heap_alloc_new w _, Nat.le_refl _, Nat.zero_le _, by simp, by simp⟩⟩

theorem Sl.none_nil {α : Type} {R : World → List Value → α → Prop} {sz B : Nat} {e : TypeId} {w : World} {l : List α} (h : Sl B e R sz w none l) : l = [] := by
  rcases l with _ | ⟨x, l⟩
  · rfl
  · obtain ⟨b, off, cs, hA, _⟩ := h.at_ (i := 0) (by simp)
    cases hA

theorem Chg.setNew {B : Nat} {ts : List TypeId} {a w : World} (h : Chg B ts a w) {p : Addr} (hp : a.heap.size ≤ p.block) (u : Value) : Chg B ts a (w.setCell p u) :=
  ⟨h.os, h.tape, h.output, by simpa [World.setCell] using h.size, fun k hk hc => (Below.heap_setCell w p u k (by omega)).trans (h.block k hk hc)⟩
theorem Chg.alloc {B : Nat} {ts : List TypeId} {a w : World} (h : Chg B ts a w) (o : Obj) : Chg B ts a (w.alloc o) := h.trans (.of_ext ((Ext.refl w).alloc o))
theorem Chg.drewN {B : Nat} {ts : List TypeId} {a w : World} (h : Chg B ts a w) (n : Nat) : Chg B ts a (w.drewN n) := h.trans (.of_ext ((Ext.refl w).drewN n))
theorem Own.far {α : Type} {R : World → List Value → α → Prop} {sz : Nat} {e : TypeId} {w : World} {base : Nat} {v : Value} {l : List α} (h : Own R sz e w base v l) (hRw : ∀ w w' cs x, R w cs x → R w' cs x) {p : Addr} (hp : p.block < base) (u : Value) : Own R sz e (w.setCell p u) base v l := by
  obtain ⟨xs, hx, hR, ho⟩ := h
  refine ⟨xs, hx, fun i cs x h1 h2 => ⟨(hR i cs x h1 h2).1, hRw _ _ _ _ (hR i cs x h1 h2).2⟩, ho.1, ?_⟩
  rcases ho.2 with hn | ⟨b, cap, cur, rfl, hb, hgg, rest⟩
  · exact .inl hn
  · exact .inr ⟨b, cap, cur, rfl, hb, (Below.heap_setCell w p u b (by omega)).trans hgg, rest⟩

end Go.Proofs.YtbkmgbckeaimdaaDoor
