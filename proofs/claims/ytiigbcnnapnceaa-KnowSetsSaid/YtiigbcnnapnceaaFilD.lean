/- How boxes and nodes read in memory. No walk. -/
import Derived.Test.YtiigbcnnapnceaaFilP
import Derived.Test.YtiigbcnnapnceaaOpenP
import Derived.Test.YtiigbcnnapnceaaArr
import Derived.Lib.SmallJoins
namespace Go.Proofs.Ytiigbcnnapnceaa
open Go Go.RowKit Go.ChangeShapes Go.WideShapes Go.Deep Go.Joins

/-- a box: its cube's two integers, and its spans. -/
def RBox (B : Nat) (w : World) (cs : List Value) (b : Box) : Prop := ∃ v, cs = [.int .i64 b.cube.yes, .int .i64 b.cube.no, v] ∧ IsSpans B w v b.spans
theorem RBox.mono {B : Nat} {ts : List TypeId} (h : 101 ∉ ts) : Mono B ts (RBox B) := by
  rintro w w' cs b x ⟨v, rfl, hv⟩
  exact ⟨v, rfl, hv.chg RPair.mono h x⟩
theorem RBox.monoE {B : Nat} : Mono B [] (RBox B) := RBox.mono (by simp)
theorem RBox.oneC {B : Nat} : OneC (RBox B) := by
  rintro w cs b ⟨v, rfl, A, c, rfl, _⟩ u hu
  simp at hu
  rcases hu with rfl | rfl | rfl <;> rfl
abbrev SlBoxes (B : Nat) := Sl B 99 (RBox B) 3
abbrev IsBoxes (B : Nat) := IsSl B 99 (RBox B) 3
theorem Sl.box {B : Nat} {w : World} {A : Option Addr} {l : List Box} (h : SlBoxes B w A l) {i : Nat} (hi : i < l.length) :
    ∃ b off A' c', A = some ⟨b, off, none⟩ ∧ b < w.heap.size ∧ w.cell? ⟨b, off + i * 3, none⟩ = some (.int .i64 l[i].cube.yes) ∧ w.cell? ⟨b, off + i * 3 + 1, none⟩ = some (.int .i64 l[i].cube.no) ∧
      w.cell? ⟨b, off + i * 3 + 2, none⟩ = some (.slice A' l[i].spans.length c') ∧ l[i].spans.length ≤ maxLen ∧ SlSpans B w A' l[i].spans := by
  obtain ⟨b, off, cs, hA, hb, _, hc, v, rfl, A', c', rfl, h1, h2, h3⟩ := h.at_ hi
  have g0 := hc 0 _ rfl
  have g1 := hc 1 _ rfl
  have g2 := hc 2 _ rfl
  simp only [Nat.add_zero] at g0
  exact ⟨b, off, A', c', hA, hb, g0, g1, g2, by omega, h3⟩

section
variable {H : Type} {enc : TypeId × Value → H} {w : World} {spare : Nat → Bool} {held : Bool}

theorem isSl_of_trod {P : Program} {α : Type} {R : World → List Value → α → Prop} {sz : Nat} {Q : α → Prop} {t e : TypeId} {fuel : Nat} {cs : List Value} {x : DataW H × List MemPlace} (ht : P.underlying t = some (.slice e)) (hC : P.cellsOf e = sz) (hsz : 0 < sz)
    (helem : ∀ (n : Nat) (cs : List Value) (y : DataW H × List MemPlace), cs.length = sz → DataW.trod enc P w 0 spare held n e cs = some y → ∃ z : α, R w cs z ∧ Q z)
    (h : DataW.trod enc P w 0 spare held fuel t cs = some x) :
    ∃ v l, cs = [v] ∧ IsSl w.heap.size e R sz w v l ∧ ∀ z ∈ l, Q z := by
  have key : ∃ A n c, cs = [.slice A n c] := by
    rcases open_slice ht h with ⟨h0, _⟩ | ⟨a, len', cap', m, n, D, Pl, hcs, _⟩
    · exact ⟨_, _, _, h0⟩
    · exact ⟨_, _, _, hcs⟩
  obtain ⟨A, n, c, rfl⟩ := key
  obtain ⟨l, rfl, h1, h2, h3, h4⟩ := sl_of_trod (R := R) ht hC hsz helem h
  exact ⟨_, l, rfl, ⟨A, c, rfl, h1, h2, h3⟩, h4⟩

theorem cells_cube : Try.prog.cellsOf 36 = 2 := by kernel_rfl
theorem cells_box : Try.prog.cellsOf 99 = 3 := by kernel_rfl
theorem cells_node : Try.prog.cellsOf 95 = 3 := by kernel_rfl
theorem cells_spans : Try.prog.cellsOf 97 = 1 := by kernel_rfl

theorem box_gen {P : Program} {t c s : TypeId} {f0 f1 : Field} {R : World → List Value → List Span → Prop} (ht : P.underlying t = some (.struct #[f0, f1])) (h0 : f0.type = c ∧ f0.offset = 0) (h1 : f1.type = s ∧ f1.offset = 2) (hc : P.cellsOf c = 2) (hs : P.cellsOf s = 1)
    (e0 : ∀ (n : Nat) (cs : List Value) (y : DataW H × List MemPlace), cs.length = 2 → DataW.trod enc P w 0 spare held n c cs = some y → ∃ a b, cs = [.int .i64 a, .int .i64 b] ∧ InI64 a ∧ InI64 b)
    (e1 : ∀ (n : Nat) (cs : List Value) (y : DataW H × List MemPlace), DataW.trod enc P w 0 spare held n s cs = some y → ∃ v l, cs = [v] ∧ R w [v] l)
    (n : Nat) (cs : List Value) (y : DataW H × List MemPlace) (hl : cs.length = 3) (h : DataW.trod enc P w 0 spare held n t cs = some y) : ∃ a b v l, cs = [.int .i64 a, .int .i64 b, v] ∧ R w [v] l := by
  obtain ⟨xs, m, _, _, _, hx, hg⟩ := DataW.trod_struct ht h
  match cs, hl with
  | [c0, c1, c2], _ =>
    match xs, hx with
    | [y0, y1], _ =>
      have g0 := hg 0 f0 rfl
      have g1 := hg 1 f1 rfl
      rw [h0.1, h0.2, hc] at g0
      rw [h1.1, h1.2, hs] at g1
      obtain ⟨a, b, q0, _, _⟩ := e0 _ _ _ rfl g0
      obtain ⟨v, l, q1, hs⟩ := e1 _ _ _ g1
      simp at q0 q1
      obtain ⟨rfl, rfl⟩ := q0
      subst q1
      exact ⟨a, b, _, l, rfl, hs⟩
theorem cube_elem (n : Nat) (cs : List Value) (y : DataW H × List MemPlace) (hl : cs.length = 2) (h : DataW.trod enc Try.prog w 0 spare held n 36 cs = some y) : ∃ a b, cs = [.int .i64 a, .int .i64 b] ∧ InI64 a ∧ InI64 b :=
  pair_elem (P := Try.prog) Try.underlying36 Try.underlying3 (And.intro rfl rfl) (And.intro rfl rfl) cells_int hl h
theorem spans_cell (n : Nat) (cs : List Value) (y : DataW H × List MemPlace) (h : DataW.trod enc Try.prog w 0 spare held n 97 cs = some y) : ∃ v l, cs = [v] ∧ (fun w (cs : List Value) l => ∀ v ∈ cs, IsSpans w.heap.size w v l) w [v] l := by
  obtain ⟨v, l, h1, h2, _⟩ := isSl_of_trod (P := Try.prog) Try.underlying97 cells_span Nat.two_pos span_elem h
  exact ⟨v, l, h1, by simpa using h2⟩
theorem box_elem (n : Nat) (cs : List Value) (y : DataW H × List MemPlace) (hl : cs.length = 3) (h : DataW.trod enc Try.prog w 0 spare held n 99 cs = some y) : ∃ z : Box, RBox w.heap.size w cs z ∧ True := by
  obtain ⟨a, b, v, l, h1, h2⟩ := box_gen (P := Try.prog) (R := fun w cs l => ∀ v ∈ cs, IsSpans w.heap.size w v l) Try.underlying99 (And.intro rfl rfl) (And.intro rfl rfl) cells_cube cells_spans cube_elem spans_cell n cs y hl h
  exact ⟨⟨⟨a, b⟩, l⟩, ⟨v, h1, by simpa using h2⟩, trivial⟩
theorem open_boxes {A : Option Addr} {len cap : Nat} {d : DataW H} {p : List MemPlace} (h : DataW.Trod enc Try.prog w 0 spare held 22 (.slice A len cap) d p) :
    ∃ l : List Box, l.length = len ∧ len ≤ maxLen ∧ SlBoxes w.heap.size w A l ∧ ∀ z ∈ l, True :=
  slice_arg Try.underlying22 cells_box (by omega) box_elem h

theorem node_gen {P : Program} {t i : TypeId} {f0 f1 f2 : Field} (ht : P.underlying t = some (.struct #[f0, f1, f2])) (hi : P.underlying i = some (.int .i64)) (h0 : f0.type = i ∧ f0.offset = 0) (h1 : f1.type = i ∧ f1.offset = 1) (h2 : f2.type = i ∧ f2.offset = 2) (hc : P.cellsOf i = 1)
    (n : Nat) (cs : List Value) (y : DataW H × List MemPlace) (hl : cs.length = 3) (h : DataW.trod enc P w 0 spare held n t cs = some y) : ∃ a b c, cs = [.int .i64 a, .int .i64 b, .int .i64 c] ∧ InI64 a ∧ InI64 b ∧ InI64 c := by
  obtain ⟨xs, m, _, _, _, hx, hg⟩ := DataW.trod_struct ht h
  match cs, hl with
  | [c0, c1, c2], _ =>
    match xs, hx with
    | [y0, y1, y2], _ =>
      have g0 := hg 0 f0 rfl
      have g1 := hg 1 f1 rfl
      have g2 := hg 2 f2 rfl
      rw [h0.1, h0.2, hc] at g0
      rw [h1.1, h1.2, hc] at g1
      rw [h2.1, h2.2, hc] at g2
      obtain ⟨a, e0, w0⟩ := int_cell hi g0
      obtain ⟨b, e1, w1⟩ := int_cell hi g1
      obtain ⟨c, e2, w2⟩ := int_cell hi g2
      simp at e0 e1 e2
      subst e0 e1 e2
      exact ⟨a, b, c, rfl, w0, w1, w2⟩
theorem node_elem (n : Nat) (cs : List Value) (y : DataW H × List MemPlace) (hl : cs.length = 3) (h : DataW.trod enc Try.prog w 0 spare held n 95 cs = some y) : ∃ z : Node, RNode w cs z ∧ (InI64 z.kind ∧ InI64 z.a ∧ InI64 z.b) := by
  obtain ⟨a, b, c, h1, h2⟩ := node_gen (P := Try.prog) Try.underlying95 Try.underlying3 (And.intro rfl rfl) (And.intro rfl rfl) (And.intro rfl rfl) cells_int n cs y hl h
  exact ⟨⟨a, b, c⟩, h1, h2⟩
theorem open_nodes {A : Option Addr} {len cap : Nat} {d : DataW H} {p : List MemPlace} (h : DataW.Trod enc Try.prog w 0 spare held 23 (.slice A len cap) d p) :
    ∃ l : List Node, l.length = len ∧ len ≤ maxLen ∧ Sl w.heap.size 95 RNode 3 w A l ∧ ∀ z ∈ l, InI64 z.kind ∧ InI64 z.a ∧ InI64 z.b :=
  slice_arg Try.underlying23 cells_node (by omega) node_elem h

/-- a struct of two integers, by value. -/
theorem open_pair {P : Program} {t i : TypeId} {f0 f1 : Field} (ht : P.underlying t = some (.struct #[f0, f1])) (hone : oneCellFields P #[f0, f1] = true) (hC : P.cellsOf t = 2) (hi : P.underlying i = some (.int .i64)) (hf0 : f0.type = i) (hf1 : f1.type = i)
    {base : Nat} {v : Value} {d : DataW H} {p : List MemPlace} (hv : Value.okWide P w .any base t v) (h : DataW.Trod enc P w 0 spare held t v d p) : ∃ a b, v = .agg #[.int .i64 a, .int .i64 b] ∧ InI64 a ∧ InI64 b := by
  obtain ⟨v0, v1, y0, y1, n, rfl, _, _, g0, g1⟩ := open_agg2 ht hone hC hv h
  rw [hf0] at g0
  rw [hf1] at g1
  obtain ⟨a, e0, w0⟩ := int_cell hi g0
  obtain ⟨b, e1, w1⟩ := int_cell hi g1
  simp at e0 e1
  subst e0 e1
  exact ⟨a, b, rfl, w0, w1⟩
theorem cells_point : Try.prog.cellsOf 59 = 2 := by kernel_rfl
theorem cells_dot : Try.prog.cellsOf 74 = 2 := by kernel_rfl
end
end Go.Proofs.Ytiigbcnnapnceaa
