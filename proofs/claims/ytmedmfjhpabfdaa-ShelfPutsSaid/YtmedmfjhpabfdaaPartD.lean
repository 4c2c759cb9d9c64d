/- How parts of what is known read in memory. No walk. -/
import Derived.Test.YtmedmfjhpabfdaaJoinKnPl
import Derived.Test.YtmedmfjhpabfdaaWalks
import Derived.Test.YtmedmfjhpabfdaaKnU
import Derived.Test.YtmedmfjhpabfdaaBase
namespace Go.Proofs.Ytmedmfjhpabfdaa
open Go Go.RowKit Go.ChangeShapes Go.WideShapes Go.Deep Go.Joins

/-- a part: its filter, its vector, its dots. -/
def RPart (B : Nat) (w : World) (cs : List Value) (p : Part) : Prop := ∃ f v m, cs = [f, v, m] ∧ IsBoxes B w f p.filter ∧ IsInts B w v p.know.vec ∧ IsDots B w m p.know.more
theorem RPart.mono {B : Nat} {ts : List TypeId} (h1 : 110 ∉ ts) (h2 : 108 ∉ ts) (h3 : 3 ∉ ts) (h4 : 38 ∉ ts) : Mono B ts (RPart B) := by
  rintro w w' cs p x ⟨f, v, m, rfl, hf, hv, hm⟩
  exact ⟨f, v, m, rfl, hf.chg (RBox.mono h1) h2 x, hv.chg RInt.mono h3 x, hm.chg RPair.mono h4 x⟩
theorem RPart.monoE {B : Nat} : Mono B [] (RPart B) := RPart.mono (by simp) (by simp) (by simp) (by simp)
theorem RPart.oneC {B : Nat} : OneC (RPart B) := by
  rintro w cs p ⟨f, v, m, rfl, ⟨_, _, rfl, _⟩, ⟨_, _, rfl, _⟩, ⟨_, _, rfl, _⟩⟩ u hu
  simp at hu
  rcases hu with rfl | rfl | rfl <;> rfl
abbrev SlParts (B : Nat) := Sl B 69 (RPart B) 3
/-- a part by value: where its rows lie. -/
structure InP (B : Nat) (w : World) (Af : Option Addr) (cf : Nat) (Av : Option Addr) (cv : Nat) (Am : Option Addr) (cm : Nat) (p : Part) : Prop where
  lf : p.filter.length ≤ maxLen
  lcf : p.filter.length ≤ cf ∧ cf ≤ maxLen
  sf : SlBoxes B w Af p.filter
  lcv : p.know.vec.length ≤ cv ∧ cv ≤ maxLen
  lcm : p.know.more.length ≤ cm ∧ cm ≤ maxLen
  k : InK B w Av Am p.know
theorem InP.ext {B : Nat} {w w' : World} {Af : Option Addr} {cf : Nat} {Av : Option Addr} {cv : Nat} {Am : Option Addr} {cm : Nat} {p : Part} (h : InP B w Af cf Av cv Am cm p) (x : Ext w w') : InP B w' Af cf Av cv Am cm p :=
  ⟨h.lf, h.lcf, h.sf.ext RBox.monoE x, h.lcv, h.lcm, h.k.ext x⟩
theorem RPart.inP {B : Nat} {w : World} {cs : List Value} {p : Part} (h : RPart B w cs p) : ∃ Af cf Av cv Am cm, cs = [.slice Af p.filter.length cf, .slice Av p.know.vec.length cv, .slice Am p.know.more.length cm] ∧ InP B w Af cf Av cv Am cm p := by
  obtain ⟨f, v, m, rfl, ⟨Af, cf, rfl, f1, f2, f3⟩, ⟨Av, cv, rfl, v1, v2, v3⟩, ⟨Am, cm, rfl, m1, m2, m3⟩⟩ := h
  exact ⟨Af, cf, Av, cv, Am, cm, rfl, ⟨by omega, ⟨f1, f2⟩, f3, ⟨v1, v2⟩, ⟨m1, m2⟩, ⟨by omega, by omega, v3, m3⟩⟩⟩
theorem Sl.part {B : Nat} {w : World} {A : Option Addr} {l : List Part} (h : SlParts B w A l) {i : Nat} (hi : i < l.length) :
    ∃ b off Af cf Av cv Am cm, A = some ⟨b, off, none⟩ ∧ b < w.heap.size ∧ w.cell? ⟨b, off + i * 3, none⟩ = some (.slice Af l[i].filter.length cf) ∧ w.cell? ⟨b, off + i * 3 + 1, none⟩ = some (.slice Av l[i].know.vec.length cv) ∧
      w.cell? ⟨b, off + i * 3 + 2, none⟩ = some (.slice Am l[i].know.more.length cm) ∧ InP B w Af cf Av cv Am cm l[i] := by
  obtain ⟨b, off, cs, hA, hb, _, hc, hR⟩ := h.at_ hi
  obtain ⟨Af, cf, Av, cv, Am, cm, rfl, hP⟩ := hR.inP
  have g0 := hc 0 _ rfl
  have g1 := hc 1 _ rfl
  have g2 := hc 2 _ rfl
  simp only [Nat.add_zero] at g0
  exact ⟨b, off, Af, cf, Av, cv, Am, cm, hA, hb, g0, g1, g2, hP⟩

section
variable {H : Type} {enc : TypeId × Value → H} {w : World} {spare : Nat → Bool} {held : Bool}
theorem cells_ints : Try.prog.cellsOf 41 = 1 := by kernel_rfl
theorem cells_dots : Try.prog.cellsOf 42 = 1 := by kernel_rfl
theorem two_gen {P : Program} {t a b : TypeId} {f0 f1 : Field} {R0 R1 : Value → Prop} (ht : P.underlying t = some (.struct #[f0, f1])) (h0 : f0.type = a ∧ f0.offset = 0) (h1 : f1.type = b ∧ f1.offset = 1) (ha : P.cellsOf a = 1) (hb : P.cellsOf b = 1)
    (e0 : ∀ (n : Nat) (cs : List Value) (y : DataW H × List MemPlace), DataW.trod enc P w 0 spare held n a cs = some y → ∃ v, cs = [v] ∧ R0 v)
    (e1 : ∀ (n : Nat) (cs : List Value) (y : DataW H × List MemPlace), DataW.trod enc P w 0 spare held n b cs = some y → ∃ v, cs = [v] ∧ R1 v)
    (n : Nat) (cs : List Value) (y : DataW H × List MemPlace) (hl : cs.length = 2) (h : DataW.trod enc P w 0 spare held n t cs = some y) : ∃ u v, cs = [u, v] ∧ R0 u ∧ R1 v := by
  obtain ⟨xs, m, _, _, _, hx, hg⟩ := DataW.trod_struct ht h
  match cs, hl with
  | [c0, c1], _ =>
    match xs, hx with
    | [y0, y1], _ =>
      have g0 := hg 0 f0 rfl
      have g1 := hg 1 f1 rfl
      rw [h0.1, h0.2, ha] at g0
      rw [h1.1, h1.2, hb] at g1
      obtain ⟨u, q0, r0⟩ := e0 _ _ _ g0
      obtain ⟨v, q1, r1⟩ := e1 _ _ _ g1
      simp at q0 q1
      subst q0 q1
      exact ⟨_, _, rfl, r0, r1⟩
theorem onetwo_gen {P : Program} {t a b : TypeId} {f0 f1 : Field} {R0 : Value → Prop} {R1 : Value → Value → Prop} (ht : P.underlying t = some (.struct #[f0, f1])) (h0 : f0.type = a ∧ f0.offset = 0) (h1 : f1.type = b ∧ f1.offset = 1) (ha : P.cellsOf a = 1) (hb : P.cellsOf b = 2)
    (e0 : ∀ (n : Nat) (cs : List Value) (y : DataW H × List MemPlace), DataW.trod enc P w 0 spare held n a cs = some y → ∃ v, cs = [v] ∧ R0 v)
    (e1 : ∀ (n : Nat) (cs : List Value) (y : DataW H × List MemPlace), cs.length = 2 → DataW.trod enc P w 0 spare held n b cs = some y → ∃ u v, cs = [u, v] ∧ R1 u v)
    (n : Nat) (cs : List Value) (y : DataW H × List MemPlace) (hl : cs.length = 3) (h : DataW.trod enc P w 0 spare held n t cs = some y) : ∃ x u v, cs = [x, u, v] ∧ R0 x ∧ R1 u v := by
  obtain ⟨xs, m, _, _, _, hx, hg⟩ := DataW.trod_struct ht h
  match cs, hl with
  | [c0, c1, c2], _ =>
    match xs, hx with
    | [y0, y1], _ =>
      have g0 := hg 0 f0 rfl
      have g1 := hg 1 f1 rfl
      rw [h0.1, h0.2, ha] at g0
      rw [h1.1, h1.2, hb] at g1
      obtain ⟨x, q0, r0⟩ := e0 _ _ _ g0
      obtain ⟨u, v, q1, r1⟩ := e1 _ _ _ rfl g1
      simp at q0 q1
      obtain ⟨rfl, rfl⟩ := q1
      subst q0
      exact ⟨_, _, _, rfl, r0, r1⟩
theorem ints_cell (n : Nat) (cs : List Value) (y : DataW H × List MemPlace) (h : DataW.trod enc Try.prog w 0 spare held n 41 cs = some y) : ∃ v, cs = [v] ∧ ∃ l, IsInts w.heap.size w v l := by
  obtain ⟨v, l, h1, h2, _⟩ := isSl_of_trod (P := Try.prog) (R := RInt) (Q := fun _ => True) Try.underlying41 cells_int Nat.one_pos (fun _ _ _ _ h => by obtain ⟨z, hz, _⟩ := int_cell Try.underlying3 h; exact ⟨z, hz, trivial⟩) h
  exact ⟨v, h1, l, h2⟩
theorem dots_cell (n : Nat) (cs : List Value) (y : DataW H × List MemPlace) (h : DataW.trod enc Try.prog w 0 spare held n 42 cs = some y) : ∃ v, cs = [v] ∧ ∃ l, IsDots w.heap.size w v l := by
  obtain ⟨v, l, h1, h2, _⟩ := isSl_of_trod (P := Try.prog) (R := RDot) (Q := fun _ => True) Try.underlying42 cells_dot Nat.two_pos dot_elem h
  exact ⟨v, h1, l, h2⟩
theorem know_cells (n : Nat) (cs : List Value) (y : DataW H × List MemPlace) (hl : cs.length = 2) (h : DataW.trod enc Try.prog w 0 spare held n 44 cs = some y) : ∃ u v, cs = [u, v] ∧ ∃ k : Know, IsInts w.heap.size w u k.vec ∧ IsDots w.heap.size w v k.more := by
  obtain ⟨u, v, h1, ⟨l, h2⟩, ⟨m, h3⟩⟩ := two_gen (P := Try.prog) (R0 := fun v => ∃ l, IsInts w.heap.size w v l) (R1 := fun v => ∃ l, IsDots w.heap.size w v l) Try.underlying44 (And.intro rfl rfl) (And.intro rfl rfl) cells_ints cells_dots ints_cell dots_cell n cs y hl h
  exact ⟨u, v, h1, ⟨l, m⟩, h2, h3⟩
end

/-! what the reference says of parts: an array of points and an array of dots. -/
def RRef (_ : World) (cs : List Value) (x : RP) : Prop := cs = (rowB 512 x.P ++ rowD x.K).toList
theorem RRef.mono {B : Nat} {ts : List TypeId} : Mono B ts RRef := fun _ _ _ _ _ h => h
theorem refRow_all (x : RP) : (rowB 512 x.P ++ rowD x.K).all (·.oneCell') = true := by
  rw [Array.all_append, rowB_all, rowD_all]; rfl
theorem RRef.oneC : OneC RRef := by
  intro w cs x h u hu
  unfold RRef at h
  rw [h] at hu
  exact Array.all_eq_true_iff_forall_mem.1 (refRow_all x) u (Array.mem_toList_iff.1 hu)
end Go.Proofs.Ytmedmfjhpabfdaa
