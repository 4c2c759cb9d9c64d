/- What came in, read as plain Lean values. No program in sight. -/
import Derived.Test.YtiigbcnnapnceaaData
import Derived.ProofKit
import Derived.OpenShut
import Derived.ShutString
import Derived.ChangeOld
import Derived.Deep.Slices
import Derived.Deep.Fields
import Derived.ChangeSame
namespace Go.Proofs.Ytiigbcnnapnceaa
open Go Go.RowKit Go.ChangeShapes Go.WideShapes Go.Deep

section
variable {H : Type} {enc : TypeId × Value → H} {P : Program} {w : World} {spare : Nat → Bool} {held : Bool}

theorem sl_of_trod {α : Type} {R : World → List Value → α → Prop} {sz : Nat} {Q : α → Prop} {t e : TypeId} {fuel : Nat} {A : Option Addr} {len cap : Nat} {x : DataW H × List MemPlace} (ht : P.underlying t = some (.slice e)) (hC : P.cellsOf e = sz) (hsz : 0 < sz)
    (helem : ∀ (n : Nat) (cs : List Value) (y : DataW H × List MemPlace), cs.length = sz → DataW.trod enc P w 0 spare held n e cs = some y → ∃ z : α, R w cs z ∧ Q z)
    (h : DataW.trod enc P w 0 spare held fuel t [.slice A len cap] = some x) :
    ∃ l : List α, l.length = len ∧ len ≤ cap ∧ cap ≤ maxLen ∧ Sl w.heap.size e R sz w A l ∧ ∀ z ∈ l, Q z := by
  rcases open_slice ht h with ⟨h0, _⟩ | ⟨a, len', cap', m, n, D, Pl, hcs, hb, hl, hm, hmm, hx, hi⟩
  · simp only [List.cons.injEq, Value.slice.injEq, and_true] at h0
    obtain ⟨rfl, rfl, rfl⟩ := h0
    exact ⟨[], rfl, Nat.le_refl _, Nat.zero_le _, Sl.nil, by simp⟩
  · simp only [List.cons.injEq, Value.slice.injEq, and_true] at hcs
    obtain ⟨rfl, rfl, rfl⟩ := hcs
    have hlm : len ≤ m := by rw [hmm]; split <;> omega
    have key : ∀ i, i < len → ∃ z : α, (∃ cs, cs.length = sz ∧ (∀ j, j < sz → w.cell? ((a.add (i * sz)).add j) = cs[j]?) ∧ R w cs z) ∧ Q z := by
      intro i hil
      obtain ⟨cs', hc, ht'⟩ := hi i (by omega)
      rw [hC] at hc
      obtain ⟨_, hcl, hat⟩ := World.cells?_some hc
      obtain ⟨z, hz, hq⟩ := helem n cs' _ hcl ht'
      exact ⟨z, ⟨cs', hcl, hat, hz⟩, hq⟩
    obtain ⟨l, hll, hlz⟩ := choose_list (p := fun i z => (∃ cs, cs.length = sz ∧ (∀ j, j < sz → w.cell? ((a.add (i * sz)).add j) = cs[j]?) ∧ R w cs z) ∧ Q z) len key
    refine ⟨l, hll, hl, hm, ?_, ?_⟩
    · intro i z hz
      obtain ⟨⟨cs, h1, h2, h3⟩, _⟩ := hlz i z hz
      have hil : i < len := by have := (List.getElem?_eq_some_iff.1 hz).1; omega
      -- the address has no spot: its first cell is there
      obtain ⟨⟨cs0, g1, g2, _⟩, _⟩ := hlz 0 _ (List.getElem?_eq_getElem (show 0 < l.length by omega))
      obtain ⟨b, off, spot⟩ := a
      have e0 := g2 0 hsz
      have hsome : ∃ u, cs0[0]? = some u := ⟨cs0[0]'(by omega), List.getElem?_eq_getElem (by omega)⟩
      obtain ⟨u, hu⟩ := hsome
      rw [hu] at e0
      have ea : ((⟨b, off, spot⟩ : Addr).add (0 * sz)).add 0 = ⟨b, off, spot⟩ := by simp [Addr.add]
      rw [ea] at e0
      have hspot : spot = none := by
        unfold World.cell? at e0
        split at e0
        · cases spot with
          | none => rfl
          | some s => simp at e0
        · cases e0
      subst hspot
      have hbl : b < w.heap.size := World.block_lt_of_cell? _ _ e0
      refine ⟨b, off, cs, rfl, hbl, .inl hbl, h1, ?_, h3⟩
      intro j v hj
      have hjs : j < sz := by have := (List.getElem?_eq_some_iff.1 hj).1; omega
      have := h2 j hjs
      rw [hj] at this
      have ea2 : (((⟨b, off, none⟩ : Addr).add (i * sz)).add j) = ⟨b, off + i * sz + j, none⟩ := by
        unfold Addr.add
        by_cases h1 : i * sz = 0 <;> by_cases h2 : j = 0 <;> simp [h1, h2]
      rwa [ea2] at this
    · intro z hz
      obtain ⟨i, hi, rfl⟩ := List.getElem_of_mem hz
      exact (hlz i _ (List.getElem?_eq_getElem hi)).2

/-- integers that fit int64. -/
def InI64 (n : Int) : Prop := -9223372036854775808 ≤ n ∧ n ≤ 9223372036854775807

theorem inI64_of_wf {n : Int} (h : (Lit.int .i64 n).wf = true) : InI64 n := by
  simp [Lit.wf] at h
  unfold InI64
  first
    | exact h
    | (simp [IntKind.min, IntKind.max] at h; omega)
    | skip
theorem int_cell {i : TypeId} {n : Nat} {cs : List Value} {y : DataW H × List MemPlace} (hi : P.underlying i = some (.int .i64)) (h : DataW.trod enc P w 0 spare held n i cs = some y) : ∃ a, cs = [.int .i64 a] ∧ InI64 a := by
  obtain ⟨n0, e0, _, w0⟩ := DataW.trod_int hi h
  exact ⟨n0, e0, inI64_of_wf w0⟩

theorem pair_elem {t i : TypeId} {f0 f1 : Field} (ht : P.underlying t = some (.struct #[f0, f1])) (hi : P.underlying i = some (.int .i64)) (hf0 : f0.type = i ∧ f0.offset = 0) (hf1 : f1.type = i ∧ f1.offset = 1) (hc : P.cellsOf i = 1)
    {n : Nat} {cs : List Value} {y : DataW H × List MemPlace} (hl : cs.length = 2) (h : DataW.trod enc P w 0 spare held n t cs = some y) : ∃ a b, cs = [.int .i64 a, .int .i64 b] ∧ InI64 a ∧ InI64 b := by
  obtain ⟨xs, m, _, _, _, hx, hg⟩ := DataW.trod_struct ht h
  match cs, hl with
  | [c0, c1], _ =>
    match xs, hx with
    | [y0, y1], _ =>
      have g0 := hg 0 f0 rfl
      have g1 := hg 1 f1 rfl
      rw [hf0.1, hf0.2, hc] at g0
      rw [hf1.1, hf1.2, hc] at g1
      obtain ⟨n0, e0, w0⟩ := int_cell hi g0
      obtain ⟨n1, e1, w1⟩ := int_cell hi g1
      simp at e0 e1
      exact ⟨n0, n1, by rw [e0, e1], w0, w1⟩

theorem slice_arg {α : Type} {R : World → List Value → α → Prop} {sz : Nat} {Q : α → Prop} {t e : TypeId} (ht : P.underlying t = some (.slice e)) (hC : P.cellsOf e = sz) (hsz : 0 < sz)
    (helem : ∀ (n : Nat) (cs : List Value) (y : DataW H × List MemPlace), cs.length = sz → DataW.trod enc P w 0 spare held n e cs = some y → ∃ z : α, R w cs z ∧ Q z)
    {A : Option Addr} {len cap : Nat} {d : DataW H} {p : List MemPlace} (h : DataW.Trod enc P w 0 spare held t (.slice A len cap) d p) :
    ∃ l : List α, l.length = len ∧ len ≤ maxLen ∧ Sl w.heap.size e R sz w A l ∧ ∀ z ∈ l, Q z := by
  obtain ⟨fuel, hf⟩ := h
  obtain ⟨l, hl, h1, h2, h3, h4⟩ := sl_of_trod (R := R) ht hC hsz helem hf
  exact ⟨l, hl, by omega, h3, h4⟩
end

end Go.Proofs.Ytiigbcnnapnceaa
