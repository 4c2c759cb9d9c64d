/- How a set of dots reads in memory. No walk. -/
import Derived.Test.YtiigbcnnapnceaaKnowP
import Derived.Test.YtiigbcnnapnceaaFilD
namespace Go.Proofs.Ytiigbcnnapnceaa
open Go Go.RowKit

abbrev SlInts (B : Nat) := Sl B 3 RInt 1
abbrev SlDots (B : Nat) := Sl B 74 RDot 2
/-- the two rows of a set of dots. -/
structure InK (B : Nat) (w : World) (Av Am : Option Addr) (k : Know) : Prop where
  lv : k.vec.length ≤ maxLen
  lm : k.more.length ≤ maxLen
  sv : SlInts B w Av k.vec
  sm : SlDots B w Am k.more
theorem InK.chg {B : Nat} {ts : List TypeId} {w w' : World} {Av Am : Option Addr} {k : Know} (h : InK B w Av Am k) (x : Chg B ts w w') (hi : 3 ∉ ts) (hd : 74 ∉ ts) : InK B w' Av Am k :=
  ⟨h.lv, h.lm, h.sv.chg RInt.mono hi x, h.sm.chg RPair.mono hd x⟩
theorem InK.ext {B : Nat} {w w' : World} {Av Am : Option Addr} {k : Know} (h : InK B w Av Am k) (x : Ext w w') : InK B w' Av Am k := h.chg (ts := []) (.of_ext x) (by simp) (by simp)
/-- a set of dots by value. -/
def IsK (B : Nat) (w : World) (v : Value) (k : Know) : Prop := ∃ Av cv Am cm, v = .agg #[.slice Av k.vec.length cv, .slice Am k.more.length cm] ∧ k.vec.length ≤ cv ∧ cv ≤ maxLen ∧ k.more.length ≤ cm ∧ cm ≤ maxLen ∧ InK B w Av Am k
theorem IsK.ext {B : Nat} {w w' : World} {v : Value} {k : Know} (h : IsK B w v k) (x : Ext w w') : IsK B w' v k := by
  obtain ⟨Av, cv, Am, cm, h1, h2, h3, h4, h5, h6⟩ := h
  exact ⟨Av, cv, Am, cm, h1, h2, h3, h4, h5, h6.ext x⟩
theorem IsK.of {B : Nat} {w : World} {a b : Value} {k : Know} (ha : IsInts B w a k.vec) (hb : IsDots B w b k.more) : IsK B w (.agg #[a, b]) k := by
  obtain ⟨Av, cv, rfl, h1, h2, h3⟩ := ha
  obtain ⟨Am, cm, rfl, h4, h5, h6⟩ := hb
  exact ⟨Av, cv, Am, cm, rfl, h1, h2, h4, h5, ⟨by omega, by omega, h3, h6⟩⟩
theorem IsK.empty {B : Nat} {w : World} : IsK B w (.agg #[.slice none 0 0, .slice none 0 0]) ⟨[], []⟩ := IsK.of IsSl.nil IsSl.nil
/-- the cells of a set of dots. -/
def RKnow (B : Nat) (w : World) (cs : List Value) (k : Know) : Prop := ∃ a b, cs = [a, b] ∧ IsInts B w a k.vec ∧ IsDots B w b k.more

/-- how two dots compare. -/
def cmpD (a b : Dot) : Int := if a.site = b.site then a.count - b.count else a.site - b.site
theorem cmpD_lt {a b : Dot} : cmpD a b < 0 ↔ dlt a b = true := by
  rw [dlt_iff, cmpD]; split <;> omega
theorem cmpD_ge {a b : Dot} : 0 ≤ cmpD a b ↔ dlt a b = false := by
  rw [← Bool.not_eq_true, ← cmpD_lt]; omega
theorem cmpD_zero {a b : Dot} : cmpD a b = 0 ↔ a = b := by
  obtain ⟨x, y⟩ := a; obtain ⟨u, v⟩ := b
  simp only [cmpD, Dot.mk.injEq]; split <;> omega
theorem vecAt_out {v : List Int} {s : Nat} (h : v.length ≤ s) : vecAt v s = 0 := by simp [vecAt, h]
theorem vecAt_in {v : List Int} {s : Nat} (h : s < v.length) : vecAt v s = v[s] := by simp [vecAt, h]
theorem vecAt_bd {v : List Int} (h : ∀ n ∈ v, 0 ≤ n ∧ n ≤ 1000) (s : Nat) : 0 ≤ vecAt v s ∧ vecAt v s ≤ 1000 := by
  by_cases hs : s < v.length
  · rw [vecAt_in hs]; exact h _ (List.getElem_mem hs)
  · rw [vecAt_out (by omega)]; omega
theorem knowCheck_big {k : Know} (h : 5 < k.vec.length ∨ 60 < k.more.length) : knowCheck k = 2 := by rw [knowCheck, if_pos h]
theorem knowCheck_go {k : Know} (h : ¬ (5 < k.vec.length ∨ 60 < k.more.length)) : knowCheck k = if vecGo k.vec = 0 then (if k.vec.getLast? = some 0 then 3 else moreGo k.vec ⟨-1, 0⟩ k.more) else 1 := by rw [knowCheck, if_neg h]
theorem getLast_at {α : Type} {l : List α} (h : 0 < l.length) : l.getLast? = some (l[l.length - 1]) := by rw [List.getLast?_eq_getElem?, List.getElem?_eq_getElem (by omega)]
theorem dotOk_first {d : Dot} (h : dotOk d = true) : dlt ⟨-1, 0⟩ d = true := by
  have := dotOk_iff.1 h
  rw [dlt_iff]; left; show (-1 : Int) < d.site; omega
theorem lastDot_zero (l : List Dot) : lastDot l 0 = ⟨-1, 0⟩ := rfl
theorem lastDot_pos {l : List Dot} {k : Nat} (h : 0 < k) (hk : k ≤ l.length) : lastDot l k = l[k - 1] := by
  rw [lastDot, if_neg (by omega), List.getElem?_eq_getElem (by omega)]; rfl

end Go.Proofs.Ytiigbcnnapnceaa
