/- How batches read in memory. No walk. -/
import Derived.Test.YtmedmfjhpabfdaaWireP
import Derived.Test.YtmedmfjhpabfdaaShelfD
import Derived.Test.YtmedmfjhpabfdaaVerO
namespace Go.Proofs.Ytmedmfjhpabfdaa
open Go Go.RowKit Go.ChangeShapes Go.WideShapes Go.Deep Go.Joins

/-- what is gone: its name, and what takes its place. -/
def RGone (B : Nat) (w : World) (cs : List Value) (g : Gone) : Prop := ∃ a m, cs = [.string g.id, a, m] ∧ IsInts B w a g.past.vec ∧ IsDots B w m g.past.more ∧ g.id.size ≤ maxLen
theorem RGone.mono {B : Nat} {ts : List TypeId} (h3 : 3 ∉ ts) (h4 : 38 ∉ ts) : Mono B ts (RGone B) := by
  rintro w w' cs v x ⟨a, m, rfl, ha, hm, hz⟩
  exact ⟨a, m, rfl, ha.chg RInt.mono h3 x, hm.chg RPair.mono h4 x, hz⟩
theorem RGone.monoE {B : Nat} : Mono B [] (RGone B) := RGone.mono (by simp) (by simp)
theorem RGone.oneC {B : Nat} : OneC (RGone B) := by
  rintro w cs v ⟨a, m, rfl, ⟨_, _, rfl, _⟩, ⟨_, _, rfl, _⟩, _⟩ u hu
  simp at hu
  rcases hu with rfl | rfl | rfl <;> rfl
abbrev SlGones (B : Nat) := Sl B 48 (RGone B) 3
/-- one that is gone, by value: where its rows lie. -/
structure InG (B : Nat) (w : World) (Av : Option Addr) (cv : Nat) (Am : Option Addr) (cm : Nat) (v : Gone) : Prop where
  lcv : v.past.vec.length ≤ cv ∧ cv ≤ maxLen
  lcm : v.past.more.length ≤ cm ∧ cm ≤ maxLen
  lid : v.id.size ≤ maxLen
  k : InK B w Av Am v.past
theorem InG.ext {B : Nat} {w w' : World} {Av : Option Addr} {cv : Nat} {Am : Option Addr} {cm : Nat} {v : Gone} (h : InG B w Av cv Am cm v) (x : Ext w w') : InG B w' Av cv Am cm v := ⟨h.lcv, h.lcm, h.lid, h.k.ext x⟩
theorem InG.chg {B : Nat} {ts : List TypeId} {w w' : World} {Av : Option Addr} {cv : Nat} {Am : Option Addr} {cm : Nat} {v : Gone} (h : InG B w Av cv Am cm v) (x : Chg B ts w w') (h3 : 3 ∉ ts) (h4 : 38 ∉ ts) : InG B w' Av cv Am cm v := ⟨h.lcv, h.lcm, h.lid, h.k.chg x h3 h4⟩
theorem RGone.inG {B : Nat} {w : World} {cs : List Value} {v : Gone} (h : RGone B w cs v) : ∃ Av cv Am cm, cs = [.string v.id, .slice Av v.past.vec.length cv, .slice Am v.past.more.length cm] ∧ InG B w Av cv Am cm v := by
  obtain ⟨a, m, rfl, ⟨Av, cv, rfl, v1, v2, v3⟩, ⟨Am, cm, rfl, m1, m2, m3⟩, hz⟩ := h
  exact ⟨Av, cv, Am, cm, rfl, ⟨⟨v1, v2⟩, ⟨m1, m2⟩, hz, ⟨by omega, by omega, v3, m3⟩⟩⟩
theorem Sl.gone {B : Nat} {w : World} {A : Option Addr} {l : List Gone} (h : SlGones B w A l) {i : Nat} (hi : i < l.length) :
    ∃ b off Av cv Am cm, A = some ⟨b, off, none⟩ ∧ b < w.heap.size ∧ w.rangeAt b (off + i * 3) [.string l[i].id, .slice Av l[i].past.vec.length cv, .slice Am l[i].past.more.length cm] ∧ InG B w Av cv Am cm l[i] := by
  obtain ⟨b, off, cs, hA, hb, _, hc, hR⟩ := h.at_ hi
  obtain ⟨Av, cv, Am, cm, rfl, hP⟩ := hR.inG
  exact ⟨b, off, Av, cv, Am, cm, hA, hb, hc, hP⟩
/-- a batch by value: where its rows lie. -/
structure InB (B : Nat) (w : World) (Ax : Option Addr) (cx : Nat) (Ag : Option Addr) (cg : Nat) (Ap : Option Addr) (cp : Nat) (b : Batch) : Prop where
  lx : b.vers.length ≤ cx ∧ cx ≤ maxLen
  lg : b.gone.length ≤ cg ∧ cg ≤ maxLen
  lp : b.parts.length ≤ cp ∧ cp ≤ maxLen
  sx : SlVers B w Ax b.vers
  sg : SlGones B w Ag b.gone
  sp : SlParts B w Ap b.parts
theorem InB.ext {B : Nat} {w w' : World} {Ax : Option Addr} {cx : Nat} {Ag : Option Addr} {cg : Nat} {Ap : Option Addr} {cp : Nat} {b : Batch} (h : InB B w Ax cx Ag cg Ap cp b) (x : Ext w w') : InB B w' Ax cx Ag cg Ap cp b :=
  ⟨h.lx, h.lg, h.lp, h.sx.ext RVer.monoE x, h.sg.ext RGone.monoE x, h.sp.ext RPart.monoE x⟩
theorem InB.empty {B : Nat} {w : World} {s t : Int} : InB B w none 0 none 0 none 0 ⟨s, t, [], [], []⟩ := ⟨⟨Nat.zero_le _, Nat.zero_le _⟩, ⟨Nat.zero_le _, Nat.zero_le _⟩, ⟨Nat.zero_le _, Nat.zero_le _⟩, Sl.nil, Sl.nil, Sl.nil⟩

section
variable {H : Type} {enc : TypeId × Value → H} {w : World} {spare : Nat → Bool} {held : Bool}
theorem cells_gone : Try.prog.cellsOf 48 = 3 := by kernel_rfl
theorem gone_elem (n : Nat) (cs : List Value) (y : DataW H × List MemPlace) (hl : cs.length = 3) (h : DataW.trod enc Try.prog w 0 spare held n 48 cs = some y) : ∃ z : Gone, RGone w.heap.size w cs z ∧ True := by
  obtain ⟨x, u, v, h1, ⟨s, rfl, hz⟩, k, h3, h4⟩ := onetwo_gen (P := Try.prog) (R0 := fun v => ∃ s : ByteArray, v = .string s ∧ s.size ≤ maxLen) (R1 := fun u v => ∃ k : Know, IsInts w.heap.size w u k.vec ∧ IsDots w.heap.size w v k.more) Try.underlying48 (And.intro rfl rfl) (And.intro rfl rfl) cells_str cells_know str_cell know_cells n cs y hl h
  exact ⟨⟨s, k⟩, ⟨u, v, h1, h3, h4, hz⟩, trivial⟩
end
end Go.Proofs.Ytmedmfjhpabfdaa
