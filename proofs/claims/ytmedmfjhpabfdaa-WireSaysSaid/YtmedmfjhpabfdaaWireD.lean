/- How batches read in memory. No walk. -/
import Derived.Test.YtmedmfjhpabfdaaWireP
import Derived.Test.YtmedmfjhpabfdaaShelfD
import Derived.Test.YtmedmfjhpabfdaaVerO
namespace Go.Proofs.Ytmedmfjhpabfdaa
open Go Go.RowKit Go.ChangeShapes Go.WideShapes Go.Deep Go.Joins

/-- what is gone: its name, and what takes its place. -/
def RGone (B : Nat) (w : World) (cs : List Value) (g : Gone) : Prop := ∃ a m, cs = [.string g.id, a, m] ∧ IsInts B w a g.past.vec ∧ IsDots B w m g.past.more ∧ g.id.size ≤ maxLen
theorem RGone.mono {B : Nat} {ts : List TypeId} (h3 : 3 ∉ ts) (h4 : 38 ∉ ts) : Mono B ts (RGone B) := by
  rintro w w' cs v x ⟨a, m, rfl, ha, hm, hz⟩
  exact ⟨a, m, rfl, ha.chg RInt.mono h3 x, hm.chg RPair.mono h4 x, hz⟩
theorem RGone.monoE {B : Nat} : Mono B [] (RGone B) := RGone.mono (by simp) (by simp)
theorem RGone.oneC {B : Nat} : OneC (RGone B) := by
  rintro w cs v ⟨a, m, rfl, ⟨_, _, rfl, _⟩, ⟨_, _, rfl, _⟩, _⟩ u hu
  simp at hu
  rcases hu with rfl | rfl | rfl <;> rfl
abbrev SlGones (B : Nat) := Sl B 48 (RGone B) 3
abbrev IsGones (B : Nat) := IsSl B 48 (RGone B) 3
/-- one that is gone, by value: where its rows lie. -/
structure InG (B : Nat) (w : World) (Av : Option Addr) (cv : Nat) (Am : Option Addr) (cm : Nat) (v : Gone) : Prop where
  lcv : v.past.vec.length ≤ cv ∧ cv ≤ maxLen
  lcm : v.past.more.length ≤ cm ∧ cm ≤ maxLen
  lid : v.id.size ≤ maxLen
  k : InK B w Av Am v.past
theorem InG.ext {B : Nat} {w w' : World} {Av : Option Addr} {cv : Nat} {Am : Option Addr} {cm : Nat} {v : Gone} (h : InG B w Av cv Am cm v) (x : Ext w w') : InG B w' Av cv Am cm v := ⟨h.lcv, h.lcm, h.lid, h.k.ext x⟩
theorem InG.chg {B : Nat} {ts : List TypeId} {w w' : World} {Av : Option Addr} {cv : Nat} {Am : Option Addr} {cm : Nat} {v : Gone} (h : InG B w Av cv Am cm v) (x : Chg B ts w w') (h3 : 3 ∉ ts) (h4 : 38 ∉ ts) : InG B w' Av cv Am cm v := ⟨h.lcv, h.lcm, h.lid, h.k.chg x h3 h4⟩
theorem InG.rgone {B : Nat} {w : World} {Av : Option Addr} {cv : Nat} {Am : Option Addr} {cm : Nat} {v : Gone} (h : InG B w Av cv Am cm v) : RGone B w [.string v.id, .slice Av v.past.vec.length cv, .slice Am v.past.more.length cm] v :=
  ⟨_, _, rfl, ⟨Av, cv, rfl, h.lcv.1, h.lcv.2, h.k.sv⟩, ⟨Am, cm, rfl, h.lcm.1, h.lcm.2, h.k.sm⟩, h.lid⟩
theorem RGone.inG {B : Nat} {w : World} {cs : List Value} {v : Gone} (h : RGone B w cs v) : ∃ Av cv Am cm, cs = [.string v.id, .slice Av v.past.vec.length cv, .slice Am v.past.more.length cm] ∧ InG B w Av cv Am cm v := by
  obtain ⟨a, m, rfl, ⟨Av, cv, rfl, v1, v2, v3⟩, ⟨Am, cm, rfl, m1, m2, m3⟩, hz⟩ := h
  exact ⟨Av, cv, Am, cm, rfl, ⟨⟨v1, v2⟩, ⟨m1, m2⟩, hz, ⟨by omega, by omega, v3, m3⟩⟩⟩
theorem Sl.gone {B : Nat} {w : World} {A : Option Addr} {l : List Gone} (h : SlGones B w A l) {i : Nat} (hi : i < l.length) :
    ∃ b off Av cv Am cm, A = some ⟨b, off, none⟩ ∧ b < w.heap.size ∧ w.rangeAt b (off + i * 3) [.string l[i].id, .slice Av l[i].past.vec.length cv, .slice Am l[i].past.more.length cm] ∧ InG B w Av cv Am cm l[i] := by
  obtain ⟨b, off, cs, hA, hb, _, hc, hR⟩ := h.at_ hi
  obtain ⟨Av, cv, Am, cm, rfl, hP⟩ := hR.inG
  exact ⟨b, off, Av, cv, Am, cm, hA, hb, hc, hP⟩
/-- a batch by value: where its rows lie. -/
structure InB (B : Nat) (w : World) (Ax : Option Addr) (cx : Nat) (Ag : Option Addr) (cg : Nat) (Ap : Option Addr) (cp : Nat) (b : Batch) : Prop where
  lx : b.vers.length ≤ cx ∧ cx ≤ maxLen
  lg : b.gone.length ≤ cg ∧ cg ≤ maxLen
  lp : b.parts.length ≤ cp ∧ cp ≤ maxLen
  sx : SlVers B w Ax b.vers
  sg : SlGones B w Ag b.gone
  sp : SlParts B w Ap b.parts
theorem InB.ext {B : Nat} {w w' : World} {Ax : Option Addr} {cx : Nat} {Ag : Option Addr} {cg : Nat} {Ap : Option Addr} {cp : Nat} {b : Batch} (h : InB B w Ax cx Ag cg Ap cp b) (x : Ext w w') : InB B w' Ax cx Ag cg Ap cp b :=
  ⟨h.lx, h.lg, h.lp, h.sx.ext RVer.monoE x, h.sg.ext RGone.monoE x, h.sp.ext RPart.monoE x⟩
theorem InB.mx {B : Nat} {w : World} {Ax : Option Addr} {cx : Nat} {Ag : Option Addr} {cg : Nat} {Ap : Option Addr} {cp : Nat} {b : Batch} (h : InB B w Ax cx Ag cg Ap cp b) : b.vers.length ≤ maxLen ∧ b.gone.length ≤ maxLen ∧ b.parts.length ≤ maxLen := by
  have h1 := h.lx
  have h2 := h.lg
  have h3 := h.lp
  omega
theorem InB.empty {B : Nat} {w : World} {s t : Int} : InB B w none 0 none 0 none 0 ⟨s, t, [], [], []⟩ := ⟨⟨Nat.zero_le _, Nat.zero_le _⟩, ⟨Nat.zero_le _, Nat.zero_le _⟩, ⟨Nat.zero_le _, Nat.zero_le _⟩, Sl.nil, Sl.nil, Sl.nil⟩

section
variable {H : Type} {enc : TypeId × Value → H} {w : World} {spare : Nat → Bool} {held : Bool}
theorem cells_gone : Try.prog.cellsOf 48 = 3 := by kernel_rfl
theorem cells_vers : Try.prog.cellsOf 22 = 1 := by kernel_rfl
theorem cells_gones : Try.prog.cellsOf 23 = 1 := by kernel_rfl
theorem cells_partsS : Try.prog.cellsOf 24 = 1 := by kernel_rfl
theorem cells_batch : Try.prog.cellsOf 26 = 5 := by kernel_rfl
theorem gone_elem (n : Nat) (cs : List Value) (y : DataW H × List MemPlace) (hl : cs.length = 3) (h : DataW.trod enc Try.prog w 0 spare held n 48 cs = some y) : ∃ z : Gone, RGone w.heap.size w cs z ∧ True := by
  obtain ⟨x, u, v, h1, ⟨s, rfl, hz⟩, k, h3, h4⟩ := onetwo_gen (P := Try.prog) (R0 := fun v => ∃ s : ByteArray, v = .string s ∧ s.size ≤ maxLen) (R1 := fun u v => ∃ k : Know, IsInts w.heap.size w u k.vec ∧ IsDots w.heap.size w v k.more) Try.underlying48 (And.intro rfl rfl) (And.intro rfl rfl) cells_str cells_know str_cell know_cells n cs y hl h
  exact ⟨⟨s, k⟩, ⟨u, v, h1, h3, h4, hz⟩, trivial⟩
theorem vers_cell (n : Nat) (cs : List Value) (y : DataW H × List MemPlace) (h : DataW.trod enc Try.prog w 0 spare held n 22 cs = some y) : ∃ v, cs = [v] ∧ ∃ l, IsVers w.heap.size w v l := by
  obtain ⟨v, l, h1, h2, _⟩ := isSl_of_trod (P := Try.prog) (R := RVer w.heap.size) (Q := fun _ => True) Try.underlying22 cells_ver (by omega) ver_elem h
  exact ⟨v, h1, l, h2⟩
theorem gones_cell (n : Nat) (cs : List Value) (y : DataW H × List MemPlace) (h : DataW.trod enc Try.prog w 0 spare held n 23 cs = some y) : ∃ v, cs = [v] ∧ ∃ l, IsGones w.heap.size w v l := by
  obtain ⟨v, l, h1, h2, _⟩ := isSl_of_trod (P := Try.prog) (R := RGone w.heap.size) (Q := fun _ => True) Try.underlying23 cells_gone (by omega) gone_elem h
  exact ⟨v, h1, l, h2⟩
theorem parts_cell (n : Nat) (cs : List Value) (y : DataW H × List MemPlace) (h : DataW.trod enc Try.prog w 0 spare held n 24 cs = some y) : ∃ v, cs = [v] ∧ ∃ l, IsParts w.heap.size w v l := by
  obtain ⟨v, l, h1, h2, _⟩ := isSl_of_trod (P := Try.prog) (R := RPart w.heap.size) (Q := fun _ => True) Try.underlying24 cells_part (by omega) part_elem h
  exact ⟨v, h1, l, h2⟩
theorem five_gen {P : Program} {t a b c d e : TypeId} {f0 f1 f2 f3 f4 : Field} {R0 R1 R2 R3 R4 : Value → Prop} (ht : P.underlying t = some (.struct #[f0, f1, f2, f3, f4])) (h0 : f0.type = a ∧ f0.offset = 0) (h1 : f1.type = b ∧ f1.offset = 1) (h2 : f2.type = c ∧ f2.offset = 2) (h3 : f3.type = d ∧ f3.offset = 3) (h4 : f4.type = e ∧ f4.offset = 4)
    (ha : P.cellsOf a = 1) (hb : P.cellsOf b = 1) (hc : P.cellsOf c = 1) (hd : P.cellsOf d = 1) (he : P.cellsOf e = 1)
    (e0 : ∀ (n : Nat) (cs : List Value) (y : DataW H × List MemPlace), DataW.trod enc P w 0 spare held n a cs = some y → ∃ v, cs = [v] ∧ R0 v)
    (e1 : ∀ (n : Nat) (cs : List Value) (y : DataW H × List MemPlace), DataW.trod enc P w 0 spare held n b cs = some y → ∃ v, cs = [v] ∧ R1 v)
    (e2 : ∀ (n : Nat) (cs : List Value) (y : DataW H × List MemPlace), DataW.trod enc P w 0 spare held n c cs = some y → ∃ v, cs = [v] ∧ R2 v)
    (e3 : ∀ (n : Nat) (cs : List Value) (y : DataW H × List MemPlace), DataW.trod enc P w 0 spare held n d cs = some y → ∃ v, cs = [v] ∧ R3 v)
    (e4 : ∀ (n : Nat) (cs : List Value) (y : DataW H × List MemPlace), DataW.trod enc P w 0 spare held n e cs = some y → ∃ v, cs = [v] ∧ R4 v)
    (n : Nat) (cs : List Value) (y : DataW H × List MemPlace) (hl : cs.length = 5) (h : DataW.trod enc P w 0 spare held n t cs = some y) : ∃ x0 x1 x2 x3 x4, cs = [x0, x1, x2, x3, x4] ∧ R0 x0 ∧ R1 x1 ∧ R2 x2 ∧ R3 x3 ∧ R4 x4 := by
  obtain ⟨xs, m, _, _, _, hx, hg⟩ := DataW.trod_struct ht h
  match cs, hl with
  | [c0, c1, c2, c3, c4], _ =>
    match xs, hx with
    | [y0, y1, y2, y3, y4], _ =>
      have g0 := hg 0 f0 rfl
      have g1 := hg 1 f1 rfl
      have g2 := hg 2 f2 rfl
      have g3 := hg 3 f3 rfl
      have g4 := hg 4 f4 rfl
      rw [h0.1, h0.2, ha] at g0
      rw [h1.1, h1.2, hb] at g1
      rw [h2.1, h2.2, hc] at g2
      rw [h3.1, h3.2, hd] at g3
      rw [h4.1, h4.2, he] at g4
      obtain ⟨x0, q0, r0⟩ := e0 _ _ _ g0
      obtain ⟨x1, q1, r1⟩ := e1 _ _ _ g1
      obtain ⟨x2, q2, r2⟩ := e2 _ _ _ g2
      obtain ⟨x3, q3, r3⟩ := e3 _ _ _ g3
      obtain ⟨x4, q4, r4⟩ := e4 _ _ _ g4
      simp at q0 q1 q2 q3 q4
      subst q0 q1 q2 q3 q4
      exact ⟨_, _, _, _, _, rfl, r0, r1, r2, r3, r4⟩
theorem batch_elem (n : Nat) (cs : List Value) (y : DataW H × List MemPlace) (hl : cs.length = 5) (h : DataW.trod enc Try.prog w 0 spare held n 26 cs = some y) : ∃ z : Batch, (∃ Ax cx Ag cg Ap cp, cs = [.int .i64 z.site, .int .i64 z.stamp, .slice Ax z.vers.length cx, .slice Ag z.gone.length cg, .slice Ap z.parts.length cp] ∧ InB w.heap.size w Ax cx Ag cg Ap cp z) ∧ True := by
  obtain ⟨x0, x1, x2, x3, x4, rfl, ⟨s, rfl⟩, ⟨t, rfl⟩, ⟨lx, Ax, cx, rfl, a1, a2, a3⟩, ⟨lg, Ag, cg, rfl, b1, b2, b3⟩, ⟨lp, Ap, cp, rfl, c1, c2, c3⟩⟩ := five_gen (P := Try.prog) (R0 := fun v => ∃ s : Int, v = .int .i64 s) (R1 := fun v => ∃ s : Int, v = .int .i64 s) (R2 := fun v => ∃ l, IsVers w.heap.size w v l) (R3 := fun v => ∃ l, IsGones w.heap.size w v l) (R4 := fun v => ∃ l, IsParts w.heap.size w v l)
    Try.underlying26 (And.intro rfl rfl) (And.intro rfl rfl) (And.intro rfl rfl) (And.intro rfl rfl) (And.intro rfl rfl) cells_int cells_int cells_vers cells_gones cells_partsS int_cellV int_cellV vers_cell gones_cell parts_cell n cs y hl h
  exact ⟨⟨s, t, lx, lg, lp⟩, ⟨Ax, cx, Ag, cg, Ap, cp, rfl, ⟨⟨a1, a2⟩, ⟨b1, b2⟩, ⟨c1, c2⟩, a3, b3, c3⟩⟩, trivial⟩
set_option maxRecDepth 100000 in
theorem open_batch {base : Nat} {v : Value} {d : DataW H} {p : List MemPlace} (hv : Value.okWide Try.prog w .any base 26 v) (h : DataW.Trod enc Try.prog w 0 spare held 26 v d p) :
    ∃ z Ax cx Ag cg Ap cp, v = .agg #[.int .i64 z.site, .int .i64 z.stamp, .slice Ax z.vers.length cx, .slice Ag z.gone.length cg, .slice Ap z.parts.length cp] ∧ InB w.heap.size w Ax cx Ag cg Ap cp z := by
  obtain ⟨z, cs, rfl, ⟨Ax, cx, Ag, cg, Ap, cp, h2, h3⟩, _⟩ := open_cells (R := fun w cs z => ∃ Ax cx Ag cg Ap cp, cs = [.int .i64 z.site, .int .i64 z.stamp, .slice Ax z.vers.length cx, .slice Ag z.gone.length cg, .slice Ap z.parts.length cp] ∧ InB w.heap.size w Ax cx Ag cg Ap cp z) (Q := fun _ : Batch => True) Try.underlying26 cells_batch batch_elem hv h
  refine ⟨z, Ax, cx, Ag, cg, Ap, cp, ?_, h3⟩
  rw [← h2, Array.toArray_toList]
end
theorem ri_gone : RowInfo Try.prog 48 3 := ⟨⟨_, Try.underlying48, rfl⟩, by kernel_rfl⟩
end Go.Proofs.Ytmedmfjhpabfdaa
