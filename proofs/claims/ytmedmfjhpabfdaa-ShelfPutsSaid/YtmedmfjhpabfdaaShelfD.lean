/- How versions read in memory. No walk. -/
import Derived.Test.YtmedmfjhpabfdaaShelfP
import Derived.Test.YtmedmfjhpabfdaaPartD
import Derived.Test.YtmedmfjhpabfdaaBase
namespace Go.Proofs.Ytmedmfjhpabfdaa
open Go Go.RowKit Go.ChangeShapes Go.WideShapes Go.Deep Go.Joins

/-- a version: its name, dot, point, body, and what it takes the place of. -/
def RVer (B : Nat) (w : World) (cs : List Value) (v : Version) : Prop := ∃ a m, cs = [.string v.id, .int .i64 v.dot.site, .int .i64 v.dot.count, .int .i64 v.pt.tags, .int .i64 v.pt.num, .int .i64 v.body, a, m] ∧ IsInts B w a v.past.vec ∧ IsDots B w m v.past.more ∧ v.id.size ≤ maxLen
theorem RVer.mono {B : Nat} {ts : List TypeId} (h3 : 3 ∉ ts) (h4 : 38 ∉ ts) : Mono B ts (RVer B) := by
  rintro w w' cs v x ⟨a, m, rfl, ha, hm, hz⟩
  exact ⟨a, m, rfl, ha.chg RInt.mono h3 x, hm.chg RPair.mono h4 x, hz⟩
theorem RVer.monoE {B : Nat} : Mono B [] (RVer B) := RVer.mono (by simp) (by simp)
theorem RVer.oneC {B : Nat} : OneC (RVer B) := by
  rintro w cs v ⟨a, m, rfl, ⟨_, _, rfl, _⟩, ⟨_, _, rfl, _⟩, _⟩ u hu
  simp at hu
  rcases hu with rfl | rfl | rfl | rfl | rfl | rfl | rfl | rfl <;> rfl
abbrev SlVers (B : Nat) := Sl B 46 (RVer B) 8
abbrev IsVers (B : Nat) := IsSl B 46 (RVer B) 8
/-- a version by value: where its rows lie. -/
structure InV (B : Nat) (w : World) (Av : Option Addr) (cv : Nat) (Am : Option Addr) (cm : Nat) (v : Version) : Prop where
  lcv : v.past.vec.length ≤ cv ∧ cv ≤ maxLen
  lcm : v.past.more.length ≤ cm ∧ cm ≤ maxLen
  lid : v.id.size ≤ maxLen
  k : InK B w Av Am v.past
theorem InV.ext {B : Nat} {w w' : World} {Av : Option Addr} {cv : Nat} {Am : Option Addr} {cm : Nat} {v : Version} (h : InV B w Av cv Am cm v) (x : Ext w w') : InV B w' Av cv Am cm v := ⟨h.lcv, h.lcm, h.lid, h.k.ext x⟩
theorem InV.chg {B : Nat} {ts : List TypeId} {w w' : World} {Av : Option Addr} {cv : Nat} {Am : Option Addr} {cm : Nat} {v : Version} (h : InV B w Av cv Am cm v) (x : Chg B ts w w') (h3 : 3 ∉ ts) (h4 : 38 ∉ ts) : InV B w' Av cv Am cm v := ⟨h.lcv, h.lcm, h.lid, h.k.chg x h3 h4⟩
theorem InV.rver {B : Nat} {w : World} {Av : Option Addr} {cv : Nat} {Am : Option Addr} {cm : Nat} {v : Version} (h : InV B w Av cv Am cm v) : RVer B w [.string v.id, .int .i64 v.dot.site, .int .i64 v.dot.count, .int .i64 v.pt.tags, .int .i64 v.pt.num, .int .i64 v.body, .slice Av v.past.vec.length cv, .slice Am v.past.more.length cm] v :=
  ⟨_, _, rfl, ⟨Av, cv, rfl, h.lcv.1, h.lcv.2, h.k.sv⟩, ⟨Am, cm, rfl, h.lcm.1, h.lcm.2, h.k.sm⟩, h.lid⟩
theorem RVer.inV {B : Nat} {w : World} {cs : List Value} {v : Version} (h : RVer B w cs v) : ∃ Av cv Am cm, cs = [.string v.id, .int .i64 v.dot.site, .int .i64 v.dot.count, .int .i64 v.pt.tags, .int .i64 v.pt.num, .int .i64 v.body, .slice Av v.past.vec.length cv, .slice Am v.past.more.length cm] ∧ InV B w Av cv Am cm v := by
  obtain ⟨a, m, rfl, ⟨Av, cv, rfl, v1, v2, v3⟩, ⟨Am, cm, rfl, m1, m2, m3⟩, hz⟩ := h
  exact ⟨Av, cv, Am, cm, rfl, ⟨⟨v1, v2⟩, ⟨m1, m2⟩, hz, ⟨by omega, by omega, v3, m3⟩⟩⟩
/-- the cells of an element. -/
structure CellsV (w : World) (b o : Nat) (Av : Option Addr) (cv : Nat) (Am : Option Addr) (cm : Nat) (v : Version) : Prop where
  c0 : w.cell? ⟨b, o, none⟩ = some (.string v.id)
  c1 : w.cell? ⟨b, o + 1, none⟩ = some (.int .i64 v.dot.site)
  c2 : w.cell? ⟨b, o + 2, none⟩ = some (.int .i64 v.dot.count)
  c3 : w.cell? ⟨b, o + 3, none⟩ = some (.int .i64 v.pt.tags)
  c4 : w.cell? ⟨b, o + 4, none⟩ = some (.int .i64 v.pt.num)
  c5 : w.cell? ⟨b, o + 5, none⟩ = some (.int .i64 v.body)
  c6 : w.cell? ⟨b, o + 6, none⟩ = some (.slice Av v.past.vec.length cv)
  c7 : w.cell? ⟨b, o + 7, none⟩ = some (.slice Am v.past.more.length cm)
theorem CellsV.ext {w w' : World} {b o : Nat} {Av : Option Addr} {cv : Nat} {Am : Option Addr} {cm : Nat} {v : Version} (h : CellsV w b o Av cv Am cm v) (x : Ext w w') : CellsV w' b o Av cv Am cm v :=
  ⟨x.cell h.c0, x.cell h.c1, x.cell h.c2, x.cell h.c3, x.cell h.c4, x.cell h.c5, x.cell h.c6, x.cell h.c7⟩
theorem CellsV.grown {w w' : World} {ob : Option Nat} {b o : Nat} {Av : Option Addr} {cv : Nat} {Am : Option Addr} {cm : Nat} {v : Version} (h : CellsV w b o Av cv Am cm v) (x : w.grownBy w' ob) (hn : some b ≠ ob) : CellsV w' b o Av cv Am cm v :=
  ⟨grown_cell x h.c0 hn, grown_cell x h.c1 hn, grown_cell x h.c2 hn, grown_cell x h.c3 hn, grown_cell x h.c4 hn, grown_cell x h.c5 hn, grown_cell x h.c6 hn, grown_cell x h.c7 hn⟩
theorem CellsV.ofBlk {w : World} {b : Nat} {e : TypeId} {Av : Option Addr} {cv : Nat} {Am : Option Addr} {cm : Nat} {v : Version} (h : Blk w b e #[.string v.id, .int .i64 v.dot.site, .int .i64 v.dot.count, .int .i64 v.pt.tags, .int .i64 v.pt.num, .int .i64 v.body, .slice Av v.past.vec.length cv, .slice Am v.past.more.length cm]) : CellsV w b 0 Av cv Am cm v :=
  ⟨h.cell rfl, h.cell rfl, h.cell rfl, h.cell rfl, h.cell rfl, h.cell rfl, h.cell rfl, h.cell rfl⟩
theorem Sl.ver {B : Nat} {w : World} {A : Option Addr} {l : List Version} (h : SlVers B w A l) {i : Nat} (hi : i < l.length) :
    ∃ b off Av cv Am cm, A = some ⟨b, off, none⟩ ∧ b < w.heap.size ∧ w.rangeAt b (off + i * 8) [.string l[i].id, .int .i64 l[i].dot.site, .int .i64 l[i].dot.count, .int .i64 l[i].pt.tags, .int .i64 l[i].pt.num, .int .i64 l[i].body, .slice Av l[i].past.vec.length cv, .slice Am l[i].past.more.length cm] ∧ InV B w Av cv Am cm l[i] := by
  obtain ⟨b, off, cs, hA, hb, _, hc, hR⟩ := h.at_ hi
  obtain ⟨Av, cv, Am, cm, rfl, hP⟩ := hR.inV
  exact ⟨b, off, Av, cv, Am, cm, hA, hb, hc, hP⟩

section
variable {H : Type} {enc : TypeId × Value → H} {w : World} {spare : Nat → Bool} {held : Bool}
theorem cells_ver : Try.prog.cellsOf 46 = 8 := by kernel_rfl
theorem cells_str : Try.prog.cellsOf 9 = 1 := by kernel_rfl
theorem ver_gen {P : Program} {t a b c d e : TypeId} {f0 f1 f2 f3 f4 : Field} {R0 R3 : Value → Prop} {R1 R2 R4 : Value → Value → Prop} (ht : P.underlying t = some (.struct #[f0, f1, f2, f3, f4])) (h0 : f0.type = a ∧ f0.offset = 0) (h1 : f1.type = b ∧ f1.offset = 1) (h2 : f2.type = c ∧ f2.offset = 3) (h3 : f3.type = d ∧ f3.offset = 5) (h4 : f4.type = e ∧ f4.offset = 6)
    (ha : P.cellsOf a = 1) (hb : P.cellsOf b = 2) (hc : P.cellsOf c = 2) (hd : P.cellsOf d = 1) (he : P.cellsOf e = 2)
    (e0 : ∀ (n : Nat) (cs : List Value) (y : DataW H × List MemPlace), DataW.trod enc P w 0 spare held n a cs = some y → ∃ v, cs = [v] ∧ R0 v)
    (e1 : ∀ (n : Nat) (cs : List Value) (y : DataW H × List MemPlace), cs.length = 2 → DataW.trod enc P w 0 spare held n b cs = some y → ∃ u v, cs = [u, v] ∧ R1 u v)
    (e2 : ∀ (n : Nat) (cs : List Value) (y : DataW H × List MemPlace), cs.length = 2 → DataW.trod enc P w 0 spare held n c cs = some y → ∃ u v, cs = [u, v] ∧ R2 u v)
    (e3 : ∀ (n : Nat) (cs : List Value) (y : DataW H × List MemPlace), DataW.trod enc P w 0 spare held n d cs = some y → ∃ v, cs = [v] ∧ R3 v)
    (e4 : ∀ (n : Nat) (cs : List Value) (y : DataW H × List MemPlace), cs.length = 2 → DataW.trod enc P w 0 spare held n e cs = some y → ∃ u v, cs = [u, v] ∧ R4 u v)
    (n : Nat) (cs : List Value) (y : DataW H × List MemPlace) (hl : cs.length = 8) (h : DataW.trod enc P w 0 spare held n t cs = some y) : ∃ x0 x1 x2 x3 x4 x5 x6 x7, cs = [x0, x1, x2, x3, x4, x5, x6, x7] ∧ R0 x0 ∧ R1 x1 x2 ∧ R2 x3 x4 ∧ R3 x5 ∧ R4 x6 x7 := by
  obtain ⟨xs, m, _, _, _, hx, hg⟩ := DataW.trod_struct ht h
  match cs, hl with
  | [c0, c1, c2, c3, c4, c5, c6, c7], _ =>
    match xs, hx with
    | [y0, y1, y2, y3, y4], _ =>
      have g0 := hg 0 f0 rfl
      have g1 := hg 1 f1 rfl
      have g2 := hg 2 f2 rfl
      have g3 := hg 3 f3 rfl
      have g4 := hg 4 f4 rfl
      rw [h0.1, h0.2, ha] at g0
      rw [h1.1, h1.2, hb] at g1
      rw [h2.1, h2.2, hc] at g2
      rw [h3.1, h3.2, hd] at g3
      rw [h4.1, h4.2, he] at g4
      obtain ⟨x0, q0, r0⟩ := e0 _ _ _ g0
      obtain ⟨x1, x2, q1, r1⟩ := e1 _ _ _ rfl g1
      obtain ⟨x3, x4, q2, r2⟩ := e2 _ _ _ rfl g2
      obtain ⟨x5, q3, r3⟩ := e3 _ _ _ g3
      obtain ⟨x6, x7, q4, r4⟩ := e4 _ _ _ rfl g4
      simp at q0 q1 q2 q3 q4
      obtain ⟨rfl, rfl⟩ := q1
      obtain ⟨rfl, rfl⟩ := q2
      obtain ⟨rfl, rfl⟩ := q4
      subst q0 q3
      exact ⟨_, _, _, _, _, _, _, _, rfl, r0, r1, r2, r3, r4⟩
theorem str_cell (n : Nat) (cs : List Value) (y : DataW H × List MemPlace) (h : DataW.trod enc Try.prog w 0 spare held n 9 cs = some y) : ∃ v, cs = [v] ∧ ∃ s : ByteArray, v = .string s ∧ s.size ≤ maxLen := by
  obtain ⟨s, h1, _, h2⟩ := DataW.trod_string Try.underlying9 h
  exact ⟨_, h1, s, rfl, h2⟩
theorem int_cellV (n : Nat) (cs : List Value) (y : DataW H × List MemPlace) (h : DataW.trod enc Try.prog w 0 spare held n 3 cs = some y) : ∃ v, cs = [v] ∧ ∃ s : Int, v = .int .i64 s := by
  obtain ⟨s, h1, _⟩ := int_cell Try.underlying3 h
  exact ⟨_, h1, s, rfl⟩
theorem dot_cells (n : Nat) (cs : List Value) (y : DataW H × List MemPlace) (hl : cs.length = 2) (h : DataW.trod enc Try.prog w 0 spare held n 38 cs = some y) : ∃ u v, cs = [u, v] ∧ ∃ a b : Int, u = .int .i64 a ∧ v = .int .i64 b := by
  obtain ⟨a, b, h1, _, _⟩ := pair_elem (P := Try.prog) Try.underlying38 Try.underlying3 (And.intro rfl rfl) (And.intro rfl rfl) cells_int hl h
  exact ⟨_, _, h1, a, b, rfl, rfl⟩
theorem point_cells (n : Nat) (cs : List Value) (y : DataW H × List MemPlace) (hl : cs.length = 2) (h : DataW.trod enc Try.prog w 0 spare held n 40 cs = some y) : ∃ u v, cs = [u, v] ∧ ∃ a b : Int, u = .int .i64 a ∧ v = .int .i64 b := by
  obtain ⟨a, b, h1, _, _⟩ := pair_elem (P := Try.prog) Try.underlying40 Try.underlying3 (And.intro rfl rfl) (And.intro rfl rfl) cells_int hl h
  exact ⟨_, _, h1, a, b, rfl, rfl⟩
theorem ver_elem (n : Nat) (cs : List Value) (y : DataW H × List MemPlace) (hl : cs.length = 8) (h : DataW.trod enc Try.prog w 0 spare held n 46 cs = some y) : ∃ z : Version, RVer w.heap.size w cs z ∧ True := by
  obtain ⟨x0, x1, x2, x3, x4, x5, x6, x7, rfl, ⟨s, rfl, hz⟩, ⟨a, b, rfl, rfl⟩, ⟨c, d, rfl, rfl⟩, ⟨bd, rfl⟩, k, h3, h4⟩ := ver_gen (P := Try.prog) (R0 := fun v => ∃ s : ByteArray, v = .string s ∧ s.size ≤ maxLen) (R1 := fun u v => ∃ a b : Int, u = .int .i64 a ∧ v = .int .i64 b) (R2 := fun u v => ∃ a b : Int, u = .int .i64 a ∧ v = .int .i64 b) (R3 := fun v => ∃ s : Int, v = .int .i64 s) (R4 := fun u v => ∃ k : Know, IsInts w.heap.size w u k.vec ∧ IsDots w.heap.size w v k.more)
    Try.underlying46 (And.intro rfl rfl) (And.intro rfl rfl) (And.intro rfl rfl) (And.intro rfl rfl) (And.intro rfl rfl) cells_str cells_dot cells_point cells_int cells_know str_cell dot_cells point_cells int_cellV know_cells n cs y hl h
  exact ⟨⟨s, ⟨a, b⟩, ⟨c, d⟩, bd, k⟩, ⟨_, _, rfl, h3, h4, hz⟩, trivial⟩
theorem open_vers {A : Option Addr} {len cap : Nat} {d : DataW H} {p : List MemPlace} (h : DataW.Trod enc Try.prog w 0 spare held 22 (.slice A len cap) d p) :
    ∃ l : List Version, l.length = len ∧ len ≤ maxLen ∧ SlVers w.heap.size w A l ∧ ∀ z ∈ l, True :=
  slice_arg Try.underlying22 cells_ver (by omega) ver_elem h
end
theorem ri_ver : RowInfo Try.prog 46 8 := ⟨⟨_, Try.underlying46, rfl⟩, by kernel_rfl⟩
theorem zi_ver : ZeroInfo Try.prog 46 #[.string ⟨#[]⟩, .int .i64 0, .int .i64 0, .int .i64 0, .int .i64 0, .int .i64 0, .slice none 0 0, .slice none 0 0] := fun w => by kernel_rfl
theorem zs_ver : (#[.string ⟨#[]⟩, .int .i64 0, .int .i64 0, .int .i64 0, .int .i64 0, .int .i64 0, .slice none 0 0, .slice none 0 0] : Array Value).size = 8 := rfl
theorem za_ver : (#[.string ⟨#[]⟩, .int .i64 0, .int .i64 0, .int .i64 0, .int .i64 0, .int .i64 0, .slice none 0 0, .slice none 0 0] : Array Value).all (·.oneCell') = true := by kernel_rfl

end Go.Proofs.Ytmedmfjhpabfdaa
