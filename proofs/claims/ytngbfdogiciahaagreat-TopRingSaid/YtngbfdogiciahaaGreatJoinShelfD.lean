/- Several texts in one: data, readings, plain laws, walks. No condition. -/
import Derived.Test.YtngbfdogiciahaaGreatJoinKnPl
import Derived.Test.YtngbfdogiciahaaGreatJoinKnU
import Derived.Test.YtngbfdogiciahaaGreatBase
import Derived.Test.YtngbfdogiciahaaGreatWalks
import Derived.Lib.ConvBytes
import Derived.Test.YtngbfdogiciahaaGreatJoinKnW
import Derived.Test.YtngbfdogiciahaaGreatJoinKnT
import Derived.Test.YtngbfdogiciahaaGreatKnI
import Derived.Test.YtngbfdogiciahaaGreatJoinKnV
import Derived.Test.YtngbfdogiciahaaGreatJoinFilC
import Derived.ChangeKeysEq
import Derived.Deep.RegionWith
import Derived.Deep.DeepCutAuto
import Derived.Lib.Strings
import Derived.Lib.Bytealg
import Derived.Lib.Walk
namespace Go.Proofs.YtngbfdogiciahaaGreat
open Go Go.RowKit Go.ChangeShapes Go.WideShapes Go.Deep Go.Joins
def RVer (B : Nat) (w : World) (cs : List Value) (v : Version) : Prop := ∃ a m, cs = [.string v.id, .int .i64 v.dot.site, .int .i64 v.dot.count, .int .i64 v.pt.tags, .int .i64 v.pt.num, .int .i64 v.body, a, m] ∧ IsInts B w a v.past.vec ∧ IsDots B w m v.past.more ∧ v.id.size ≤ maxLen
theorem RVer.mono {B : Nat} {ts : List TypeId} (h3 : 3 ∉ ts) (h4 : 35 ∉ ts) : Mono B ts (RVer B) := by
 rintro w w' cs v x ⟨a, m, rfl, ha, hm, hz⟩
 exact ⟨a, m, rfl, ha.chg RInt.mono h3 x, hm.chg RPair.mono h4 x, hz⟩
theorem RVer.monoE {B : Nat} : Mono B [] (RVer B) := RVer.mono (by simp) (by simp)
theorem RVer.oneC {B : Nat} : OneC (RVer B) := by
 rintro w cs v ⟨a, m, rfl, ⟨_, _, rfl, _⟩, ⟨_, _, rfl, _⟩, _⟩ u hu
 simp at hu
 rcases hu with rfl | rfl | rfl | rfl | rfl | rfl | rfl | rfl <;> rfl
abbrev SlVers (B : Nat) := Sl B 151 (RVer B) 8
abbrev IsVers (B : Nat) := IsSl B 151 (RVer B) 8
structure InV (B : Nat) (w : World) (Av : Option Addr) (cv : Nat) (Am : Option Addr) (cm : Nat) (v : Version) : Prop where
 lcv : v.past.vec.length ≤ cv ∧ cv ≤ maxLen
 lcm : v.past.more.length ≤ cm ∧ cm ≤ maxLen
 lid : v.id.size ≤ maxLen
 k : InK B w Av Am v.past
theorem InV.ext {B : Nat} {w w' : World} {Av : Option Addr} {cv : Nat} {Am : Option Addr} {cm : Nat} {v : Version} (h : InV B w Av cv Am cm v) (x : Ext w w') : InV B w' Av cv Am cm v := ⟨h.lcv, h.lcm, h.lid, h.k.ext x⟩
theorem InV.chg {B : Nat} {ts : List TypeId} {w w' : World} {Av : Option Addr} {cv : Nat} {Am : Option Addr} {cm : Nat} {v : Version} (h : InV B w Av cv Am cm v) (x : Chg B ts w w') (h3 : 3 ∉ ts) (h4 : 35 ∉ ts) : InV B w' Av cv Am cm v := ⟨h.lcv, h.lcm, h.lid, h.k.chg x h3 h4⟩
theorem InV.isK {B : Nat} {w : World} {Av : Option Addr} {cv : Nat} {Am : Option Addr} {cm : Nat} {v : Version} (h : InV B w Av cv Am cm v) : IsK B w (.agg #[.slice Av v.past.vec.length cv, .slice Am v.past.more.length cm]) v.past :=
 ⟨Av, cv, Am, cm, rfl, h.lcv.1, h.lcv.2, h.lcm.1, h.lcm.2, h.k⟩
theorem InV.rver {B : Nat} {w : World} {Av : Option Addr} {cv : Nat} {Am : Option Addr} {cm : Nat} {v : Version} (h : InV B w Av cv Am cm v) : RVer B w [.string v.id, .int .i64 v.dot.site, .int .i64 v.dot.count, .int .i64 v.pt.tags, .int .i64 v.pt.num, .int .i64 v.body, .slice Av v.past.vec.length cv, .slice Am v.past.more.length cm] v :=
 ⟨_, _, rfl, ⟨Av, cv, rfl, h.lcv.1, h.lcv.2, h.k.sv⟩, ⟨Am, cm, rfl, h.lcm.1, h.lcm.2, h.k.sm⟩, h.lid⟩
theorem RVer.inV {B : Nat} {w : World} {cs : List Value} {v : Version} (h : RVer B w cs v) : ∃ Av cv Am cm, cs = [.string v.id, .int .i64 v.dot.site, .int .i64 v.dot.count, .int .i64 v.pt.tags, .int .i64 v.pt.num, .int .i64 v.body, .slice Av v.past.vec.length cv, .slice Am v.past.more.length cm] ∧ InV B w Av cv Am cm v := by
 obtain ⟨a, m, rfl, ⟨Av, cv, rfl, v1, v2, v3⟩, ⟨Am, cm, rfl, m1, m2, m3⟩, hz⟩ := h
 exact ⟨Av, cv, Am, cm, rfl, ⟨⟨v1, v2⟩, ⟨m1, m2⟩, hz, ⟨by omega, by omega, v3, m3⟩⟩⟩
structure CellsV (w : World) (b o : Nat) (Av : Option Addr) (cv : Nat) (Am : Option Addr) (cm : Nat) (v : Version) : Prop where
 c0 : w.cell? ⟨b, o, none⟩ = some (.string v.id)
 c1 : w.cell? ⟨b, o + 1, none⟩ = some (.int .i64 v.dot.site)
 c2 : w.cell? ⟨b, o + 2, none⟩ = some (.int .i64 v.dot.count)
 c3 : w.cell? ⟨b, o + 3, none⟩ = some (.int .i64 v.pt.tags)
 c4 : w.cell? ⟨b, o + 4, none⟩ = some (.int .i64 v.pt.num)
 c5 : w.cell? ⟨b, o + 5, none⟩ = some (.int .i64 v.body)
 c6 : w.cell? ⟨b, o + 6, none⟩ = some (.slice Av v.past.vec.length cv)
 c7 : w.cell? ⟨b, o + 7, none⟩ = some (.slice Am v.past.more.length cm)
theorem CellsV.ext {w w' : World} {b o : Nat} {Av : Option Addr} {cv : Nat} {Am : Option Addr} {cm : Nat} {v : Version} (h : CellsV w b o Av cv Am cm v) (x : Ext w w') : CellsV w' b o Av cv Am cm v :=
 ⟨x.cell h.c0, x.cell h.c1, x.cell h.c2, x.cell h.c3, x.cell h.c4, x.cell h.c5, x.cell h.c6, x.cell h.c7⟩
theorem CellsV.grown {w w' : World} {ob : Option Nat} {b o : Nat} {Av : Option Addr} {cv : Nat} {Am : Option Addr} {cm : Nat} {v : Version} (h : CellsV w b o Av cv Am cm v) (x : w.grownBy w' ob) (hn : some b ≠ ob) : CellsV w' b o Av cv Am cm v :=
 ⟨grown_cell x h.c0 hn, grown_cell x h.c1 hn, grown_cell x h.c2 hn, grown_cell x h.c3 hn, grown_cell x h.c4 hn, grown_cell x h.c5 hn, grown_cell x h.c6 hn, grown_cell x h.c7 hn⟩
theorem CellsV.ofBlk {w : World} {b : Nat} {e : TypeId} {Av : Option Addr} {cv : Nat} {Am : Option Addr} {cm : Nat} {v : Version} (h : Blk w b e #[.string v.id, .int .i64 v.dot.site, .int .i64 v.dot.count, .int .i64 v.pt.tags, .int .i64 v.pt.num, .int .i64 v.body, .slice Av v.past.vec.length cv, .slice Am v.past.more.length cm]) : CellsV w b 0 Av cv Am cm v :=
 ⟨h.cell rfl, h.cell rfl, h.cell rfl, h.cell rfl, h.cell rfl, h.cell rfl, h.cell rfl, h.cell rfl⟩
theorem Sl.ver {B : Nat} {w : World} {A : Option Addr} {l : List Version} (h : SlVers B w A l) {i : Nat} (hi : i < l.length) :
  ∃ b off Av cv Am cm, A = some ⟨b, off, none⟩ ∧ b < w.heap.size ∧ w.rangeAt b (off + i * 8) [.string l[i].id, .int .i64 l[i].dot.site, .int .i64 l[i].dot.count, .int .i64 l[i].pt.tags, .int .i64 l[i].pt.num, .int .i64 l[i].body, .slice Av l[i].past.vec.length cv, .slice Am l[i].past.more.length cm] ∧ InV B w Av cv Am cm l[i] := by
 obtain ⟨b, off, cs, hA, hb, _, hc, hR⟩ := h.at_ hi
 obtain ⟨Av, cv, Am, cm, rfl, hP⟩ := hR.inV
 exact ⟨b, off, Av, cv, Am, cm, hA, hb, hc, hP⟩
section
variable {H : Type} {enc : TypeId × Value → H} {w : World} {spare : Nat → Bool} {held : Bool}
end
theorem ri_ver : RowInfo Tryz.prog 151 8 := ⟨⟨_, Tryz.underlying151, rfl⟩, by kernel_rfl⟩
theorem zi_ver : ZeroInfo Tryz.prog 151 #[.string ⟨#[]⟩, .int .i64 0, .int .i64 0, .int .i64 0, .int .i64 0, .int .i64 0, .slice none 0 0, .slice none 0 0] := fun w => by kernel_rfl
theorem zs_ver : (#[.string ⟨#[]⟩, .int .i64 0, .int .i64 0, .int .i64 0, .int .i64 0, .int .i64 0, .slice none 0 0, .slice none 0 0] : Array Value).size = 8 := rfl
theorem za_ver : (#[.string ⟨#[]⟩, .int .i64 0, .int .i64 0, .int .i64 0, .int .i64 0, .int .i64 0, .slice none 0 0, .slice none 0 0] : Array Value).all (·.oneCell') = true := by kernel_rfl
end Go.Proofs.YtngbfdogiciahaaGreat
namespace Go.Proofs.YtngbfdogiciahaaGreat
open Go Go.RowKit
theorem byte_take (s : ByteArray) (k : Nat) (hk : k < s.size) : (s.data.toList.take (k + 1)).all byteOk = ((s.data.toList.take k).all byteOk && byteOk s[k]) := by
 have hk' : k < s.data.toList.length := by simpa using hk
 rw [List.take_succ_eq_append_getElem hk', List.all_append]
 simp only [List.all_cons, List.all_nil, Bool.and_true]
 rfl
theorem idOk_long {s : ByteArray} (h : ¬ s.size ≤ 8) : idOk s = false := by
 unfold idOk
 rw [decide_eq_false h]; simp
theorem idOk_empty {s : ByteArray} (h : s.toList.isEmpty = true) : idOk s = false := by unfold idOk; rw [h]; rfl
theorem idOk_go {s : ByteArray} (h : s.toList.isEmpty = false) (h8 : s.size ≤ 8) : idOk s = s.data.toList.all byteOk := by
 unfold idOk
 rw [h, decide_eq_true h8]; rfl
theorem all_size (s : ByteArray) : (s.data.toList.take s.size).all byteOk = s.data.toList.all byteOk := by
 rw [show s.size = s.data.toList.length by simp, List.take_length]
theorem any_bad {s : ByteArray} {k : Nat} (hk : k < s.size) (h : byteOk s[k] = false) : s.data.toList.all byteOk = false := by
 rw [List.all_eq_false]
 refine ⟨s.data.toList[k]'(by simpa using hk), List.getElem_mem _, ?_⟩
 show ¬ byteOk s[k] = true
 rw [h]; simp
set_option maxHeartbeats 1000000 in
theorem shelf_Id (s : ByteArray) (w : World) :
  Calls Tryz.prog 92 #[.string s] w fun e w' => e = .returned (.bool (idOk s)) ∧ Ext w w' := by
 cases he : s.toList.isEmpty
 ·by_cases h8 : s.size ≤ 8
  ·have HI := hid (idOk_go he h8)
   have h8' : decide ((8 : Int) < s.size) = false := decide_eq_false (by omega)
   have hsz : (s.size : Int) ≤ 8 := by omega
   go_enter Tryz.func92, Tryz.ntmps92
   go_wp2_with fail
   go_loopw [13] (fun i wr => ∃ k : Nat, k ≤ s.size ∧ i = .int .i64 k ∧ (s.data.toList.take k).all byteOk = true ∧ Ext w wr) (fun i _ => s.size - (intOf i).toNat)
   case atStart => exact ⟨0, Nat.zero_le _, rfl, rfl, Ext.refl _⟩
   case round =>
    obtain ⟨k, hk, rfl, hG, hx⟩ := hrel
    have HG := hid hG
    clear hG
    by_cases hlt : k < s.size
    ·have HB := hid (byte_take s k hlt)
     have HD := hid (show byteOk s[k] = !(decide (((s[k]).toNat : Int) < 97) || decide ((122 : Int) < ((s[k]).toNat : Int))) from rfl)
     cases h1 : decide (((s[k]).toNat : Int) < 97)
     ·rw [h1] at HD
      cases h2 : decide ((122 : Int) < ((s[k]).toNat : Int))
      ·rw [h2] at HD
       go_wp2_with fail
       go_roundw
       case rel => exact ⟨k + 1, hlt, by go_num, by rw [HB.out, HG.out, HD.out]; rfl, hx⟩
       case measure => simp [intOf]; omega
      ·rw [h2] at HD
       have HF := hid (any_bad hlt (HD.out.trans rfl))
       go_wp2_with fail
       go_ret
       exact ⟨ret_bool (by rw [HI.out, HF.out]), hx⟩
     ·rw [h1] at HD
      have HF := hid (any_bad hlt (HD.out.trans rfl))
      go_wp2_with fail
      go_ret
      exact ⟨ret_bool (by rw [HI.out, HF.out]), hx⟩
    ·obtain rfl : k = s.size := by omega
     go_wp2_with fail
     go_ret
     exact ⟨ret_bool (by rw [HI.out, ← all_size, HG.out]), hx⟩
  ·have HI := hid (idOk_long h8)
   have h8' : decide ((8 : Int) < s.size) = true := decide_eq_true (by omega)
   clear h8
   go_enter Tryz.func92, Tryz.ntmps92
   go_wp2_with fail
   go_ret
   exact ⟨ret_bool HI.out.symm, Ext.refl _⟩
 ·have HI := hid (idOk_empty he)
  go_enter Tryz.func92, Tryz.ntmps92
  go_wp2_with fail
  go_ret
  exact ⟨ret_bool HI.out.symm, Ext.refl _⟩
end Go.Proofs.YtngbfdogiciahaaGreat
namespace Go.Proofs.YtngbfdogiciahaaGreat
open Go Go.RowKit
theorem verErr_id {v : Version} (h : idOk v.id = false) : verErr v = 3 := by unfold verErr; rw [h]; rfl
theorem verErr_form {v : Version} (h : idOk v.id = true) (h2 : (dotOk v.dot && (pointOk v.pt && bodyOk v.body)) = false) : verErr v = 1 := by unfold verErr; rw [h, h2]; rfl
theorem verErr_know {v : Version} (h : idOk v.id = true) (h2 : (dotOk v.dot && (pointOk v.pt && bodyOk v.body)) = true) (h3 : knowCheck v.past ≠ 0) : verErr v = knowCheck v.past := by unfold verErr; rw [if_pos h, if_pos h2, if_neg h3]
theorem verErr_in {v : Version} (h : idOk v.id = true) (h2 : (dotOk v.dot && (pointOk v.pt && bodyOk v.body)) = true) (h3 : knowCheck v.past = 0) (h4 : inK v.past v.dot = true) : verErr v = 3 := by unfold verErr; rw [if_pos h, if_pos h2, if_pos h3, if_pos h4]
theorem verErr_ok {v : Version} (h : idOk v.id = true) (h2 : (dotOk v.dot && (pointOk v.pt && bodyOk v.body)) = true) (h3 : knowCheck v.past = 0) (h4 : inK v.past v.dot = false) : verErr v = 0 := by unfold verErr; rw [if_pos h, if_pos h2, if_pos h3, h4]; rfl
theorem body_two (n : Int) : bodyOk n = (!decide (n < 0) && !decide (1000000 < n)) := by
 unfold bodyOk
 rw [Bool.eq_iff_iff]
 simp
set_option maxRecDepth 100000 in
set_option maxHeartbeats 2000000 in
theorem shelf_One (B : Nat) (v : Version) (Av : Option Addr) (cv : Nat) (Am : Option Addr) (cm : Nat) (w : World) (hi : InV B w Av cv Am cm v) :
  Calls Tryz.prog 149 #[.agg #[.string v.id, .int .i64 v.dot.site, .int .i64 v.dot.count, .int .i64 v.pt.tags, .int .i64 v.pt.num, .int .i64 v.body, .slice Av v.past.vec.length cv, .slice Am v.past.more.length cm]] w fun e w' => e = .returned (.int .i64 (verErr v)) ∧ Ext w w' := by
 have HI := hid hi
 clear hi
 have hx0 := (Ext.refl w).alloc (.cells #[.string v.id, .int .i64 v.dot.site, .int .i64 v.dot.count, .int .i64 v.pt.tags, .int .i64 v.pt.num, .int .i64 v.body, .slice Av v.past.vec.length cv, .slice Am v.past.more.length cm] 151)
 go_enter Tryz.func149, Tryz.ntmps149
 go_wp2_with fail
 refine (shelf_Id v.id _).mono ?_
 rintro e w1 ⟨rfl, hx1⟩
 have q1 : w1.cell? ⟨w.heap.size, 1, none⟩ = some (.int .i64 v.dot.site) := hx1.cell (by go_simp)
 have q2 : w1.cell? ⟨w.heap.size, 2, none⟩ = some (.int .i64 v.dot.count) := hx1.cell (by go_simp)
 have q3 : w1.cell? ⟨w.heap.size, 3, none⟩ = some (.int .i64 v.pt.tags) := hx1.cell (by go_simp)
 have q4 : w1.cell? ⟨w.heap.size, 4, none⟩ = some (.int .i64 v.pt.num) := hx1.cell (by go_simp)
 have q5 : w1.cell? ⟨w.heap.size, 5, none⟩ = some (.int .i64 v.body) := hx1.cell (by go_simp)
 have q6 : w1.cell? ⟨w.heap.size, 6, none⟩ = some (.slice Av v.past.vec.length cv) := hx1.cell (by go_simp)
 have q7 : w1.cell? ⟨w.heap.size, 7, none⟩ = some (.slice Am v.past.more.length cm) := hx1.cell (by go_simp)
 have hx := hx0.trans hx1
 clear hx1
 cases h1 : idOk v.id
 ·have HE := hid (verErr_id h1)
  clear h1
  go_wp2_with fail
  go_ret
  exact ⟨ret_int HE.out.symm, hx⟩
 ·have H1 := hid h1
  clear h1
  go_wp2_with fail
  refine (know_Dot v.dot _).mono ?_
  rintro e w2 ⟨rfl, hx1⟩
  replace q1 := hx1.cell q1
  replace q2 := hx1.cell q2
  replace q3 := hx1.cell q3
  replace q4 := hx1.cell q4
  replace q5 := hx1.cell q5
  replace q6 := hx1.cell q6
  replace q7 := hx1.cell q7
  replace hx := hx.trans hx1
  clear hx1
  cases h2 : dotOk v.dot
  ·have HE := hid (verErr_form H1.out (by rw [h2]; rfl))
   clear h2
   go_wp2_with fail
   go_ret
   exact ⟨ret_int HE.out.symm, hx⟩
  ·have H2 := hid h2
   clear h2
   go_wp2_with fail
   refine (filter_Point v.pt _).mono ?_
   rintro e w3 ⟨rfl, hx1⟩
   replace q1 := hx1.cell q1
   replace q2 := hx1.cell q2
   replace q3 := hx1.cell q3
   replace q4 := hx1.cell q4
   replace q5 := hx1.cell q5
   replace q6 := hx1.cell q6
   replace q7 := hx1.cell q7
   replace hx := hx.trans hx1
   clear hx1
   cases h3 : pointOk v.pt
   ·have HE := hid (verErr_form H1.out (by rw [h3, H2.out]; rfl))
    clear h3
    go_wp2_with fail
    go_ret
    exact ⟨ret_int HE.out.symm, hx⟩
   ·have H3 := hid h3
    clear h3
    cases h4 : decide (v.body < 0)
    ·cases h5 : decide (1000000 < v.body)
     ·have H4 := hid (show bodyOk v.body = true by rw [body_two, h4, h5]; rfl)
      go_wp2_with fail
      refine (know_Check B v.past Av cv Am cm _ (HI.out.k.ext hx)).mono ?_
      rintro e w5 ⟨rfl, hx1⟩
      clear q3 q4 q5
      replace q1 := hx1.cell q1
      replace q2 := hx1.cell q2
      replace q6 := hx1.cell q6
      replace q7 := hx1.cell q7
      replace hx := hx.trans hx1
      clear hx1
      by_cases h6 : knowCheck v.past = 0
      ·rw [h6]
       have HK := hid (knowCheck_ne h6)
       have H6 := hid h6
       clear h6
       go_wp2_with fail
       refine (know_In B v.past Av cv Am cm v.dot _ (HI.out.k.ext hx) HK.out H2.out).mono ?_
       rintro e w6 ⟨rfl, hx1⟩
       replace hx := hx.trans hx1
       clear hx1 q1 q2 q6 q7
       cases h7 : inK v.past v.dot
       ·have HE := hid (verErr_ok H1.out (by rw [H2.out, H3.out, H4.out]; rfl) H6.out h7)
        go_wp2_with fail
        go_ret
        exact ⟨ret_int HE.out.symm, hx⟩
       ·have HE := hid (verErr_in H1.out (by rw [H2.out, H3.out, H4.out]; rfl) H6.out h7)
        go_wp2_with fail
        go_ret
        exact ⟨ret_int HE.out.symm, hx⟩
      ·have hne : (knowCheck v.past != 0) = true := by simpa using h6
       have HE := hid (verErr_know H1.out (by rw [H2.out, H3.out, H4.out]; rfl) h6)
       clear h6
       go_wp2_with fail
       go_ret
       exact ⟨ret_int HE.out.symm, hx⟩
     ·have HE := hid (verErr_form H1.out (by rw [body_two, h4, h5, H3.out, H2.out]; rfl))
      go_wp2_with fail
      go_ret
      exact ⟨ret_int HE.out.symm, hx⟩
    ·have HE := hid (verErr_form H1.out (by rw [body_two, h4, H3.out, H2.out]; rfl))
     go_wp2_with fail
     go_ret
     exact ⟨ret_int HE.out.symm, hx⟩
end Go.Proofs.YtngbfdogiciahaaGreat
namespace Go.Proofs.YtngbfdogiciahaaGreat
open Go Go.RowKit
theorem bytealg_Compare (a b : ByteArray) (w : World) :
  Calls Tryz.prog 211 #[.string a, .string b] w fun e w' => e = .returned (.int .i64 (cmpS a b)) ∧ w' = w := by
 have hcf : ∀ w : World, (callFunc 237 #[.string a, .string b]).run Tryz.prog w = .ok (.value (.int .i64 (cmpS a b))) w := fun w => by
  rw [run_callFunc_extern Tryz.func237 (by kernel_rfl) (by kernel_rfl) (by kernel_rfl) (e := Extern.BytealgCompare.compare) (by kernel_rfl), Lib.run_compareString]
  rfl
 go_enter Tryz.func211, Tryz.ntmps211
 go_wp2_with fail
 go_ret
 exact ⟨rfl, rfl⟩
theorem strings_Compare (a b : ByteArray) (w : World) :
  Calls Tryz.prog 193 #[.string a, .string b] w fun e w' => e = .returned (.int .i64 (cmpS a b)) ∧ w' = w := by
 go_enter Tryz.func193, Tryz.ntmps193
 go_wp2_with fail
 refine (bytealg_Compare a b _).mono ?_
 rintro e w1 ⟨rfl, rfl⟩
 go_wp2_with fail
 go_ret
 exact ⟨rfl, rfl⟩
theorem cmp_id {a b : Version} (h : cmpS a.id b.id ≠ 0) : verCmp a b = cmpS a.id b.id := by unfold verCmp; rw [if_pos h]
theorem cmp_site {a b : Version} (h : cmpS a.id b.id = 0) (h2 : a.dot.site ≠ b.dot.site) : verCmp a b = a.dot.site - b.dot.site := by unfold verCmp; rw [if_neg (by simp [h]), if_pos h2]
theorem cmp_count {a b : Version} (h : cmpS a.id b.id = 0) (h2 : a.dot.site = b.dot.site) : verCmp a b = a.dot.count - b.dot.count := by unfold verCmp; rw [if_neg (by simp [h]), if_neg (by simp [h2])]
set_option maxHeartbeats 1000000 in
theorem shelf_cmp (a b : Version) (Aa : Option Addr) (ca : Nat) (Ma : Option Addr) (da : Nat) (Ab : Option Addr) (cb : Nat) (Mb : Option Addr) (db : Nat) (w : World) (ha : dotOk a.dot = true) (hb : dotOk b.dot = true) :
  Calls Tryz.prog 151 #[.agg #[.string a.id, .int .i64 a.dot.site, .int .i64 a.dot.count, .int .i64 a.pt.tags, .int .i64 a.pt.num, .int .i64 a.body, .slice Aa a.past.vec.length ca, .slice Ma a.past.more.length da], .agg #[.string b.id, .int .i64 b.dot.site, .int .i64 b.dot.count, .int .i64 b.pt.tags, .int .i64 b.pt.num, .int .i64 b.body, .slice Ab b.past.vec.length cb, .slice Mb b.past.more.length db]] w fun e w' => e = .returned (.int .i64 (verCmp a b)) ∧ Ext w w' := by
 obtain ⟨a1, a2, a3, a4⟩ := dotOk_iff.1 ha
 obtain ⟨b1, b2, b3, b4⟩ := dotOk_iff.1 hb
 clear ha hb
 have hx0 := ((Ext.refl w).alloc (.cells #[.string a.id, .int .i64 a.dot.site, .int .i64 a.dot.count, .int .i64 a.pt.tags, .int .i64 a.pt.num, .int .i64 a.body, .slice Aa a.past.vec.length ca, .slice Ma a.past.more.length da] 151)).alloc (.cells #[.string b.id, .int .i64 b.dot.site, .int .i64 b.dot.count, .int .i64 b.pt.tags, .int .i64 b.pt.num, .int .i64 b.body, .slice Ab b.past.vec.length cb, .slice Mb b.past.more.length db] 151)
 have H1 := hid (cmp_id (a := a) (b := b))
 have H2 := hid (cmp_site (a := a) (b := b))
 have H3 := hid (cmp_count (a := a) (b := b))
 go_enter Tryz.func151, Tryz.ntmps151
 go_wp2_with fail
 refine (strings_Compare a.id b.id _).mono ?_
 rintro e w1 ⟨rfl, rfl⟩
 by_cases h1 : cmpS a.id b.id = 0
 ·rw [h1]
  have E1 := hid h1
  clear h1
  by_cases h2 : a.dot.site = b.dot.site
  ·have hne : (a.dot.site != b.dot.site) = false := by simpa using h2
   have HE := hid (H3.out E1.out h2)
   clear h2
   go_wp2_with fail
   go_ret
   exact ⟨ret_int (by rw [HE.out]), hx0⟩
  ·have hne : (a.dot.site != b.dot.site) = true := by simpa using h2
   have HE := hid (H2.out E1.out h2)
   clear h2
   go_wp2_with fail
   go_ret
   exact ⟨ret_int (by rw [HE.out]), hx0⟩
 ·have hne : (cmpS a.id b.id != 0) = true := by simpa using h1
  have HE := hid (H1.out h1)
  clear h1
  go_wp2_with fail
  go_ret
  exact ⟨ret_int HE.out.symm, hx0⟩
set_option maxHeartbeats 1000000 in
theorem shelf_over (B : Nat) (a b : Version) (Aa : Option Addr) (ca : Nat) (Ma : Option Addr) (da : Nat) (Ab : Option Addr) (cb : Nat) (Mb : Option Addr) (db : Nat) (w : World) (hi : InV B w Aa ca Ma da a) (hk : KnowOk a.past) (hb : dotOk b.dot = true) :
  Calls Tryz.prog 154 #[.agg #[.string a.id, .int .i64 a.dot.site, .int .i64 a.dot.count, .int .i64 a.pt.tags, .int .i64 a.pt.num, .int .i64 a.body, .slice Aa a.past.vec.length ca, .slice Ma a.past.more.length da], .agg #[.string b.id, .int .i64 b.dot.site, .int .i64 b.dot.count, .int .i64 b.pt.tags, .int .i64 b.pt.num, .int .i64 b.body, .slice Ab b.past.vec.length cb, .slice Mb b.past.more.length db]] w fun e w' => e = .returned (.bool (over a b)) ∧ Ext w w' := by
 have hx0 := ((Ext.refl w).alloc (.cells #[.string a.id, .int .i64 a.dot.site, .int .i64 a.dot.count, .int .i64 a.pt.tags, .int .i64 a.pt.num, .int .i64 a.body, .slice Aa a.past.vec.length ca, .slice Ma a.past.more.length da] 151)).alloc (.cells #[.string b.id, .int .i64 b.dot.site, .int .i64 b.dot.count, .int .i64 b.pt.tags, .int .i64 b.pt.num, .int .i64 b.body, .slice Ab b.past.vec.length cb, .slice Mb b.past.more.length db] 151)
 have HI := hid hi
 have HK := hid hk
 have HB := hid hb
 have HO := hid (show over a b = (sEq a.id b.id && inK a.past b.dot) from rfl)
 clear hi hk hb
 cases h1 : sEq a.id b.id
 ·have h1' : (a.id.toList == b.id.toList) = false := h1
  rw [h1] at HO
  clear h1
  go_enter Tryz.func154, Tryz.ntmps154
  go_wp2_with fail
  go_ret
  exact ⟨ret_bool HO.out.symm, hx0⟩
 ·have h1' : (a.id.toList == b.id.toList) = true := h1
  rw [h1] at HO
  clear h1
  go_enter Tryz.func154, Tryz.ntmps154
  go_wp2_with fail
  refine (know_In B a.past Aa ca Ma da b.dot _ (HI.out.k.ext hx0) HK.out HB.out).mono ?_
  rintro e w1 ⟨rfl, hx1⟩
  go_wp2_with fail
  go_ret
  exact ⟨ret_bool HO.out.symm, hx0.trans hx1⟩
end Go.Proofs.YtngbfdogiciahaaGreat
