/- The walks of reedlaw.nodes at equal sentences, and of the reference's Read. -/
import Derived.Test.YtbkmgbckeaimdaaDoorTextG
import Derived.Test.YtbkmgbckeaimdaaDoorFormW
namespace Go.Proofs.YtbkmgbckeaimdaaDoor
open Go Go.RowKit

set_option maxHeartbeats 1000000 in
theorem nodes_1 (n : Node) (w : World) : Calls Tryd.prog 33 #[.agg #[.int .i64 n.kind, .int .i64 n.a, .int .i64 n.b], .agg #[.int .i64 n.kind, .int .i64 n.a, .int .i64 n.b]] w fun e w' => e = .returned (.bool true) ∧ Ext w w' := by
  obtain ⟨k, a, b⟩ := n
  have hx0 := ((Ext.refl w).alloc (.cells #[.int .i64 k, .int .i64 a, .int .i64 b] 39)).alloc (.cells #[.int .i64 k, .int .i64 a, .int .i64 b] 39)
  have hk : (k == k) = true := beq_self_eq_true k
  by_cases h1 : k = 1
  · subst h1
    go_enter Tryd.func33, Tryd.ntmps33
    go_wp2_with fail
    go_ret
    exact ⟨rfl, hx0⟩
  · have e1 : (k == 1) = false := by simpa using h1
    by_cases h2 : k = 2
    · subst h2
      go_enter Tryd.func33, Tryd.ntmps33
      go_wp2_with fail
      go_ret
      exact ⟨ret_bool (by simp), hx0⟩
    · have e2 : (k == 2) = false := by simpa using h2
      by_cases h4 : k = 4
      · subst h4
        go_enter Tryd.func33, Tryd.ntmps33
        go_wp2_with fail
        go_ret
        exact ⟨ret_bool (by simp), hx0⟩
      · have e4 : (k == 4) = false := by simpa using h4
        go_enter Tryd.func33, Tryd.ntmps33
        go_wp2_with fail
        go_ret
        exact ⟨ret_bool (by simp), hx0⟩

set_option maxHeartbeats 2000000 in
theorem law_nodes (B1 B2 : Nat) (A1 : Option Addr) (c1 : Nat) (A2 : Option Addr) (c2 : Nat) (l : List Node) (w : World) (hl : l.length ≤ maxLen) (h : Sl B1 39 RNode 3 w A1 l) (g : Sl B2 39 RNode 3 w A2 l) :
    Calls Tryd.prog 13 #[.slice A1 l.length c1, .slice A2 l.length c2] w fun e w' => e = .returned (.bool true) ∧ Ext w w' := by
  have hinner : Calls Tryd.prog 32 #[.slice A1 l.length c1, .slice A2 l.length c2, .func (.func 33) #[] #[]] w fun e w' => e = .returned (.bool true) ∧ Ext w w' := by
    unfold maxLen at hl
    have hll : (l.length : Int) ≤ 9223372036854775807 := by omega
    go_enter Tryd.func32, Tryd.ntmps32
    go_wp2_with fail
    go_loopw [17] (fun i wr => ∃ k : Nat, k ≤ l.length ∧ i = .int .i64 k ∧ Ext w wr) (fun i _ => l.length - (intOf i).toNat)
    case atStart => exact ⟨0, Nat.zero_le _, rfl, Ext.refl _⟩
    case round =>
      obtain ⟨k, hk, rfl, hx⟩ := hrel
      by_cases hlt : k < l.length
      · obtain ⟨b, off, rfl, hb, g0, g1, g2⟩ := (h.ext RTrip.mono hx).trip hlt
        obtain ⟨b', off', rfl, hb', k0, k1, k2⟩ := (g.ext RTrip.mono hx).trip hlt
        have kl : (k : Int) < l.length := by omega
        have hxm := ((Ext.refl wr).alloc (.cells #[.int .i64 l[k].kind, .int .i64 l[k].a, .int .i64 l[k].b] 39)).alloc (.cells #[.int .i64 l[k].kind, .int .i64 l[k].a, .int .i64 l[k].b] 39)
        go_wp2_with fail
        refine (nodes_1 l[k] _).mono ?_
        rintro e w1 ⟨rfl, hx1⟩
        have hxx := hx.trans (hxm.trans hx1)
        clear hx hxm hx1
        go_wp2_with fail
        go_roundw
        case rel => exact ⟨k + 1, hlt, by go_num, hxx⟩
        case measure => simp [intOf]; omega
      · obtain rfl : k = l.length := by omega
        go_wp2_with fail
        go_ret
        exact ⟨rfl, hx⟩
  have HI := hid hinner
  clear hinner
  go_enter Tryd.func13, Tryd.ntmps13
  go_wp2_with fail
  refine HI.out.mono ?_
  rintro e w1 ⟨rfl, hx⟩
  go_wp2_with fail
  go_ret
  exact ⟨rfl, hx⟩

theorem grown_ext' {w w' : World} (h : w.grownBy w' none) : Ext w w' := ⟨h.os, h.tape, h.output, h.size, fun k hk => h.block k hk (by simp)⟩

set_option maxHeartbeats 4000000 in
theorem ref_Read (B : Nat) (x : ByteArray) (w : World) :
    Calls Tryd.prog 16 #[.string x] w fun e w' => ∃ v, e = .returned (.tuple #[v, .int .i64 (readErr x.data.toList)]) ∧ IsNodes B w' v (readN x.data.toList) ∧ Ext w w' := by
  have hsz : x.data.toList.length = x.size := by rw [Array.length_toList]; rfl
  by_cases hl : 400 < x.size
  · have hE : readErr x.data.toList = 2 := readErr_long (by omega)
    have HE := hid (And.intro hE (readN_no hE (by decide)))
    have hl2 : (400 : Int) < x.size := by omega
    clear hE hsz hl
    go_enter Tryd.func16, Tryd.ntmps16
    go_wp2_with fail
    go_ret2
    rw [HE.out.1, HE.out.2]
    exact ⟨_, rfl, IsSl.nil, Ext.refl _⟩
  have hl2 : (x.size : Int) ≤ 400 := by omega
  have hnl : ¬ 400 < x.data.toList.length := by omega
  have HR := hid (ref_read w.heap.size (x.data.toList.length + 1) x none 0 [] w (by omega) (by simp only [List.length_nil]; omega) (by omega) (Nat.le_refl _) Own.nil)
  have HNL := hid hnl
  clear hsz hl hnl
  go_enter Tryd.func16, Tryd.ntmps16
  go_wp2_with fail
  refine HR.out.mono ?_
  rintro e w1 (⟨M, t1, A1, c1, hp, rfl, ho, hg⟩ | ⟨hp, y, rfl, hg⟩)
  rotate_left
  · have hE := read_none HNL.out hp
    have HE := hid (And.intro hE (readN_no hE (by decide)))
    have HX := hid (grown_ext' hg)
    clear hE hp hg
    go_wp2_with fail
    go_ret2
    rw [HE.out.1, HE.out.2]
    exact ⟨_, rfl, IsSl.nil, HX.out⟩
  have HX := hid (grown_ext' hg.grown)
  have HP := hid hp
  have hsl := ho.isSl B
  have HSL := hid hsl
  obtain ⟨A, c, hv, hMc, hcm, hs⟩ := hsl
  injection hv with hA _ hc
  subst hA hc
  have HLM := hid (Nat.le_trans hMc hcm)
  have HSS := hid hs
  clear hp hg ho hMc hcm hs
  rcases t1 with _ | ⟨q, r⟩
  · have hrd := read_of HNL.out HP.out
    have hem : (tstr []).toList.isEmpty = true := by rw [Lib.toList_data, tstr_data]; rfl
    have HE := hid hrd
    clear hrd
    go_wp2_with fail
    refine (ref_Sentence B A1 c1 M w1 HLM.out HSS.out).mono ?_
    rintro e w2 ⟨rfl, hx2⟩
    have HX2 := hid (HX.out.trans hx2)
    have HS2 := hid (HSL.out.ext RTrip.mono hx2)
    clear hx2
    by_cases h0 : formCheck M = 0
    · rw [h0, if_pos rfl] at HE
      rw [h0]
      clear h0
      go_wp2_with fail
      go_ret2
      rw [HE.out.1, HE.out.2]
      exact ⟨_, rfl, HS2.out, HX2.out⟩
    · rw [if_neg h0] at HE
      obtain ⟨E, hE⟩ : ∃ E, E = formCheck M := ⟨_, rfl⟩
      rw [← hE] at h0 HE
      rw [← hE]
      have h0' : (E != 0) = true := by simpa using h0
      clear h0 hE
      go_wp2_with fail
      go_ret2
      rw [HE.out.1, HE.out.2]
      exact ⟨_, rfl, IsSl.nil, HX2.out⟩
  · have hE := read_rest HNL.out HP.out
    have HE := hid (And.intro hE (readN_no hE (by decide)))
    have hem : (tstr (q :: r)).toList.isEmpty = false := by rw [Lib.toList_data, tstr_data]; rfl
    clear hE
    go_wp2_with fail
    go_ret2
    rw [HE.out.1, HE.out.2]
    exact ⟨_, rfl, IsSl.nil, HX.out⟩

end Go.Proofs.YtbkmgbckeaimdaaDoor
