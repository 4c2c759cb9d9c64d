/- The walks of text's reader: number, add. -/
import Derived.Test.YtbkmgbckeaimdaaDoorTextR
import Derived.Test.YtbkmgbckeaimdaaDoorShlf
import Derived.Test.YtbkmgbckeaimdaaDoorBase
import Derived.Deep.CutBlock
import Derived.Deep.LoopGhost
import Derived.Lib.Strings
namespace Go.Proofs.YtbkmgbckeaimdaaDoor
open Go Go.RowKit

/-- what the library's two errors hold: not nil. -/
structure ErrV (B : Nat) (w : World) : Prop where
  sx : ∃ t p, w.var? Tryd.prog "strconv.ErrSyntax" = some #[.iface t p]
  rg : ∃ t p, w.var? Tryd.prog "strconv.ErrRange" = some #[.iface t p]
  lo : 3 < B
  lw : 3 < w.heap.size
theorem g_sx : Tryd.prog.globalNamed "strconv.ErrSyntax" = some 2 := by kernel_rfl
theorem g_rg : Tryd.prog.globalNamed "strconv.ErrRange" = some 3 := by kernel_rfl
theorem var_keep {w w' : World} {n : String} {g : Nat} {cs : Array Value} (hg : Tryd.prog.globalNamed n = some g) (h : w'.heap[g]? = w.heap[g]?) (hv : w.var? Tryd.prog n = some cs) : w'.var? Tryd.prog n = some cs := by
  unfold World.var? at hv ⊢
  simp only [hg, Option.bind_some] at hv ⊢
  rw [h]
  exact hv
theorem ErrV.chg {B : Nat} {ts : List TypeId} {w w' : World} (h : ErrV B w) (x : Chg B ts w w') : ErrV B w' := by
  obtain ⟨⟨t, p, h1⟩, ⟨t2, p2, h2⟩, h3, h4⟩ := h
  exact ⟨⟨t, p, var_keep g_sx (x.block _ (by omega) (.inl (by omega))) h1⟩, ⟨t2, p2, var_keep g_rg (x.block _ (by omega) (.inl (by omega))) h2⟩, h3, Nat.lt_of_lt_of_le h4 x.size⟩

theorem RdT.at_ {base r : Nat} {w : World} {s : ByteArray} {k : Nat} {L : List Node} (h : RdT base r w s (s.data.toList.drop k) L) (hk : k ≤ s.size) : w.cell? ⟨r, 1, none⟩ = some (.int .i64 k) := by
  obtain ⟨k', h1, h2, h3⟩ := h.ex
  have h4 := congrArg List.length h2
  simp only [List.length_drop, Array.length_toList] at h4
  have h5 : s.data.size = s.size := rfl
  rw [show k = k' by omega]
  exact h3
theorem RdT.pos {base r : Nat} {w : World} {s : ByteArray} {t : List UInt8} {L : List Node} (h : RdT base r w s t L) : ∃ k, k ≤ s.size ∧ t = s.data.toList.drop k :=
  let ⟨k, h1, h2, _⟩ := h.ex
  ⟨k, h1, h2⟩

theorem take_dig {s : ByteArray} {k j : Nat} (hk : k + j < s.size) (h : ((s.data.toList.drop k).take j).all dig = true) (hd : dig s[k + j] = true) : ((s.data.toList.drop k).take (j + 1)).all dig = true := by
  rw [List.take_succ_eq_append_getElem (by simp only [List.length_drop, Array.length_toList]; show j < s.size - k; omega), List.all_append, h, Bool.true_and, List.all_cons, List.all_nil, Bool.and_true, List.getElem_drop]
  exact hd
theorem nodig_end (s : ByteArray) : NoDig (s.data.toList.drop s.size) := by
  rw [drop_end]; intro c hc; cases hc
theorem nodig_at {s : ByteArray} {k : Nat} (hk : k < s.size) (h : dig s[k] = false) : NoDig (s.data.toList.drop k) := by
  rw [drop_cons hk]; exact NoDig.cons h
theorem split_dig {s : ByteArray} {k j : Nat} (h : ((s.data.toList.drop k).take j).all dig = true) (hn : NoDig (s.data.toList.drop (k + j))) (hj : k + j ≤ s.size) :
    digs (s.data.toList.drop k) = (s.data.toList.drop k).take j ∧ (s.data.toList.drop k).drop (digs (s.data.toList.drop k)).length = s.data.toList.drop (k + j) ∧ ((s.data.toList.drop k).take j).length = j := by
  have e : s.data.toList.drop k = (s.data.toList.drop k).take j ++ s.data.toList.drop (k + j) := by rw [← List.drop_drop, List.take_append_drop]
  have h1 : digs (s.data.toList.drop k) = (s.data.toList.drop k).take j := by
    have := digs_app h hn
    rw [← e] at this
    exact this
  have h2 : ((s.data.toList.drop k).take j).length = j := by
    rw [List.length_take, List.length_drop, Array.length_toList]
    have h5 : s.data.size = s.size := rfl
    omega
  refine ⟨h1, ?_, h2⟩
  rw [h1, h2, List.drop_drop]
theorem extract_take (s : ByteArray) (k j : Nat) : (s.extract k (k + j)).data.toList = (s.data.toList.drop k).take j := by
  rw [Lib.extract_data]
  simp
theorem tstr_eq {s : ByteArray} {l : List UInt8} (h : s.data.toList = l) : s = ⟨l.toArray⟩ := by
  subst h
  apply ByteArray.ext
  simp
theorem bytes_inj {a b : ByteArray} (h : a.toList = b.toList) : a = b := by
  rw [Lib.toList_data, Lib.toList_data] at h
  obtain ⟨⟨x⟩⟩ := a
  obtain ⟨⟨y⟩⟩ := b
  simp at h
  rw [h]
theorem dig_lo {c : UInt8} (h : ¬ (48 : Int) ≤ c.toNat) : dig c = false := by
  simp only [dig, Bool.and_eq_false_iff, decide_eq_false_iff_not]; exact .inl (by omega)
theorem dig_hi {c : UInt8} (h : ¬ (c.toNat : Int) ≤ 57) : dig c = false := by
  simp only [dig, Bool.and_eq_false_iff, decide_eq_false_iff_not]; exact .inr (by omega)
theorem dig_in {c : UInt8} (h : (48 : Int) ≤ c.toNat) (h2 : (c.toNat : Int) ≤ 57) : dig c = true := by
  simp only [dig, Bool.and_eq_true, decide_eq_true_eq]; exact ⟨by omega, by omega⟩

theorem atoi_sx (s : ByteArray) (hlim : s.size ≤ 281474976710656) (h1 : ∀ v, Lib.atoiAll s.data.toList ≠ .ok v) (h2 : Lib.atoiAll s.data.toList ≠ .range) (tp : TypeId) (p : Value) (w : World) (hvar : w.var? Tryd.prog "strconv.ErrSyntax" = some #[.iface tp p]) :
    Calls Tryd.prog 55 #[.string s] w fun e w' => ∃ N T, e = .returned (.tuple #[.int .i64 0, .iface T (.pointer (some ⟨N, 0, none⟩))]) ∧ Ext w w' := by
  refine Calls.mono (Any.strconv_Atoi_syntax_var Tryd.laysC172 s hlim ?_ tp p w hvar) ?_
  · rcases hq : Lib.atoiAll s.data.toList with v | _ | _
    · exact absurd hq (h1 v)
    · rfl
    · exact absurd hq h2
  · rintro e w' ⟨N, rfl, _, _, hx⟩
    exact ⟨N, _, rfl, hx⟩

set_option maxRecDepth 100000 in
set_option maxHeartbeats 4000000 in
theorem rd_number (base r : Nat) (s : ByteArray) (t : List UInt8) (L : List Node) (w : World) (hs : s.size ≤ 400) (h : RdT base r w s t L) (hv : ErrV base w) :
    Calls Tryd.prog 43 #[.pointer (some ⟨r, 0, none⟩)] w fun e w' => Fd base r w w' ∧
      ((∃ a t1, numP t = some (a, t1) ∧ e = .returned (.int .i64 a) ∧ RdT base r w' s t1 L) ∨ (numP t = none ∧ e = badE)) := by
  obtain ⟨k, hk, rfl⟩ := h.pos
  have H := hid h
  have HV := hid hv
  have HS := hid hs
  have h3 := h.at_ hk
  have hks : (k : Int) ≤ s.size := by omega
  have HK := hid hk
  clear h hv hk hs
  go_enter Tryd.func43, Tryd.ntmps43
  go_upto_block 0 with fail
  go_cut [11] from 11 to 51 (fun _ wx => ∃ j : Nat, k + j ≤ s.size ∧ ((s.data.toList.drop k).take j).all dig = true ∧ NoDig (s.data.toList.drop (k + j)) ∧ RdT base r wx s (s.data.toList.drop (k + j)) L ∧ Fd base r w wx)
  case first =>
    go_wp2_with fail
    go_loopg [11] (s.size - k) (fun g _ wr => ∃ j : Nat, k + j ≤ s.size ∧ g = s.size - (k + j) ∧ ((s.data.toList.drop k).take j).all dig = true ∧ RdT base r wr s (s.data.toList.drop (k + j)) L ∧ Fd base r w wr)
    case atStart => exact ⟨0, HK.out, rfl, rfl, H.out, Fd.refl _⟩
    case round =>
      obtain ⟨j, hj, hg, hd, hr, hx⟩ := hrel
      have HG := hid hg
      have HJ := hid hj
      have HD := hid hd
      have HR := hid hr
      have HX := hid hx
      have q1 : wr.cell? ⟨r, 1, none⟩ = some (.int .i64 ((k + j : Nat) : Int)) := hr.at_ hj
      have q0 := hr.c0
      have fz1 := hr.fz 1
      clear hg hd hr hx hj
      obtain ⟨m, hm⟩ : ∃ m, m = k + j := ⟨_, rfl⟩
      rw [← hm] at q1 HG HJ HR
      have HM := hid hm
      clear hm
      have hms : (m : Int) ≤ s.size := by have := HJ.out; omega
      have HF := hid (show ∀ w', Ext wr w' → w'.cell? ⟨r, 1, none⟩ = some (.int .i64 m) ∧ w'.cell? ⟨r, 0, none⟩ = some (.string s) from fun w' x => ⟨x.cell q1, x.cell q0⟩)
      by_cases hlt : m < s.size
      · have hlt' : (m : Int) < s.size := by omega
        have HL := hid hlt
        by_cases hb : (48 : Int) ≤ (s[m]'hlt).toNat
        · have hb2 : 48 ≤ (s[m]'hlt).toNat := by omega
          by_cases hc : ((s[m]'hlt).toNat : Int) ≤ 57
          · have hc2 : (s[m]'hlt).toNat ≤ 57 := by omega
            have HB := hid (dig_in hb hc)
            have hm4 : (m : Int) < 400 := by have := HS.out; omega
            go_upto_region 2 with fail
            go_quiet (fail)
            go_wp2_with fail
            go_roundg (gk - 1)
            case measure => have := HG.out; have := HL.out; omega
            case rel => exact ⟨j + 1, by have := HL.out; have := HM.out; omega, by have := HG.out; have := HM.out; omega, take_dig (by rw [← HM.out]; exact HL.out) HD.out (by have := HB.out; simp only [HM.out] at this; exact this), by rw [← Nat.add_assoc, ← HM.out]; exact (HR.out.ext ((Ext.refl wr).drewN _)).move (m + 1) HL.out, HX.out.trans ((Fd.ext HR.out.lt ((Ext.refl wr).drewN _)).trans (Fd.move (HR.out.ext ((Ext.refl wr).drewN _)) _))⟩
          · have hc2 : decide ((s[m]'hlt).toNat ≤ 57) = false := decide_eq_false (by omega)
            have hc3 : decide (((s[m]'hlt).toNat : Int) ≤ 57) = false := decide_eq_false hc
            have HB := hid (nodig_at HL.out (dig_hi hc))
            clear hc
            go_upto_region 2 with fail
            go_quiet (fail)
            go_wp2_with fail
            go_meet
            exact ⟨j, by rw [← HM.out]; exact HJ.out, HD.out, by rw [← HM.out]; exact HB.out, by rw [← HM.out]; exact HR.out.ext ((Ext.refl wr).drewN _), HX.out.trans (Fd.ext HR.out.lt ((Ext.refl wr).drewN _))⟩
        · have hb2 : decide (48 ≤ (s[m]'hlt).toNat) = false := decide_eq_false (by omega)
          have hb3 : decide ((48 : Int) ≤ (s[m]'hlt).toNat) = false := decide_eq_false hb
          have HB := hid (nodig_at HL.out (dig_lo hb))
          clear hb
          go_wp2_with fail
          refine wq_region (fun w' => Ext wr w') (by kernel_rfl) (by kernel_rfl) (Ext.refl _).drew ?_
          refine wq_get (v := ?_) (fun w' hw' => ?_) ?_
          rotate_left
          · have hA := HF.out w' hw'
            go_split_ands
            first
              | (go_simp; done)
              | (go_simp; with_reducible rfl)
          try simp only [Act.put, List.setIfInBounds_toArray, List.set_cons_zero, List.set_cons_succ]
          refine wq_get (v := ?_) (fun w' hw' => ?_) ?_
          rotate_left
          · have hA := HF.out w' hw'
            go_split_ands
            first
              | (go_simp; done)
              | (go_simp; with_reducible rfl)
          try simp only [Act.put, List.setIfInBounds_toArray, List.set_cons_zero, List.set_cons_succ]
          refine wq_get (v := ?_) (fun w' hw' => ?_) ?_
          rotate_left
          · have hA := HF.out w' hw'
            go_split_ands
            first
              | (go_simp; done)
              | (go_simp; with_reducible rfl)
          try simp only [Act.put, List.setIfInBounds_toArray, List.set_cons_zero, List.set_cons_succ]
          refine wq_get (v := ?_) (fun w' hw' => ?_) ?_
          rotate_left
          · have hA := HF.out w' hw'
            go_split_ands
            first
              | (go_simp; done)
              | (go_simp; with_reducible rfl)
          try simp only [Act.put, List.setIfInBounds_toArray, List.set_cons_zero, List.set_cons_succ]
          refine wq_get (v := ?_) (fun w' hw' => ?_) ?_
          rotate_left
          · have hA := HF.out w' hw'
            go_split_ands
            first
              | (go_simp; done)
              | (go_simp; with_reducible rfl)
          try simp only [Act.put, List.setIfInBounds_toArray, List.set_cons_zero, List.set_cons_succ]
          refine wq_get (v := ?_) (fun w' hw' => ?_) ?_
          rotate_left
          · have hA := HF.out w' hw'
            go_split_ands
            first
              | (go_simp; done)
              | (go_simp; with_reducible rfl)
          try simp only [Act.put, List.setIfInBounds_toArray, List.set_cons_zero, List.set_cons_succ]
          refine wq_get (v := ?_) (fun w' hw' => ?_) ?_
          rotate_left
          · have hA := HF.out w' hw'
            go_split_ands
            first
              | (go_simp; done)
              | (go_simp; with_reducible rfl)
          try simp only [Act.put, List.setIfInBounds_toArray, List.set_cons_zero, List.set_cons_succ]
          refine wq_get (v := ?_) (fun w' hw' => ?_) ?_
          rotate_left
          · have hA := HF.out w' hw'
            go_split_ands
            first
              | (go_simp; done)
              | (go_simp; with_reducible rfl)
          try simp only [Act.put, List.setIfInBounds_toArray, List.set_cons_zero, List.set_cons_succ]
          refine wq_get (v := ?_) (fun w' hw' => ?_) ?_
          rotate_left
          · have hA := HF.out w' hw'
            go_split_ands
            first
              | (go_simp; done)
              | (go_simp; with_reducible rfl)
          try simp only [Act.put, List.setIfInBounds_toArray, List.set_cons_zero, List.set_cons_succ]
          refine wq_get (v := ?_) (fun w' hw' => ?_) ?_
          rotate_left
          · have hA := HF.out w' hw'
            go_split_ands
            first
              | (go_simp; done)
              | (go_simp; with_reducible rfl)
          try simp only [Act.put, List.setIfInBounds_toArray, List.set_cons_zero, List.set_cons_succ]
          refine wq_get (v := ?_) (fun w' hw' => ?_) ?_
          rotate_left
          · have hA := HF.out w' hw'
            go_split_ands
            first
              | (go_simp; done)
              | (go_simp; with_reducible rfl)
          try simp only [Act.put, List.setIfInBounds_toArray, List.set_cons_zero, List.set_cons_succ]
          refine wq_getOn (v := ?_) (yields_at rfl rfl rfl) (fun w' hw' => ?_) ?_
          rotate_left
          · have hA := HF.out w' hw'
            go_split_ands
            first
              | (go_simp; done)
              | (go_simp; with_reducible rfl)
          try simp only [Act.put, List.setIfInBounds_toArray, List.set_cons_zero, List.set_cons_succ]
          refine wq_getOn (v := ?_) (yields_at rfl rfl rfl) (fun w' hw' => ?_) ?_
          rotate_left
          · have hA := HF.out w' hw'
            go_split_ands
            first
              | (go_simp; done)
              | (go_simp; with_reducible rfl)
          try simp only [Act.put, List.setIfInBounds_toArray, List.set_cons_zero, List.set_cons_succ]
          refine wq_getOn (v := ?_) (yields_at rfl rfl rfl) (fun w' hw' => ?_) ?_
          rotate_left
          · have hA := HF.out w' hw'
            go_split_ands
            first
              | (go_simp; done)
              | (go_simp; with_reducible rfl)
          try simp only [Act.put, List.setIfInBounds_toArray, List.set_cons_zero, List.set_cons_succ]
          refine wq_getOn (v := ?_) (yields_at rfl rfl rfl) (fun w' hw' => ?_) ?_
          rotate_left
          · have hA := HF.out w' hw'
            go_split_ands
            first
              | (go_simp; done)
              | (go_simp; with_reducible rfl)
          try simp only [Act.put, List.setIfInBounds_toArray, List.set_cons_zero, List.set_cons_succ]
          refine wq_getOn (v := ?_) (yields_at rfl rfl rfl) (fun w' hw' => ?_) ?_
          rotate_left
          · have hA := HF.out w' hw'
            go_split_ands
            first
              | (go_simp; done)
              | (go_simp; with_reducible rfl)
          try simp only [Act.put, List.setIfInBounds_toArray, List.set_cons_zero, List.set_cons_succ]
          refine wq_getOn (v := ?_) (yields_at rfl rfl rfl) (fun w' hw' => ?_) ?_
          rotate_left
          · have hA := HF.out w' hw'
            go_split_ands
            first
              | (go_simp; done)
              | (go_simp; with_reducible rfl)
          try simp only [Act.put, List.setIfInBounds_toArray, List.set_cons_zero, List.set_cons_succ]
          refine wq_getOn (v := ?_) (yields_at rfl rfl rfl) (fun w' hw' => ?_) ?_
          rotate_left
          · have hA := HF.out w' hw'
            go_split_ands
            first
              | (go_simp; done)
              | (go_simp; with_reducible rfl)
          try simp only [Act.put, List.setIfInBounds_toArray, List.set_cons_zero, List.set_cons_succ]
          refine wq_getOn (v := ?_) (yields_at rfl rfl rfl) (fun w' hw' => ?_) ?_
          rotate_left
          · have hA := HF.out w' hw'
            go_split_ands
            first
              | (go_simp; done)
              | (go_simp; with_reducible rfl)
          try simp only [Act.put, List.setIfInBounds_toArray, List.set_cons_zero, List.set_cons_succ]
          refine wq_getOn (v := ?_) (yields_at rfl rfl rfl) (fun w' hw' => ?_) ?_
          rotate_left
          · have hA := HF.out w' hw'
            go_split_ands
            first
              | (go_simp; done)
              | (go_simp; with_reducible rfl)
          try simp only [Act.put, List.setIfInBounds_toArray, List.set_cons_zero, List.set_cons_succ]
          refine wq_getOn (v := ?_) (yields_at rfl rfl rfl) (fun w' hw' => ?_) ?_
          rotate_left
          · have hA := HF.out w' hw'
            go_split_ands
            first
              | (go_simp; done)
              | (go_simp; with_reducible rfl)
          try simp only [Act.put, List.setIfInBounds_toArray, List.set_cons_zero, List.set_cons_succ]
          refine wq_get (v := ?_) (fun w' hw' => ?_) ?_
          rotate_left
          · have hA := HF.out w' hw'
            go_split_ands
            first
              | (go_simp; done)
              | (go_simp; with_reducible rfl)
          try simp only [Act.put, List.setIfInBounds_toArray, List.set_cons_zero, List.set_cons_succ]
          refine wq_get (v := ?_) (fun w' hw' => ?_) ?_
          rotate_left
          · have hA := HF.out w' hw'
            go_split_ands
            first
              | (go_simp; done)
              | (go_simp; with_reducible rfl)
          try simp only [Act.put, List.setIfInBounds_toArray, List.set_cons_zero, List.set_cons_succ]
          refine wq_skip (yields_at rfl rfl rfl) ?_
          try simp only [Act.put, List.setIfInBounds_toArray, List.set_cons_zero, List.set_cons_succ]
          refine wq_skip (yields_at rfl rfl rfl) ?_
          try simp only [Act.put, List.setIfInBounds_toArray, List.set_cons_zero, List.set_cons_succ]
          refine wq_skip (yields_at rfl rfl rfl) ?_
          try simp only [Act.put, List.setIfInBounds_toArray, List.set_cons_zero, List.set_cons_succ]
          refine wq_skip (yields_at rfl rfl rfl) ?_
          try simp only [Act.put, List.setIfInBounds_toArray, List.set_cons_zero, List.set_cons_succ]
          refine wq_skip (yields_at rfl rfl rfl) ?_
          try simp only [Act.put, List.setIfInBounds_toArray, List.set_cons_zero, List.set_cons_succ]
          refine wq_skip (yields_at rfl rfl rfl) ?_
          try simp only [Act.put, List.setIfInBounds_toArray, List.set_cons_zero, List.set_cons_succ]
          refine wq_skip (yields_at rfl rfl rfl) ?_
          try simp only [Act.put, List.setIfInBounds_toArray, List.set_cons_zero, List.set_cons_succ]
          refine wq_skip (yields_at rfl rfl rfl) ?_
          try simp only [Act.put, List.setIfInBounds_toArray, List.set_cons_zero, List.set_cons_succ]
          refine wq_skip (yields_at rfl rfl rfl) ?_
          try simp only [Act.put, List.setIfInBounds_toArray, List.set_cons_zero, List.set_cons_succ]
          refine wq_skip (yields_at rfl rfl rfl) ?_
          try simp only [Act.put, List.setIfInBounds_toArray, List.set_cons_zero, List.set_cons_succ]
          refine wq_get (v := ?_) (fun w' hw' => ?_) ?_
          rotate_left
          · have hA := HF.out w' hw'
            go_split_ands
            first
              | (go_simp; done)
              | (go_simp; with_reducible rfl)
          try simp only [Act.put, List.setIfInBounds_toArray, List.set_cons_zero, List.set_cons_succ]
          refine wq_nil ?_
          intro w25 hyn
          have HY := hid hyn
          clear hyn
          go_wp2_with fail
          go_meet
          exact ⟨j, by rw [← HM.out]; exact HJ.out, HD.out, by rw [← HM.out]; exact HB.out, by rw [← HM.out]; exact HR.out.ext HY.out, HX.out.trans (Fd.ext HR.out.lt HY.out)⟩
      · have hk1 : decide ((m : Int) < s.size) = false := decide_eq_false (by omega)
        have hk2 : decide (m < s.size) = false := decide_eq_false hlt
        have HB := hid (show NoDig (s.data.toList.drop m) by rw [show m = s.size by omega]; exact nodig_end s)
        clear hlt hms
        go_wp2_with fail
        refine wq_region (fun w' => Ext wr w') (by kernel_rfl) (by kernel_rfl) (Ext.refl _).drew ?_
        refine wq_get (v := ?_) (fun w' hw' => ?_) ?_
        rotate_left
        · have hA := HF.out w' hw'
          go_split_ands
          first
            | (go_simp; done)
            | (go_simp; with_reducible rfl)
        try simp only [Act.put, List.setIfInBounds_toArray, List.set_cons_zero, List.set_cons_succ]
        refine wq_get (v := ?_) (fun w' hw' => ?_) ?_
        rotate_left
        · have hA := HF.out w' hw'
          go_split_ands
          first
            | (go_simp; done)
            | (go_simp; with_reducible rfl)
        try simp only [Act.put, List.setIfInBounds_toArray, List.set_cons_zero, List.set_cons_succ]
        refine wq_get (v := ?_) (fun w' hw' => ?_) ?_
        rotate_left
        · have hA := HF.out w' hw'
          go_split_ands
          first
            | (go_simp; done)
            | (go_simp; with_reducible rfl)
        try simp only [Act.put, List.setIfInBounds_toArray, List.set_cons_zero, List.set_cons_succ]
        refine wq_get (v := ?_) (fun w' hw' => ?_) ?_
        rotate_left
        · have hA := HF.out w' hw'
          go_split_ands
          first
            | (go_simp; done)
            | (go_simp; with_reducible rfl)
        try simp only [Act.put, List.setIfInBounds_toArray, List.set_cons_zero, List.set_cons_succ]
        refine wq_get (v := ?_) (fun w' hw' => ?_) ?_
        rotate_left
        · have hA := HF.out w' hw'
          go_split_ands
          first
            | (go_simp; done)
            | (go_simp; with_reducible rfl)
        try simp only [Act.put, List.setIfInBounds_toArray, List.set_cons_zero, List.set_cons_succ]
        refine wq_get (v := ?_) (fun w' hw' => ?_) ?_
        rotate_left
        · have hA := HF.out w' hw'
          go_split_ands
          first
            | (go_simp; done)
            | (go_simp; with_reducible rfl)
        try simp only [Act.put, List.setIfInBounds_toArray, List.set_cons_zero, List.set_cons_succ]
        refine wq_get (v := ?_) (fun w' hw' => ?_) ?_
        rotate_left
        · have hA := HF.out w' hw'
          go_split_ands
          first
            | (go_simp; done)
            | (go_simp; with_reducible rfl)
        try simp only [Act.put, List.setIfInBounds_toArray, List.set_cons_zero, List.set_cons_succ]
        refine wq_get (v := ?_) (fun w' hw' => ?_) ?_
        rotate_left
        · have hA := HF.out w' hw'
          go_split_ands
          first
            | (go_simp; done)
            | (go_simp; with_reducible rfl)
        try simp only [Act.put, List.setIfInBounds_toArray, List.set_cons_zero, List.set_cons_succ]
        refine wq_get (v := ?_) (fun w' hw' => ?_) ?_
        rotate_left
        · have hA := HF.out w' hw'
          go_split_ands
          first
            | (go_simp; done)
            | (go_simp; with_reducible rfl)
        try simp only [Act.put, List.setIfInBounds_toArray, List.set_cons_zero, List.set_cons_succ]
        refine wq_get (v := ?_) (fun w' hw' => ?_) ?_
        rotate_left
        · have hA := HF.out w' hw'
          go_split_ands
          first
            | (go_simp; done)
            | (go_simp; with_reducible rfl)
        try simp only [Act.put, List.setIfInBounds_toArray, List.set_cons_zero, List.set_cons_succ]
        refine wq_get (v := ?_) (fun w' hw' => ?_) ?_
        rotate_left
        · have hA := HF.out w' hw'
          go_split_ands
          first
            | (go_simp; done)
            | (go_simp; with_reducible rfl)
        try simp only [Act.put, List.setIfInBounds_toArray, List.set_cons_zero, List.set_cons_succ]
        refine wq_skip (yields_at rfl rfl rfl) ?_
        try simp only [Act.put, List.setIfInBounds_toArray, List.set_cons_zero, List.set_cons_succ]
        refine wq_skip (yields_at rfl rfl rfl) ?_
        try simp only [Act.put, List.setIfInBounds_toArray, List.set_cons_zero, List.set_cons_succ]
        refine wq_skip (yields_at rfl rfl rfl) ?_
        try simp only [Act.put, List.setIfInBounds_toArray, List.set_cons_zero, List.set_cons_succ]
        refine wq_skip (yields_at rfl rfl rfl) ?_
        try simp only [Act.put, List.setIfInBounds_toArray, List.set_cons_zero, List.set_cons_succ]
        refine wq_skip (yields_at rfl rfl rfl) ?_
        try simp only [Act.put, List.setIfInBounds_toArray, List.set_cons_zero, List.set_cons_succ]
        refine wq_skip (yields_at rfl rfl rfl) ?_
        try simp only [Act.put, List.setIfInBounds_toArray, List.set_cons_zero, List.set_cons_succ]
        refine wq_skip (yields_at rfl rfl rfl) ?_
        try simp only [Act.put, List.setIfInBounds_toArray, List.set_cons_zero, List.set_cons_succ]
        refine wq_skip (yields_at rfl rfl rfl) ?_
        try simp only [Act.put, List.setIfInBounds_toArray, List.set_cons_zero, List.set_cons_succ]
        refine wq_skip (yields_at rfl rfl rfl) ?_
        try simp only [Act.put, List.setIfInBounds_toArray, List.set_cons_zero, List.set_cons_succ]
        refine wq_skip (yields_at rfl rfl rfl) ?_
        try simp only [Act.put, List.setIfInBounds_toArray, List.set_cons_zero, List.set_cons_succ]
        refine wq_get (v := ?_) (fun w' hw' => ?_) ?_
        rotate_left
        · have hA := HF.out w' hw'
          go_split_ands
          first
            | (go_simp; done)
            | (go_simp; with_reducible rfl)
        try simp only [Act.put, List.setIfInBounds_toArray, List.set_cons_zero, List.set_cons_succ]
        refine wq_get (v := ?_) (fun w' hw' => ?_) ?_
        rotate_left
        · have hA := HF.out w' hw'
          go_split_ands
          first
            | (go_simp; done)
            | (go_simp; with_reducible rfl)
        try simp only [Act.put, List.setIfInBounds_toArray, List.set_cons_zero, List.set_cons_succ]
        refine wq_skip (yields_at rfl rfl rfl) ?_
        try simp only [Act.put, List.setIfInBounds_toArray, List.set_cons_zero, List.set_cons_succ]
        refine wq_skip (yields_at rfl rfl rfl) ?_
        try simp only [Act.put, List.setIfInBounds_toArray, List.set_cons_zero, List.set_cons_succ]
        refine wq_skip (yields_at rfl rfl rfl) ?_
        try simp only [Act.put, List.setIfInBounds_toArray, List.set_cons_zero, List.set_cons_succ]
        refine wq_skip (yields_at rfl rfl rfl) ?_
        try simp only [Act.put, List.setIfInBounds_toArray, List.set_cons_zero, List.set_cons_succ]
        refine wq_skip (yields_at rfl rfl rfl) ?_
        try simp only [Act.put, List.setIfInBounds_toArray, List.set_cons_zero, List.set_cons_succ]
        refine wq_skip (yields_at rfl rfl rfl) ?_
        try simp only [Act.put, List.setIfInBounds_toArray, List.set_cons_zero, List.set_cons_succ]
        refine wq_skip (yields_at rfl rfl rfl) ?_
        try simp only [Act.put, List.setIfInBounds_toArray, List.set_cons_zero, List.set_cons_succ]
        refine wq_skip (yields_at rfl rfl rfl) ?_
        try simp only [Act.put, List.setIfInBounds_toArray, List.set_cons_zero, List.set_cons_succ]
        refine wq_skip (yields_at rfl rfl rfl) ?_
        try simp only [Act.put, List.setIfInBounds_toArray, List.set_cons_zero, List.set_cons_succ]
        refine wq_skip (yields_at rfl rfl rfl) ?_
        try simp only [Act.put, List.setIfInBounds_toArray, List.set_cons_zero, List.set_cons_succ]
        refine wq_get (v := ?_) (fun w' hw' => ?_) ?_
        rotate_left
        · have hA := HF.out w' hw'
          go_split_ands
          first
            | (go_simp; done)
            | (go_simp; with_reducible rfl)
        try simp only [Act.put, List.setIfInBounds_toArray, List.set_cons_zero, List.set_cons_succ]
        refine wq_nil ?_
        intro w25 hyn
        have HY := hid hyn
        clear hyn
        go_wp2_with fail
        go_meet
        exact ⟨j, by rw [← HM.out]; exact HJ.out, HD.out, by rw [← HM.out]; exact HB.out, by rw [← HM.out]; exact HR.out.ext HY.out, HX.out.trans (Fd.ext HR.out.lt HY.out)⟩
  case rest =>
    obtain ⟨j, hj, hd, hn, hr, hx⟩ := hcut
    obtain ⟨e1, e2, e3⟩ := split_dig hd hn hj
    have q1 := hr.at_ hj
    have q0 := hr.c0
    have HJ := hid hj
    have HR := hid hr
    have HX := hid hx
    have HV2 := hid (HV.out.chg hx.chg)
    have HN := hid (show numP (s.data.toList.drop k) = if numOk ((s.data.toList.drop k).take j) then some (numVal ((s.data.toList.drop k).take j), s.data.toList.drop (k + j)) else none by unfold numP; rw [e1] at e2 ⊢; rw [e2])
    obtain ⟨d, hdd⟩ : ∃ d, d = (s.data.toList.drop k).take j := ⟨_, rfl⟩
    rw [← hdd] at HN hd e3
    have HE := hid (show (s.extract k (k + j)).data.toList = d by rw [extract_take, hdd])
    have HDG := hid hd
    have HE3 := hid e3
    clear e1 e2 e3 hdd hd hn hr hx
    obtain ⟨m, hm⟩ : ∃ m, m = k + j := ⟨_, rfl⟩
    have hkm : (k : Int) ≤ m := by omega
    have hms : (m : Int) ≤ s.size := by omega
    rw [← hm] at HR HN HE q1
    have HM := hid hm
    have HS2 := hid (show (s.extract k m).size = j by
      rw [hm]
      have := congrArg List.length (extract_take s k j)
      simp only [Array.length_toList] at this
      rw [show (s.extract k (k + j)).size = (s.extract k (k + j)).data.size from rfl, this, List.length_take, List.length_drop, Array.length_toList]
      have h5 : s.data.size = s.size := rfl
      omega)
    clear hm hj
    go_upto_region 4 with fail
    go_quiet (fail)
    have HR1 := hid (HR.out.ext ((Ext.refl wc).drewN nq))
    have HX1 := hid (HX.out.trans (Fd.ext HR.out.lt ((Ext.refl wc).drewN nq)))
    have HV3 := hid (HV2.out.chg (Chg.of_ext (B := base) (ts := []) ((Ext.refl wc).drewN nq)))
    clear q1 q0 HR HX HV2
    generalize wc.drewN nq = w1 at *
    generalize s.extract k m = x at *
    have hsz : x.size ≤ 400 := by rw [HS2.out]; have := HS.out; have := HM.out; omega
    have HXS := hid hsz
    have HSZ := hid (show x.size = d.length by rw [← HE.out, Array.length_toList]; rfl)
    clear hsz
    cases hk : numOk d
    · rw [hk, if_neg (by simp)] at HN
      rcases ha : Lib.atoiAll d with v | _ | _
      ·
        by_cases hl : d.length ≤ 2
        · obtain ⟨n, rfl, hn, hne⟩ := atoi_bad hk HDG.out ha hl
          have hl2 : (x.size : Int) ≤ 2 := by rw [HSZ.out]; omega
          have HA := hid ha
          have HNN := hid hn
          have n0 : (0 : Int) ≤ n := by omega
          obtain ⟨y, hy⟩ : ∃ y : ByteArray, y = ⟨(Lib.decDigits n).toArray⟩ := ⟨_, rfl⟩
          have hyx : (y.toList == x.toList) = false := by
            rw [beq_eq_false_iff_ne]
            intro e
            have e2 : y = x := bytes_inj e
            apply hne
            rw [← HE.out, ← e2, hy]
          have HY := hid hy
          clear ha hl hk hne hn hy
          go_wp2_with fail
          refine (Tryd.strconv_Atoi_ok x (by have := HXS.out; omega) n (by rw [HE.out]; exact HA.out) _).mono ?_
          rintro e w2 ⟨rfl, hw⟩
          have hx2 : Ext w1 w2 := by rcases hw with rfl | ⟨b, rfl⟩ <;> first | exact Ext.refl _ | exact Lib.bytesWorld_below _ _ _
          clear hw
          go_wp2_with fail
          refine (Tryd.strconv_Itoa_small n HNN.out _).mono ?_
          rintro e w3 ⟨rfl, rfl⟩
          rw [← HY.out]
          go_wp2_with fail
          refine (text_bad _).mono ?_
          rintro e w3 ⟨rfl, rfl⟩
          unfold badE
          go_wp2_with fail
          exact ⟨rfl, HX1.out.trans (Fd.ext HR1.out.lt hx2), .inr ⟨HN.out, rfl⟩⟩
        · have hl2 : (2 : Int) < x.size := by rw [HSZ.out]; omega
          have HA := hid ha
          clear ha hl hk
          go_wp2_with fail
          refine (Tryd.strconv_Atoi_ok x (by have := HXS.out; omega) v (by rw [HE.out]; exact HA.out) _).mono ?_
          rintro e w2 ⟨rfl, hw⟩
          have hx2 : Ext w1 w2 := by rcases hw with rfl | ⟨b, rfl⟩ <;> first | exact Ext.refl _ | exact Lib.bytesWorld_below _ _ _
          clear hw
          go_wp2_with fail
          refine (text_bad _).mono ?_
          rintro e w3 ⟨rfl, rfl⟩
          unfold badE
          go_wp2_with fail
          exact ⟨rfl, HX1.out.trans (Fd.ext HR1.out.lt hx2), .inr ⟨HN.out, rfl⟩⟩
      ·
        have HA := hid ha
        clear ha hk
        obtain ⟨ty, p, hsx⟩ := HV3.out.sx
        go_wp2_with fail
        refine (atoi_sx x (by have := HXS.out; omega) (by rw [HE.out, HA.out]; intro v e; cases e) (by rw [HE.out, HA.out]; intro e; cases e) ty p _ hsx).mono ?_
        rintro e w2 ⟨N, T, rfl, hx2⟩
        clear hsx
        go_wp2_with fail
        refine (text_bad _).mono ?_
        rintro e w3 ⟨rfl, rfl⟩
        unfold badE
        go_wp2_with fail
        exact ⟨rfl, HX1.out.trans (Fd.ext HR1.out.lt hx2), .inr ⟨HN.out, rfl⟩⟩
      ·
        have HA := hid ha
        clear ha hk
        obtain ⟨ty, p, hsx⟩ := HV3.out.rg
        go_wp2_with fail
        refine (Tryd.strconv_Atoi_range_var x (by have := HXS.out; omega) (by rw [HE.out]; exact HA.out) ty p _ hsx).mono ?_
        rintro e w2 ⟨N, rfl, _, _, hx2⟩
        clear hsx
        go_wp2_with fail
        refine (text_bad _).mono ?_
        rintro e w3 ⟨rfl, rfl⟩
        unfold badE
        go_wp2_with fail
        exact ⟨rfl, HX1.out.trans (Fd.ext HR1.out.lt hx2), .inr ⟨HN.out, rfl⟩⟩
    · obtain ⟨n, ha, hv, hn, hdd, hl⟩ := atoi_good hk HDG.out
      rw [hk, if_pos rfl, hv] at HN
      have hl2 : (x.size : Int) ≤ 2 := by rw [HSZ.out]; omega
      have HA := hid ha
      have HNN := hid hn
      have n0 : (0 : Int) ≤ n := by omega
      have HY := hid (show x = ⟨(Lib.decDigits n).toArray⟩ from tstr_eq (HE.out.trans hdd.symm))
      clear ha hl hk hv hn hdd
      go_wp2_with fail
      refine (Tryd.strconv_Atoi_ok x (by have := HXS.out; omega) n (by rw [HE.out]; exact HA.out) _).mono ?_
      rintro e w2 ⟨rfl, hw⟩
      have hx2 : Ext w1 w2 := by rcases hw with rfl | ⟨b, rfl⟩ <;> first | exact Ext.refl _ | exact Lib.bytesWorld_below _ _ _
      clear hw
      go_wp2_with fail
      refine (Tryd.strconv_Itoa_small n HNN.out _).mono ?_
      rintro e w3 ⟨rfl, rfl⟩
      rw [← HY.out]
      go_wp2_with fail
      go_ret
      exact ⟨HX1.out.trans (Fd.ext HR1.out.lt hx2), .inl ⟨_, _, HN.out, rfl, HR1.out.ext hx2⟩⟩

theorem size_setCell (w : World) (p : Addr) (u : Value) : (w.setCell p u).heap.size = w.heap.size := by simp [World.setCell]
section
variable {α : Type} {P : Program} {R : World → List Value → α → Prop} {sz bytes : Nat} {t e : TypeId} {w : World} {base B B' : Nat} {v : Value} {l ys : List α} {A : Option Addr} {c : Nat}
/-- step_app, and where the row lies afterwards. -/
theorem step_app2 {ops : Array Oper} {dst : Option Tmp} {ty : TypeId} {pos : String} {after : Array Edge} {s x : Operand} {a : Act} {K : Act → World → Prop} {Q : Exit → Act → World → Prop} {E : Prop} (ei : ElemInfo P t e sz bytes)
    (hs : a.eval s = v) (hown : Own R sz e w base v l) (hB : B ≤ base) (hb : base ≤ w.heap.size) {e' : TypeId} (hx : a.eval x = .slice A ys.length c) (hsl : Sl B' e' R sz w A ys) (h1 : OneC R) (m : Mono B [e] R)
    (h63 : l.length + ys.length ≤ maxLen) (hby : (l.length + ys.length) * bytes ≤ 140737488355328)
    (h : ∀ v' w', Own R sz e w' base v' (l ++ ys) → Chg B [e] w w' → Below base w w' → w.grownBy w' v.ownBlock → (v'.ownBlock = v.ownBlock ∨ v'.ownBlock = some w.heap.size) → K (a.put dst v') w') :
    if Region.wanted (⟨dst, .call { callee := .builtin .append, args := #[s, x], argTypes := #[t, t] }, ty, pos, after, none⟩ : Oper) (yielded ops a.tmps) = true then Oper.wp P ⟨dst, .call { callee := .builtin .append, args := #[s, x], argTypes := #[t, t] }, ty, pos, after, none⟩ a w K Q else E := by
  have hw : Region.wanted (⟨dst, .call { callee := .builtin .append, args := #[s, x], argTypes := #[t, t] }, ty, pos, after, none⟩ : Oper) (yielded ops a.tmps) = true := by simp [Region.wanted]
  rw [if_pos hw]
  obtain ⟨v', w', hr, h2, h3, h4, h5, h6⟩ := run_app2 (P := P) (t := t) (ty := ty) (c := c) ei hown hB hb hsl h1 m h63 hby
  unfold Oper.wp execOp
  simp only [resolve, invoke, builtin, Sem.run_bind, Sem.run_pure, Result.andThen_ok, List.map_toArray, List.map_cons, List.map_nil, hs, hx, hr]
  exact h v' w' h2 h4 h5 h3 h6
end

/-- the nodes turn: what stands behind an append and the store of its result. -/
theorem RdT.put {base r : Nat} {w w9 : World} {s : ByteArray} {t : List UInt8} {L M : List Node} {A : Option Addr} {c : Nat} {v : Value} (h : RdT base r w s t L) (hc : Chg base [39] w w9) (hv2 : w.cell? ⟨r, 2, none⟩ = some v) (hg : w.grownBy w9 v.ownBlock) (hob : (Value.slice A M.length c).ownBlock = v.ownBlock ∨ (Value.slice A M.length c).ownBlock = some w.heap.size) (ho : Own RNode 3 39 w9 base (.slice A M.length c) M) :
    RdT base r (w9.setCell ⟨r, 2, none⟩ (.slice A M.length c)) s t M ∧ Fd base r w (w9.setCell ⟨r, 2, none⟩ (.slice A M.length c)) := by
  have hl := h.lt
  obtain ⟨⟨k, h1, h2, h3⟩, c0, ⟨v0, hv, _⟩, ty, fz, lo⟩ := h
  have hne : ∀ t ∈ [39], tyAt w r ≠ some t := by
    intro t ht
    rw [ty]
    simp at ht
    subst ht
    decide
  have hb9 : w9.heap[r]? = w.heap[r]? := hc.block r hl (.inr hne)
  have ty9 : tyAt w9 r = some 64 := (tyAt_of hb9).trans ty
  have fz9 : ∀ o, w9.frozen? ⟨r, o, none⟩ = false := fun o => by
    have : w9.frozen? ⟨r, o, none⟩ = w.frozen? ⟨r, o, none⟩ := by simp only [World.frozen?, hb9]
    rw [this]; exact fz o
  have hcc : (w9.setCell ⟨r, 2, none⟩ (.slice A M.length c)).cell? ⟨r, 2, none⟩ = some (.slice A M.length c) := World.cell?_setCell_same _ _ _ (hc.cell (.inr hne) hv)
  refine ⟨⟨⟨k, h1, h2, ?_⟩, ?_, ⟨_, hcc, ?_⟩, tyAt_setCell ty9, fun o => (by go_simp : (w9.setCell ⟨r, 2, none⟩ (.slice A M.length c)).frozen? ⟨r, o, none⟩ = w9.frozen? ⟨r, o, none⟩).trans (fz9 o), lo⟩, (hc.more (by simp)).setCell (t := 64) ty9 (by simp) _ lo, fun z hz => ⟨⟨by show z < (w9.setCell _ _).heap.size; rw [size_setCell]; exact Nat.lt_of_lt_of_le hz.1 hc.size, hz.2.1, fun v' hv' => ?_⟩, (Below.heap_setCell _ _ _ _ hz.2.1).trans (hg.block z hz.1 (fun e => hz.2.2 v hv2 e.symm))⟩⟩
  · exact (World.cell?_setCell_other _ _ _ _ (by intro e; injection e with _ e2 _; cases e2)).trans (hc.cell (.inr hne) h3)
  · exact (World.cell?_setCell_other _ _ _ _ (by intro e; injection e with _ e2 _; cases e2)).trans (hc.cell (.inr hne) c0)
  · refine ho.chg (B := base) (ts := [64]) RTrip.mono (Chg.setCell (Chg.refl _) ty9 (by simp) _ lo) (fun g hg => Below.heap_setCell _ _ _ _ ?_)
    intro e
    rcases ho.at_ with ⟨h1, h2⟩ | ⟨g2, c3, h1, _, _, h4, _⟩
    · rw [h1] at hg; cases hg
    · rw [h1] at hg
      injection hg with hg
      rw [show g2 = r from (show g2 = g from hg).trans e, ty9] at h4
      exact absurd h4 (by decide)
  · rw [hcc] at hv'
    injection hv' with hv'
    subst hv'
    rcases hob with hob | hob
    · rw [hob]; exact hz.2.2 v hv2
    · rw [hob]; intro e; injection e with e; have := hz.1; omega

set_option maxRecDepth 100000 in
set_option maxHeartbeats 4000000 in
theorem rd_add (base r : Nat) (s : ByteArray) (t : List UInt8) (L : List Node) (n : Node) (w : World) (hL : L.length ≤ 100000) (hB : base ≤ w.heap.size) (h : RdT base r w s t L) :
    Calls Tryd.prog 42 #[.pointer (some ⟨r, 0, none⟩), .agg #[.int .i64 n.kind, .int .i64 n.a, .int .i64 n.b]] w fun e w' => e = .returned (.int .i64 L.length) ∧ RdT base r w' s t (L ++ [n]) ∧ Fd base r w w' := by
  obtain ⟨o, ho⟩ : ∃ o, o = Obj.cells #[.int .i64 n.kind, .int .i64 n.a, .int .i64 n.b] 39 (0, 0) := ⟨_, rfl⟩
  have hx1 : Ext w ((w.alloc o).alloc o).drew := (((Ext.refl w).alloc _).alloc _).drew
  have H1 := hid (h.ext hx1)
  have h1 := h.ext hx1
  obtain ⟨v, hv, hown⟩ := h.own
  have hownW := hown.ext (B := base) RTrip.mono hx1
  obtain ⟨A, c, rfl, hAc, hcm⟩ := hown.len
  have hlt := h.lt
  have HLT := hid hlt
  have fz2 := h.fz 2
  have HX := hid hx1
  have HL := hid hL
  have hln : (L ++ [n]).length = L.length + 1 := by simp
  have HLN := hid hln
  have hone : Sl base 39 RNode 3 ((w.alloc o).alloc o).drew (some ⟨w.heap.size + 1, 0, none⟩) [n] := by
    have h1 := Sl.one (R := RNode) (B := base) (e := 39) (sz := 3) (w := w.alloc o) (cs := [.int .i64 n.kind, .int .i64 n.a, .int .i64 n.b]) (y := n) rfl rfl rfl
    have h2 := h1.ext RTrip.mono ((Ext.refl _).drew)
    rw [ho]
    simpa [ho] using h2
  have hsz : base ≤ (((w.alloc o).alloc o).drew).heap.size := by have := hx1.size; omega
  have hcW := h1.own
  subst ho
  have fzW := h1.fz 2
  have tyW := h1.ty
  have hltW := h1.lt
  have hcell := HX.out.cell hv
  have hlM : 0 < (L ++ [n]).length := by rw [hln]; omega
  have hlM1 : (L ++ [n]).length ≤ 100001 := by rw [hln]; omega
  clear hx1 hln h1 hcW
  go_enter Tryd.func42, Tryd.ntmps42
  go_wp2_with fail
  go_region_law ((with_reducible refine step_app2 (dst := some 12) (l := L) (ys := [n]) (B := base) (c := 1) (A := some ⟨w.heap.size + 1, 0, none⟩) (B' := base) (e' := 39) ei_node ?_ hownW (Nat.le_refl _) hsz ?_ hone RTrip.oneC RTrip.mono ?_ ?_ ?_); (rfl); (rfl); (show L.length + 1 ≤ maxLen; unfold maxLen; omega); (show (L.length + 1) * 24 ≤ _; omega); intro v9 w9 ho9 hc9 hb9 hg9 hob9; obtain ⟨A9, c9, rfl, _, _⟩ := ho9.len; generalize hM : L ++ [n] = M at *; have HM := hid hM; clear hM; have hne : ∀ t ∈ [39], tyAt ((w.alloc (.cells #[.int .i64 n.kind, .int .i64 n.a, .int .i64 n.b] 39)).alloc (.cells #[.int .i64 n.kind, .int .i64 n.a, .int .i64 n.b] 39)).drew r ≠ some t := (by intro t ht; rw [tyW]; simp at ht; subst ht; decide); have z9 := hc9.cell (.inr hne) hcell; have f9 : w9.frozen? ⟨r, 2, none⟩ = false := (by have h9 := hc9.block r hltW (.inr hne); have e : w9.frozen? ⟨r, 2, none⟩ = World.frozen? ((w.alloc (.cells #[.int .i64 n.kind, .int .i64 n.a, .int .i64 n.b] 39)).alloc (.cells #[.int .i64 n.kind, .int .i64 n.a, .int .i64 n.b] 39)).drew ⟨r, 2, none⟩ := (by simp only [World.frozen?, h9]); rw [e]; exact fzW))
  all_goals
    have hP := H1.out.put hc9 hcell hg9 hob9 ho9
    have HP := hid hP
    clear hP ho9 hc9 hb9 hg9 hob9 hne hownW hone hsz hown tyW fzW hltW hcell hv
    go_wp2_with fail
    go_ret
    exact ⟨ret_int (by have := HLN.out; omega), by rw [HM.out]; exact HP.out.1, (Fd.ext HLT.out HX.out).trans HP.out.2⟩

end Go.Proofs.YtbkmgbckeaimdaaDoor
