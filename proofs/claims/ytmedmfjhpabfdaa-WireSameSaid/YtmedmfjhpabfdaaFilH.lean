/- The walks of filter.In and filter.Has. -/
import Derived.Test.YtmedmfjhpabfdaaFilE
namespace Go.Proofs.Ytmedmfjhpabfdaa
open Go Go.RowKit

theorem cube_InB (b : Box) (h : cubeCheck b.cube = 0) (t : Nat) (ht : t < 16) (w : World) : Calls Try.prog 178 #[.agg #[.int .i64 b.cube.yes, .int .i64 b.cube.no], .int .i64 t] w fun e w' => e = .returned (.bool (boxIn b t)) ∧ Ext w w' := by
  obtain ⟨y, n, hc⟩ := cubeOk_of h
  rw [show boxIn b t = cubeIn y n t by rw [boxIn, hc.yes, hc.no, Int.toNat_natCast, Int.toNat_natCast]]
  exact cube_In b.cube y n t hc ht w

theorem filter_In1 (B b0 : Nat) (b : Box) (A' : Option Addr) (c' t : Nat) (num : Int) (w : World) (ht : t < 16) (hb : BoxOk b) (hl : b.spans.length ≤ maxLen) (hs : SlSpans B w A' b.spans)
    (h0 : w.cell? ⟨b0, 0, none⟩ = some (.int .i64 t)) (h1 : w.cell? ⟨b0, 1, none⟩ = some (.int .i64 num)) :
    Calls Try.prog 177 #[.agg #[.int .i64 b.cube.yes, .int .i64 b.cube.no, .slice A' b.spans.length c'], .pointer (some ⟨b0, 0, none⟩)] w fun e w' => e = .returned (.bool (boxIn b t && spanIn b.spans num)) ∧ Ext w w' := by
  have hz : b0 < w.heap.size := World.block_lt_of_cell? _ _ h0
  have HB := hid hb.1
  clear hb
  go_enter Try.func177, Try.ntmps177
  go_wp2_with fail
  refine (cube_InB b HB.out t ht _).mono ?_
  rintro e w1 ⟨rfl, hx1⟩
  have g2 : w1.cell? ⟨w.heap.size, 2, none⟩ = some (.slice A' b.spans.length c') := hx1.cell (by go_simp)
  have hxa := ((Ext.refl w).alloc (.cells #[.int .i64 b.cube.yes, .int .i64 b.cube.no, .slice A' b.spans.length c'] 108)).trans hx1
  replace h1 := hxa.cell h1
  clear hx1
  cases hI : boxIn b t
  · have HI := hid hI
    clear hI
    go_wp2_with fail
    go_ret
    exact ⟨ret_bool (by rw [HI.out]; rfl), hxa⟩
  · have HI := hid hI
    clear hI
    go_wp2_with fail
    refine (span_In B A' c' b.spans num _ hl (hs.ext RPair.mono hxa)).mono ?_
    rintro e w2 ⟨rfl, hx2⟩
    go_wp2_with fail
    go_ret
    exact ⟨ret_bool (by rw [HI.out]; rfl), hxa.trans hx2⟩

theorem any_take (p : Box → Bool) (f : List Box) (k : Nat) (hk : k < f.length) : (f.take (k + 1)).any p = ((f.take k).any p || p f[k]) := by
  rw [List.take_succ_eq_append_getElem hk, List.any_append]; simp
theorem index_boxes (B : Nat) (fn : FuncId) (cap : Array Value) (A : Option Addr) (c : Nat) (f : List Box) (p : Box → Bool) (w : World) (hl : f.length ≤ maxLen) (h : SlBoxes B w A f)
    (hc : ∀ (args : Array Value) (wn : World), (callFunc fn args).run Try.prog wn = .ok (.enter fn args) wn)
    (hf : ∀ (k : Nat) (hk : k < f.length) (A' : Option Addr) (c' : Nat) (wn : World), Ext w wn → f[k].spans.length ≤ maxLen → SlSpans B wn A' f[k].spans →
      Calls Try.prog fn (#[.agg #[.int .i64 f[k].cube.yes, .int .i64 f[k].cube.no, .slice A' f[k].spans.length c']] ++ cap) wn fun e w' => e = .returned (.bool (p f[k])) ∧ Ext wn w') :
    Calls Try.prog 202 #[.slice A f.length c, .func (.func fn) #[] cap] w fun e w' => ∃ i : Int, e = .returned (.int .i64 i) ∧ decide (0 ≤ i) = f.any p ∧ Ext w w' := by
  unfold maxLen at hl
  have HF := hid hf
  clear hf
  go_enter Try.func202, Try.ntmps202
  go_wp2_with fail
  go_loopw [8] (fun i wr => ∃ k : Nat, k ≤ f.length ∧ i = .int .i64 k ∧ (f.take k).any p = false ∧ Ext w wr) (fun i _ => f.length - (intOf i).toNat)
  case atStart => exact ⟨0, Nat.zero_le _, rfl, rfl, Ext.refl _⟩
  case round =>
    obtain ⟨k, hk, rfl, hG, hx⟩ := hrel
    have HG := hid hG
    clear hG
    by_cases hlt : k < f.length
    · obtain ⟨b, off, A', c', rfl, hb, g0, g1, g2, hsl, hs⟩ := (h.ext RBox.monoE hx).box hlt
      have HS := hid (any_take p f k hlt)
      go_wp2_with fail
      refine (HF.out k hlt A' c' _ hx hsl hs).mono ?_
      rintro e w1 ⟨rfl, hx1⟩
      cases hp : p f[k]
      · have HP := hid hp
        clear hp
        go_wp2_with fail
        go_roundw
        case rel => exact ⟨k + 1, hlt, by go_num, by rw [HS.out, HG.out, HP.out]; rfl, hx.trans hx1⟩
        case measure => simp [intOf]; omega
      · have HP := hid hp
        clear hp
        go_wp2_with fail
        go_ret
        exact ⟨k, rfl, by rw [List.any_eq_true.2 ⟨f[k], List.getElem_mem hlt, HP.out⟩]; simp, hx.trans hx1⟩
    · obtain rfl : k = f.length := by omega
      rw [List.take_length] at HG
      go_wp2_with fail
      go_ret
      exact ⟨-1, rfl, by rw [HG.out]; rfl, hx⟩

theorem contains_boxes (B : Nat) (fn : FuncId) (cap : Array Value) (A : Option Addr) (c : Nat) (f : List Box) (p : Box → Bool) (w : World) (hl : f.length ≤ maxLen) (h : SlBoxes B w A f)
    (hc : ∀ (args : Array Value) (wn : World), (callFunc fn args).run Try.prog wn = .ok (.enter fn args) wn)
    (hf : ∀ (k : Nat) (hk : k < f.length) (A' : Option Addr) (c' : Nat) (wn : World), Ext w wn → f[k].spans.length ≤ maxLen → SlSpans B wn A' f[k].spans →
      Calls Try.prog fn (#[.agg #[.int .i64 f[k].cube.yes, .int .i64 f[k].cube.no, .slice A' f[k].spans.length c']] ++ cap) wn fun e w' => e = .returned (.bool (p f[k])) ∧ Ext wn w') :
    Calls Try.prog 176 #[.slice A f.length c, .func (.func fn) #[] cap] w fun e w' => e = .returned (.bool (f.any p)) ∧ Ext w w' := by
  have HF := hid hf
  clear hf
  go_enter Try.func176, Try.ntmps176
  go_wp2_with fail
  refine (index_boxes B fn cap A c f p _ hl h hc HF.out).mono ?_
  rintro e w1 ⟨i, rfl, hi, hx⟩
  go_wp2_with fail
  go_ret
  exact ⟨ret_bool rfl, hx⟩

theorem filter_In (B : Nat) (A : Option Addr) (c : Nat) (f : List Box) (p : Point) (w : World) (hl : f.length ≤ maxLen) (hok : ∀ b ∈ f, BoxOk b) (hp : pointOk p = true) (h : SlBoxes B w A f) :
    Calls Try.prog 143 #[.slice A f.length c, .agg #[.int .i64 p.tags, .int .i64 p.num]] w fun e w' => e = .returned (.bool (filterIn f p)) ∧ Ext w w' := by
  obtain ⟨h1, h2, h3, h4⟩ := pointOk_iff.1 hp
  obtain ⟨tags, num⟩ := p
  obtain ⟨t, rfl⟩ := Int.eq_ofNat_of_zero_le h1
  have ht : t < 16 := by simp at h2; omega
  have HOK := hid hok
  have HE := hid (show filterIn f ⟨t, num⟩ = f.any fun b => boxIn b t && spanIn b.spans num by simp [filterIn])
  clear hok hp h1 h2 h3 h4
  go_enter Try.func143, Try.ntmps143
  go_wp2_with fail
  have hx0 := (Ext.refl w).alloc (.cells #[.int .i64 t, .int .i64 num] 40)
  refine (contains_boxes B 177 #[.pointer (some ⟨w.heap.size, 0, none⟩)] A c f (fun b => boxIn b t && spanIn b.spans num) _ hl (h.ext RBox.monoE hx0) Try.call177 (fun k hk A' c' wn hxn hsl hs => filter_In1 B w.heap.size f[k] A' c' t num wn ht (HOK.out _ (List.getElem_mem hk)) hsl hs (hxn.cell (by go_simp)) (hxn.cell (by go_simp)))).mono ?_
  rintro e w1 ⟨rfl, hx⟩
  go_wp2_with fail
  go_ret
  exact ⟨ret_bool HE.out.symm, hx0.trans hx⟩

end Go.Proofs.Ytmedmfjhpabfdaa
