/- Plain laws of formula.Filter: what each node's filter says. No program in sight. -/
import Derived.Test.YtbkmgbckeaimdaaDoorFormP
import Derived.Test.YtbkmgbckeaimdaaDoorBase
namespace Go.Proofs.YtbkmgbckeaimdaaDoor
open Go

theorem bk2 (l : List Node) (k t : Nat) (hlt : k < l.length) (hk : l[k].kind = 2) (ha : l[k].a = t) (j : Nat) : sayAt l k j = bitb (j / 32) t := by rw [sayAt_node l k hlt]; simp [nodeSay, hk, ha]
theorem bk3 (l : List Node) (k : Nat) (hlt : k < l.length) (hk : l[k].kind = 3) (j : Nat) : sayAt l k j = decide (l[k].a ≤ (j % 32 : Nat) ∧ ((j % 32 : Nat) : Int) < l[k].b) := by rw [sayAt_node l k hlt]; simp [nodeSay, hk]
theorem bk4 (l : List Node) (k a : Nat) (hlt : k < l.length) (ha : a < k) (hk : l[k].kind = 4) (hn : l[k].a = a) (j : Nat) : sayAt l k j = !sayAt l a j := by
  rw [sayAt_node l k hlt]
  have := sayL_take l k a (by omega) ha
  simp only [nodeSay, hk, hn, Int.toNat_natCast, this]
  rfl
theorem bk5 (l : List Node) (k a b : Nat) (hlt : k < l.length) (ha : a < k) (hb : b < k) (hk : l[k].kind = 5) (hn : l[k].a = a) (hm : l[k].b = b) (j : Nat) : sayAt l k j = (sayAt l a j && sayAt l b j) := by
  rw [sayAt_node l k hlt]
  have h1 := sayL_take l k a (by omega) ha
  have h2 := sayL_take l k b (by omega) hb
  simp only [nodeSay, hk, hn, hm, Int.toNat_natCast, h1, h2]
  rfl
theorem bk6 (l : List Node) (k a b : Nat) (hlt : k < l.length) (ha : a < k) (hb : b < k) (hk : l[k].kind = 6) (hn : l[k].a = a) (hm : l[k].b = b) (j : Nat) : sayAt l k j = (sayAt l a j || sayAt l b j) := by
  rw [sayAt_node l k hlt]
  have h1 := sayL_take l k a (by omega) ha
  have h2 := sayL_take l k b (by omega) hb
  simp only [nodeSay, hk, hn, hm, Int.toNat_natCast, h1, h2]
  rfl

/-- a filter that says what node i says. -/
structure FSay (l : List Node) (i : Nat) (f : List Box) : Prop where
  len : f.length ≤ 16
  ok : filterCheck f = 0
  says : ∀ j, j < 512 → pts f j = sayAt l i j

theorem fsay_all {l : List Node} {k : Nat} (hlt : k < l.length) (hk : l[k].kind = 1) : FSay l k everyF :=
  ⟨by decide, every_check, fun j hj => by rw [every_pts j hj, sayAt_node l k hlt]; simp [nodeSay, hk]⟩

theorem tag_cube : ∀ a, a < 4 → cubeCheck ⟨((2 ^ a : Nat) : Int), 0⟩ = 0 ∧ ∀ t, t < 16 → cubeIn (2 ^ a) 0 t = bitb t a := by decide +kernel
theorem fsay_tag {l : List Node} {k a : Nat} (hlt : k < l.length) (hk : l[k].kind = 2) (ha : l[k].a = a) (ha4 : a < 4) : FSay l k [⟨⟨((2 ^ a : Nat) : Int), 0⟩, [⟨0, 32⟩]⟩] := by
  refine ⟨by simp, filterCheck_of (by simp) ?_, fun j hj => ?_⟩
  · intro b hb
    simp at hb
    subst hb
    exact ⟨by simpa using (tag_cube a ha4).1, show spanCheck [⟨0, 32⟩] = 0 by decide +kernel⟩
  · rw [bk2 l k a hlt hk ha, ← (tag_cube a ha4).2 (j / 32) (by omega)]
    have h1 : spanIn [⟨0, 32⟩] ((j % 32 : Nat) : Int) = true := by simp [spanIn]; omega
    simp only [pts, List.any_cons, List.any_nil, Bool.or_false, h1, Bool.true_and, boxIn, Int.toNat_natCast]
    rfl

theorem span_one {a b : Int} (h0 : 0 ≤ a) (h1 : b ≤ 32) (h2 : a < b) : spanCheck [⟨a, b⟩] = 0 := by
  have e1 : spanBad ⟨a, b⟩ = false := by simp [spanBad]; omega
  have e2 : ¬ a ≤ -1 := by omega
  simp [spanCheck, spanGo, e1, e2]
theorem fsay_in {l : List Node} {k : Nat} (hlt : k < l.length) (hk : l[k].kind = 3) (h0 : 0 ≤ l[k].a) (h1 : l[k].b ≤ 32) (h2 : l[k].a < l[k].b) : FSay l k [⟨⟨0, 0⟩, [⟨l[k].a, l[k].b⟩]⟩] := by
  refine ⟨by simp, filterCheck_of (by simp) ?_, fun j hj => ?_⟩
  · intro b hb
    simp at hb
    subst hb
    exact ⟨show cubeCheck ⟨0, 0⟩ = 0 by decide +kernel, span_one h0 h1 h2⟩
  · rw [bk3 l k hlt hk]
    have e2 : ∀ t, t < 16 → cubeIn 0 0 t = true := by decide
    have e3 : boxIn ⟨⟨0, 0⟩, [⟨l[k].a, l[k].b⟩]⟩ (j / 32) = true := e2 (j / 32) (by omega)
    simp only [pts, List.any_cons, List.any_nil, Bool.or_false, e3, Bool.and_true, spanIn]
    by_cases h : l[k].a ≤ ((j % 32 : Nat) : Int) ∧ ((j % 32 : Nat) : Int) < l[k].b
    · rw [if_pos h, decide_eq_true h]
    · rw [if_neg h, decide_eq_false h]

theorem two_ok {f g : List Box} (hf : filterCheck f = 0) (hg : filterCheck g = 0) : filterTwo f g = 0 := by rw [filterTwo, if_pos hf, hg]
theorem fsay_not {l : List Node} {k a : Nat} {f : List Box} (hlt : k < l.length) (hk : l[k].kind = 4) (ha : l[k].a = a) (hak : a < k) (hf : FSay l a f) : FSay l k (filterOp less32 everyF f) := by
  have h := filterOp_says bits_less (two_ok every_check hf.ok)
  exact ⟨h.len, h.ok, fun j hj => by rw [h.pts j hj, every_pts j hj, hf.says j hj, bk4 l k a hlt hak hk ha]; rfl⟩
theorem fsay_both {l : List Node} {k a b : Nat} {f g : List Box} (hlt : k < l.length) (hk : l[k].kind = 5) (ha : l[k].a = a) (hb : l[k].b = b) (hak : a < k) (hbk : b < k) (hf : FSay l a f) (hg : FSay l b g) : FSay l k (filterOp (fun a b => a &&& b) f g) := by
  have h := filterOp_says bits_and (two_ok hf.ok hg.ok)
  exact ⟨h.len, h.ok, fun j hj => by rw [h.pts j hj, hf.says j hj, hg.says j hj, bk5 l k a b hlt hak hbk hk ha hb]⟩
theorem fsay_any {l : List Node} {k a b : Nat} {f g : List Box} (hlt : k < l.length) (hk : l[k].kind = 6) (ha : l[k].a = a) (hb : l[k].b = b) (hak : a < k) (hbk : b < k) (hf : FSay l a f) (hg : FSay l b g) : FSay l k (filterOp (fun a b => a ||| b) f g) := by
  have h := filterOp_says bits_or (two_ok hf.ok hg.ok)
  exact ⟨h.len, h.ok, fun j hj => by rw [h.pts j hj, hf.says j hj, hg.says j hj, bk6 l k a b hlt hak hbk hk ha hb]⟩
end Go.Proofs.YtbkmgbckeaimdaaDoor
