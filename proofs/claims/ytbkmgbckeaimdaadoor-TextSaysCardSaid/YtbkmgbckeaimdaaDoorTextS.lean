/- The walk of text.Show. -/
import Derived.Test.YtbkmgbckeaimdaaDoorTextP
import Derived.Test.YtbkmgbckeaimdaaDoorShlf
import Derived.Test.YtbkmgbckeaimdaaDoorFormW
import Derived.Test.YtbkmgbckeaimdaaDoorBase
import Derived.WalkLawsBesides
import Derived.Deep.QuietTactic
import Derived.Deep.RegionWith
import Derived.Deep.RegionHeld3
namespace Go.Proofs.YtbkmgbckeaimdaaDoor
open Go Go.RowKit

def tstr (l : List UInt8) : ByteArray := ⟨l.toArray⟩
theorem tstr_size (l : List UInt8) : (tstr l).size = l.length := by simp [tstr, ByteArray.size]
theorem tstr_append (a b : List UInt8) : tstr a ++ tstr b = tstr (a ++ b) := by
  apply ByteArray.ext
  simp [tstr]
theorem tstr_data (l : List UInt8) : (tstr l).data.toList = l := by simp [tstr]
def showErr (l : List Node) : Int := if formCheck l = 0 then (if 400 < (textAt l (l.length - 1)).length then 2 else 0) else formCheck l
def showT (l : List Node) : ByteArray := if showErr l = 0 then tstr (textAt l (l.length - 1)) else ByteArray.empty
/-- what the row holds when k nodes are told. -/
def capS (l : List Node) (k j : Nat) : ByteArray := if j < k then tstr (capAt l j) else ByteArray.empty

theorem ei_strs : ElemInfo Tryd.prog 57 9 1 16 := ElemInfo.mk_ (z := .string ByteArray.empty) Tryd.underlying57 (by kernel_rfl) rfl (by decide)
theorem z_strs : (Tryd.prog.info? 9).bind (·.zero) = some (.string ByteArray.empty) := by kernel_rfl

theorem capAt_take (l : List Node) (k i : Nat) (hk : k ≤ l.length) (hi : i < k) : (capL (l.take k)).getD i [] = capAt l i := by
  have key : ∀ (r m : List Node), i < m.length → (capL (m ++ r.reverse)).getD i [] = (capL m).getD i [] := by
    intro r m hm
    induction r with
    | nil => simp
    | cons n r ih =>
      rw [← ih, List.reverse_cons, ← List.append_assoc, capL_snoc, List.getD_eq_getElem?_getD, List.getD_eq_getElem?_getD, List.getElem?_append_left (by rw [capL_len]; simp; omega)]
  have := key (l.drop k).reverse (l.take k) (by simp; omega)
  rw [List.reverse_reverse, List.take_append_drop] at this
  exact this.symm
theorem capAt_node (l : List Node) (k : Nat) (hk : k < l.length) : capAt l k = capT (nodeText (capL (l.take k)) l[k]) := by
  have h := capAt_take l (k + 1) k hk (Nat.lt_succ_self k)
  rw [List.take_succ_eq_append_getElem hk, capL_snoc, List.getD_eq_getElem?_getD, List.getElem?_append_right (by rw [capL_len]; simp; omega), capL_len] at h
  simp only [List.length_take, Nat.min_eq_left (Nat.le_of_lt hk), Nat.sub_self] at h
  exact h.symm
theorem capAt_len (l : List Node) (i : Nat) : (capAt l i).length ≤ 401 := by
  have h := cap_kept l i
  unfold capAt
  rcases h with ⟨h1, h2⟩ | ⟨_, h2⟩
  · rw [h2]; omega
  · omega
/-- the string that a node is told as. -/
theorem cap_cases {l : List Node} {k : Nat} (hk : k < l.length) (h : nodeErr k l[k] = 0) :
    (l[k].kind = 1 ∧ capAt l k = capT [42]) ∨
    (∃ a : Nat, l[k].kind = 2 ∧ l[k].a = a ∧ a ≤ 3 ∧ capAt l k = capT (35 :: Lib.decDigits a)) ∨
    (∃ a b : Nat, l[k].kind = 3 ∧ l[k].a = a ∧ l[k].b = b ∧ b ≤ 32 ∧ a < b ∧ capAt l k = capT (91 :: (Lib.decDigits a ++ 44 :: (Lib.decDigits b ++ [41])))) ∨
    (∃ a : Nat, l[k].kind = 4 ∧ l[k].a = a ∧ a < k ∧ capAt l k = capT (33 :: capAt l a)) ∨
    (∃ a b : Nat, l[k].kind = 5 ∧ l[k].a = a ∧ l[k].b = b ∧ a < k ∧ b < k ∧ capAt l k = capT (40 :: (capAt l a ++ 38 :: (capAt l b ++ [41])))) ∨
    (∃ a b : Nat, l[k].kind = 6 ∧ l[k].a = a ∧ l[k].b = b ∧ a < k ∧ b < k ∧ capAt l k = capT (40 :: (capAt l a ++ 124 :: (capAt l b ++ [41])))) := by
  have ht := capAt_node l k hk
  have hg : ∀ i : Nat, i < k → (capL (l.take k)).getD i [] = capAt l i := fun i hi => capAt_take l k i (by omega) hi
  generalize l[k] = n at *
  obtain ⟨kind, a, b⟩ := n
  rcases nodeErr_cases h with hq | ⟨hq, ha0, ha1⟩ | ⟨hq, ha0, hb1, ha2⟩ | ⟨hq, ha0, ha1⟩ | ⟨hq, ha0, ha1, hb0, hb1⟩ <;> simp only at *
  · subst hq
    exact .inl ⟨rfl, ht⟩
  · subst hq
    obtain ⟨a, rfl⟩ := Int.eq_ofNat_of_zero_le ha0
    exact .inr (.inl ⟨a, rfl, rfl, by omega, ht⟩)
  · subst hq
    obtain ⟨a, rfl⟩ := Int.eq_ofNat_of_zero_le ha0
    obtain ⟨b, rfl⟩ := Int.eq_ofNat_of_zero_le (show 0 ≤ b by omega)
    exact .inr (.inr (.inl ⟨a, b, rfl, rfl, rfl, by omega, by omega, ht⟩))
  · subst hq
    obtain ⟨a, rfl⟩ := Int.eq_ofNat_of_zero_le ha0
    exact .inr (.inr (.inr (.inl ⟨a, rfl, rfl, by omega, by rw [ht, ← hg a (by omega)]; rfl⟩)))
  · obtain ⟨a, rfl⟩ := Int.eq_ofNat_of_zero_le ha0
    obtain ⟨b, rfl⟩ := Int.eq_ofNat_of_zero_le hb0
    rcases hq with rfl | rfl
    · exact .inr (.inr (.inr (.inr (.inl ⟨a, b, rfl, rfl, rfl, by omega, by omega, by rw [ht, ← hg a (by omega), ← hg b (by omega)]; rfl⟩))))
    · exact .inr (.inr (.inr (.inr (.inr ⟨a, b, rfl, rfl, rfl, by omega, by omega, by rw [ht, ← hg a (by omega), ← hg b (by omega)]; rfl⟩))))

def rowS (n : Nat) (f : Nat → ByteArray) : Array Value := rowF n fun j => .string (f j)
theorem rowS_get {n : Nat} (f : Nat → ByteArray) {i : Nat} (h : i < n) : (rowS n f)[i]? = some (.string (f i)) := rowF_get _ h
theorem rowS_set (n : Nat) (f : Nat → ByteArray) (i : Nat) (b : ByteArray) : (rowS n f).setIfInBounds i (.string b) = rowS n (fun j => if j = i then b else f j) := by
  unfold rowS
  rw [rowF_set]
  congr 1
  funext j
  by_cases h : j = i <;> simp [h]
theorem rowS_congr {n : Nat} {f g : Nat → ByteArray} (h : ∀ i, i < n → f i = g i) : rowS n f = rowS n g := rowF_congr fun i hi => by rw [h i hi]
theorem Blk.setS {w : World} {b : Nat} {e : TypeId} {n : Nat} {f : Nat → ByteArray} (h : Blk w b e (rowS n f)) (i : Nat) (v : ByteArray) : Blk (w.setCell ⟨b, i, none⟩ (.string v)) b e (rowS n fun j => if j = i then v else f j) := by
  rw [← rowS_set]; exact h.set i _
theorem capS_step (l : List Node) (k : Nat) (u : ByteArray) (hu : u = tstr (capAt l k)) (f : Nat → ByteArray) (hf : ∀ j, j ≠ k → f j = capS l k j) : (fun j => if j = k then u else f j) = capS l (k + 1) := by
  funext j
  by_cases h : j = k
  · subst h; simp [capS, hu]
  · rw [if_neg h, hf j h]
    unfold capS
    by_cases h2 : j < k
    · rw [if_pos h2, if_pos (by omega)]
    · rw [if_neg h2, if_neg (by omega)]

end Go.Proofs.YtbkmgbckeaimdaaDoor
