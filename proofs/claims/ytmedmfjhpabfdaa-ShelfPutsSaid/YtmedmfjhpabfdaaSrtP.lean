/- Plain law on a stable sort in place: lists in order, what an insertion, a rotation and a merge from the middle leave. No program in sight. -/
import Derived.Test.YtmedmfjhpabfdaaBase
namespace Go.Proofs.Ytmedmfjhpabfdaa
open Go Go.RowKit

/-- an order by keys: two may stand side by side. -/
structure Ord {α : Type} (lt : α → α → Bool) : Prop where
  asymm : ∀ x y, lt x y = true → lt y x = false
  trans : ∀ x y z, lt y x = false → lt z y = false → lt z x = false
section
variable {α : Type} {lt : α → α → Bool}
/-- none stands behind one that it should stand ahead of. -/
def Srt (lt : α → α → Bool) (l : List α) : Prop := l.Pairwise fun x y => lt y x = false
/-- all of the one list may stand ahead of all of the other. -/
def LeL (lt : α → α → Bool) (a b : List α) : Prop := ∀ x ∈ a, ∀ y ∈ b, lt y x = false
theorem srt_app {a b : List α} : Srt lt (a ++ b) ↔ Srt lt a ∧ Srt lt b ∧ LeL lt a b := List.pairwise_append
theorem srt_nil : Srt lt ([] : List α) := List.Pairwise.nil
theorem srt_one (x : α) : Srt lt [x] := by simp [Srt]
theorem LeL.nil_left (b : List α) : LeL lt [] b := fun x hx => by cases hx
theorem LeL.nil_right (a : List α) : LeL lt a [] := fun _ _ y hy => by cases hy
theorem LeL.app_left {a b c : List α} (h : LeL lt a c) (k : LeL lt b c) : LeL lt (a ++ b) c := fun x hx y hy => (List.mem_append.1 hx).elim (fun m => h x m y hy) (fun m => k x m y hy)
theorem LeL.app_right {a b c : List α} (h : LeL lt a b) (k : LeL lt a c) : LeL lt a (b ++ c) := fun x hx y hy => (List.mem_append.1 hy).elim (fun m => h x hx y m) (fun m => k x hx y m)
theorem LeL.perm {a b a' b' : List α} (h : LeL lt a b) (p : a'.Perm a) (q : b'.Perm b) : LeL lt a' b' := fun x hx y hy => h x (p.mem_iff.1 hx) y (q.mem_iff.1 hy)
/-- the last of one may stand ahead of the first of the other: so may all. -/
theorem LeL.ends (O : Ord lt) {a b : List α} {z y : α} (ha : Srt lt (a ++ [z])) (hb : Srt lt (y :: b)) (h : lt y z = false) : LeL lt (a ++ [z]) (y :: b) := by
  have h1 : ∀ x ∈ a ++ [z], lt y x = false := by
    intro x hx
    rcases List.mem_append.1 hx with m | m
    · exact O.trans x z y ((srt_app.1 ha).2.2 x m z (by simp)) h
    · rw [List.mem_singleton.1 m]; exact h
  intro x hx u hu
  rcases List.mem_cons.1 hu with rfl | m
  · exact h1 x hx
  · exact O.trans x y u (h1 x hx) ((List.pairwise_cons.1 hb).1 u m)
/-- where one is put between two parts of a list in order. -/
theorem srt_put (O : Ord lt) {a b : List α} {x : α} (h : Srt lt (a ++ b)) (h1 : ∀ z, a.getLast? = some z → lt x z = false) (h2 : ∀ y, b.head? = some y → lt y x = false) : Srt lt (a ++ x :: b) := by
  obtain ⟨ha, hb, hab⟩ := srt_app.1 h
  have e1 : LeL lt a [x] := by
    rcases List.eq_nil_or_concat a with rfl | ⟨a', z, rfl⟩
    · exact LeL.nil_left _
    · rw [List.concat_eq_append] at ha h1 ⊢
      exact LeL.ends O ha (srt_one x) (h1 z (by simp))
  have e2 : LeL lt [x] b := by
    cases b with
    | nil => exact LeL.nil_right _
    | cons y b => exact LeL.ends O (a := []) (srt_one x) hb (h2 y rfl)
  have e3 : Srt lt (x :: b) := List.pairwise_cons.2 ⟨fun y hy => e2 x (by simp) y hy, hb⟩
  refine srt_app.2 ⟨ha, e3, fun u hu v hv => ?_⟩
  rcases List.mem_cons.1 hv with rfl | m
  · exact e1 u hu _ (by simp)
  · exact hab u hu v m

/-- the step of a merge from the middle: the parts that change places. -/
theorem merge_parts (O : Ord lt) {L1 L2 R1 R2 : List α} (hL : Srt lt (L1 ++ L2)) (hR : Srt lt (R1 ++ R2)) (h1 : ∀ z y, L1.getLast? = some z → R2.head? = some y → lt y z = false) (h2 : ∀ z y, R1.getLast? = some z → L2.head? = some y → lt z y = true) : LeL lt (L1 ++ R1) (L2 ++ R2) := by
  obtain ⟨l1, l2, l12⟩ := srt_app.1 hL
  obtain ⟨r1, r2, r12⟩ := srt_app.1 hR
  have ends : ∀ {a b : List α}, Srt lt a → Srt lt b → (∀ z y, a.getLast? = some z → b.head? = some y → lt y z = false) → LeL lt a b := by
    intro a b ha hb h
    rcases List.eq_nil_or_concat a with rfl | ⟨a', z, rfl⟩
    · exact LeL.nil_left _
    · rw [List.concat_eq_append] at ha h ⊢
      cases b with
      | nil => exact LeL.nil_right _
      | cons y b => exact LeL.ends O ha hb (h z y (by simp) rfl)
  exact LeL.app_left (LeL.app_right l12 (ends l1 r2 h1)) (LeL.app_right (ends r1 l2 fun z y hz hy => O.asymm _ _ (h2 z y hz hy)) r12)
theorem merge_done {L1 L2 R1 R2 M1 M2 : List α} (h : LeL lt (L1 ++ R1) (L2 ++ R2)) (p1 : M1.Perm (L1 ++ R1)) (p2 : M2.Perm (L2 ++ R2)) (s1 : Srt lt M1) (s2 : Srt lt M2) : Srt lt (M1 ++ M2) ∧ (M1 ++ M2).Perm ((L1 ++ L2) ++ (R1 ++ R2)) := by
  refine ⟨srt_app.2 ⟨s1, s2, h.perm p1 p2⟩, (p1.append p2).trans ?_⟩
  rw [List.append_assoc, List.append_assoc]
  refine List.Perm.append_left L1 ?_
  rw [← List.append_assoc, ← List.append_assoc]
  exact List.Perm.append_right R2 List.perm_append_comm

/-! blocks in order. -/
/-- each block of k in order. -/
def Chk (lt : α → α → Bool) (k : Nat) (l : List α) : Prop := ∀ i j x y, i < j → i / k = j / k → l[i]? = some x → l[j]? = some y → lt y x = false
theorem chk_one {k : Nat} {l : List α} (h : Chk lt k l) (hk : l.length ≤ k) : Srt lt l := by
  rw [Srt, List.pairwise_iff_getElem]
  intro i j hi hj hij
  have hk0 : 0 < k := by omega
  exact h i j _ _ hij (by rw [Nat.div_eq_of_lt (by omega), Nat.div_eq_of_lt (by omega)]) (List.getElem?_eq_getElem hi) (List.getElem?_eq_getElem hj)
theorem one_chk {k : Nat} {l : List α} (h : Srt lt l) : Chk lt k l := by
  intro i j x y hij _ hx hy
  rw [Srt, List.pairwise_iff_getElem] at h
  obtain ⟨h1, rfl⟩ := List.getElem?_eq_some_iff.1 hx
  obtain ⟨h2, rfl⟩ := List.getElem?_eq_some_iff.1 hy
  exact h i j h1 h2 hij
theorem chk_left {k : Nat} {a b : List α} (h : Chk lt k (a ++ b)) : Chk lt k a := by
  intro i j x y hij hq hx hy
  have h1 := (List.getElem?_eq_some_iff.1 hx).1
  have h2 := (List.getElem?_eq_some_iff.1 hy).1
  exact h i j x y hij hq (by rw [List.getElem?_append_left h1]; exact hx) (by rw [List.getElem?_append_left h2]; exact hy)
theorem chk_right {k q : Nat} (hk : 0 < k) {a b : List α} (ha : a.length = q * k) (h : Chk lt k (a ++ b)) : Chk lt k b := by
  intro i j x y hij hd hx hy
  refine h (a.length + i) (a.length + j) x y (by omega) ?_ (by rw [List.getElem?_append_right (by omega), Nat.add_sub_cancel_left]; exact hx) (by rw [List.getElem?_append_right (by omega), Nat.add_sub_cancel_left]; exact hy)
  rw [ha, Nat.add_comm (q * k) i, Nat.add_comm (q * k) j, Nat.add_mul_div_right _ _ hk, Nat.add_mul_div_right _ _ hk, hd]
theorem chk_app {k q : Nat} (hk : 0 < k) {a b : List α} (ha : a.length = q * k) (h1 : Chk lt k a) (h2 : Chk lt k b) : Chk lt k (a ++ b) := by
  intro i j x y hij hd hx hy
  by_cases hj : j < a.length
  · rw [List.getElem?_append_left hj] at hy
    rw [List.getElem?_append_left (by omega)] at hx
    exact h1 i j x y hij hd hx hy
  · rw [List.getElem?_append_right (by omega)] at hy
    have hi : ¬ i < a.length := by
      intro hi
      have e1 : i / k < q := Nat.div_lt_of_lt_mul (by rw [Nat.mul_comm]; omega)
      have e2 : q ≤ j / k := (Nat.le_div_iff_mul_le hk).2 (by omega)
      omega
    rw [List.getElem?_append_right (by omega)] at hx
    refine h2 (i - a.length) (j - a.length) x y (by omega) ?_ hx hy
    have e1 : i = (i - a.length) + q * k := by omega
    have e2 : j = (j - a.length) + q * k := by omega
    rw [e1, e2, Nat.add_mul_div_right _ _ hk, Nat.add_mul_div_right _ _ hk] at hd
    omega
/-- the one list in order that has just these. -/
theorem srt_eq {l m : List α} (hp : l.Perm m) (hl : Srt lt l) (hm : Srt lt m) (hd : ∀ x ∈ l, ∀ y ∈ l, lt x y = false → lt y x = false → x = y) : l = m :=
  hp.eq_of_pairwise (fun x y hx hy h1 h2 => hd x hx y (hp.mem_iff.2 hy) h2 h1) hl hm
end
end Go.Proofs.Ytmedmfjhpabfdaa
