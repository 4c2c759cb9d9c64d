/- Plain law on a stable sort in place: lists in order, what an insertion, a rotation and a merge from the middle leave. No program in sight. -/
import Derived.Test.YtngbfdogiciahaaGreatBase
namespace Go.Proofs.YtngbfdogiciahaaGreat
open Go Go.RowKit
structure Ord {α : Type} (lt : α → α → Bool) : Prop where
 asymm : ∀ x y, lt x y = true → lt y x = false
 trans : ∀ x y z, lt y x = false → lt z y = false → lt z x = false
section
variable {α : Type} {lt : α → α → Bool}
def Srt (lt : α → α → Bool) (l : List α) : Prop := l.Pairwise fun x y => lt y x = false
def LeL (lt : α → α → Bool) (a b : List α) : Prop := ∀ x ∈ a, ∀ y ∈ b, lt y x = false
theorem srt_app {a b : List α} : Srt lt (a ++ b) ↔ Srt lt a ∧ Srt lt b ∧ LeL lt a b := List.pairwise_append
theorem LeL.ends (O : Ord lt) {a b : List α} {z y : α} (ha : Srt lt (a ++ [z])) (hb : Srt lt (y :: b)) (h : lt y z = false) : LeL lt (a ++ [z]) (y :: b) := by
 have h1 : ∀ x ∈ a ++ [z], lt y x = false := by
  intro x hx
  rcases List.mem_append.1 hx with m | m
  ·exact O.trans x z y ((srt_app.1 ha).2.2 x m z (by simp)) h
  ·rw [List.mem_singleton.1 m]; exact h
 intro x hx u hu
 rcases List.mem_cons.1 hu with rfl | m
 ·exact h1 x hx
 ·exact O.trans x y u (h1 x hx) ((List.pairwise_cons.1 hb).1 u m)
theorem srt_eq {l m : List α} (hp : l.Perm m) (hl : Srt lt l) (hm : Srt lt m) (hd : ∀ x ∈ l, ∀ y ∈ l, lt x y = false → lt y x = false → x = y) : l = m :=
 hp.eq_of_pairwise (fun x y hx hy h1 h2 => hd x hx y (hp.mem_iff.2 hy) h2 h1) hl hm
end
end Go.Proofs.YtngbfdogiciahaaGreat
