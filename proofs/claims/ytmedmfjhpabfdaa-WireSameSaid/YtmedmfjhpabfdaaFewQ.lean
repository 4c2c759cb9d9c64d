/- Plain law on parts: what Few leaves says what the reference's Few leaves. No program in sight. -/
import Derived.Test.YtmedmfjhpabfdaaFewC
import Derived.Test.YtmedmfjhpabfdaaFewS
import Derived.Test.YtmedmfjhpabfdaaJoinKnX
namespace Go.Proofs.Ytmedmfjhpabfdaa
open Go Go.RowKit

/-- a part says what the reference says of it. -/
structure Says (p : Part) (x : RP) : Prop where
  ok : PartOk p
  P : ∀ j, j < 512 → pts p.filter j = x.P j
  K : x.K = hasK p.know
theorem says_mean {p : Part} (h : PartOk p) : Says p (meanOf p) := ⟨h, fun _ _ => rfl, rfl⟩

theorem countTo_noneQ (q : Nat → Bool) : ∀ n, (countTo q n == 0) = allTo (fun i => q i == false) n
  | 0 => rfl
  | n + 1 => by
    have ih := countTo_noneQ q n
    have hb := countTo_bd q n
    rw [countTo, allTo, ← ih]
    cases h : q n
    · simp
    · simp; omega
theorem sizeN_none (S : DSet) : (sizeN S 5 == 0) = eqD S (fun _ _ => false) := by
  rw [Bool.eq_iff_iff, eqD_iff, eqWords_iff, beq_iff_eq]
  have h1 : ∀ i, rowN S i 16 = countTo (S i) 1024 := fun i => rowN_count S i 16
  have key : ∀ n, sizeN S n = 0 ↔ ∀ s, s < n → ∀ c, c < 1024 → S s c = false := by
    intro n
    induction n with
    | zero => simp [sizeN]
    | succ n ih =>
      have hb := sizeN_bd S n
      have hr := rowN_bd S n 16
      have hc := countTo_noneQ (S n) 1024
      rw [sizeN]
      constructor
      · intro h s hs c hc1
        by_cases e : s = n
        · subst e
          have h0 : countTo (S s) 1024 = 0 := by rw [← h1]; omega
          rw [h0] at hc
          have h3 := (allTo_iff _ _).1 hc.symm c hc1
          simpa using h3
        · exact ih.1 (by omega) s (by omega) c hc1
      · intro h
        have h2 := ih.2 fun s hs => h s (by omega)
        have h3 : allTo (fun i => S n i == false) 1024 = true := (allTo_iff _ _).2 fun c hc1 => by rw [h n (by omega) c hc1]; rfl
        rw [h3, beq_iff_eq] at hc
        rw [h1, h2, hc]; rfl
  rw [key 5]
theorem none_says {p : Part} {x : RP} (h : Says p x) : noneP p = noneR x := by
  have e1 : (filterCount p.filter == 0) = allTo (fun i => x.P i == false) 512 := by
    rw [count_pts h.ok.f, countTo_noneQ]
    exact allTo_congr 512 fun i hi => by rw [h.P i hi]
  have e2 : (countK p.know == 0) = eqD x.K (fun _ _ => false) := by rw [← size_has p.know h.ok.k, sizeN_none, h.K]
  unfold noneP noneR
  rw [e1, e2]
theorem under_says {p q : Part} {x y : RP} (h : Says p x) (g : Says q y) : underP p q = underR x y := by
  have h2 : filterTwo p.filter q.filter = 0 := by rw [filterTwo, if_pos h.ok.f, g.ok.f]
  have k2 : twoErr p.know q.know = 0 := by rw [twoErr, if_pos (knowCheck_iff.2 h.ok.k), knowCheck_iff.2 g.ok.k]
  have e1 : filterNone less32 p.filter q.filter = allTo (fun i => (x.P i && y.P i) == x.P i) 512 := by
    rw [filterNone_says bits_less h2]
    refine allTo_congr 512 fun i hi => ?_
    rw [h.P i hi, g.P i hi]
    cases x.P i <;> cases y.P i <;> rfl
  have e2 : withinIs p.know q.know = eqD (andD x.K y.K) x.K := by
    rw [within_eq k2, h.K, g.K, Bool.eq_iff_iff, eqD_iff, eqD_iff, eqWords_iff, eqWords_iff]
    constructor
    · intro e s hs c hc
      have := e s hs c hc
      simp only [orD, andD] at this ⊢
      cases h1 : hasK p.know s c <;> cases h3 : hasK q.know s c <;> simp_all
    · intro e s hs c hc
      have := e s hs c hc
      simp only [orD, andD] at this ⊢
      cases h1 : hasK p.know s c <;> cases h3 : hasK q.know s c <;> simp_all
  unfold underP underR
  rw [e1, e2, Bool.and_comm]

/-! the two Few side by side: of any tests that agree. -/
section
variable {α β : Type} (nP : α → Bool) (uP : α → α → Bool) (nR : β → Bool) (uR : β → β → Bool) (H : α → β → Prop)
def stepG (n : α → Bool) (u : α → α → Bool) (out : List α) (p : α) : List α := if (n p || out.any (fun q => u p q)) = true then out else (out.filter fun q => !u q p) ++ [p]
theorem stepG_mem {n : α → Bool} {u : α → α → Bool} {out : List α} {z y : α} (h : y ∈ stepG n u out z) : y ∈ out ∨ y = z := by
  unfold stepG at h
  split at h
  · exact .inl h
  · rcases List.mem_append.1 h with h | h
    · exact .inl (List.mem_filter.1 h).1
    · exact .inr (List.mem_singleton.1 h)
theorem stepG_fst (out : List (α × β)) (z : α × β) : (stepG (fun z => nP z.1) (fun y z => uP y.1 z.1) out z).map Prod.fst = stepG nP uP (out.map Prod.fst) z.1 := by
  unfold stepG
  have h1 : (out.map Prod.fst).any (fun q => uP z.1 q) = out.any (fun y => uP z.1 y.1) := by rw [List.any_map]; rfl
  rw [h1]
  split
  · rfl
  · rw [List.map_append, List.filter_map]; rfl
theorem stepG_snd (hn : ∀ p x, H p x → nP p = nR x) (hu : ∀ p q x y, H p x → H q y → uP p q = uR x y) (out : List (α × β)) (z : α × β) (hz : H z.1 z.2) (hO : ∀ y ∈ out, H y.1 y.2) :
    (stepG (fun z => nP z.1) (fun y z => uP y.1 z.1) out z).map Prod.snd = stepG nR uR (out.map Prod.snd) z.2 := by
  have h1 : (out.map Prod.snd).any (fun q => uR z.2 q) = out.any (fun y => uP z.1 y.1) := by
    rw [List.any_map, Bool.eq_iff_iff, List.any_eq_true, List.any_eq_true]
    constructor
    · rintro ⟨y, hy, h⟩
      exact ⟨y, hy, (hu _ _ _ _ hz (hO y hy)).trans h⟩
    · rintro ⟨y, hy, h⟩
      exact ⟨y, hy, (hu _ _ _ _ hz (hO y hy)).symm.trans h⟩
  have h2 : (out.map Prod.snd).filter (fun q => !uR q z.2) = (out.filter fun y => !uP y.1 z.1).map Prod.snd := by
    rw [List.filter_map]
    have e : out.filter ((fun q => !uR q z.2) ∘ Prod.snd) = out.filter fun y => !uP y.1 z.1 := by
      apply List.filter_congr
      intro y hy
      simp only [Function.comp]
      rw [hu _ _ _ _ (hO y hy) hz]
    rw [e]
  unfold stepG
  rw [h1, h2, ← hn _ _ hz]
  split
  · rfl
  · rw [List.map_append]; rfl
theorem foldG_fst : ∀ (L out : List (α × β)), (L.foldl (stepG (fun z => nP z.1) (fun y z => uP y.1 z.1)) out).map Prod.fst = (L.map Prod.fst).foldl (stepG nP uP) (out.map Prod.fst)
  | [], _ => rfl
  | z :: r, out => by rw [List.foldl_cons, foldG_fst r, List.map_cons, List.foldl_cons, stepG_fst]
theorem foldG_snd (hn : ∀ p x, H p x → nP p = nR x) (hu : ∀ p q x y, H p x → H q y → uP p q = uR x y) : ∀ (L out : List (α × β)), (∀ z ∈ L, H z.1 z.2) → (∀ z ∈ out, H z.1 z.2) →
    (L.foldl (stepG (fun z => nP z.1) (fun y z => uP y.1 z.1)) out).map Prod.snd = (L.map Prod.snd).foldl (stepG nR uR) (out.map Prod.snd) ∧ ∀ z ∈ L.foldl (stepG (fun z => nP z.1) (fun y z => uP y.1 z.1)) out, H z.1 z.2
  | [], _, _, hO => ⟨rfl, hO⟩
  | z :: r, out, hL, hO => by
    have hz := hL z (by simp)
    have hO2 : ∀ y ∈ stepG (fun z : α × β => nP z.1) (fun y z => uP y.1 z.1) out z, H y.1 y.2 := by
      intro y hy
      rcases stepG_mem hy with hy | hy
      · exact hO y hy
      · rw [hy]; exact hz
    obtain ⟨h1, h2⟩ := foldG_snd hn hu r _ (fun y hy => hL y (by simp [hy])) hO2
    rw [List.foldl_cons]
    exact ⟨by rw [h1, List.map_cons, List.foldl_cons, stepG_snd nP uP nR uR H hn hu out z hz hO], h2⟩
end

/-- the parts that were answered say what the reference says. -/
structure SayOk (l : List Part) (want : List RP) : Prop where
  len : l.length = want.length
  at_ : ∀ (i : Nat) (p : Part) (x : RP), l[i]? = some p → want[i]? = some x → p.filter.length ≤ 16 ∧ filterCheck p.filter = 0 ∧ (∀ j, j < 512 → pts p.filter j = x.P j) ∧ formOf x.K = p.know ∧ p.know.more.length ≤ 60
theorem plainF_says {f : List Box} (h : filterCheck f = 0) : (plainF f).length ≤ 16 ∧ filterCheck (plainF f) = 0 ∧ ∀ j, j < 512 → pts (plainF f) j = pts f j :=
  ⟨mkBoxes_len _, mkBoxes_check _, fun j hj => by unfold plainF; rw [mkBoxes_pts _ j hj, pts_tab (filterCheck_ok h).2]⟩
theorem few_say (L : List (Part × RP)) (h : ∀ z ∈ L, Says z.1 z.2) : SayOk (fewOut (L.map Prod.fst)) (fewR (L.map Prod.snd)) := by
  obtain ⟨Z, hZ⟩ : ∃ Z, Z = L.foldl (stepG (fun z : Part × RP => noneP z.1) (fun y z => underP y.1 z.1)) [] := ⟨_, rfl⟩
  have h1 := foldG_fst (β := RP) noneP underP L []
  obtain ⟨h2, h3⟩ := foldG_snd noneP underP noneR underR Says (fun _ _ => none_says) (fun _ _ _ _ => under_says) L [] h (by simp)
  rw [← hZ] at h1 h2 h3
  clear hZ
  have e1 : fewOut (L.map Prod.fst) = (Z.map Prod.fst).map plainP := by rw [h1]; rfl
  have e2 : fewR (L.map Prod.snd) = Z.map Prod.snd := h2.symm
  rw [e1, e2]
  refine ⟨by simp, fun i p x hp hx => ?_⟩
  rw [List.getElem?_map, List.getElem?_map] at hp
  rw [List.getElem?_map] at hx
  cases hz : Z[i]? with
  | none => rw [hz] at hp; cases hp
  | some z =>
    rw [hz] at hp hx
    simp only [Option.map_some, Option.some.injEq] at hp hx
    subst hp hx
    have hs := h3 z (List.mem_of_getElem? hz)
    obtain ⟨p1, p2, p3⟩ := plainF_says hs.ok.f
    exact ⟨p1, p2, fun j hj => (p3 j hj).trans (hs.P j hj), by rw [hs.K]; exact form_has hs.ok.k, hs.ok.k.mlen⟩
def narrowR (F : Nat → Bool) (x : RP) : RP := ⟨fun i => x.P i && F i, x.K⟩
theorem narrow_says {p : Part} {f : List Box} (hp : PartOk p) (hf : filterCheck f = 0) : Says (narrowP f p) (narrowR (pts f) (meanOf p)) :=
  ⟨narrowP_ok hp hf, (meetF_ok hp.f hf).2, rfl⟩
theorem join_say {a b : List Part} (ha : ∀ x ∈ a, PartOk x) (hb : ∀ x ∈ b, PartOk x) : SayOk (fewOut (a ++ b)) (fewR (a.map meanOf ++ b.map meanOf)) := by
  have h := few_say ((a ++ b).map fun p => (p, meanOf p)) (by
    intro z hz
    obtain ⟨p, hp, rfl⟩ := List.mem_map.1 hz
    rcases List.mem_append.1 hp with hp | hp
    · exact says_mean (ha p hp)
    · exact says_mean (hb p hp))
  simpa [List.map_map, Function.comp_def] using h
theorem narrow_say {l : List Part} {f : List Box} (hl : ∀ x ∈ l, PartOk x) (hf : filterCheck f = 0) : SayOk (fewOut (l.map (narrowP f))) (fewR ((l.map meanOf).map (narrowR (pts f)))) := by
  have h := few_say (l.map fun p => (narrowP f p, narrowR (pts f) (meanOf p))) (by
    intro z hz
    obtain ⟨p, hp, rfl⟩ := List.mem_map.1 hz
    exact narrow_says (hl p hp) hf)
  simpa [List.map_map, Function.comp_def] using h
theorem SayOk.nil : SayOk [] [] := ⟨rfl, by intro i p x h; simp at h⟩

end Go.Proofs.Ytmedmfjhpabfdaa
