/- Plain law on batches as bytes: how bytes are read, and that what is read is what was written. No program in sight. -/
import Derived.Test.YtmedmfjhpabfdaaWireQ
namespace Go.Proofs.Ytmedmfjhpabfdaa
open Go Go.RowKit

/-- what is left, and whether it is a batch's no more. -/
abbrev RS := List UInt8 × Bool
def num3 (a b c : UInt8) : Int := ((a.toNat * 65536 + b.toNat * 256 + c.toNat : Nat) : Int)
def rnum (most : Int) (s : RS) : Int × RS :=
  match s.1 with
  | a :: b :: c :: r => if most < num3 a b c then (0, (r, true)) else (num3 a b c, (r, s.2))
  | _ => (0, (s.1, true))
def rtext (s : RS) : ByteArray × RS :=
  if ((rnum 8 s).2.1.length : Int) < (rnum 8 s).1 then (⟨#[]⟩, ((rnum 8 s).2.1, true))
  else (bstr ((rnum 8 s).2.1.take (rnum 8 s).1.toNat), ((rnum 8 s).2.1.drop (rnum 8 s).1.toNat, (rnum 8 s).2.2))
def rmany {α : Type} (f : RS → α × RS) : Nat → RS → List α × RS
  | 0, s => ([], s)
  | n + 1, s => ((f s).1 :: (rmany f n (f s).2).1, (rmany f n (f s).2).2)
def rlist {α : Type} (most : Int) (f : RS → α × RS) (s : RS) : List α × RS := rmany f (rnum most s).1.toNat (rnum most s).2
def rdot (s : RS) : Dot × RS := (⟨(rnum 5 s).1, (rnum 1000 (rnum 5 s).2).1⟩, (rnum 1000 (rnum 5 s).2).2)
def rspan (s : RS) : Span × RS := (⟨(rnum 32 s).1, (rnum 32 (rnum 32 s).2).1⟩, (rnum 32 (rnum 32 s).2).2)
def rknow (s : RS) : Know × RS := (⟨(rlist 5 (rnum 1000) s).1, (rlist 60 rdot (rlist 5 (rnum 1000) s).2).1⟩, (rlist 60 rdot (rlist 5 (rnum 1000) s).2).2)
def rcube (s : RS) : Cube × RS := (⟨(rnum 15 s).1, (rnum 15 (rnum 15 s).2).1⟩, (rnum 15 (rnum 15 s).2).2)
def rbox (s : RS) : Box × RS := (⟨(rcube s).1, (rlist 16 rspan (rcube s).2).1⟩, (rlist 16 rspan (rcube s).2).2)
def rpoint (s : RS) : Point × RS := (⟨(rnum 15 s).1, (rnum 32 (rnum 15 s).2).1⟩, (rnum 32 (rnum 15 s).2).2)
def rver (s : RS) : Version × RS :=
  let t := rtext s
  let d := rdot t.2
  let p := rpoint d.2
  let b := rnum 1000000 p.2
  let k := rknow b.2
  (⟨t.1, d.1, p.1, b.1, k.1⟩, k.2)
def rgone (s : RS) : Gone × RS := (⟨(rtext s).1, (rknow (rtext s).2).1⟩, (rknow (rtext s).2).2)
def rpart (s : RS) : Part × RS := (⟨(rlist 40 rbox s).1, (rknow (rlist 40 rbox s).2).1⟩, (rknow (rlist 40 rbox s).2).2)
def rbatch (s : RS) : Batch × RS :=
  let x := rnum 5 s
  let t := rnum 1000000 x.2
  let v := rlist 60 rver t.2
  let g := rlist 60 rgone v.2
  let p := rlist 30 rpart g.2
  (⟨x.1, t.1, v.1, g.1, p.1⟩, p.2)
theorem rmany_succ {α : Type} (f : RS → α × RS) : ∀ (n : Nat) (s : RS), rmany f (n + 1) s = ((rmany f n s).1 ++ [(f (rmany f n s).2).1], (f (rmany f n s).2).2)
  | 0, s => rfl
  | n + 1, s => by
    rw [rmany, rmany_succ f n (f s).2]
    rfl
theorem rmany_len {α : Type} (f : RS → α × RS) : ∀ (n : Nat) (s : RS), (rmany f n s).1.length = n
  | 0, _ => rfl
  | n + 1, s => by rw [rmany, List.length_cons, rmany_len f n]
theorem num3_lt (a b c : UInt8) : 0 ≤ num3 a b c ∧ num3 a b c < 16777216 := by
  have h1 := a.toNat_lt
  have h2 := b.toNat_lt
  have h3 := c.toNat_lt
  unfold num3
  omega
theorem three_num3 (a b c : UInt8) : three (num3 a b c) = [a, b, c] := by
  have h1 := a.toNat_lt
  have h2 := b.toNat_lt
  have h3 := c.toNat_lt
  have e : (num3 a b c).toNat = a.toNat * 65536 + b.toNat * 256 + c.toNat := rfl
  have q : ∀ (x : Nat) (y : UInt8), x % 256 = y.toNat → UInt8.ofNat x = y := by
    intro x y h
    apply UInt8.toNat_inj.1
    rw [UInt8.toNat_ofNat', h]
  rw [three, e, q _ a (by omega), q _ b (by omega), q _ c (by omega)]
theorem num3_three {n : Int} (h0 : 0 ≤ n) (h1 : n < 16777216) : num3 (UInt8.ofNat (n.toNat / 65536)) (UInt8.ofNat (n.toNat / 256)) (UInt8.ofNat n.toNat) = n := by
  unfold num3
  simp only [UInt8.toNat_ofNat']
  omega
theorem rnum_range {most : Int} (hm : 0 ≤ most) (s : RS) : 0 ≤ (rnum most s).1 ∧ (rnum most s).1 ≤ most := by
  unfold rnum
  split
  · rename_i a b c r _
    have := num3_lt a b c
    split <;> simp <;> omega
  · simp; omega
/-- what is read, if all was well, is what had been written. -/
def Sound {α : Type} (enc : α → List UInt8) (f : RS → α × RS) : Prop := ∀ s, (f s).2.2 = false → s.2 = false ∧ s.1 = enc (f s).1 ++ (f s).2.1
/-- what had been written is read. -/
def Full {α : Type} (enc : α → List UInt8) (ok : α → Prop) (f : RS → α × RS) : Prop := ∀ x, ok x → ∀ r b, f (enc x ++ r, b) = (x, (r, b))
theorem sound_num (most : Int) : Sound three (rnum most) := by
  intro s h
  unfold rnum at h ⊢
  split at h
  · rename_i a b c r e
    split at h
    · cases h
    · rename_i h2
      rw [e]
      simp only [h2, if_false]
      exact ⟨h, by rw [three_num3]; rfl⟩
  · cases h
theorem Sound.two {α β γ : Type} {e1 : α → List UInt8} {e2 : β → List UInt8} {e : γ → List UInt8} {f : RS → α × RS} {g : RS → β × RS} {h : RS → γ × RS} (mk : α → β → γ) (hf : Sound e1 f) (hg : Sound e2 g)
    (h1 : ∀ s, h s = (mk (f s).1 (g (f s).2).1, (g (f s).2).2)) (h2 : ∀ a b, e (mk a b) = e1 a ++ e2 b) : Sound e h := by
  intro s hs
  rw [h1] at hs ⊢
  obtain ⟨g1, g2⟩ := hg _ hs
  obtain ⟨f1, f2⟩ := hf _ g1
  exact ⟨f1, by rw [f2, g2, h2, List.append_assoc]⟩
theorem Full.two {α β γ : Type} {e1 : α → List UInt8} {e2 : β → List UInt8} {e : γ → List UInt8} {f : RS → α × RS} {g : RS → β × RS} {h : RS → γ × RS} {o1 : α → Prop} {o2 : β → Prop} (mk : α → β → γ) (hf : Full e1 o1 f) (hg : Full e2 o2 g)
    (h1 : ∀ s, h s = (mk (f s).1 (g (f s).2).1, (g (f s).2).2)) (h2 : ∀ a b, e (mk a b) = e1 a ++ e2 b) {ok : γ → Prop} (h3 : ∀ x, ok x → ∃ a b, x = mk a b ∧ o1 a ∧ o2 b) : Full e ok h := by
  intro x hx r b
  obtain ⟨u, v, rfl, hu, hv⟩ := h3 x hx
  rw [h1, h2, List.append_assoc, hf u hu, hg v hv]
theorem sound_many {α : Type} {e : α → List UInt8} {f : RS → α × RS} (hf : Sound e f) : ∀ n, Sound (fun l : List α => l.flatMap e) (rmany f n)
  | 0 => by
    intro s h
    exact ⟨h, rfl⟩
  | n + 1 => by
    intro s h
    obtain ⟨g1, g2⟩ := sound_many hf n _ h
    obtain ⟨f1, f2⟩ := hf _ g1
    refine ⟨f1, ?_⟩
    simp only at g2
    rw [f2, g2]
    simp only [rmany, List.flatMap_cons, List.append_assoc]
theorem sound_list {α : Type} {e : α → List UInt8} {f : RS → α × RS} {most : Int} (hm : 0 ≤ most) (hf : Sound e f) : Sound (fun l : List α => three l.length ++ l.flatMap e) (rlist most f) := by
  intro s h
  obtain ⟨g1, g2⟩ := sound_many hf _ _ h
  obtain ⟨f1, f2⟩ := sound_num most _ g1
  refine ⟨f1, ?_⟩
  have e1 : ((rlist most f s).1.length : Int) = (rnum most s).1 := by
    rw [rlist, rmany_len]
    have := rnum_range hm s
    omega
  show s.1 = three ((rlist most f s).1.length : Int) ++ _ ++ _
  rw [e1, List.append_assoc]
  rw [f2, g2]
  rfl
theorem sound_text : Sound textB rtext := by
  intro s h
  unfold rtext at h ⊢
  by_cases hl : ((rnum 8 s).2.1.length : Int) < (rnum 8 s).1
  · rw [if_pos hl] at h; cases h
  · rw [if_neg hl] at h ⊢
    obtain ⟨f1, f2⟩ := sound_num 8 _ h
    have hr := rnum_range (most := 8) (by omega) s
    refine ⟨f1, ?_⟩
    have e1 : ((bstr ((rnum 8 s).2.1.take (rnum 8 s).1.toNat)).size : Int) = (rnum 8 s).1 := by
      rw [bstr_size, List.length_take]
      omega
    rw [textB, e1, bstr_data, List.append_assoc, List.take_append_drop]
    exact f2
theorem nums_two (a b : Int) : nums [a, b] = three a ++ three b := by simp [nums]
theorem sound_dot : Sound (fun d : Dot => nums [d.site, d.count]) rdot := Sound.two Dot.mk (sound_num 5) (sound_num 1000) (fun _ => rfl) (fun _ _ => nums_two _ _)
theorem sound_span : Sound (fun d : Span => nums [d.fr, d.to]) rspan := Sound.two Span.mk (sound_num 32) (sound_num 32) (fun _ => rfl) (fun _ _ => nums_two _ _)
theorem sound_point : Sound (fun d : Point => nums [d.tags, d.num]) rpoint := Sound.two Point.mk (sound_num 15) (sound_num 32) (fun _ => rfl) (fun _ _ => nums_two _ _)
theorem sound_cube : Sound (fun d : Cube => nums [d.yes, d.no]) rcube := Sound.two Cube.mk (sound_num 15) (sound_num 15) (fun _ => rfl) (fun _ _ => nums_two _ _)
theorem nums_flat (l : List Int) : l.flatMap three = nums l := rfl
theorem sound_know : Sound knowB rknow := Sound.two Know.mk (sound_list (most := 5) (by omega) (sound_num 1000)) (sound_list (most := 60) (by omega) sound_dot) (fun _ => rfl) (fun a b => by
  simp only [knowB, nums_flat, List.append_assoc]
  rfl)
theorem boxB_eq (c : Cube) (l : List Span) : boxB ⟨c, l⟩ = nums [c.yes, c.no] ++ (three l.length ++ l.flatMap fun s => nums [s.fr, s.to]) := by
  simp [boxB, spansB, nums]
theorem sound_box : Sound boxB rbox := Sound.two Box.mk sound_cube (sound_list (most := 16) (by omega) sound_span) (fun _ => rfl) boxB_eq
theorem partB_eq (f : List Box) (k : Know) : partB ⟨f, k⟩ = (three f.length ++ f.flatMap boxB) ++ knowB k := rfl
theorem sound_part : Sound partB rpart := Sound.two Part.mk (sound_list (most := 40) (by omega) sound_box) sound_know (fun _ => rfl) partB_eq
theorem sound_gone : Sound goneB rgone := Sound.two Gone.mk sound_text sound_know (fun _ => rfl) (fun _ _ => rfl)
theorem verB_eq (v : Version) : verB v = textB v.id ++ (nums [v.dot.site, v.dot.count] ++ (nums [v.pt.tags, v.pt.num] ++ (three v.body ++ knowB v.past))) := by
  simp [verB, nums]
theorem sound_ver : Sound verB rver := by
  intro s h
  obtain ⟨g1, g2⟩ := sound_know _ h
  obtain ⟨f1, f2⟩ := sound_num 1000000 _ g1
  obtain ⟨e1, e2⟩ := sound_point _ f1
  obtain ⟨d1, d2⟩ := sound_dot _ e1
  obtain ⟨c1, c2⟩ := sound_text _ d1
  refine ⟨c1, ?_⟩
  rw [c2, d2, e2, f2, g2, verB_eq]
  simp only [rver, List.append_assoc]
theorem bodyB_eq (b : Batch) : bodyB b = three b.site ++ (three b.stamp ++ ((three b.vers.length ++ b.vers.flatMap verB) ++ ((three b.gone.length ++ b.gone.flatMap goneB) ++ (three b.parts.length ++ b.parts.flatMap partB)))) := by
  simp [bodyB, nums]
theorem sound_batch : Sound bodyB rbatch := by
  intro s h
  obtain ⟨g1, g2⟩ := sound_list (most := 30) (by omega) sound_part _ h
  obtain ⟨f1, f2⟩ := sound_list (most := 60) (by omega) sound_gone _ g1
  obtain ⟨e1, e2⟩ := sound_list (most := 60) (by omega) sound_ver _ f1
  obtain ⟨d1, d2⟩ := sound_num 1000000 _ e1
  obtain ⟨c1, c2⟩ := sound_num 5 _ d1
  refine ⟨c1, ?_⟩
  rw [c2, d2, e2, f2, g2, bodyB_eq]
  simp only [rbatch, List.append_assoc]
def noBatch : Batch := ⟨0, 0, [], [], []⟩
/-- is what was read from a text a batch that may be, and all of it? -/
def readOk (x : Batch × RS) : Bool := !x.2.2 && (x.2.1.isEmpty && decide (wireErr x.1 = 0))
def tailSum (s : List UInt8) : Int := num3 (s.getD (s.length - 3) 0) (s.getD (s.length - 2) 0) (s.getD (s.length - 1) 0)
def bodyOf (s : List UInt8) : List UInt8 := s.take (s.length - 3)
def unpackErr (s : List UInt8) : Int :=
  if 20000 < s.length then 2 else if s.length < 3 then 7 else if sumB (bodyOf s) = tailSum s then (if readOk (rbatch (bodyOf s, false)) = true then 0 else 3) else 8
def unpackOf (s : List UInt8) : Batch := if unpackErr s = 0 then (rbatch (bodyOf s, false)).1 else noBatch
theorem split_tail (s : List UInt8) (h : 3 ≤ s.length) : s = bodyOf s ++ three (tailSum s) := by
  have e : s.drop (s.length - 3) = [s.getD (s.length - 3) 0, s.getD (s.length - 2) 0, s.getD (s.length - 1) 0] := by
    apply List.ext_getElem
    · simp; omega
    · intro i h1 h2
      simp only [List.length_cons, List.length_nil] at h2
      rw [List.getElem_drop]
      match i, h2 with
      | 0, _ => simp [List.getD, List.getElem?_eq_getElem (show s.length - 3 < s.length by omega)]
      | 1, _ => simp [List.getD, List.getElem?_eq_getElem (show s.length - 2 < s.length by omega), show s.length - 3 + 1 = s.length - 2 by omega]
      | 2, _ => simp [List.getD, List.getElem?_eq_getElem (show s.length - 1 < s.length by omega), show s.length - 3 + 2 = s.length - 1 by omega]
  rw [tailSum, three_num3, ← e, bodyOf, List.take_append_drop]
theorem unpack_sound {s : List UInt8} (h : unpackErr s = 0) : wireErr (unpackOf s) = 0 ∧ packB (unpackOf s) = s := by
  have h0 := h
  unfold unpackErr at h
  by_cases h1 : 20000 < s.length
  · rw [if_pos h1] at h; cases h
  · rw [if_neg h1] at h
    by_cases h2 : s.length < 3
    · rw [if_pos h2] at h; cases h
    · rw [if_neg h2] at h
      by_cases h3 : sumB (bodyOf s) = tailSum s
      · rw [if_pos h3] at h
        by_cases h4 : readOk (rbatch (bodyOf s, false)) = true
        · rw [unpackOf, if_pos h0]
          simp only [readOk, Bool.and_eq_true, Bool.not_eq_true', List.isEmpty_iff, decide_eq_true_eq] at h4
          obtain ⟨_, e⟩ := sound_batch _ h4.1
          rw [h4.2.1, List.append_nil] at e
          simp only at e
          refine ⟨h4.2.2, ?_⟩
          rw [packB, ← e, h3]
          exact (split_tail s (by omega)).symm
        · rw [if_neg h4] at h; cases h
      · rw [if_neg h3] at h; cases h
end Go.Proofs.Ytmedmfjhpabfdaa
