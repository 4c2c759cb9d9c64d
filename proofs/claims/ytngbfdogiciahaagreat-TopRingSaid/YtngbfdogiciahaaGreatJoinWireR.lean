/- Several texts in one: data, readings, plain laws, walks. No condition. -/
import Derived.Test.YtngbfdogiciahaaGreatShort
import Derived.Test.YtngbfdogiciahaaGreatJoinWireQ
import Derived.Test.YtngbfdogiciahaaGreatWireI
import Derived.Test.YtngbfdogiciahaaGreatBase
import Derived.Laws.BitsLemmas
namespace Go.Proofs.YtngbfdogiciahaaGreat
open Go Go.RowKit
abbrev RS := List UInt8 × Bool
def num3 (a b c : UInt8) : Int := ((a.toNat * 65536 + b.toNat * 256 + c.toNat : Nat) : Int)
def rnum (most : Int) (s : RS) : Int × RS :=
 match s.1 with
 | a :: b :: c :: r => if most < num3 a b c then (0, (r, true)) else (num3 a b c, (r, s.2))
 | _ => (0, (s.1, true))
def rtext (s : RS) : ByteArray × RS :=
 if ((rnum 8 s).2.1.length : Int) < (rnum 8 s).1 then (⟨#[]⟩, ((rnum 8 s).2.1, true))
 else (bstr ((rnum 8 s).2.1.take (rnum 8 s).1.toNat), ((rnum 8 s).2.1.drop (rnum 8 s).1.toNat, (rnum 8 s).2.2))
def rmany {α : Type} (f : RS → α × RS) : Nat → RS → List α × RS
 | 0, s => ([], s)
 | n + 1, s => ((f s).1 :: (rmany f n (f s).2).1, (rmany f n (f s).2).2)
def rlist {α : Type} (most : Int) (f : RS → α × RS) (s : RS) : List α × RS := rmany f (rnum most s).1.toNat (rnum most s).2
def rdot (s : RS) : Dot × RS := (⟨(rnum 5 s).1, (rnum 1000 (rnum 5 s).2).1⟩, (rnum 1000 (rnum 5 s).2).2)
def rspan (s : RS) : Span × RS := (⟨(rnum 32 s).1, (rnum 32 (rnum 32 s).2).1⟩, (rnum 32 (rnum 32 s).2).2)
def rknow (s : RS) : Know × RS := (⟨(rlist 5 (rnum 1000) s).1, (rlist 60 rdot (rlist 5 (rnum 1000) s).2).1⟩, (rlist 60 rdot (rlist 5 (rnum 1000) s).2).2)
def rcube (s : RS) : Cube × RS := (⟨(rnum 15 s).1, (rnum 15 (rnum 15 s).2).1⟩, (rnum 15 (rnum 15 s).2).2)
def rbox (s : RS) : Box × RS := (⟨(rcube s).1, (rlist 16 rspan (rcube s).2).1⟩, (rlist 16 rspan (rcube s).2).2)
def rpoint (s : RS) : Point × RS := (⟨(rnum 15 s).1, (rnum 32 (rnum 15 s).2).1⟩, (rnum 32 (rnum 15 s).2).2)
def rver (s : RS) : Version × RS :=
 let t := rtext s
 let d := rdot t.2
 let p := rpoint d.2
 let b := rnum 1000000 p.2
 let k := rknow b.2
 (⟨t.1, d.1, p.1, b.1, k.1⟩, k.2)
def rgone (s : RS) : Gone × RS := (⟨(rtext s).1, (rknow (rtext s).2).1⟩, (rknow (rtext s).2).2)
def rpart (s : RS) : Part × RS := (⟨(rlist 40 rbox s).1, (rknow (rlist 40 rbox s).2).1⟩, (rknow (rlist 40 rbox s).2).2)
def rbatch (s : RS) : Batch × RS :=
 let x := rnum 5 s
 let t := rnum 1000000 x.2
 let v := rlist 60 rver t.2
 let g := rlist 60 rgone v.2
 let p := rlist 30 rpart g.2
 (⟨x.1, t.1, v.1, g.1, p.1⟩, p.2)
theorem rmany_succ {α : Type} (f : RS → α × RS) : ∀ (n : Nat) (s : RS), rmany f (n + 1) s = ((rmany f n s).1 ++ [(f (rmany f n s).2).1], (f (rmany f n s).2).2)
 | 0, s => rfl
 | n + 1, s => by
  rw [rmany, rmany_succ f n (f s).2]
  rfl
theorem rmany_len {α : Type} (f : RS → α × RS) : ∀ (n : Nat) (s : RS), (rmany f n s).1.length = n
 | 0, _ => rfl
 | n + 1, s => by rw [rmany, List.length_cons, rmany_len f n]
theorem num3_lt (a b c : UInt8) : 0 ≤ num3 a b c ∧ num3 a b c < 16777216 := by
 have h1 := a.toNat_lt
 have h2 := b.toNat_lt
 have h3 := c.toNat_lt
 unfold num3
 omega
theorem three_num3 (a b c : UInt8) : three (num3 a b c) = [a, b, c] := by
 have h1 := a.toNat_lt
 have h2 := b.toNat_lt
 have h3 := c.toNat_lt
 have e : (num3 a b c).toNat = a.toNat * 65536 + b.toNat * 256 + c.toNat := rfl
 have q : ∀ (x : Nat) (y : UInt8), x % 256 = y.toNat → UInt8.ofNat x = y := by
  intro x y h
  apply UInt8.toNat_inj.1
  rw [UInt8.toNat_ofNat', h]
 rw [three, e, q _ a (by omega), q _ b (by omega), q _ c (by omega)]
theorem num3_three {n : Int} (h0 : 0 ≤ n) (h1 : n < 16777216) : num3 (UInt8.ofNat (n.toNat / 65536)) (UInt8.ofNat (n.toNat / 256)) (UInt8.ofNat n.toNat) = n := by
 unfold num3
 simp only [UInt8.toNat_ofNat']
 omega
theorem rnum_range {most : Int} (hm : 0 ≤ most) (s : RS) : 0 ≤ (rnum most s).1 ∧ (rnum most s).1 ≤ most := by
 unfold rnum
 split
 ·rename_i a b c r _
  have := num3_lt a b c
  split <;> simp <;> omega
 ·simp; omega
def Sound {α : Type} (enc : α → List UInt8) (f : RS → α × RS) : Prop := ∀ s, (f s).2.2 = false → s.2 = false ∧ s.1 = enc (f s).1 ++ (f s).2.1
def Full {α : Type} (enc : α → List UInt8) (ok : α → Prop) (f : RS → α × RS) : Prop := ∀ x, ok x → ∀ r b, f (enc x ++ r, b) = (x, (r, b))
theorem full_num {most : Int} (hm : most < 16777216) : Full three (fun n => 0 ≤ n ∧ n ≤ most) (rnum most) := by
 intro n hn r b
 rw [three]
 simp only [rnum, List.cons_append, List.nil_append]
 rw [num3_three hn.1 (by omega), if_neg (by omega)]
theorem Sound.two {α β γ : Type} {e1 : α → List UInt8} {e2 : β → List UInt8} {e : γ → List UInt8} {f : RS → α × RS} {g : RS → β × RS} {h : RS → γ × RS} (mk : α → β → γ) (hf : Sound e1 f) (hg : Sound e2 g)
  (h1 : ∀ s, h s = (mk (f s).1 (g (f s).2).1, (g (f s).2).2)) (h2 : ∀ a b, e (mk a b) = e1 a ++ e2 b) : Sound e h := by
 intro s hs
 rw [h1] at hs ⊢
 obtain ⟨g1, g2⟩ := hg _ hs
 obtain ⟨f1, f2⟩ := hf _ g1
 exact ⟨f1, by rw [f2, g2, h2, List.append_assoc]⟩
theorem Full.two {α β γ : Type} {e1 : α → List UInt8} {e2 : β → List UInt8} {e : γ → List UInt8} {f : RS → α × RS} {g : RS → β × RS} {h : RS → γ × RS} {o1 : α → Prop} {o2 : β → Prop} (mk : α → β → γ) (hf : Full e1 o1 f) (hg : Full e2 o2 g)
  (h1 : ∀ s, h s = (mk (f s).1 (g (f s).2).1, (g (f s).2).2)) (h2 : ∀ a b, e (mk a b) = e1 a ++ e2 b) {ok : γ → Prop} (h3 : ∀ x, ok x → ∃ a b, x = mk a b ∧ o1 a ∧ o2 b) : Full e ok h := by
 intro x hx r b
 obtain ⟨u, v, rfl, hu, hv⟩ := h3 x hx
 rw [h1, h2, List.append_assoc, hf u hu, hg v hv]
theorem full_many {α : Type} {e : α → List UInt8} {ok : α → Prop} {f : RS → α × RS} (hf : Full e ok f) : ∀ l : List α, (∀ x ∈ l, ok x) → ∀ r b, rmany f l.length (l.flatMap e ++ r, b) = (l, (r, b))
 | [], _, r, b => rfl
 | x :: l, h, r, b => by
  rw [List.length_cons, rmany, List.flatMap_cons, List.append_assoc, hf x (h x (by simp)), full_many hf l (fun y hy => h y (by simp [hy]))]
theorem full_list {α : Type} {e : α → List UInt8} {ok : α → Prop} {f : RS → α × RS} {most : Int} (hm : most < 16777216) (hf : Full e ok f) : Full (fun l : List α => three l.length ++ l.flatMap e) (fun l => (l.length : Int) ≤ most ∧ ∀ x ∈ l, ok x) (rlist most f) := by
 intro l hl r b
 rw [rlist, List.append_assoc, full_num hm _ ⟨by omega, hl.1⟩]
 exact full_many hf l hl.2 r b
theorem full_text : Full textB (fun s => s.size ≤ 8) rtext := by
 intro s hs r b
 have e0 : s.data.toList.length = s.size := by rw [Array.length_toList]; rfl
 have e : rnum 8 (textB s ++ r, b) = ((s.size : Int), (s.data.toList ++ r, b)) := by
  rw [textB, List.append_assoc]
  exact full_num (by omega) _ ⟨by omega, by omega⟩ _ _
 rw [rtext, e]
 have e2 : ¬ (((s.data.toList ++ r).length : Int) < (s.size : Int)) := by
  rw [List.length_append]
  omega
 rw [if_neg e2, Int.toNat_natCast, ← e0, List.take_left, List.drop_left, bstr_list]
theorem nums_two (a b : Int) : nums [a, b] = three a ++ three b := by simp [nums]
theorem full_dot : Full (fun d : Dot => nums [d.site, d.count]) (fun d => (0 ≤ d.site ∧ d.site ≤ 5) ∧ 0 ≤ d.count ∧ d.count ≤ 1000) rdot := Full.two Dot.mk (full_num (most := 5) (by omega)) (full_num (most := 1000) (by omega)) (fun _ => rfl) (fun _ _ => nums_two _ _) (fun x h => ⟨_, _, rfl, h⟩)
theorem full_span : Full (fun d : Span => nums [d.fr, d.to]) (fun d => (0 ≤ d.fr ∧ d.fr ≤ 32) ∧ 0 ≤ d.to ∧ d.to ≤ 32) rspan := Full.two Span.mk (full_num (most := 32) (by omega)) (full_num (most := 32) (by omega)) (fun _ => rfl) (fun _ _ => nums_two _ _) (fun x h => ⟨_, _, rfl, h⟩)
theorem full_point : Full (fun d : Point => nums [d.tags, d.num]) (fun d => (0 ≤ d.tags ∧ d.tags ≤ 15) ∧ 0 ≤ d.num ∧ d.num ≤ 32) rpoint := Full.two Point.mk (full_num (most := 15) (by omega)) (full_num (most := 32) (by omega)) (fun _ => rfl) (fun _ _ => nums_two _ _) (fun x h => ⟨_, _, rfl, h⟩)
theorem full_cube : Full (fun d : Cube => nums [d.yes, d.no]) (fun d => (0 ≤ d.yes ∧ d.yes ≤ 15) ∧ 0 ≤ d.no ∧ d.no ≤ 15) rcube := Full.two Cube.mk (full_num (most := 15) (by omega)) (full_num (most := 15) (by omega)) (fun _ => rfl) (fun _ _ => nums_two _ _) (fun x h => ⟨_, _, rfl, h⟩)
theorem nums_flat (l : List Int) : l.flatMap three = nums l := rfl
theorem full_know : Full knowB KnowOk rknow := Full.two Know.mk (full_list (most := 5) (by omega) (full_num (most := 1000) (by omega))) (full_list (most := 60) (by omega) full_dot) (fun _ => rfl) (fun a b => by
 simp only [knowB, nums_flat, List.append_assoc]
 rfl) (fun k h => ⟨_, _, rfl, ⟨by have := h.vlen; omega, h.vec⟩, by have := h.mlen; omega, fun d hd => by have := dotOk_iff.1 (h.more d hd).1; omega⟩)
theorem boxB_eq (c : Cube) (l : List Span) : boxB ⟨c, l⟩ = nums [c.yes, c.no] ++ (three l.length ++ l.flatMap fun s => nums [s.fr, s.to]) := by
 simp [boxB, spansB, nums]
theorem full_box : Full boxB BoxOk rbox := Full.two Box.mk full_cube (full_list (most := 16) (by omega) full_span) (fun _ => rfl) boxB_eq (fun b h => by
 have := box_nums h
 exact ⟨_, _, rfl, ⟨this.1, this.2.1⟩, by omega, this.2.2.2⟩)
theorem partB_eq (f : List Box) (k : Know) : partB ⟨f, k⟩ = (three f.length ++ f.flatMap boxB) ++ knowB k := rfl
theorem full_part : Full partB PartOk rpart := Full.two Part.mk (full_list (most := 40) (by omega) full_box) full_know (fun _ => rfl) partB_eq (fun p h => by
 obtain ⟨h1, h2⟩ := filterCheck_ok h.f
 exact ⟨_, _, rfl, ⟨by omega, h2⟩, h.k⟩)
theorem full_gone : Full goneB GoneOk rgone := Full.two Gone.mk full_text full_know (fun _ => rfl) (fun _ _ => rfl) (fun _ h => ⟨_, _, rfl, (textB_len h.id).2, h.k⟩)
theorem verB_eq (v : Version) : verB v = textB v.id ++ (nums [v.dot.site, v.dot.count] ++ (nums [v.pt.tags, v.pt.num] ++ (three v.body ++ knowB v.past))) := by
 simp [verB, nums]
theorem full_ver : Full verB VerOk rver := by
 intro v h r b
 have h1 := dotOk_iff.1 h.dot
 have h2 : (0 ≤ v.pt.tags ∧ v.pt.tags ≤ 15) ∧ (0 ≤ v.pt.num ∧ v.pt.num ≤ 31) := by
  have h := h.pt
  simp only [pointOk, tagsOk, Bool.and_eq_true, decide_eq_true_eq] at h
  omega
 have h3 : 0 ≤ v.body ∧ v.body ≤ 1000000 := by simpa [bodyOk] using h.body
 rw [verB_eq]
 simp only [List.append_assoc]
 rw [rver, full_text v.id (textB_len h.id).2]
 simp only
 have e1 := full_dot v.dot ⟨by omega, by omega⟩ (nums [v.pt.tags, v.pt.num] ++ (three v.body ++ (knowB v.past ++ r))) b
 simp only at e1
 rw [e1]
 simp only
 have e2 := full_point v.pt ⟨h2.1, by omega⟩ (three v.body ++ (knowB v.past ++ r)) b
 simp only at e2
 rw [e2]
 simp only
 rw [full_num (by omega) v.body h3]
 simp only
 rw [full_know v.past h.k]
theorem bodyB_eq (b : Batch) : bodyB b = three b.site ++ (three b.stamp ++ ((three b.vers.length ++ b.vers.flatMap verB) ++ ((three b.gone.length ++ b.gone.flatMap goneB) ++ (three b.parts.length ++ b.parts.flatMap partB)))) := by
 simp [bodyB, nums]
theorem full_batch : Full bodyB WireOk rbatch := by
 intro v h r b
 rw [bodyB_eq]
 simp only [List.append_assoc]
 have h1 := h.s0
 have h2 := h.s4
 have h3 := h.t0
 have h4 := h.t1
 rw [rbatch, full_num (by omega) v.site ⟨by omega, by omega⟩]
 simp only
 rw [full_num (by omega) v.stamp ⟨by omega, by omega⟩]
 simp only
 have e1 := full_list (most := 60) (by omega) full_ver v.vers ⟨by have := h.lv; omega, h.vers⟩ (three v.gone.length ++ (v.gone.flatMap goneB ++ (three v.parts.length ++ (v.parts.flatMap partB ++ r)))) b
 simp only [List.append_assoc] at e1
 rw [e1]
 simp only
 have e2 := full_list (most := 60) (by omega) full_gone v.gone ⟨by have := h.lg; omega, h.gone⟩ (three v.parts.length ++ (v.parts.flatMap partB ++ r)) b
 simp only [List.append_assoc] at e2
 rw [e2]
 simp only
 have e3 := full_list (most := 30) (by omega) full_part v.parts ⟨by have := h.lp; omega, h.parts⟩ r b
 simp only [List.append_assoc] at e3
 rw [e3]
def noBatch : Batch := ⟨0, 0, [], [], []⟩
def readOk (x : Batch × RS) : Bool := !x.2.2 && (x.2.1.isEmpty && decide (wireErr x.1 = 0))
def tailSum (s : List UInt8) : Int := num3 (s.getD (s.length - 3) 0) (s.getD (s.length - 2) 0) (s.getD (s.length - 1) 0)
def bodyOf (s : List UInt8) : List UInt8 := s.take (s.length - 3)
def unpackErr (s : List UInt8) : Int :=
 if 20000 < s.length then 2 else if s.length < 3 then 7 else if sumB (bodyOf s) = tailSum s then (if readOk (rbatch (bodyOf s, false)) = true then 0 else 3) else 8
def unpackOf (s : List UInt8) : Batch := if unpackErr s = 0 then (rbatch (bodyOf s, false)).1 else noBatch
theorem split_tail (s : List UInt8) (h : 3 ≤ s.length) : s = bodyOf s ++ three (tailSum s) := by
 have e : s.drop (s.length - 3) = [s.getD (s.length - 3) 0, s.getD (s.length - 2) 0, s.getD (s.length - 1) 0] := by
  apply List.ext_getElem
  ·simp; omega
  ·intro i h1 h2
   simp only [List.length_cons, List.length_nil] at h2
   rw [List.getElem_drop]
   match i, h2 with
   | 0, _ => simp [List.getD, List.getElem?_eq_getElem (show s.length - 3 < s.length by omega)]
   | 1, _ => simp [List.getD, List.getElem?_eq_getElem (show s.length - 2 < s.length by omega), show s.length - 3 + 1 = s.length - 2 by omega]
   | 2, _ => simp [List.getD, List.getElem?_eq_getElem (show s.length - 1 < s.length by omega), show s.length - 3 + 2 = s.length - 1 by omega]
 rw [tailSum, three_num3, ← e, bodyOf, List.take_append_drop]
theorem bodyOf_pack (x : List UInt8) (n : Int) : bodyOf (x ++ three n) = x := by
 rw [bodyOf, List.length_append, three_len, Nat.add_sub_cancel, List.take_left]
theorem tail_pack (x : List UInt8) (n : Int) (h0 : 0 ≤ n) (h1 : n < 16777216) : tailSum (x ++ three n) = n := by
 have h := split_tail (x ++ three n) (by rw [List.length_append, three_len]; omega)
 rw [bodyOf_pack] at h
 have h2 := List.append_cancel_left h
 generalize e : tailSum (x ++ three n) = m at h2 ⊢
 have hm : 0 ≤ m ∧ m < 16777216 := by
  rw [← e]
  exact num3_lt _ _ _
 have h3 := num3_three h0 h1
 have h4 := num3_three hm.1 hm.2
 simp only [three, List.cons.injEq, and_true] at h2
 rw [← h2.1, ← h2.2.1, ← h2.2.2, h3] at h4
 exact h4.symm
theorem unpack_full {b : Batch} (h : wireErr b = 0) (hl : (packB b).length ≤ 20000) : unpackErr (packB b) = 0 ∧ unpackOf (packB b) = b := by
 have hs : 0 ≤ sumB (bodyB b) ∧ sumB (bodyB b) < 16777216 := by
  unfold sumB
  have : sumN (bodyB b) (bodyB b).length % 65521 < 65521 := Nat.mod_lt _ (by omega)
  omega
 have h3 : 3 ≤ (packB b).length := by rw [packB, List.length_append, three_len]; omega
 have e1 : bodyOf (packB b) = bodyB b := bodyOf_pack _ _
 have e2 : tailSum (packB b) = sumB (bodyB b) := tail_pack _ _ hs.1 hs.2
 have e3 : rbatch (bodyB b, false) = (b, ([], false)) := by
  have := full_batch b (wireErr_ok h) [] false
  rwa [List.append_nil] at this
 have e4 : unpackErr (packB b) = 0 := by
  rw [unpackErr, if_neg (by omega), if_neg (by omega), e1, e2, if_pos rfl, e3, if_pos (by simp [readOk, h])]
 exact ⟨e4, by rw [unpackOf, if_pos e4, e1, e3]⟩
end Go.Proofs.YtngbfdogiciahaaGreat
namespace Go.Proofs.YtngbfdogiciahaaGreat
open Go Go.RowKit
theorem num3_bits (a b c : UInt8) : bits .or .i64 (bits .or .i64 (IntKind.i64.wrap (IntKind.i64.wrap (a.toNat : Int) * 65536)) (IntKind.i64.wrap (IntKind.i64.wrap (b.toNat : Int) * 256))) (IntKind.i64.wrap (c.toNat : Int)) = num3 a b c := by
 have h1 := a.toNat_lt
 have h2 := b.toNat_lt
 have h3 := c.toNat_lt
 have w1 : IntKind.i64.wrap (IntKind.i64.wrap (a.toNat : Int) * 65536) = (a.toNat : Int) * 65536 := by
  rw [IntKind.wrap_i64, IntKind.wrap_i64]
  omega
 have w2 : IntKind.i64.wrap (IntKind.i64.wrap (b.toNat : Int) * 256) = (b.toNat : Int) * 256 := by
  rw [IntKind.wrap_i64, IntKind.wrap_i64]
  omega
 have w3 : IntKind.i64.wrap (c.toNat : Int) = (c.toNat : Int) := by
  rw [IntKind.wrap_i64]
  omega
 have hk : ∀ n : Int, 0 ≤ n → n < 2 ^ 60 → IntKind.i64.wrap n = n := fun n h h' => by
  rw [IntKind.wrap_i64]
  omega
 rw [w1, w2, w3, bits_join .i64 60 (by decide) hk 16 ((a.toNat : Int) * 65536) ((b.toNat : Int) * 256) (by omega) (by omega) (by omega) (by omega) (by omega) (by omega),
  bits_join .i64 60 (by decide) hk 8 ((a.toNat : Int) * 65536 + (b.toNat : Int) * 256) (c.toNat : Int) (by omega) (by omega) (by omega) (by omega) (by omega) (by omega)]
 unfold num3
 omega
theorem bstr_take (l : List UInt8) (k : Nat) : (bstr l).extract 0 k = bstr (l.take k) := by
 apply ByteArray.ext
 simp [bstr]
theorem bstr_drop (l : List UInt8) (k : Nat) : (bstr l).extract k (bstr l).size = bstr (l.drop k) := by
 apply ByteArray.ext
 simp [bstr, ByteArray.size, List.take_of_length_le]
theorem rnum_cons (most : Int) (a b c : UInt8) (r : List UInt8) (f : Bool) : rnum most (a :: b :: c :: r, f) = if most < num3 a b c then (0, (r, true)) else (num3 a b c, (r, f)) := rfl
theorem rnum_short (most : Int) (s : List UInt8) (f : Bool) (h : s.length < 3) : rnum most (s, f) = (0, (s, true)) := by
 match s, h with
 | [], _ => rfl
 | [_], _ => rfl
 | [_, _], _ => rfl
set_option maxRecDepth 100000 in
set_option maxHeartbeats 1000000 in
theorem rd_num (base p : Nat) (most : Int) (st : RS) (w : World) (hp : base ≤ p) (hb : Blk w p 220 #[.string (bstr st.1), .bool st.2]) :
  Calls Tryz.prog 130 #[.pointer (some ⟨p, 0, none⟩), .int .i64 most] w fun e w' => e = .returned (.int .i64 (rnum most st).1) ∧ Blk w' p 220 #[.string (bstr (rnum most st).2.1), .bool (rnum most st).2.2] ∧ Chg base [220] w w' := by
 obtain ⟨s, f⟩ := st
 simp only at hb
 have y0 := hb.cell (i := 0) (u := .string (bstr s)) rfl
 have y1 := hb.cell (i := 1) (u := .bool f) rfl
 have z0 := hb.frozen 0
 have z1 := hb.frozen 1
 have hsz := bstr_size s
 have HB := hid hb
 clear hb
 by_cases h3 : s.length < 3
 ·have hd : decide (((bstr s).size : Int) < 3) = true := decide_eq_true (by omega)
  have HR := hid (rnum_short most s f h3)
  clear hsz h3
  go_enter Tryz.func130, Tryz.ntmps130
  go_wp2_with fail
  go_ret
  rw [HR.out]
  exact ⟨rfl, HB.out.set 1 _, (Chg.refl w).setCell (p := ⟨p, 1, none⟩) HB.out.ty (by simp) _ hp⟩
 ·obtain ⟨a, b, c, r, rfl⟩ : ∃ a b c r, s = a :: b :: c :: r := by
   match s, h3 with
   | [], h => exact absurd (by simp) h
   | [_], h => exact absurd (by simp) h
   | [_, _], h => exact absurd (by simp) h
   | a :: b :: c :: r, _ => exact ⟨a, b, c, r, rfl⟩
  have hd : decide (((bstr (a :: b :: c :: r)).size : Int) < 3) = false := decide_eq_false (by omega)
  have HR := hid (rnum_cons most a b c r f)
  clear hsz h3
  go_enter Tryz.func130, Tryz.ntmps130
  go_wp2_with fail
  have hz0 : 0 < (bstr (a :: b :: c :: r)).size := by rw [bstr_size]; simp
  have hz1 : (1 : Int) < (bstr (a :: b :: c :: r)).size := by rw [bstr_size]; simp; omega
  have hz2 : (2 : Int) < (bstr (a :: b :: c :: r)).size := by rw [bstr_size]; simp; omega
  refine wp_region_class (fun w' => Ext w w' ∧ w'.cell? ⟨p, 0, none⟩ = some (.string (bstr (a :: b :: c :: r)))) (by kernel_rfl) (by kernel_rfl) ⟨(Ext.refl _).drew, (Ext.refl _).drew.cell y0⟩ ?_
  iterate 4
   refine wpQuiet_read (v := ?_) (by rfl) (fun w' hSw => ?_) ?_
   rotate_left
   ·try dsimp only at hSw
    go_simp <;> with_reducible rfl
   try simp only [pq]
  refine wpQuiet_read (v := .int .u8 a.toNat) (by rfl) (fun w' hSw => ?_) ?_
  ·go_simp
   rfl
  try simp only [pq]
  iterate 6
   refine wpQuiet_read (v := ?_) (by rfl) (fun w' hSw => ?_) ?_
   rotate_left
   ·try dsimp only at hSw
    go_simp <;> with_reducible rfl
   try simp only [pq]
  refine wpQuiet_read (v := .int .u8 b.toNat) (by rfl) (fun w' hSw => ?_) ?_
  ·go_simp
   rfl
  try simp only [pq]
  iterate 7
   refine wpQuiet_read (v := ?_) (by rfl) (fun w' hSw => ?_) ?_
   rotate_left
   ·try dsimp only at hSw
    go_simp <;> with_reducible rfl
   try simp only [pq]
  refine wpQuiet_read (v := .int .u8 c.toNat) (by rfl) (fun w' hSw => ?_) ?_
  ·go_simp
   rfl
  try simp only [pq]
  iterate 3
   refine wpQuiet_read (v := ?_) (by rfl) (fun w' hSw => ?_) ?_
   rotate_left
   ·try dsimp only at hSw
    go_simp <;> with_reducible rfl
   try simp only [pq]
  refine wpQuiet_nil ?_
  intro w' hw'
  obtain ⟨hx, y0'⟩ := hw'
  rw [num3_bits]
  have hb := HB.out.ext hx
  clear y0 y1 z0 z1 hz0 hz1 hz2 HB
  have y1 := hb.cell (i := 1) (u := .bool f) rfl
  have z0 := hb.frozen 0
  have z1 := hb.frozen 1
  have HB := hid hb
  clear hb
  have HX := hid hx
  clear hx
  have hs3 : ((3 : Int) ≤ ((bstr (a :: b :: c :: r)).size : Int)) := by rw [bstr_size]; simp; omega
  by_cases hm : most < num3 a b c
  ·have hd : decide (most < num3 a b c) = true := decide_eq_true hm
   rw [if_pos hm] at HR
   clear hm
   go_wp2_with fail
   go_ret
   rw [HR.out]
   refine ⟨rfl, ?_, ?_⟩
   ·have := (HB.out.set 0 (.string ((bstr (a :: b :: c :: r)).extract 3 (bstr (a :: b :: c :: r)).size))).set 1 (.bool true)
    rw [bstr_drop] at this
    rw [bstr_drop]
    exact this
   ·exact (((Chg.of_ext HX.out).setCell (p := ⟨p, 0, none⟩) HB.out.ty (by simp) _ hp).setCell (p := ⟨p, 1, none⟩) (HB.out.set 0 _).ty (by simp) _ hp)
  ·have hd : decide (most < num3 a b c) = false := decide_eq_false hm
   rw [if_neg hm] at HR
   clear hm
   go_wp2_with fail
   go_ret
   rw [HR.out]
   refine ⟨rfl, ?_, ?_⟩
   ·have := HB.out.set 0 (.string ((bstr (a :: b :: c :: r)).extract 3 (bstr (a :: b :: c :: r)).size))
    rw [bstr_drop] at this
    rw [bstr_drop]
    exact this
   ·exact (Chg.of_ext HX.out).setCell (p := ⟨p, 0, none⟩) HB.out.ty (by simp) _ hp
set_option maxRecDepth 100000 in
set_option maxHeartbeats 1000000 in
theorem rd_text (base p : Nat) (st : RS) (w : World) (hp : base ≤ p) (hb : Blk w p 220 #[.string (bstr st.1), .bool st.2]) :
  Calls Tryz.prog 131 #[.pointer (some ⟨p, 0, none⟩)] w fun e w' => e = .returned (.string (rtext st).1) ∧ Blk w' p 220 #[.string (bstr (rtext st).2.1), .bool (rtext st).2.2] ∧ Chg base [220] w w' := by
 have HR := hid (show rtext st = if ((rnum 8 st).2.1.length : Int) < (rnum 8 st).1 then (⟨#[]⟩, ((rnum 8 st).2.1, true)) else (bstr ((rnum 8 st).2.1.take (rnum 8 st).1.toNat), ((rnum 8 st).2.1.drop (rnum 8 st).1.toNat, (rnum 8 st).2.2)) from rfl)
 have HN := hid (rnum_range (most := 8) (by omega) st)
 go_enter Tryz.func131, Tryz.ntmps131
 go_wp2_with fail
 refine (rd_num base p 8 st w hp hb).mono ?_
 rintro e w1 ⟨rfl, hb1, hc1⟩
 obtain ⟨n, hn⟩ : ∃ n : Nat, (rnum 8 st).1 = (n : Int) := ⟨(rnum 8 st).1.toNat, by have := HN.out; omega⟩
 obtain ⟨s, hs⟩ : ∃ s, s = (rnum 8 st).2.1 := ⟨_, rfl⟩
 obtain ⟨f, hf⟩ : ∃ s, s = (rnum 8 st).2.2 := ⟨_, rfl⟩
 rw [hn] at HN HR ⊢
 rw [← hs, ← hf, Int.toNat_natCast] at HR
 rw [← hs, ← hf] at hb1
 have hn8 : (n : Int) ≤ 8 := HN.out.2
 have y0 := hb1.cell (i := 0) (u := .string (bstr s)) rfl
 have y1 := hb1.cell (i := 1) (u := .bool f) rfl
 have z0 := hb1.frozen 0
 have z1 := hb1.frozen 1
 have HB := hid hb1
 have HC := hid hc1
 have hsz : (bstr s).size = s.length := bstr_size s
 clear hb hb1 hc1 hn hs hf HN
 by_cases hl : (s.length : Int) < (n : Int)
 ·have hd : decide ((bstr s).size < n) = true := decide_eq_true (by omega)
  rw [if_pos hl] at HR
  clear hl hsz
  go_wp2_with fail
  go_ret
  rw [HR.out]
  exact ⟨rfl, HB.out.set 1 _, HC.out.setCell (p := ⟨p, 1, none⟩) HB.out.ty (by simp) _ hp⟩
 ·have hd : decide ((bstr s).size < n) = false := decide_eq_false (by omega)
  have hle : n ≤ (bstr s).size := by omega
  rw [if_neg hl] at HR
  clear hl hsz
  go_wp2_with fail
  go_ret
  rw [HR.out]
  refine ⟨?_, ?_, ?_⟩
  ·show _ = Ending.returned (Value.string (bstr (s.take n)))
   rw [← bstr_take]
   rfl
  ·have := HB.out.set 0 (.string ((bstr s).extract n (bstr s).size))
   rw [bstr_drop] at this
   show Blk _ _ _ #[.string (bstr (s.drop n)), .bool f]
   rw [← bstr_drop]
   rw [← bstr_drop] at this
   exact this
  ·exact HC.out.setCell (p := ⟨p, 0, none⟩) HB.out.ty (by simp) _ hp
end Go.Proofs.YtngbfdogiciahaaGreat
