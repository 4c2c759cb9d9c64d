/- Plain law on batches as bytes: how a batch is written. No program in sight. -/
import Derived.Test.YtmedmfjhpabfdaaWireP
import Derived.Lib.AppendStr
namespace Go.Proofs.Ytmedmfjhpabfdaa
open Go Go.RowKit

/-- three bytes of a number, the highest first. -/
def three (n : Int) : List UInt8 := [UInt8.ofNat (n.toNat / 65536), UInt8.ofNat (n.toNat / 256), UInt8.ofNat n.toNat]
theorem three_len (n : Int) : (three n).length = 3 := rfl
/-- a string of bytes. -/
def bstr (l : List UInt8) : ByteArray := ⟨l.toArray⟩
theorem bstr_size (l : List UInt8) : (bstr l).size = l.length := by simp [bstr, ByteArray.size]
theorem bstr_list (s : ByteArray) : bstr s.data.toList = s := by
  obtain ⟨x⟩ := s
  simp [bstr]
theorem bstr_data (l : List UInt8) : (bstr l).data.toList = l := by simp [bstr]
theorem bstr_append (a b : List UInt8) : bstr a ++ bstr b = bstr (a ++ b) := by
  apply ByteArray.ext
  simp [bstr]
def nums (l : List Int) : List UInt8 := l.flatMap three
theorem nums_len (l : List Int) : (nums l).length = 3 * l.length := by
  induction l with
  | nil => rfl
  | cons a r ih => simp only [nums, List.flatMap_cons, List.length_append, three_len, List.length_cons] at ih ⊢; omega
theorem nums_cons (n : Int) (l : List Int) : nums (n :: l) = three n ++ nums l := rfl
theorem nums_append (a b : List Int) : nums (a ++ b) = nums a ++ nums b := by simp [nums]
theorem nums_take (l : List Int) (k : Nat) (hk : k < l.length) : nums (l.take (k + 1)) = nums (l.take k) ++ three l[k] := by
  rw [List.take_succ_eq_append_getElem hk, nums_append]
  simp [nums]
def dotsB (l : List Dot) : List UInt8 := l.flatMap fun d => nums [d.site, d.count]
def knowB (k : Know) : List UInt8 := three k.vec.length ++ nums k.vec ++ three k.more.length ++ dotsB k.more
def textB (s : ByteArray) : List UInt8 := three s.size ++ s.data.toList
def verB (v : Version) : List UInt8 := textB v.id ++ nums [v.dot.site, v.dot.count, v.pt.tags, v.pt.num, v.body] ++ knowB v.past
def goneB (g : Gone) : List UInt8 := textB g.id ++ knowB g.past
def spansB (l : List Span) : List UInt8 := l.flatMap fun s => nums [s.fr, s.to]
def boxB (b : Box) : List UInt8 := nums [b.cube.yes, b.cube.no, (b.spans.length : Int)] ++ spansB b.spans
def boxesB (l : List Box) : List UInt8 := l.flatMap boxB
def partB (p : Part) : List UInt8 := three p.filter.length ++ boxesB p.filter ++ knowB p.know
def bodyB (b : Batch) : List UInt8 := nums [b.site, b.stamp, (b.vers.length : Int)] ++ b.vers.flatMap verB ++ three b.gone.length ++ b.gone.flatMap goneB ++ three b.parts.length ++ b.parts.flatMap partB
/-- of all bytes, each as often as its place tells. -/
def sumN (l : List UInt8) : Nat → Nat
  | 0 => 0
  | k + 1 => sumN l k + (k + 1) * (l.getD k 0).toNat
def sumB (l : List UInt8) : Int := ((sumN l l.length % 65521 : Nat) : Int)
def packB (b : Batch) : List UInt8 := bodyB b ++ three (sumB (bodyB b))

theorem flat_take {α : Type} (f : α → List UInt8) (l : List α) (k : Nat) (hk : k < l.length) : (l.take (k + 1)).flatMap f = (l.take k).flatMap f ++ f l[k] := by
  rw [List.take_succ_eq_append_getElem hk, List.flatMap_append]
  simp
theorem flat_len {α : Type} (f : α → List UInt8) (m : Nat) : ∀ l : List α, (∀ x ∈ l, (f x).length ≤ m) → (l.flatMap f).length ≤ m * l.length
  | [], _ => by simp
  | x :: r, h => by
    have h1 := h x (by simp)
    have h2 := flat_len f m r fun y hy => h y (by simp [hy])
    rw [List.flatMap_cons, List.length_append, List.length_cons, Nat.mul_succ]
    omega
theorem dotsB_len (l : List Dot) : (dotsB l).length ≤ 6 * l.length := flat_len _ 6 l fun _ _ => by rw [nums_len]; simp
theorem spansB_len (l : List Span) : (spansB l).length ≤ 6 * l.length := flat_len _ 6 l fun _ _ => by rw [nums_len]; simp
theorem knowB_len {k : Know} (h : KnowOk k) : (knowB k).length ≤ 400 := by
  have h1 := h.vlen
  have h2 := h.mlen
  have h3 := dotsB_len k.more
  simp only [knowB, List.length_append, three_len, nums_len]
  omega
theorem textB_len {s : ByteArray} (h : idOk s = true) : (textB s).length ≤ 11 ∧ s.size ≤ 8 := by
  simp only [idOk, Bool.and_eq_true, decide_eq_true_eq] at h
  have h1 := h.1.2
  refine ⟨?_, h1⟩
  rw [textB, List.length_append, three_len, Array.length_toList]
  have : s.data.size = s.size := rfl
  omega
theorem verB_len {v : Version} (h : VerOk v) : (verB v).length ≤ 430 := by
  have h1 := (textB_len h.id).1
  have h2 := knowB_len h.k
  simp only [verB, List.length_append, nums_len, List.length_cons, List.length_nil]
  omega
theorem goneB_len {g : Gone} (h : GoneOk g) : (goneB g).length ≤ 430 := by
  have h1 := (textB_len h.id).1
  have h2 := knowB_len h.k
  simp only [goneB, List.length_append]
  omega
theorem box_nums {b : Box} (h : BoxOk b) : (0 ≤ b.cube.yes ∧ b.cube.yes ≤ 15) ∧ (0 ≤ b.cube.no ∧ b.cube.no ≤ 15) ∧ b.spans.length ≤ 16 ∧ ∀ s ∈ b.spans, (0 ≤ s.fr ∧ s.fr ≤ 32) ∧ (0 ≤ s.to ∧ s.to ≤ 32) := by
  obtain ⟨h1, h2⟩ := h
  have hc : tagsOk b.cube.yes = true ∧ tagsOk b.cube.no = true := by
    unfold cubeCheck at h1
    by_cases hc : tagsOk b.cube.yes = true ∧ tagsOk b.cube.no = true
    · exact hc
    · rw [if_neg hc] at h1; cases h1
  obtain ⟨c1, c2⟩ := hc
  unfold tagsOk at c1 c2
  have hl : b.spans.length ≤ 16 := by
    unfold spanCheck at h2
    by_cases hl : 16 < b.spans.length
    · rw [if_pos hl] at h2; cases h2
    · omega
  refine ⟨of_decide_eq_true c1, of_decide_eq_true c2, hl, fun s hs => ?_⟩
  have := (spanCheck_ok h2).1 s hs
  omega
theorem boxB_len {b : Box} (h : BoxOk b) : (boxB b).length ≤ 105 := by
  have h1 := (box_nums h).2.2.1
  have h2 := spansB_len b.spans
  simp only [boxB, List.length_append, nums_len, List.length_cons, List.length_nil]
  omega
theorem boxesB_len {l : List Box} (h : ∀ b ∈ l, BoxOk b) : (boxesB l).length ≤ 105 * l.length := flat_len _ 105 l fun b hb => boxB_len (h b hb)
theorem partB_len {p : Part} (h : PartOk p) : (partB p).length ≤ 4603 := by
  obtain ⟨h1, h2⟩ := filterCheck_ok h.f
  have h3 := boxesB_len h2
  have h4 := knowB_len h.k
  simp only [partB, List.length_append, three_len]
  omega
theorem take_len {α : Type} (f : α → List UInt8) (m : Nat) (l : List α) (h : ∀ x ∈ l, (f x).length ≤ m) (k : Nat) : ((l.take k).flatMap f).length ≤ m * l.length := by
  have h1 := flat_len f m (l.take k) fun x hx => h x (List.mem_of_mem_take hx)
  have h2 : (l.take k).length ≤ l.length := by rw [List.length_take]; omega
  exact Nat.le_trans h1 (Nat.mul_le_mul_left m h2)
end Go.Proofs.Ytmedmfjhpabfdaa
