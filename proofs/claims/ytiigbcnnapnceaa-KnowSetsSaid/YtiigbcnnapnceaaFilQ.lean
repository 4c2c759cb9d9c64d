/- Plain law on filters, second part: what the operations on two filters mean. No program in sight. -/
import Derived.Test.YtiigbcnnapnceaaFilP
namespace Go.Proofs.Ytiigbcnnapnceaa
open Go

def less32 (a b : Nat) : Nat := a &&& (4294967295 - b)
theorem less32_bit (a b i : Nat) (hi : i < 32) (hb : b < 4294967296) : (less32 a b).testBit i = (a.testBit i && !b.testBit i) := by
  rw [less32, Nat.testBit_and, not32_bit b i hi hb]
theorem filterTwo_ok {f g : List Box} (h : filterTwo f g = 0) : filterCheck f = 0 ∧ filterCheck g = 0 := by
  unfold filterTwo at h
  by_cases hf : filterCheck f = 0
  · rw [if_pos hf] at h; exact ⟨hf, h⟩
  · rw [if_neg hf] at h; exact absurd h hf
/-- an operation on words of 32 bits that goes bit by bit. -/
structure Bits (d : Nat → Nat → Nat) (p : Bool → Bool → Bool) : Prop where
  bit : ∀ a b i, a < 4294967296 → b < 4294967296 → i < 32 → (d a b).testBit i = p (a.testBit i) (b.testBit i)
  lt : ∀ a b, a < 4294967296 → b < 4294967296 → d a b < 4294967296
theorem bits_or : Bits (fun a b => a ||| b) (fun a b => a || b) := ⟨fun a b i _ _ _ => Nat.testBit_or a b i, fun _ _ ha hb => or32_lt ha hb⟩
theorem bits_and : Bits (fun a b => a &&& b) (fun a b => a && b) := ⟨fun a b i _ _ _ => Nat.testBit_and a b i, fun _ _ ha _ => and32_lt ha⟩
theorem bits_less : Bits less32 (fun a b => a && !b) := ⟨fun a b i _ hb hi => less32_bit a b i hi hb, fun _ _ ha _ => and32_lt ha⟩
theorem bits_xor : Bits (fun a b => a ^^^ b) (fun a b => a != b) := ⟨fun a b i _ _ _ => Nat.testBit_xor a b i, fun _ _ ha hb => xor32_lt ha hb⟩
structure OpSays (d : Nat → Nat → Nat) (p : Bool → Bool → Bool) (f g : List Box) : Prop where
  len : (filterOp d f g).length ≤ 16
  ok : filterCheck (filterOp d f g) = 0
  pts : ∀ i, i < 512 → pts (filterOp d f g) i = p (pts f i) (pts g i)
  nil : filterOp d f g = [] ↔ ∀ i, i < 512 → p (Go.Proofs.Ytiigbcnnapnceaa.pts f i) (Go.Proofs.Ytiigbcnnapnceaa.pts g i) = false
theorem filterOp_says {d : Nat → Nat → Nat} {p : Bool → Bool → Bool} (hd : Bits d p) {f g : List Box} (h : filterTwo f g = 0) : OpSays d p f g := by
  obtain ⟨hf, hg⟩ := filterTwo_ok h
  have kf := (filterCheck_ok hf).2
  have kg := (filterCheck_ok hg).2
  have e : filterOp d f g = mkBoxes fun t => d (tab f t) (tab g t) := by rw [filterOp, if_pos h]
  refine ⟨by rw [e]; exact mkBoxes_len _, by rw [e]; exact mkBoxes_check _, fun i hi => ?_, ?_⟩
  · rw [e, mkBoxes_pts _ i hi, hd.bit _ _ _ (tab_lt kf _) (tab_lt kg _) (by omega), pts_tab kf, pts_tab kg]
  · rw [e, mkBoxes_nil]
    constructor
    · intro hz i hi
      rw [pts_tab kf, pts_tab kg, ← hd.bit _ _ _ (tab_lt kf _) (tab_lt kg _) (show i % 32 < 32 by omega), hz (i / 32) (by omega)]
      simp
    · intro hz o ho
      refine eq32 (hd.lt _ _ (tab_lt kf _) (tab_lt kg _)) (by omega) fun n hn => ?_
      have h1 := hz (32 * o + n) (by omega)
      rw [pts_tab kf, pts_tab kg, show (32 * o + n) / 32 = o by omega, show (32 * o + n) % 32 = n by omega] at h1
      rw [hd.bit _ _ _ (tab_lt kf _) (tab_lt kg _) hn, h1]
      simp
theorem filterOp_err {d : Nat → Nat → Nat} {f g : List Box} (h : filterTwo f g ≠ 0) : filterOp d f g = [] := by rw [filterOp, if_neg h]
/-- filter.Within's and filter.Same's answer. -/
def filterNone (d : Nat → Nat → Nat) (f g : List Box) : Bool := decide (filterTwo f g = 0) && decide (filterOp d f g = [])
theorem filterNone_err {d : Nat → Nat → Nat} {f g : List Box} (h : filterTwo f g ≠ 0) : filterNone d f g = false := by simp [filterNone, h]
theorem filterNone_says {d : Nat → Nat → Nat} {p : Bool → Bool → Bool} (hd : Bits d p) {f g : List Box} (h : filterTwo f g = 0) : filterNone d f g = allTo (fun i => !p (pts f i) (pts g i)) 512 := by
  rw [filterNone, h, decide_eq_true rfl, Bool.true_and, Bool.eq_iff_iff, decide_eq_true_iff, (filterOp_says hd h).nil, allTo_iff]
  simp
theorem within_says {f g : List Box} (h : filterTwo f g = 0) : filterNone less32 f g = allTo (fun i => (pts f i || pts g i) == pts g i) 512 := by
  rw [filterNone_says bits_less h]
  congr 1
  funext i
  cases pts f i <;> cases pts g i <;> rfl
theorem same_says {f g : List Box} (h : filterTwo f g = 0) : filterNone (fun a b => a ^^^ b) f g = allTo (fun i => pts f i == pts g i) 512 := by
  rw [filterNone_says bits_xor h]
  congr 1
  funext i
  cases pts f i <;> cases pts g i <;> rfl
theorem count_pts {f : List Box} (h : filterCheck f = 0) : filterCount f = countTo (pts f) 512 := by
  rw [filterCount, if_pos h]
  exact (popSum_pts (tab f) (pts f) 16 fun i _ => pts_tab (filterCheck_ok h).2 i).symm

/-! every point -/
def everyF : List Box := [⟨⟨0, 0⟩, [⟨0, 32⟩]⟩]
theorem every_check : filterCheck everyF = 0 := by decide +kernel
theorem every_pts (i : Nat) (hi : i < 512) : pts everyF i = true := by
  have h1 : spanIn [⟨0, 32⟩] ((i % 32 : Nat) : Int) = true := by simp [spanIn]; omega
  have h2 : ∀ t, t < 16 → cubeIn 0 0 t = true := by decide
  simp only [everyF, pts, List.any_cons, List.any_nil, Bool.or_false, h1, Bool.true_and]
  exact h2 (i / 32) (by omega)
theorem count_true : ∀ n : Nat, countTo (fun _ => true) n = n
  | 0 => rfl
  | n + 1 => by rw [countTo, count_true n]; simp

/-! points -/
def pointOk (p : Point) : Bool := tagsOk p.tags && (decide (0 ≤ p.num) && decide (p.num ≤ 31))
theorem pointOk_iff {p : Point} : pointOk p = true ↔ 0 ≤ p.tags ∧ p.tags ≤ 15 ∧ 0 ≤ p.num ∧ p.num ≤ 31 := by
  rw [pointOk, Bool.and_eq_true, Bool.and_eq_true, tagsOk_iff, decide_eq_true_iff, decide_eq_true_iff]
  omega
/-- is a point in a filter? -/
def filterIn (f : List Box) (p : Point) : Bool := f.any fun b => boxIn b p.tags.toNat && spanIn b.spans p.num
theorem filterIn_pts (f : List Box) {p : Point} (h : pointOk p = true) : filterIn f p = pts f (32 * p.tags + p.num).toNat := by
  obtain ⟨h1, h2, h3, h4⟩ := pointOk_iff.1 h
  obtain ⟨t, ht⟩ := Int.eq_ofNat_of_zero_le h1
  obtain ⟨n, hn⟩ := Int.eq_ofNat_of_zero_le h3
  have e : (32 * p.tags + p.num).toNat = 32 * t + n := by omega
  rw [e, filterIn, pts, show (32 * t + n) / 32 = t by omega, show (32 * t + n) % 32 = n by omega, ht, hn]
  congr 1
  funext b
  rw [Int.toNat_natCast, Bool.and_comm]
def filterHasErr (f : List Box) (p : Point) : Int := if filterCheck f = 0 then (if pointOk p = true then 0 else 1) else filterCheck f
def filterHas (f : List Box) (p : Point) : Bool := decide (filterHasErr f p = 0) && filterIn f p

end Go.Proofs.Ytiigbcnnapnceaa
