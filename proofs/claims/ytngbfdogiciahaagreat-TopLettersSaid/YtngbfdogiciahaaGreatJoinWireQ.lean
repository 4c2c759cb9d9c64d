/- Several texts in one: data, readings, plain laws, walks. No condition. -/
import Derived.Test.YtngbfdogiciahaaGreatJoinKnZ
import Derived.Lib.AppendStr
import Derived.Test.YtngbfdogiciahaaGreatJoinWireD
import Derived.Test.YtngbfdogiciahaaGreatKnT
import Derived.Laws.BytesString
import Derived.Test.YtngbfdogiciahaaGreatBase
import Derived.Laws.BitsLemmas
import Derived.Test.YtngbfdogiciahaaGreatKnM
import Derived.Test.YtngbfdogiciahaaGreatJoinKnW
import Derived.Test.YtngbfdogiciahaaGreatFilB
import Derived.Test.YtngbfdogiciahaaGreatJoinShelfD
import Derived.Test.YtngbfdogiciahaaGreatJoinKnR
import Derived.Test.YtngbfdogiciahaaGreatRowV
namespace Go.Proofs.YtngbfdogiciahaaGreat
open Go Go.RowKit
def three (n : Int) : List UInt8 := [UInt8.ofNat (n.toNat / 65536), UInt8.ofNat (n.toNat / 256), UInt8.ofNat n.toNat]
def bstr (l : List UInt8) : ByteArray := ⟨l.toArray⟩
end Go.Proofs.YtngbfdogiciahaaGreat
namespace Go.Proofs.YtngbfdogiciahaaGreat
open Go Go.RowKit
def byteV (b : UInt8) : Value := .int .u8 b.toNat
def RByte (_ : World) (cs : List Value) (b : UInt8) : Prop := cs = [byteV b]
theorem RByte.mono {B : Nat} {ts : List TypeId} : Mono B ts RByte := fun _ _ _ _ _ h => h
theorem RByte.oneC : OneC RByte := by
 rintro w cs b rfl u hu
 simp at hu
 subst hu; rfl
abbrev OwnB (w : World) (base : Nat) (v : Value) (l : List UInt8) : Prop := Own RByte 1 5 w base v l
theorem OwnB.flat {xs : List (List Value)} {l : List UInt8} (hl : xs.length = l.length) (h : ∀ (i : Nat) (cs : List Value) (x : UInt8), xs[i]? = some cs → l[i]? = some x → cs.length = 1 ∧ cs = [byteV x]) : xs.flatten = l.map byteV := by
 induction xs generalizing l with
 | nil =>
  obtain rfl : l = [] := List.eq_nil_of_length_eq_zero hl.symm
  rfl
 | cons y ys ih =>
  match l, hl with
  | x :: r, hl =>
   have h0 := (h 0 y x rfl rfl).2
   subst h0
   rw [List.flatten_cons, ih (l := r) (by simpa using hl) (fun i cs z h1 h2 => h (i + 1) cs z (by simpa using h1) (by simpa using h2))]
   rfl
theorem OwnB.row {w : World} {base : Nat} {v : Value} {l : List UInt8} (h : OwnB w base v l) : w.ownsRow base 5 1 v l.length (l.map byteV) := by
 obtain ⟨xs, hl, hR, ho⟩ := h
 rwa [OwnB.flat hl hR] at ho
end Go.Proofs.YtngbfdogiciahaaGreat
namespace Go.Proofs.YtngbfdogiciahaaGreat
open Go Go.RowKit
def Wr (base p : Nat) (w : World) (out : List UInt8) : Prop := base ≤ p ∧ ∃ v, Blk w p 213 #[v] ∧ OwnB w base v out
theorem Wr.ext {base p : Nat} {w w' : World} {out : List UInt8} (h : Wr base p w out) (x : Ext w w') : Wr base p w' out := by
 obtain ⟨h1, v, h2, h3⟩ := h
 exact ⟨h1, v, h2.ext x, h3.ext (B := 0) RByte.mono x⟩
theorem Wr.le {base p : Nat} {w : World} {out : List UInt8} (h : Wr base p w out) : base ≤ w.heap.size := by
 obtain ⟨h1, v, h2, _⟩ := h
 exact Nat.le_of_lt (Nat.lt_of_le_of_lt h1 h2.lt)
end Go.Proofs.YtngbfdogiciahaaGreat
namespace Go.Proofs.YtngbfdogiciahaaGreat
open Go Go.RowKit
abbrev RS := List UInt8 × Bool
def num3 (a b c : UInt8) : Int := ((a.toNat * 65536 + b.toNat * 256 + c.toNat : Nat) : Int)
def rnum (most : Int) (s : RS) : Int × RS :=
 match s.1 with
 | a :: b :: c :: r => if most < num3 a b c then (0, (r, true)) else (num3 a b c, (r, s.2))
 | _ => (0, (s.1, true))
def rtext (s : RS) : ByteArray × RS :=
 if ((rnum 8 s).2.1.length : Int) < (rnum 8 s).1 then (⟨#[]⟩, ((rnum 8 s).2.1, true))
 else (bstr ((rnum 8 s).2.1.take (rnum 8 s).1.toNat), ((rnum 8 s).2.1.drop (rnum 8 s).1.toNat, (rnum 8 s).2.2))
def rmany {α : Type} (f : RS → α × RS) : Nat → RS → List α × RS
 | 0, s => ([], s)
 | n + 1, s => ((f s).1 :: (rmany f n (f s).2).1, (rmany f n (f s).2).2)
def rlist {α : Type} (most : Int) (f : RS → α × RS) (s : RS) : List α × RS := rmany f (rnum most s).1.toNat (rnum most s).2
def rdot (s : RS) : Dot × RS := (⟨(rnum 5 s).1, (rnum 1000 (rnum 5 s).2).1⟩, (rnum 1000 (rnum 5 s).2).2)
def rspan (s : RS) : Span × RS := (⟨(rnum 32 s).1, (rnum 32 (rnum 32 s).2).1⟩, (rnum 32 (rnum 32 s).2).2)
def rknow (s : RS) : Know × RS := (⟨(rlist 5 (rnum 1000) s).1, (rlist 60 rdot (rlist 5 (rnum 1000) s).2).1⟩, (rlist 60 rdot (rlist 5 (rnum 1000) s).2).2)
def rcube (s : RS) : Cube × RS := (⟨(rnum 15 s).1, (rnum 15 (rnum 15 s).2).1⟩, (rnum 15 (rnum 15 s).2).2)
def rbox (s : RS) : Box × RS := (⟨(rcube s).1, (rlist 16 rspan (rcube s).2).1⟩, (rlist 16 rspan (rcube s).2).2)
def rpoint (s : RS) : Point × RS := (⟨(rnum 15 s).1, (rnum 32 (rnum 15 s).2).1⟩, (rnum 32 (rnum 15 s).2).2)
def rver (s : RS) : Version × RS :=
 let t := rtext s
 let d := rdot t.2
 let p := rpoint d.2
 let b := rnum 1000000 p.2
 let k := rknow b.2
 (⟨t.1, d.1, p.1, b.1, k.1⟩, k.2)
def rgone (s : RS) : Gone × RS := (⟨(rtext s).1, (rknow (rtext s).2).1⟩, (rknow (rtext s).2).2)
def rpart (s : RS) : Part × RS := (⟨(rlist 40 rbox s).1, (rknow (rlist 40 rbox s).2).1⟩, (rknow (rlist 40 rbox s).2).2)
def Sound {α : Type} (enc : α → List UInt8) (f : RS → α × RS) : Prop := ∀ s, (f s).2.2 = false → s.2 = false ∧ s.1 = enc (f s).1 ++ (f s).2.1
def Full {α : Type} (enc : α → List UInt8) (ok : α → Prop) (f : RS → α × RS) : Prop := ∀ x, ok x → ∀ r b, f (enc x ++ r, b) = (x, (r, b))
theorem Sound.two {α β γ : Type} {e1 : α → List UInt8} {e2 : β → List UInt8} {e : γ → List UInt8} {f : RS → α × RS} {g : RS → β × RS} {h : RS → γ × RS} (mk : α → β → γ) (hf : Sound e1 f) (hg : Sound e2 g)
  (h1 : ∀ s, h s = (mk (f s).1 (g (f s).2).1, (g (f s).2).2)) (h2 : ∀ a b, e (mk a b) = e1 a ++ e2 b) : Sound e h := by
 intro s hs
 rw [h1] at hs ⊢
 obtain ⟨g1, g2⟩ := hg _ hs
 obtain ⟨f1, f2⟩ := hf _ g1
 exact ⟨f1, by rw [f2, g2, h2, List.append_assoc]⟩
theorem Full.two {α β γ : Type} {e1 : α → List UInt8} {e2 : β → List UInt8} {e : γ → List UInt8} {f : RS → α × RS} {g : RS → β × RS} {h : RS → γ × RS} {o1 : α → Prop} {o2 : β → Prop} (mk : α → β → γ) (hf : Full e1 o1 f) (hg : Full e2 o2 g)
  (h1 : ∀ s, h s = (mk (f s).1 (g (f s).2).1, (g (f s).2).2)) (h2 : ∀ a b, e (mk a b) = e1 a ++ e2 b) {ok : γ → Prop} (h3 : ∀ x, ok x → ∃ a b, x = mk a b ∧ o1 a ∧ o2 b) : Full e ok h := by
 intro x hx r b
 obtain ⟨u, v, rfl, hu, hv⟩ := h3 x hx
 rw [h1, h2, List.append_assoc, hf u hu, hg v hv]
def noBatch : Batch := ⟨0, 0, [], [], []⟩
end Go.Proofs.YtngbfdogiciahaaGreat
namespace Go.Proofs.YtngbfdogiciahaaGreat
open Go Go.RowKit
theorem Chg.below {B : Nat} {ts : List TypeId} {a b c : World} (h : Chg B ts a b) (k : Below a.heap.size b c) : Chg B ts a c :=
 ⟨(Below.os k).trans h.os, (Below.tape k).trans h.tape, (Below.output k).trans h.output, Nat.le_trans h.size (Below.size k), fun i hi hc => (Below.block k i hi).trans (h.block i hi hc)⟩
end Go.Proofs.YtngbfdogiciahaaGreat
namespace Go.Proofs.YtngbfdogiciahaaGreat
open Go Go.RowKit
theorem ei_gone : ElemInfo Tryz.prog 88 103 3 64 := ElemInfo.mk_ (z := .agg #[.string ⟨#[]⟩, .slice none 0 0, .slice none 0 0]) Tryz.underlying88 (by kernel_rfl) rfl (by decide)
def IsB (B : Nat) (w : World) (v : Value) (b : Batch) : Prop := ∃ Ax cx Ag cg Ap cp, v = .agg #[.int .i64 b.site, .int .i64 b.stamp, .slice Ax b.vers.length cx, .slice Ag b.gone.length cg, .slice Ap b.parts.length cp] ∧ InB B w Ax cx Ag cg Ap cp b
theorem IsB.zero {B : Nat} {w : World} : IsB B w (.agg #[.int .i64 0, .int .i64 0, .slice none 0 0, .slice none 0 0, .slice none 0 0]) noBatch := ⟨none, 0, none, 0, none, 0, rfl, InB.empty⟩
end Go.Proofs.YtngbfdogiciahaaGreat
