/- Several texts in one: data, readings, plain laws, walks. No condition. -/
import Derived.Test.YtngbfdogiciahaaGreatJoinTopF
import Derived.Test.YtngbfdogiciahaaGreatJoinKnU
import Derived.Test.YtngbfdogiciahaaGreatProg
import Derived.Test.YtngbfdogiciahaaGreatBase
import Derived.Deep.RegionLaw
import Derived.Deep.LoopGhost
import Derived.Shelf.RegionOpenPlain
namespace Go.Proofs.YtngbfdogiciahaaGreat
open Go Go.RowKit
theorem Sl.cellC {α : Type} {B : Nat} {e : TypeId} {ts : List TypeId} {R : World → List Value → α → Prop} {w : World} {A : Option Addr} {l : List α} (he : e ∉ ts) (h : Sl B e R 1 w A l) {i : Nat} (hi : i < l.length) :
  ∃ b off u, A = some ⟨b, off, none⟩ ∧ b < w.heap.size ∧ R w [u] l[i] ∧ ∀ w', Chg B ts w w' → w'.cell? ⟨b, off + i, none⟩ = some u := by
 obtain ⟨b, off, cs, hA, hb, hk, hl, hc, hR⟩ := h i _ (List.getElem?_eq_getElem hi)
 match cs, hl with
 | [u], _ =>
  have h0 := hc 0 u rfl
  rw [Nat.mul_one, Nat.add_zero] at h0
  refine ⟨b, off, u, hA, hb, hR, fun w' x => x.cell ?_ h0⟩
  rcases hk with hk | hk
  ·exact .inl hk
  ·refine .inr fun t ht h2 => ?_
   rw [hk] at h2
   injection h2 with h2
   exact he (h2 ▸ ht)
theorem Sl.intC {B : Nat} {w : World} {A : Option Addr} {l : List Int} (h : SlInts B w A l) {i : Nat} (hi : i < l.length) : ∃ b off, A = some ⟨b, off, none⟩ ∧ b < w.heap.size ∧ ∀ w', Chg B [159] w w' → w'.cell? ⟨b, off + i, none⟩ = some (.int .i64 l[i]) := by
 obtain ⟨b, off, u, h1, h2, h3, h4⟩ := h.cellC (ts := [159]) (by decide) hi
 injection h3 with h3 _
 exact ⟨b, off, h1, h2, fun w' x => h3 ▸ h4 w' x⟩
def wN (n m : Int) : Nat := (IntKind.u64.wrap n % m).toNat
theorem wN_lt (n : Int) {m : Nat} (h0 : 0 < m) : wN n (m : Int) < m := by
 unfold wN
 have h2 := Int.emod_nonneg (IntKind.u64.wrap n) (show ((m : Nat) : Int) ≠ 0 by omega)
 have h3 := Int.emod_lt_of_pos (IntKind.u64.wrap n) (show (0 : Int) < (m : Int) by omega)
 omega
theorem keep_within (n : Int) (m : Int) (h0 : 0 < m) (h1 : m ≤ 1000) (w : World) : Calls Tryz.prog 13 #[.int .i64 n, .int .i64 m] w fun e w' => e = .returned (.int .i64 (wN n m : Nat)) ∧ w' = w := by
 have hm0 : (m == 0) = false := by rw [beq_eq_false_iff_ne]; omega
 have hm1 : ¬ m = 0 := by omega
 have hw1 : IntKind.u64.wrap m = m := by rw [IntKind.wrap_u64]; omega
 obtain ⟨N, hN⟩ : ∃ N, N = IntKind.u64.wrap n := ⟨_, rfl⟩
 have HN := hid hN
 go_enter Tryz.func13, Tryz.ntmps13
 go_wp2_with fail
 go_ret
 have h2 := Int.emod_nonneg N hm1
 have h3 := Int.emod_lt_of_pos N h0
 have h4 : wrap64 (N % m) = N % m := by unfold wrap64; omega
 refine ⟨?_, rfl⟩
 have h5 : N.tmod m = N % m := Int.tmod_eq_emod_of_nonneg (by rw [HN.out, IntKind.wrap_u64]; omega)
 show Ending.returned (Value.int .i64 (wrap64 ((IntKind.u64.wrap n).tmod m))) = _
 unfold wN
 rw [← HN.out, h5, h4, Int.toNat_of_nonneg h2]
def nm : Nat → ByteArray
 | 0 => ⟨#[97]⟩
 | 1 => ⟨#[98]⟩
 | _ => ⟨#[99]⟩
theorem nm_ok (k : Nat) : idOk (nm k) = true ∧ (nm k).size ≤ maxLen := by
 unfold nm
 split <;> exact ⟨by decide +kernel, by decide +kernel⟩
theorem isSite_z8 {B : Nat} {w w' : World} {r b8 : Nat} {s : SiteS} (h : IsSite B w r s) (hok : SiteOk s) (z : Z8 B w w' b8) (hne : r ≠ b8) : IsSite B w' r s := by
 obtain ⟨Af, cf, Ax, cx, Ap, cp, h⟩ := h
 exact ⟨Af, cf, Ax, cx, Ap, cp, h.z8 hok z hne⟩
end Go.Proofs.YtngbfdogiciahaaGreat
namespace Go.Proofs.YtngbfdogiciahaaGreat
open Go Go.RowKit
section
open Go.ChangeShapes Go.WideShapes Go.Deep Go.Joins
variable {H : Type} {enc : TypeId × Value → H} {w : World} {spare : Nat → Bool} {held : Bool}
theorem cells_fil : Tryz.prog.cellsOf 30 = 1 := by kernel_rfl
theorem cells_vec : Tryz.prog.cellsOf 32 = 1 := by kernel_rfl
theorem fil_elem (n : Nat) (cs : List Value) (y : DataW H × List MemPlace) (_hl : cs.length = 1) (h : DataW.trod enc Tryz.prog w 0 spare held n 30 cs = some y) : ∃ z : List Box, RBoxes w.heap.size w cs z ∧ True := by
 obtain ⟨v, l, h1, h2, _⟩ := isSl_of_trod (P := Tryz.prog) (R := RBox w.heap.size) (Q := fun _ => True) Tryz.underlying30 cells_box (by omega) box_elem h
 exact ⟨l, ⟨v, h1, h2⟩, trivial⟩
theorem vec_elem (n : Nat) (cs : List Value) (y : DataW H × List MemPlace) (_hl : cs.length = 1) (h : DataW.trod enc Tryz.prog w 0 spare held n 32 cs = some y) : ∃ z : List Int, RVec w.heap.size w cs z ∧ True := by
 obtain ⟨v, l, h1, h2, _⟩ := isSl_of_trod (P := Tryz.prog) (R := RInt) (Q := fun _ => True) Tryz.underlying32 cells_int Nat.one_pos (fun _ _ _ _ h => by obtain ⟨z, hz, _⟩ := int_cell Tryz.underlying3 h; exact ⟨z, hz, trivial⟩) h
 exact ⟨l, ⟨v, h1, h2⟩, trivial⟩
theorem open_fils {A : Option Addr} {len cap : Nat} {d : DataW H} {p : List MemPlace} (h : DataW.Trod enc Tryz.prog w 0 spare held 22 (.slice A len cap) d p) :
  ∃ l : List (List Box), l.length = len ∧ len ≤ cap ∧ SlFils w.heap.size w A l ∧ True := by
 obtain ⟨fuel, hf⟩ := h
 obtain ⟨l, hl, h1, h2, h3, _⟩ := sl_of_trod (R := RBoxes w.heap.size) (Q := fun _ => True) Tryz.underlying22 cells_fil Nat.one_pos fil_elem hf
 exact ⟨l, hl, by omega, h3, trivial⟩
theorem open_vecs {A : Option Addr} {len cap : Nat} {d : DataW H} {p : List MemPlace} (h : DataW.Trod enc Tryz.prog w 0 spare held 23 (.slice A len cap) d p) :
  ∃ l : List (List Int), l.length = len ∧ len ≤ cap ∧ SlVecs w.heap.size w A l ∧ True := by
 obtain ⟨fuel, hf⟩ := h
 obtain ⟨l, hl, h1, h2, h3, _⟩ := sl_of_trod (R := RVec w.heap.size) (Q := fun _ => True) Tryz.underlying23 cells_vec Nat.one_pos vec_elem hf
 exact ⟨l, hl, by omega, h3, trivial⟩
end
def AllF (f : List Box) : Prop := ∀ p, pointOk p = true → filterIn f p = true
theorem allF_every : AllF (plainF everyF) := fun _ hp => by rw [filterIn_plain hp everyF_ok]; exact filterIn_every hp
def Got (H : List Version) (L : List SiteS) (n k : Nat) : Prop := ∃ g, L[n]? = some g ∧ AllF g.filter ∧ ∀ v ∈ H, ∀ i : Nat, i < k → v.dot.site = (i : Int) → HasOr H g v
section
variable {Fok : Nat → List Box → Prop} {b : Int} {M : Int → Int} {H : List Version} {L : List SiteS}
theorem got_zero {n : Nat} {g : SiteS} (hg : L[n]? = some g) (hF : AllF g.filter) : Got H L n 0 := ⟨g, hg, hF, fun _ _ i hi => by omega⟩
theorem got_step (h : TopJ Fok b M H L) {n k : Nat} (hG : Got H L n k) {g x : SiteS} (hg : L[n]? = some g) (hx : L[k]? = some x) (he : takeErr g (giveB x (askS g)) = 0) : Got H (L.set n (takeS g (giveB x (askS g)))) n (k + 1) := by
 obtain ⟨g', hg', hF, hh⟩ := hG
 rw [hg] at hg'
 injection hg' with hg'
 subst hg'
 obtain ⟨_, hst⟩ := h.asked hg hx
 obtain ⟨a1, a2, _, _⟩ := h.inv n g hg
 obtain ⟨b1, b2, _, _⟩ := h.inv k x hx
 refine ⟨_, List.getElem?_set_self (List.getElem?_eq_some_iff.1 hg).1, by rw [hst.filter]; exact hF, fun v hv i hi hd => ?_⟩
 by_cases e : i = k
 ·subst e
  exact asked_has h.hist b1 a1 he hv (own_has h.hist b1 hv (by rw [hd, b2])) (hF _ (h.hist.ok v hv).pt)
 ·exact hst.has v hv (hh v hv i (by omega) hd)
theorem got_full (h : TopJ Fok b M H L) {n : Nat} (hl : L.length = n + 1) (hG : Got H L n n) {g : SiteS} (hg : L[n]? = some g) : FullH H g := by
 obtain ⟨g', hg', hF, hh⟩ := hG
 rw [hg] at hg'
 injection hg' with hg'
 subst hg'
 obtain ⟨a1, a2, _, _⟩ := h.inv n g hg
 intro v hv
 obtain ⟨i, hi, hd⟩ := h.home v hv
 by_cases e : i = n
 ·exact own_has h.hist a1 hv (by rw [hd, a2, e])
 ·exact hh v hv i (by omega) hd
theorem asked_all (h : TopJ Fok b M H L) {n k : Nat} {g x : SiteS} (hg : L[n]? = some g) (hf : FullH H g) (hx : L[k]? = some x) (he : takeErr x (giveB g (askS x)) = 0) : (takeS x (giveB g (askS x))).shelf = wantedL g.shelf (takeS x (giveB g (askS x))).filter (k : Int) := by
 obtain ⟨a1, _⟩ := h.inv n g hg
 obtain ⟨b1, b2, _⟩ := h.inv k x hx
 obtain ⟨_, hst⟩ := h.asked hx hg
 rw [asked_wanted h.hist a1 b1 hf he, hst.filter, b2]
end
end Go.Proofs.YtngbfdogiciahaaGreat
namespace Go.Proofs.YtngbfdogiciahaaGreat
open Go Go.RowKit
inductive LetS where
 | ask (tw : Nat) (a : AskS)
 | bat (tw : Nat) (b : Batch)
def LetS.tw : LetS → Nat
 | .ask t _ => t
 | .bat t _ => t
def LetS.isB : LetS → Bool
 | .ask _ _ => false
 | .bat _ _ => true
def LetI (M : Int → Int) (H : List Version) (L : List SiteS) : LetS → Prop
 | .ask tw a => tw < L.length ∧ ∃ (i : Nat) (s : SiteS), L[i]? = some s ∧ AskI M H s a
 | .bat tw b => ∃ s, L[tw]? = some s ∧ BatI M H s b
section
variable {Fok : Nat → List Box → Prop} {k : Int} {M M' : Int → Int} {H H' : List Version} {L L' : List SiteS} {W : List LetS}
theorem LetI.carry {x : LetS} (h : LetI M H L x) (hl : L'.length = L.length) (hc : ∀ (i : Nat) (s : SiteS), L[i]? = some s → ∃ t, L'[i]? = some t ∧ (∀ a, AskI M H s a → AskI M' H' t a) ∧ (∀ b, BatI M H s b → BatI M' H' t b)) : LetI M' H' L' x := by
 cases x with
 | ask tw a =>
  obtain ⟨h1, i, s, h2, h3⟩ := h
  obtain ⟨t, h4, h5, _⟩ := hc i s h2
  exact ⟨by rw [hl]; exact h1, i, t, h4, h5 a h3⟩
 | bat tw b =>
  obtain ⟨s, h2, h3⟩ := h
  obtain ⟨t, h4, _, h5⟩ := hc tw s h2
  exact ⟨t, h4, h5 b h3⟩
theorem carry_set {i : Nat} {s t : SiteS} (hs : L[i]? = some s) (hI : (∀ a, AskI M H s a → AskI M' H' t a) ∧ (∀ b, BatI M H s b → BatI M' H' t b)) (hO : ∀ (j : Nat) (u : SiteS), L[j]? = some u → (∀ a, AskI M H u a → AskI M' H' u a) ∧ (∀ b, BatI M H u b → BatI M' H' u b)) :
  ∀ (j : Nat) (u : SiteS), L[j]? = some u → ∃ v, (L.set i t)[j]? = some v ∧ (∀ a, AskI M H u a → AskI M' H' v a) ∧ (∀ b, BatI M H u b → BatI M' H' v b) := by
 intro j u hu
 by_cases e : j = i
 ·subst e
  rw [hs] at hu
  injection hu with hu
  subst hu
  exact ⟨t, List.getElem?_set_self (List.getElem?_eq_some_iff.1 hs).1, hI⟩
 ·exact ⟨u, by rw [List.getElem?_set_ne (fun g => e g.symm)]; exact hu, hO j u hu⟩
structure LetJ (Fok : Nat → List Box → Prop) (k : Int) (M : Int → Int) (H : List Version) (L : List SiteS) (W : List LetS) : Prop where
 top : TopJ Fok k M H L
 all : ∀ x ∈ W, LetI M H L x
def TownI (Fok : Nat → List Box → Prop) (k : Int) (L : List SiteS) (W : List LetS) : Prop := ∃ M H, LetJ Fok k M H L W
theorem TownI.mono {k' : Int} (h : TownI Fok k L W) (hk : k ≤ k') : TownI Fok k' L W := let ⟨M, H, h⟩ := h; ⟨M, H, h.top.mono hk, h.all⟩
theorem townI_make (h : TownI Fok k L W) {i : Nat} {s : SiteS} (hs : L[i]? = some s) (id : ByteArray) (p : Point) (body : Int) (hi : idOk id = true) (hp : pointOk p = true) (hb : bodyOk body = true) : TownI Fok k (L.set i (makeS s id p body)) W ∧ (makeErr s id p body = 0 ∨ makeErr s id p body = 2) := by
 obtain ⟨M, H, h, hW⟩ := h
 obtain ⟨a1, a2, a3, a4⟩ := h.inv i s hs
 refine ⟨?_, makeErr_or h.hist a1 hi hp hb⟩
 by_cases he : makeErr s id p body = 0
 ·have hL := (List.getElem?_eq_some_iff.1 hs).1
  obtain ⟨st1, st2, st3⟩ := makeS_stays s id p body
  have hvo := (putOut_ok (verOk_made he).2.2.2.2).2.1
  have hnew := new_dot a1 id p body
  have hst : Stays (H ++ [madeV s id p body]) s (makeS s id p body) := by
   refine ⟨st1, st2, st3, fun v hv hh => ?_⟩
   rcases hh with hh | hh
   ·exact (sinv_make h.hist a1 he).2 v (a1.sub v hh) (.inl hh)
   ·exact .inr hh
  refine ⟨_, _, ⟨hist_make h.hist a1 he, fun v hv => ?_, fun j t ht => ?_⟩, fun x hx => (hW x hx).carry (by rw [List.length_set]) (carry_set hs ⟨fun a ha => (ha.grow hvo hnew).stay hst, fun b hb => (hb.grow hvo hnew).stay hst⟩ fun j u _ => ⟨fun a ha => ha.grow hvo hnew, fun b hb => hb.grow hvo hnew⟩)⟩
  ·rw [List.length_set]
   rcases List.mem_append.1 hv with g | g
   ·exact h.home v g
   ·rw [List.mem_singleton.1 g]
    exact ⟨i, hL, a2⟩
  ·rcases set_get hs ht with ⟨rfl, rfl⟩ | ⟨hne, ht⟩
   ·exact ⟨(sinv_make h.hist a1 he).1, st1.trans a2, by rw [st2]; exact a3, by rw [st3]; exact a4⟩
   ·obtain ⟨b1, b2, b3, b4⟩ := h.inv j t ht
    exact ⟨sinv_other a1 he b1 (by rw [b2, a2]; omega), b2, b3, b4⟩
 ·rw [show makeS s id p body = s by unfold makeS; rw [if_neg he], set_same hs]
  exact ⟨M, H, h, hW⟩
theorem townI_want (h : TownI Fok k L W) {i : Nat} {s : SiteS} (hs : L[i]? = some s) {f : List Box} (hf : filterCheck f = 0) (hF : Fok i (plainF f)) : TownI Fok (k + 1) (L.set i (wantS s f)) W := by
 obtain ⟨M, H, h, hW⟩ := h
 obtain ⟨a1, a2, a3, a4⟩ := h.inv i s hs
 obtain ⟨b1, b2, _, b4⟩ := sinv_want h.hist a1 f
 have hs4 := b4 hf
 refine ⟨M, H, ⟨h.hist, fun v hv => by rw [List.length_set]; exact h.home v hv, fun j t ht => ?_⟩, fun x hx => (hW x hx).carry (by rw [List.length_set]) (carry_set hs ⟨fun a ha => ha.late b2 (by omega), fun b hb => hb.late b2 (by omega)⟩ fun j u _ => ⟨fun a ha => ha, fun b hb => hb⟩)⟩
 rcases set_get hs ht with ⟨rfl, rfl⟩ | ⟨_, ht⟩
 ·exact ⟨b1, b2.trans a2, by omega, by rw [wantS_stays hf]; exact hF⟩
 ·obtain ⟨b1, b2, b3, b4⟩ := h.inv j t ht
  exact ⟨b1, b2, by omega, b4⟩
theorem townI_send (h : TownI Fok k L W) {i : Nat} {s : SiteS} (hs : L[i]? = some s) {tw : Nat} (ht : tw < L.length) : TownI Fok k L (W ++ [.ask tw (askS s)]) := by
 obtain ⟨M, H, h, hW⟩ := h
 refine ⟨M, H, h, fun x hx => ?_⟩
 rcases List.mem_append.1 hx with g | g
 ·exact hW x g
 ·rw [List.mem_singleton.1 g]
  exact ⟨ht, i, s, hs, askI_new (h.inv i s hs).1⟩
theorem townI_give (h : TownI Fok k L W) {tw : Nat} {a : AskS} (hx : .ask tw a ∈ W) {g : SiteS} (hg : L[tw]? = some g) : giveErr a = 0 ∧ 0 ≤ a.site ∧ TownI Fok k L (W ++ [.bat a.site.toNat (giveB g a)]) := by
 obtain ⟨M, H, h, hW⟩ := h
 obtain ⟨_, i, s, hs, ha⟩ := hW _ hx
 obtain ⟨a1, a2, _⟩ := h.inv i s hs
 have hsi : a.site = (i : Int) := ha.me.trans a2
 refine ⟨ha.ok, by rw [hsi]; omega, M, H, h, fun x hx => ?_⟩
 rcases List.mem_append.1 hx with q | q
 ·exact hW x q
 ·rw [List.mem_singleton.1 q]
  exact ⟨s, by rw [hsi, Int.toNat_natCast]; exact hs, batI_give h.hist (h.inv tw g hg).1 ha⟩
theorem townI_take (h : TownI Fok k L W) {tw : Nat} {b : Batch} (hx : .bat tw b ∈ W) {s : SiteS} (hs : L[tw]? = some s) : TownI Fok k (L.set tw (takeS s b)) W := by
 obtain ⟨M, H, h, hW⟩ := h
 obtain ⟨s', hs', hb⟩ := hW _ hx
 rw [hs] at hs'
 injection hs' with hs'
 subst hs'
 obtain ⟨a1, a2, a3, a4⟩ := h.inv tw s hs
 obtain ⟨c1, c2, _⟩ := sinv_take h.hist a1 hb
 refine ⟨M, H, ⟨h.hist, fun v hv => by rw [List.length_set]; exact h.home v hv, fun q u hu => ?_⟩, fun x hx => (hW x hx).carry (by rw [List.length_set]) (carry_set hs ⟨fun a ha => ha.stay c2, fun b hb => hb.stay c2⟩ fun j u _ => ⟨fun a ha => ha, fun b hb => hb⟩)⟩
 rcases set_get hs hu with ⟨rfl, rfl⟩ | ⟨_, hu⟩
 ·exact ⟨c1, c2.me.trans a2, by rw [c2.stamp]; exact a3, by rw [c2.filter]; exact a4⟩
 ·exact h.inv q u hu
theorem townI_sub {W' : List LetS} (h : TownI Fok k L W) (hs : ∀ x ∈ W', x ∈ W) : TownI Fok k L W' := by
 obtain ⟨M, H, h, hW⟩ := h
 exact ⟨M, H, h, fun x hx => hW x (hs x hx)⟩
theorem townI_to (h : TownI Fok k L W) {x : LetS} (hx : x ∈ W) : x.tw < L.length := by
 obtain ⟨M, H, h, hW⟩ := h
 have := hW x hx
 cases x with
 | ask tw a => exact this.1
 | bat tw b => obtain ⟨s, hs, _⟩ := this; exact (List.getElem?_eq_some_iff.1 hs).1
theorem townI_ok (h : TownI Fok k L W) {i : Nat} {s : SiteS} (hs : L[i]? = some s) : SiteOk s ∧ s.me = (i : Int) ∧ s.stamp ≤ k ∧ Fok i s.filter := by
 obtain ⟨M, H, h, hW⟩ := h
 obtain ⟨a, b, c, d⟩ := h.inv i s hs
 exact ⟨a.ok, b, c, d⟩
theorem filterIn_wanted {g : SiteS} (hg : SiteOk g) {f : List Box} (hf : filterCheck f = 0) (me : Int) : wantedL g.shelf (plainF f) me = wantedL g.shelf f me := by
 unfold wantedL
 apply List.filter_congr
 intro v hv
 rw [filterIn_plain (hg.shelf.all v hv).pt hf]
end
end Go.Proofs.YtngbfdogiciahaaGreat
namespace Go.Proofs.YtngbfdogiciahaaGreat
open Go Go.RowKit
theorem ei_let : ElemInfo Tryz.prog 133 147 3 24 := ElemInfo.mk_ (z := .agg #[.int .i64 0, .pointer none, .pointer none]) Tryz.underlying133 (by kernel_rfl) rfl (by decide)
theorem ri_let : RowInfo Tryz.prog 147 3 := ⟨⟨_, Tryz.underlying147, rfl⟩, by kernel_rfl⟩
theorem zi_let : ZeroInfo Tryz.prog 147 #[.int .i64 0, .pointer none, .pointer none] := fun w => by kernel_rfl
theorem za_let : (#[.int .i64 0, .pointer none, .pointer none] : Array Value).all (·.oneCell') = true := by kernel_rfl
section
variable {α : Type} {R : World → List Value → α → Prop} {sz g o : Nat} {w : World} {l : List α}
theorem row_tail (hsz : 0 < sz) (h : ∀ q x, l[q]? = some x → At R sz w g q x) (k : Nat) :
  ∃ news : List Value, news.length = (l.length - (k + 1)) * sz ∧ (∀ t u, news[t]? = some u → w.cell? ⟨g, (k + 1) * sz + t, none⟩ = some u) ∧
   (∀ q x, k ≤ q → l[q + 1]? = some x → ∃ cs : List Value, cs.length = sz ∧ R w cs x ∧ ∀ j u, cs[j]? = some u → news[(q - k) * sz + j]? = some u) ∧ ((∀ cs x, R w cs x → ∀ u ∈ cs, u.oneCell' = true) → ∀ u ∈ news, u.oneCell' = true) := by
 obtain ⟨xs, hx, hxs⟩ := choose_list (p := fun q cs => ∀ x, l[q]? = some x → cs.length = sz ∧ w.rangeAt g (q * sz) cs ∧ R w cs x) l.length (by
  intro q hq
  obtain ⟨cs, h1, h2, h3⟩ := h q _ (List.getElem?_eq_getElem hq)
  refine ⟨cs, fun x hx => ?_⟩
  rw [List.getElem?_eq_getElem hq] at hx
  injection hx with hx
  subst hx
  exact ⟨h1, h2, h3⟩)
 have hall0 : ∀ cs ∈ xs, cs.length = sz := by
  intro cs hcs
  obtain ⟨q, hq, rfl⟩ := List.getElem_of_mem hcs
  exact (hxs q _ (List.getElem?_eq_getElem hq) _ (List.getElem?_eq_getElem (by omega))).1
 have hall : ∀ cs ∈ xs.drop (k + 1), cs.length = sz := fun cs hcs => hall0 cs (List.mem_of_mem_drop hcs)
 have hlen : ∀ ys : List (List Value), (∀ cs ∈ ys, cs.length = sz) → ys.flatten.length = ys.length * sz := by
  intro ys
  induction ys with
  | nil => simp
  | cons y ys ih => intro h; simp [h y (by simp), ih (fun c hc => h c (by simp [hc])), Nat.succ_mul, Nat.add_comm]
 refine ⟨(xs.drop (k + 1)).flatten, by rw [hlen _ hall, List.length_drop, hx], fun t u ht => ?_, fun q x hq hx1 => ?_, fun h1 u hu => ?_⟩
 ·obtain ⟨cs, h3, h4⟩ := flatten_back sz hsz _ hall t u ht
  rw [List.getElem?_drop] at h3
  have hq : k + 1 + t / sz < l.length := by have := (List.getElem?_eq_some_iff.1 h3).1; omega
  have h5 := (hxs _ _ h3 _ (List.getElem?_eq_getElem hq)).2.1 _ u h4
  have e := Nat.div_add_mod t sz
  rw [Nat.mul_comm] at e
  rw [show (k + 1 + t / sz) * sz + t % sz = (k + 1) * sz + t by rw [Nat.add_mul]; omega] at h5
  exact h5
 ·have hql : q + 1 < l.length := (List.getElem?_eq_some_iff.1 hx1).1
  have hxq : xs[q + 1]? = some (xs[q + 1]'(by omega)) := List.getElem?_eq_getElem _
  obtain ⟨g1, g2, g3⟩ := hxs _ _ hxq x hx1
  refine ⟨_, g1, g3, fun j u hj => ?_⟩
  have hjs : j < sz := by have := (List.getElem?_eq_some_iff.1 hj).1; omega
  rw [flatten_get sz _ hall (q - k) j (xs[q + 1]'(by omega)) (by rw [List.getElem?_drop, show k + 1 + (q - k) = q + 1 by omega]; exact hxq) hjs]
  exact hj
 ·obtain ⟨cs, hcs, hu⟩ := List.mem_flatten.1 hu
  obtain ⟨q, hq, rfl⟩ := List.getElem_of_mem (List.mem_of_mem_drop hcs)
  exact h1 _ _ (hxs q _ (List.getElem?_eq_getElem hq) _ (List.getElem?_eq_getElem (by omega))).2.2 u hu
end
set_option maxRecDepth 100000 in
set_option maxHeartbeats 4000000 in
theorem delete_let {α : Type} {R : World → List Value → α → Prop} (B base g c k : Nat) (l : List α) (w : World) (m : Mono B [147] R) (h1 : OneC R) (hB : B ≤ base) (hl : l.length ≤ 1000) (hk : k < l.length) (hown : Own R 3 147 w base (.slice (some ⟨g, 0, none⟩) l.length c) l) :
  Calls Tryz.prog 74 #[.slice (some ⟨g, 0, none⟩) l.length c, .int .i64 (k : Int), .int .i64 ((k + 1 : Nat) : Int)] w fun e w' => e = .returned (.slice (some ⟨g, 0, none⟩) (l.length - 1) c) ∧ Own R 3 147 w' base (.slice (some ⟨g, 0, none⟩) (l.eraseIdx k).length c) (l.eraseIdx k) ∧ w.grownBy w' (some g) := by
 obtain ⟨A0, c', hv, hlc, hcm⟩ := hown.len
 injection hv with hA0 _ hcc
 subst hA0 hcc
 obtain ⟨hbg, hrow, hat⟩ := hown.rowAt
 have hBg : B ≤ g := Nat.le_trans hB hbg
 have mE : Mono B [] R := fun w w' cs x hc => m w w' cs x (hc.more (by simp))
 have hrowd := hrow.ext (Ext.refl w).drew
 have hatd : ∀ q x, l[q]? = some x → At R 3 w.drew g q x := fun q x hq => (hat q x hq).ext mE (Ext.refl w).drew
 obtain ⟨news, hn1, hn2, hn3, hn4⟩ := row_tail (by decide) hatd k
 have hone := hn4 (fun cs x hR => h1 _ cs x hR)
 have hthd : ∀ q, q < l.length → w.drew.there g (q * 3) 3 := fun q hq => (hatd q _ (List.getElem?_eq_getElem hq)).there hrowd
 have hthr : w.drew.there g (k * 3) news.length := by
  intro j hj
  have hq : k + j / 3 < l.length := by omega
  have := hthd _ hq (j % 3) (Nat.mod_lt _ (by omega))
  rwa [show (k + j / 3) * 3 + j % 3 = k * 3 + j by omega] at this
 obtain ⟨A, hA, hsrc⟩ : ∃ A : Addr, (if c = k + 1 then some (⟨g, 0, none⟩ : Addr) else some ⟨g, (k + 1) * 3, none⟩) = some A ∧ Hid (∀ t u, news[t]? = some u → w.drew.cell? (A.add t) = some u) := by
  by_cases h : c = k + 1
  ·refine ⟨⟨g, 0, none⟩, by simp [h], fun t u hu => ?_⟩
   have h0 : news.length = 0 := by rw [hn1]; omega
   rw [List.length_eq_zero_iff.1 h0] at hu
   simp at hu
  ·refine ⟨⟨g, (k + 1) * 3, none⟩, by simp [h], fun t u hu => ?_⟩
   rw [Addr.add_mid]
   exact hn2 t u hu
 obtain ⟨W1, hW1⟩ : ∃ W1, W1 = w.drew.setCells g (k * 3) news := ⟨_, rfl⟩
 have hrow1 : RowOwn W1 g 147 (c * 3) := by rw [hW1]; exact hrowd.setCells _ _
 have hg1 : w.grownBy W1 (some g) := by rw [hW1]; exact grown_setCells (grown_ext (Ext.refl w).drew) _ _
 have hE : ∀ q x, (l.eraseIdx k)[q]? = some x → At R 3 W1 g q x := by
  intro q x hq
  rw [List.getElem?_eraseIdx] at hq
  rw [hW1]
  split at hq
  ·exact (hatd q x hq).setCells m hrowd.ty hBg _ _ (.inl (by omega))
  ·obtain ⟨cs, g1, g2, g3⟩ := hn3 q x (by omega) hq
   refine ⟨cs, g1, fun j v hv => ?_, m _ _ _ _ ((Chg.refl _).setCells hrowd.ty hBg _ _) g2⟩
   have h5 := World.rangeAt_setCells_same w.drew g (k * 3) news hthr _ v (g3 j v hv)
   rwa [show k * 3 + ((q - k) * 3 + j) = q * 3 + j by omega] at h5
 have hth1 : W1.there g ((l.length - 1) * 3) (1 * (#[.int .i64 0, .pointer none, .pointer none] : Array Value).size) := by
  rw [hW1]
  intro j hj
  have h5 := hthd (l.length - 1) (by omega) j hj
  refine ⟨?_, hrowd.setCells _ _ |>.fz _⟩
  obtain ⟨cur, hb, hs⟩ := (hrowd.setCells (k * 3) news).blk
  rw [cell_of_row _ g _ cur _ (0, 0) hb]
  simp
  have hj3 : j < 3 := hj
  omega
 have HE := hid hE
 have HG1 := hid hg1
 have HR1 := hid hrow1
 have HBG := hid (And.intro hBg hbg)
 have HLE := hid (show (l.eraseIdx k).length = l.length - 1 by rw [List.length_eraseIdx_of_lt hk])
 have HLC := hid (And.intro hlc hcm)
 have s1 : Hid (news.length = (l.length - (k + 1)) * 3) := hid hn1
 have s2 := hid hone
 have s3 : Hid (∀ t, t < news.length → (w.drew.cell? ⟨g, 0 + k * 3 + t, none⟩).isSome = true ∧ w.drew.frozen? ⟨g, 0 + k * 3 + t, none⟩ = false) := hid (fun t ht => by rw [Nat.zero_add]; exact hthr t ht)
 have hW : Hid (W1 = w.drew.setCells g (0 + k * 3) news) := hid (by rw [Nat.zero_add]; exact hW1)
 obtain ⟨i0, z0, ht0, hi0, hz0, hs0, hby0, hzs, _⟩ := ei_let
 have HI := hid (And.intro hi0 hs0)
 have hkc : k ≤ c := by omega
 have hkc1 : k + 1 ≤ c := by omega
 have e1 : ((k : Int) == (k : Int) + 1) = false := by rw [beq_eq_false_iff_ne]; omega
 have k0 : (0 : Int) ≤ (k : Int) := by omega
 have k2 : (k : Int) ≤ (k : Int) + 1 := by omega
 have k3 : (k : Int) + 1 ≤ (l.length : Int) := by omega
 have k5 : (0 : Int) ≤ (k : Int) + 1 := by omega
 have mixed : Tryz.prog.follows Departure.mixedOrders = true := by kernel_rfl
 have k4 : (l.length : Int) ≤ (c : Int) := by omega
 have hlk : l.length - (k + 1) + k = l.length - 1 := by omega
 obtain ⟨n1, hn1'⟩ : ∃ n1, n1 = l.length - 1 := ⟨_, rfl⟩
 rw [← hn1'] at hth1
 have HN1 := hid hn1'
 have HKN := hid (show k + (l.length - (k + 1)) = n1 by omega)
 have n2 : (n1 : Int) ≤ (l.length : Int) := by omega
 have n3 : (0 : Int) ≤ (n1 : Int) := by omega
 have n4 : l.length - n1 = 1 := by omega
 have n5 : ¬ c = n1 := by omega
 have n6 : ¬ (c : Int) = (n1 : Int) := by omega
 clear hn1' hW1 hrow1 hg1 hE hone hn1 hn2 hn3 hn4 hthr hatd hrowd hat hrow hown hBg hbg hlc hcm hthd mE hi0 hz0 hs0 hby0 hzs ht0
 go_enter Tryz.func74, Tryz.ntmps74
 go_wp2_with fail
 go_region_law_o (refine step_append_room rfl (.tmp 22) (.tmp 25) 133 rfl 147 i0 3 Tryz.underlying133 HI.out.1 HI.out.2 g 0 k c (by simp [Act.eval, Act.put]) A (l.length - (k + 1)) (c - (k + 1)) news (by simp [Act.eval, Act.put]) s1.out hsrc.out s2.out (by omega) s3.out ?_; rw [← hW.out, HKN.out])
 clear hW s1 s2 s3 hsrc k0 k2 k3 k5 e1 hA
 go_wp2_with ((with_reducible refine wpList_clear (o := ⟨none, _, _, _, _, _⟩) Tryz.underlying133 zi_let za_let _ rfl rfl rfl hth1 ?_); intro zs hzs)
 go_ret
 have ho := Own.ofAt (base := base) (l := l.eraseIdx k) (by omega) (HR1.out.setCells _ _) HBG.out.2 (by rw [HLE.out]; have := HLC.out.1; omega) HLC.out.2 fun q x hq => (HE.out q x hq).setCells m HR1.out.ty HBG.out.1 (n1 * 3) zs (.inl (by have := (List.getElem?_eq_some_iff.1 hq).1; rw [HLE.out] at this; have := HN1.out; omega))
 exact ⟨by rw [HN1.out]; rfl, ho, grown_setCells HG1.out _ _⟩
end Go.Proofs.YtngbfdogiciahaaGreat
