/- The walks of know.told, Add. -/
import Derived.Test.YtngbfdogiciahaaGreatKnM
import Derived.Test.YtngbfdogiciahaaGreatKnI
import Derived.Deep.RegionHeld3
namespace Go.Proofs.YtngbfdogiciahaaGreat
open Go Go.RowKit
def toldErr (k : Know) : Int := if k.more.length ≤ 60 then 0 else 2
def toldKn (k : Know) : Know := if k.more.length ≤ 60 then k else ⟨[], []⟩
theorem res_told {w : World} {v : Value} {b : Nat} {x y : Value} {tmps : Array Value} (h4 : tmps.getD 2 undef = .pointer (some ⟨b, 0, none⟩)) (h5 : tmps.getD 3 undef = v) (c1 : w.cell? ⟨b, 0, none⟩ = some x) (c2 : w.cell? ⟨b, 1, none⟩ = some y) :
  (results Tryz.f241 tmps).run Tryz.prog w = .ok (.tuple #[.agg #[x, y], v]) w := by
 have h4' : tmps[2]?.getD undef = .pointer (some ⟨b, 0, none⟩) := by simpa using h4
 have h5' : tmps[3]?.getD undef = v := by simpa using h5
 simp [results, Tryz.results241, go_sem, h4', h5', c1, c2]
theorem wp_app {P : Program} {α : Type} {R : World → List Value → α → Prop} {t e : TypeId} {sz bytes base B B' : Nat} {w : World} {v : Value} {l ys : List α} {A : Option Addr} {c : Nat} {o : Oper} {a : Act} {K : Act → World → Prop} {Q : Exit → Act → World → Prop} (s x : Operand)
  (ho : o.op = .call { callee := .builtin .append, args := #[s, x], argTypes := #[t, t] }) (ei : ElemInfo P t e sz bytes)
  (hs : a.eval s = v) (hown : Own R sz e w base v l) (hB : B ≤ base) (hb : base ≤ w.heap.size) {e' : TypeId} (hx : a.eval x = .slice A ys.length c) (hsl : Sl B' e' R sz w A ys) (h1 : OneC R) (m : Mono B [e] R)
  (h63 : l.length + ys.length ≤ maxLen) (hby : (l.length + ys.length) * bytes ≤ 140737488355328)
  (h : ∀ v' w', Own R sz e w' base v' (l ++ ys) → Chg B [e] w w' → Below base w w' → w.grownBy w' v.ownBlock → K (a.put o.dst v') w') : o.wp P a w K Q := by
 obtain ⟨v', w', hr, h2, h3, h4, h5⟩ := run_app (P := P) (t := t) (ty := o.type) (c := c) ei hown hB hb hsl h1 m h63 hby
 unfold Oper.wp execOp
 simp only [ho, resolve, invoke, builtin, Sem.run_bind, Sem.run_pure, Result.andThen_ok, List.map_toArray, List.map_cons, List.map_nil, hs, hx, hr]
 exact h _ _ h2 h4 h5 h3
theorem tyAt_put {w : World} {b i : Nat} {u : Value} {t : TypeId} (h : tyAt w b = some t) : tyAt (w.setCell ⟨b, i, none⟩ u) b = some t := by
 unfold tyAt at h ⊢
 cases hb : w.heap[b]? with
 | none => rw [hb] at h; cases h
 | some o =>
  rw [hb] at h
  cases o <;> simp at h
  simp [World.setCell, Array.getElem?_modify, hb, h]
theorem Own.sl {α : Type} {R : World → List Value → α → Prop} {sz : Nat} {e : TypeId} {w : World} {base n c : Nat} {A : Option Addr} {l : List α} (B : Nat) (h : Own R sz e w base (.slice A n c) l) : Sl B e R sz w A l := by
 obtain ⟨A', c', hv, _, _, hs⟩ := h.isSl B
 injection hv with h1 _ _
 rw [h1]
 exact hs
theorem know_told (B : Nat) (v : Value) (k : Know) (w : World) (h : IsK B w v k) :
  Calls Tryz.prog 241 #[v] w fun e w' => ∃ x, e = .returned (.tuple #[x, .int .i64 (toldErr k)]) ∧ IsK B w' x (toldKn k) ∧ Ext w w' := by
 obtain ⟨Av, cv, Am, cm, rfl, h1, h2, h3, h4, hin⟩ := h
 by_cases hm : k.more.length ≤ 60
 ·have HE := hid (show toldErr k = 0 from if_pos hm)
  have HK := hid (show toldKn k = k from if_pos hm)
  have hm' : decide ((60 : Int) < k.more.length) = false := decide_eq_false (by omega)
  clear hm
  go_enter Tryz.func241, Tryz.ntmps241
  go_wp2_with fail
  refine bodyPost_ret (v := .tuple #[.agg #[.slice Av k.vec.length cv, .slice Am k.more.length cm], .int .i64 0]) ?_ rfl ⟨.agg #[.slice Av k.vec.length cv, .slice Am k.more.length cm], by rw [HE.out], ?_, ?_⟩
  ·refine res_told (b := w.heap.size + 1) rfl rfl ?_ ?_ <;> go_simp
  ·rw [HK.out]
   exact ⟨Av, cv, Am, cm, rfl, h1, h2, h3, h4, hin.ext (((Ext.refl w).alloc _).alloc _)⟩
  ·exact ((Ext.refl w).alloc _).alloc _
 ·have HE := hid (show toldErr k = 2 from if_neg hm)
  have HK := hid (show toldKn k = ⟨[], []⟩ from if_neg hm)
  have hm' : decide ((60 : Int) < k.more.length) = true := decide_eq_true (by omega)
  clear hm
  go_enter Tryz.func241, Tryz.ntmps241
  go_wp2_with fail
  refine bodyPost_ret (v := .tuple #[.agg #[.slice none 0 0, .slice none 0 0], .int .i64 2]) ?_ rfl ⟨.agg #[.slice none 0 0, .slice none 0 0], by rw [HE.out], ?_, ?_⟩
  ·refine res_told (b := w.heap.size + 1) rfl rfl ?_ ?_ <;> go_simp
  ·rw [HK.out]
   exact IsK.empty
  ·exact ((Ext.refl w).alloc _).alloc _
end Go.Proofs.YtngbfdogiciahaaGreat
