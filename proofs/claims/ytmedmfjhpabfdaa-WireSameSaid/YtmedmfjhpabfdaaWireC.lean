/- The walk of wire.Same. -/
import Derived.Test.YtmedmfjhpabfdaaWireA
import Derived.Test.YtmedmfjhpabfdaaWireB
import Derived.Test.YtmedmfjhpabfdaaFilE
namespace Go.Proofs.Ytmedmfjhpabfdaa
open Go Go.RowKit

theorem ret_two {x y : Bool} {a b : Int} (h : x = y) (g : a = b) : Ending.returned (.tuple #[.bool x, .int .i64 a]) = .returned (.tuple #[.bool y, .int .i64 b]) := by rw [h, g]
def sameErr (a b : Batch) : Int := if wireErr a = 0 then wireErr b else wireErr a
def sameOut (a b : Batch) : Bool := if sameErr a b = 0 then wireSame a b else false

set_option maxRecDepth 100000 in
set_option maxHeartbeats 1000000 in
theorem wire_same (B : Nat) (k l : Know) (Av : Option Addr) (cv : Nat) (Am : Option Addr) (cm : Nat) (Bv : Option Addr) (dv : Nat) (Bm : Option Addr) (dm : Nat) (w : World) (h : IsK B w (.agg #[.slice Av k.vec.length cv, .slice Am k.more.length cm]) k) (g : IsK B w (.agg #[.slice Bv l.vec.length dv, .slice Bm l.more.length dm]) l) :
    Calls Try.prog 107 #[.agg #[.slice Av k.vec.length cv, .slice Am k.more.length cm], .agg #[.slice Bv l.vec.length dv, .slice Bm l.more.length dm]] w fun e w' => e = .returned (.bool (sameK k l)) ∧ Ext w w' := by
  have hx := ((Ext.refl w).alloc (.cells #[.slice Av k.vec.length cv, .slice Am k.more.length cm] 44)).alloc (.cells #[.slice Bv l.vec.length dv, .slice Bm l.more.length dm] 44)
  have HF := hid (show sameK k l = (withinIs k l && withinIs l k) from rfl)
  have H1 := hid h
  have H2 := hid g
  clear h g
  go_enter Try.func107, Try.ntmps107
  go_wp2_with fail
  refine (know_Within B _ _ k l _ (H1.out.ext hx) (H2.out.ext hx)).mono ?_
  rintro e w1 ⟨rfl, hx1⟩
  have p0 : w1.cell? ⟨w.heap.size, 0, none⟩ = some (.slice Av k.vec.length cv) := hx1.cell (by go_simp)
  have p1 : w1.cell? ⟨w.heap.size, 1, none⟩ = some (.slice Am k.more.length cm) := hx1.cell (by go_simp)
  have q0 : w1.cell? ⟨w.heap.size + 1, 0, none⟩ = some (.slice Bv l.vec.length dv) := hx1.cell (by go_simp)
  have q1 : w1.cell? ⟨w.heap.size + 1, 1, none⟩ = some (.slice Bm l.more.length dm) := hx1.cell (by go_simp)
  replace hx := hx.trans hx1
  clear hx1
  go_wp2_with fail
  refine (know_Within B _ _ l k _ (H2.out.ext hx) (H1.out.ext hx)).mono ?_
  rintro e w2 ⟨rfl, hx2⟩
  replace hx := hx.trans hx2
  clear hx2 p0 p1 q0 q1
  cases hs : withinIs k l
  · have HR := hid (show sameK k l = false by rw [HF.out, hs]; rfl)
    clear hs
    go_wp2_with fail
    go_ret
    exact ⟨ret_bool HR.out.symm, hx⟩
  · have HR := hid (show sameK k l = withinIs l k by rw [HF.out, hs]; rfl)
    clear hs
    go_wp2_with fail
    go_ret
    exact ⟨ret_bool HR.out.symm, hx⟩

set_option maxRecDepth 100000 in
set_option maxHeartbeats 4000000 in
theorem wire_Same (B : Nat) (a b : Batch) (Ax : Option Addr) (cx : Nat) (Ag : Option Addr) (cg : Nat) (Ap : Option Addr) (cp : Nat) (Bx : Option Addr) (dx : Nat) (Bg : Option Addr) (dg : Nat) (Bp : Option Addr) (dp : Nat) (w : World) (hBw : B ≤ w.heap.size) (ha : InB B w Ax cx Ag cg Ap cp a) (hb : InB B w Bx dx Bg dg Bp dp b) :
    Calls Try.prog 42 #[.agg #[.int .i64 a.site, .int .i64 a.stamp, .slice Ax a.vers.length cx, .slice Ag a.gone.length cg, .slice Ap a.parts.length cp], .agg #[.int .i64 b.site, .int .i64 b.stamp, .slice Bx b.vers.length dx, .slice Bg b.gone.length dg, .slice Bp b.parts.length dp]] w fun e w' => e = .returned (.tuple #[.bool (sameOut a b), .int .i64 (sameErr a b)]) ∧ Ext w w' := by
  have HA := hid ha
  have HB := hid hb
  have hx := ((Ext.refl w).alloc (.cells #[.int .i64 a.site, .int .i64 a.stamp, .slice Ax a.vers.length cx, .slice Ag a.gone.length cg, .slice Ap a.parts.length cp] 26)).alloc (.cells #[.int .i64 b.site, .int .i64 b.stamp, .slice Bx b.vers.length dx, .slice Bg b.gone.length dg, .slice Bp b.parts.length dp] 26)
  have hba := (Blk.new w 26 #[.int .i64 a.site, .int .i64 a.stamp, .slice Ax a.vers.length cx, .slice Ag a.gone.length cg, .slice Ap a.parts.length cp]).ext ((Ext.refl _).alloc (.cells #[.int .i64 b.site, .int .i64 b.stamp, .slice Bx b.vers.length dx, .slice Bg b.gone.length dg, .slice Bp b.parts.length dp] 26))
  have hbb := Blk.new (w.alloc (.cells #[.int .i64 a.site, .int .i64 a.stamp, .slice Ax a.vers.length cx, .slice Ag a.gone.length cg, .slice Ap a.parts.length cp] 26)) 26 #[.int .i64 b.site, .int .i64 b.stamp, .slice Bx b.vers.length dx, .slice Bg b.gone.length dg, .slice Bp b.parts.length dp]
  rw [World.size_alloc] at hbb
  clear ha hb
  have HWA := hid (wireErr_ok (b := a))
  have HWB := hid (wireErr_ok (b := b))
  have HE0 := hid (show sameErr a b = if wireErr a = 0 then wireErr b else wireErr a from rfl)
  have HO0 := hid (show sameOut a b = if sameErr a b = 0 then wireSame a b else false from rfl)
  go_enter Try.func42, Try.ntmps42
  go_wp2_with fail
  refine (wire_Check B a Ax cx Ag cg Ap cp _ (HA.out.ext hx)).mono ?_
  rintro e w1 ⟨rfl, hx1⟩
  replace hba := hba.ext hx1
  replace hbb := hbb.ext hx1
  replace hx := hx.trans hx1
  clear hx1
  by_cases h0 : wireErr a = 0
  · rw [h0]
    have HOA := hid (HWA.out h0)
    have HE1 := hid (show sameErr a b = wireErr b by rw [HE0.out, if_pos h0])
    clear h0
    have y0 := hbb.cell (i := 0) (u := .int .i64 b.site) rfl
    have y1 := hbb.cell (i := 1) (u := .int .i64 b.stamp) rfl
    have y2 := hbb.cell (i := 2) (u := .slice Bx b.vers.length dx) rfl
    have y3 := hbb.cell (i := 3) (u := .slice Bg b.gone.length dg) rfl
    have y4 := hbb.cell (i := 4) (u := .slice Bp b.parts.length dp) rfl
    go_wp2_with fail
    refine (wire_Check B b Bx dx Bg dg Bp dp _ (HB.out.ext hx)).mono ?_
    rintro e w2 ⟨rfl, hx2⟩
    clear y0 y1 y2 y3 y4
    replace hba := hba.ext hx2
    replace hbb := hbb.ext hx2
    replace hx := hx.trans hx2
    clear hx2
    by_cases h1 : wireErr b = 0
    · have HE := hid (show sameErr a b = 0 by rw [HE1.out, h1])
      have HS := hid (show sameOut a b = wireSame a b by rw [HO0.out, if_pos HE.out])
      have HOB := hid (HWB.out h1)
      have HLA := hid (show a.vers.length ≤ 60 ∧ a.gone.length ≤ 60 ∧ a.parts.length ≤ 30 from ⟨HOA.out.lv, HOA.out.lg, HOA.out.lp⟩)
      have hn1 : a.vers.length ≤ 60 := HLA.out.1
      have hn2 : a.gone.length ≤ 60 := HLA.out.2.1
      have hn3 : a.parts.length ≤ 30 := HLA.out.2.2
      rw [h1]
      clear h1
      have y0 := hbb.cell (i := 0) (u := .int .i64 b.site) rfl
      have y1 := hbb.cell (i := 1) (u := .int .i64 b.stamp) rfl
      have y2 := hbb.cell (i := 2) (u := .slice Bx b.vers.length dx) rfl
      have y3 := hbb.cell (i := 3) (u := .slice Bg b.gone.length dg) rfl
      have y4 := hbb.cell (i := 4) (u := .slice Bp b.parts.length dp) rfl
      have z0 := hba.cell (i := 0) (u := .int .i64 a.site) rfl
      have z1 := hba.cell (i := 1) (u := .int .i64 a.stamp) rfl
      have z2 := hba.cell (i := 2) (u := .slice Ax a.vers.length cx) rfl
      have z3 := hba.cell (i := 3) (u := .slice Ag a.gone.length cg) rfl
      have z4 := hba.cell (i := 4) (u := .slice Ap a.parts.length cp) rfl
      by_cases hl : lens a b = true
      · have HLN := hid hl
        obtain ⟨l1, l2, l3, l4, l5⟩ : a.site = b.site ∧ a.stamp = b.stamp ∧ a.vers.length = b.vers.length ∧ a.gone.length = b.gone.length ∧ a.parts.length = b.parts.length := by
          simp only [lens, Bool.and_eq_true, decide_eq_true_eq] at hl
          exact ⟨hl.1.1.1.1, hl.1.1.1.2, hl.1.1.2, hl.1.2, hl.2⟩
        have HL_parts := hid l5
        have HL_gone := hid l4
        have HL_vers := hid l3
        have n1 : (a.site != b.site) = false := by simp [l1]
        have n2 : (a.stamp != b.stamp) = false := by simp [l2]
        have n3 : ((a.vers.length : Int) != b.vers.length) = false := by simp [l3]
        have n4 : ((a.gone.length : Int) != b.gone.length) = false := by simp [l4]
        have n5 : ((a.parts.length : Int) != b.parts.length) = false := by simp [l5]
        clear hl l1 l2 l3 l4 l5
        go_wp2_with fail
        clear y0 y1 y2 y3 y4 z0 z1 z2 z3 z4 n1 n2 n3 n4 n5
        obtain ⟨r0, hr0⟩ : ∃ r, r = w.heap.size := ⟨_, rfl⟩
        obtain ⟨r1, hr1⟩ : ∃ r, r = w.heap.size + 1 := ⟨_, rfl⟩
        rw [← hr1] at hbb ⊢
        rw [← hr0] at hba ⊢
        clear hr0 hr1
        go_loopw [67] (fun i wr => ∃ k : Nat, k ≤ a.parts.length ∧ i = .int .i64 k ∧ sameL sameKP (a.parts.drop k) (b.parts.drop k) = sameL sameKP a.parts b.parts ∧ Ext w wr ∧ Blk wr r0 26 #[.int .i64 a.site, .int .i64 a.stamp, .slice Ax a.vers.length cx, .slice Ag a.gone.length cg, .slice Ap a.parts.length cp] ∧ Blk wr r1 26 #[.int .i64 b.site, .int .i64 b.stamp, .slice Bx b.vers.length dx, .slice Bg b.gone.length dg, .slice Bp b.parts.length dp]) (fun i _ => a.parts.length - (intOf i).toNat)
        case atStart => exact ⟨0, Nat.zero_le _, rfl, rfl, hx, hba, hbb⟩
        case round =>
          clear hx hba hbb
          obtain ⟨k, hk, rfl, hG, hx, hba, hbb⟩ := hrel
          have HG := hid hG
          clear hG
          by_cases hlt : k < a.parts.length
          · have hlt2 : k < b.parts.length := by rw [← HL_parts.out]; exact hlt
            obtain ⟨p, hp⟩ : ∃ p, p = a.parts[k] := ⟨_, rfl⟩
            obtain ⟨q, hq⟩ : ∃ q, q = b.parts[k] := ⟨_, rfl⟩
            have HU := hid (show sameL sameKP a.parts b.parts = (sameKP p q && sameL sameKP (a.parts.drop (k + 1)) (b.parts.drop (k + 1))) by rw [← HG.out, sameL_drop _ _ _ _ hlt hlt2, hp, hq])
            obtain ⟨pb, po, Af, cf, Av, cv, Am, cm, hA, hpl, g0, g1, g2, hI⟩ := (HA.out.sp.ext RPart.monoE hx).part hlt
            obtain ⟨qb, qo, Bf, df, Bv, dv, Bm, dm, hB', hql, h0, h1, h2, hJ⟩ := (HB.out.sp.ext RPart.monoE hx).part hlt2
            subst hA hB'
            rw [← hp] at g0 g1 g2 hI
            rw [← hq] at h0 h1 h2 hJ
            clear hp hq hpl hql
            have HI := hid hI
            have HJ := hid hJ
            have HC0 := hid (fun w' (x : Ext wr w') => filter_Same B Af Bf cf df p.filter q.filter w' (Nat.le_trans hBw (Nat.le_trans hx.size x.size)) HI.out.lf HJ.out.lf (HI.out.sf.ext RBox.monoE x) (HJ.out.sf.ext RBox.monoE x))
            have HAll := hid (fun w' (x : Ext wr w') => show w'.cell? ⟨r0, 4, none⟩ = some (.slice (some ⟨pb, po, none⟩) a.parts.length cp) ∧ w'.cell? ⟨r1, 4, none⟩ = some (.slice (some ⟨qb, qo, none⟩) b.parts.length dp) ∧ w'.cell? ⟨pb, po + k * 3, none⟩ = some (.slice Af p.filter.length cf) ∧ w'.cell? ⟨qb, qo + k * 3, none⟩ = some (.slice Bf q.filter.length df) from
              ⟨(hba.ext x).cell rfl, (hbb.ext x).cell rfl, x.cell g0, x.cell h0⟩)
            clear hI hJ
            go_wp2_with fail
            refine wq_region (fun w' => Ext wr w') (by kernel_rfl) (by kernel_rfl) (Ext.refl _).drew ?_
            refine wq_get (v := ?_) (fun w' hw' => ?_) ?_
            rotate_left
            · have hA := HAll.out w' hw'
              go_split_ands
              first
                | (go_simp; done)
                | (go_simp; with_reducible rfl)
            try simp only [Act.put, List.setIfInBounds_toArray, List.set_cons_zero, List.set_cons_succ]
            refine wq_get (v := ?_) (fun w' hw' => ?_) ?_
            rotate_left
            · have hA := HAll.out w' hw'
              go_split_ands
              first
                | (go_simp; done)
                | (go_simp; with_reducible rfl)
            try simp only [Act.put, List.setIfInBounds_toArray, List.set_cons_zero, List.set_cons_succ]
            refine wq_get (v := ?_) (fun w' hw' => ?_) ?_
            rotate_left
            · have hA := HAll.out w' hw'
              go_split_ands
              first
                | (go_simp; done)
                | (go_simp; with_reducible rfl)
            try simp only [Act.put, List.setIfInBounds_toArray, List.set_cons_zero, List.set_cons_succ]
            refine wq_get (v := ?_) (fun w' hw' => ?_) ?_
            rotate_left
            · have hA := HAll.out w' hw'
              go_split_ands
              first
                | (go_simp; done)
                | (go_simp; with_reducible rfl)
            try simp only [Act.put, List.setIfInBounds_toArray, List.set_cons_zero, List.set_cons_succ]
            refine wq_get (v := ?_) (fun w' hw' => ?_) ?_
            rotate_left
            · have hA := HAll.out w' hw'
              go_split_ands
              first
                | (go_simp; done)
                | (go_simp; with_reducible rfl)
            try simp only [Act.put, List.setIfInBounds_toArray, List.set_cons_zero, List.set_cons_succ]
            refine wq_get (v := ?_) (fun w' hw' => ?_) ?_
            rotate_left
            · have hA := HAll.out w' hw'
              go_split_ands
              first
                | (go_simp; done)
                | (go_simp; with_reducible rfl)
            try simp only [Act.put, List.setIfInBounds_toArray, List.set_cons_zero, List.set_cons_succ]
            refine wq_get (v := ?_) (fun w' hw' => ?_) ?_
            rotate_left
            · have hA := HAll.out w' hw'
              go_split_ands
              first
                | (go_simp; done)
                | (go_simp; with_reducible rfl)
            try simp only [Act.put, List.setIfInBounds_toArray, List.set_cons_zero, List.set_cons_succ]
            refine wq_get (v := ?_) (fun w' hw' => ?_) ?_
            rotate_left
            · have hA := HAll.out w' hw'
              go_split_ands
              first
                | (go_simp; done)
                | (go_simp; with_reducible rfl)
            try simp only [Act.put, List.setIfInBounds_toArray, List.set_cons_zero, List.set_cons_succ]
            refine wq_get (v := ?_) (fun w' hw' => ?_) ?_
            rotate_left
            · have hA := HAll.out w' hw'
              go_split_ands
              first
                | (go_simp; done)
                | (go_simp; with_reducible rfl)
            try simp only [Act.put, List.setIfInBounds_toArray, List.set_cons_zero, List.set_cons_succ]
            refine wq_get (v := ?_) (fun w' hw' => ?_) ?_
            rotate_left
            · have hA := HAll.out w' hw'
              go_split_ands
              first
                | (go_simp; done)
                | (go_simp; with_reducible rfl)
            try simp only [Act.put, List.setIfInBounds_toArray, List.set_cons_zero, List.set_cons_succ]
            refine wq_get (v := ?_) (fun w' hw' => ?_) ?_
            rotate_left
            · have hA := HAll.out w' hw'
              go_split_ands
              first
                | (go_simp; done)
                | (go_simp; with_reducible rfl)
            try simp only [Act.put, List.setIfInBounds_toArray, List.set_cons_zero, List.set_cons_succ]
            refine wq_get (v := ?_) (fun w' hw' => ?_) ?_
            rotate_left
            · have hA := HAll.out w' hw'
              go_split_ands
              first
                | (go_simp; done)
                | (go_simp; with_reducible rfl)
            try simp only [Act.put, List.setIfInBounds_toArray, List.set_cons_zero, List.set_cons_succ]
            refine wq_call Try.call106 (by rfl) (fun w' x => (HC0.out w' x).mono fun _ _ h => ⟨h.1, x.trans h.2⟩) ?_
            try simp only [Act.put, List.setIfInBounds_toArray, List.set_cons_zero, List.set_cons_succ]
            refine wq_get (v := ?_) (fun w' hw' => ?_) ?_
            rotate_left
            · have hA := HAll.out w' hw'
              go_split_ands
              first
                | (go_simp; done)
                | (go_simp; with_reducible rfl)
            try simp only [Act.put, List.setIfInBounds_toArray, List.set_cons_zero, List.set_cons_succ]
            refine wq_get (v := ?_) (fun w' hw' => ?_) ?_
            rotate_left
            · have hA := HAll.out w' hw'
              go_split_ands
              first
                | (go_simp; done)
                | (go_simp; with_reducible rfl)
            try simp only [Act.put, List.setIfInBounds_toArray, List.set_cons_zero, List.set_cons_succ]
            refine wq_get (v := ?_) (fun w' hw' => ?_) ?_
            rotate_left
            · have hA := HAll.out w' hw'
              go_split_ands
              first
                | (go_simp; done)
                | (go_simp; with_reducible rfl)
            try simp only [Act.put, List.setIfInBounds_toArray, List.set_cons_zero, List.set_cons_succ]
            refine wq_get (v := ?_) (fun w' hw' => ?_) ?_
            rotate_left
            · have hA := HAll.out w' hw'
              go_split_ands
              first
                | (go_simp; done)
                | (go_simp; with_reducible rfl)
            try simp only [Act.put, List.setIfInBounds_toArray, List.set_cons_zero, List.set_cons_succ]
            refine wq_get (v := ?_) (fun w' hw' => ?_) ?_
            rotate_left
            · have hA := HAll.out w' hw'
              go_split_ands
              first
                | (go_simp; done)
                | (go_simp; with_reducible rfl)
            try simp only [Act.put, List.setIfInBounds_toArray, List.set_cons_zero, List.set_cons_succ]
            refine wq_nil ?_
            intro w1 hyn
            clear HAll HC0
            replace g1 := hyn.cell g1
            replace g2 := hyn.cell g2
            replace h1 := hyn.cell h1
            replace h2 := hyn.cell h2
            clear g0 h0
            replace hba := hba.ext hyn
            replace hbb := hbb.ext hyn
            replace hx := hx.trans hyn

            have HI1 := hid (HI.out.ext hyn)
            have HJ1 := hid (HJ.out.ext hyn)
            clear hyn HI HJ
            cases hf : filterNone (fun a b => a ^^^ b) p.filter q.filter
            · have HP := hid (show sameKP p q = false by rw [sameKP, hf]; rfl)
              clear hf g1 g2 h1 h2
              go_wp2_with fail
              have HAll := hid (fun w' (_ : Ext w1 w') => trivial)
              refine wq_region (fun w' => Ext w1 w') (by kernel_rfl) (by kernel_rfl) (Ext.refl _).drew ?_
              refine wq_get (v := ?_) (fun w' hw' => ?_) ?_
              rotate_left
              · have hA := HAll.out w' hw'
                go_split_ands
                first
                  | (go_simp; done)
                  | (go_simp; with_reducible rfl)
              try simp only [Act.put, List.setIfInBounds_toArray, List.set_cons_zero, List.set_cons_succ]
              refine wq_get (v := ?_) (fun w' hw' => ?_) ?_
              rotate_left
              · have hA := HAll.out w' hw'
                go_split_ands
                first
                  | (go_simp; done)
                  | (go_simp; with_reducible rfl)
              try simp only [Act.put, List.setIfInBounds_toArray, List.set_cons_zero, List.set_cons_succ]
              refine wq_get (v := ?_) (fun w' hw' => ?_) ?_
              rotate_left
              · have hA := HAll.out w' hw'
                go_split_ands
                first
                  | (go_simp; done)
                  | (go_simp; with_reducible rfl)
              try simp only [Act.put, List.setIfInBounds_toArray, List.set_cons_zero, List.set_cons_succ]
              refine wq_skip (yields_at rfl rfl rfl) ?_
              try simp only [Act.put, List.setIfInBounds_toArray, List.set_cons_zero, List.set_cons_succ]
              refine wq_skip (yields_at rfl rfl rfl) ?_
              try simp only [Act.put, List.setIfInBounds_toArray, List.set_cons_zero, List.set_cons_succ]
              refine wq_skip (yields_at rfl rfl rfl) ?_
              try simp only [Act.put, List.setIfInBounds_toArray, List.set_cons_zero, List.set_cons_succ]
              refine wq_skip (yields_at rfl rfl rfl) ?_
              try simp only [Act.put, List.setIfInBounds_toArray, List.set_cons_zero, List.set_cons_succ]
              refine wq_skip (yields_at rfl rfl rfl) ?_
              try simp only [Act.put, List.setIfInBounds_toArray, List.set_cons_zero, List.set_cons_succ]
              refine wq_skip (yields_at rfl rfl rfl) ?_
              try simp only [Act.put, List.setIfInBounds_toArray, List.set_cons_zero, List.set_cons_succ]
              refine wq_skip (yields_at rfl rfl rfl) ?_
              try simp only [Act.put, List.setIfInBounds_toArray, List.set_cons_zero, List.set_cons_succ]
              refine wq_skip (yields_at rfl rfl rfl) ?_
              try simp only [Act.put, List.setIfInBounds_toArray, List.set_cons_zero, List.set_cons_succ]
              refine wq_skip (yields_at rfl rfl rfl) ?_
              try simp only [Act.put, List.setIfInBounds_toArray, List.set_cons_zero, List.set_cons_succ]
              refine wq_skip (yields_at rfl rfl rfl) ?_
              try simp only [Act.put, List.setIfInBounds_toArray, List.set_cons_zero, List.set_cons_succ]
              refine wq_skip (yields_at rfl rfl rfl) ?_
              try simp only [Act.put, List.setIfInBounds_toArray, List.set_cons_zero, List.set_cons_succ]
              refine wq_skip (yields_at rfl rfl rfl) ?_
              try simp only [Act.put, List.setIfInBounds_toArray, List.set_cons_zero, List.set_cons_succ]
              refine wq_skip (yields_at rfl rfl rfl) ?_
              try simp only [Act.put, List.setIfInBounds_toArray, List.set_cons_zero, List.set_cons_succ]
              refine wq_skip (yields_at rfl rfl rfl) ?_
              try simp only [Act.put, List.setIfInBounds_toArray, List.set_cons_zero, List.set_cons_succ]
              refine wq_get (v := ?_) (fun w' hw' => ?_) ?_
              rotate_left
              · have hA := HAll.out w' hw'
                go_split_ands
                first
                  | (go_simp; done)
                  | (go_simp; with_reducible rfl)
              try simp only [Act.put, List.setIfInBounds_toArray, List.set_cons_zero, List.set_cons_succ]
              refine wq_nil ?_
              intro w2 hyn
              have HZ := hid (show sameL sameKP a.parts b.parts = false by rw [HU.out, HP.out, Bool.false_and])
              clear HAll
              replace hba := hba.ext hyn
              replace hbb := hbb.ext hyn
              replace hx := hx.trans hyn
              clear hyn
              have HO := hid (show sameOut a b = false by rw [HS.out, wireSame, HZ.out]; simp)
              go_wp2_with fail
              go_ret2
              exact ⟨ret_two HO.out.symm HE.out.symm, hx⟩
            · have HQ := hid (show sameKP p q = sameK p.know q.know by rw [sameKP, hf]; rfl)
              clear hf
              have HC0 := hid (fun w' (x : Ext w1 w') => wire_same B p.know q.know Av cv Am cm Bv dv Bm dm w' (HI1.out.isK.ext x) (HJ1.out.isK.ext x))
              have HAll := hid (fun w' (x : Ext w1 w') => show w'.cell? ⟨r0, 4, none⟩ = some (.slice (some ⟨pb, po, none⟩) a.parts.length cp) ∧ w'.cell? ⟨r1, 4, none⟩ = some (.slice (some ⟨qb, qo, none⟩) b.parts.length dp) ∧ w'.cell? ⟨pb, po + k * 3 + 1, none⟩ = some (.slice Av p.know.vec.length cv) ∧ w'.cell? ⟨pb, po + k * 3 + 2, none⟩ = some (.slice Am p.know.more.length cm) ∧ w'.cell? ⟨qb, qo + k * 3 + 1, none⟩ = some (.slice Bv q.know.vec.length dv) ∧ w'.cell? ⟨qb, qo + k * 3 + 2, none⟩ = some (.slice Bm q.know.more.length dm) from
                ⟨(hba.ext x).cell rfl, (hbb.ext x).cell rfl, x.cell g1, x.cell g2, x.cell h1, x.cell h2⟩)
              clear g1 g2 h1 h2
              go_wp2_with fail
              refine wq_region (fun w' => Ext w1 w') (by kernel_rfl) (by kernel_rfl) (Ext.refl _).drew ?_
              refine wq_get (v := ?_) (fun w' hw' => ?_) ?_
              rotate_left
              · have hA := HAll.out w' hw'
                go_split_ands
                first
                  | (go_simp; done)
                  | (go_simp; with_reducible rfl)
              try simp only [Act.put, List.setIfInBounds_toArray, List.set_cons_zero, List.set_cons_succ]
              refine wq_get (v := ?_) (fun w' hw' => ?_) ?_
              rotate_left
              · have hA := HAll.out w' hw'
                go_split_ands
                first
                  | (go_simp; done)
                  | (go_simp; with_reducible rfl)
              try simp only [Act.put, List.setIfInBounds_toArray, List.set_cons_zero, List.set_cons_succ]
              refine wq_get (v := ?_) (fun w' hw' => ?_) ?_
              rotate_left
              · have hA := HAll.out w' hw'
                go_split_ands
                first
                  | (go_simp; done)
                  | (go_simp; with_reducible rfl)
              try simp only [Act.put, List.setIfInBounds_toArray, List.set_cons_zero, List.set_cons_succ]
              refine wq_getOn (v := ?_) (yields_at rfl rfl rfl) (fun w' hw' => ?_) ?_
              rotate_left
              · have hA := HAll.out w' hw'
                go_split_ands
                first
                  | (go_simp; done)
                  | (go_simp; with_reducible rfl)
              try simp only [Act.put, List.setIfInBounds_toArray, List.set_cons_zero, List.set_cons_succ]
              refine wq_getOn (v := ?_) (yields_at rfl rfl rfl) (fun w' hw' => ?_) ?_
              rotate_left
              · have hA := HAll.out w' hw'
                go_split_ands
                first
                  | (go_simp; done)
                  | (go_simp; with_reducible rfl)
              try simp only [Act.put, List.setIfInBounds_toArray, List.set_cons_zero, List.set_cons_succ]
              refine wq_getOn (v := ?_) (yields_at rfl rfl rfl) (fun w' hw' => ?_) ?_
              rotate_left
              · have hA := HAll.out w' hw'
                go_split_ands
                first
                  | (go_simp; done)
                  | (go_simp; with_reducible rfl)
              try simp only [Act.put, List.setIfInBounds_toArray, List.set_cons_zero, List.set_cons_succ]
              refine wq_getOn (v := ?_) (yields_at rfl rfl rfl) (fun w' hw' => ?_) ?_
              rotate_left
              · have hA := HAll.out w' hw'
                go_split_ands
                first
                  | (go_simp; done)
                  | (go_simp; with_reducible rfl)
              try simp only [Act.put, List.setIfInBounds_toArray, List.set_cons_zero, List.set_cons_succ]
              refine wq_getOn (v := ?_) (yields_at rfl rfl rfl) (fun w' hw' => ?_) ?_
              rotate_left
              · have hA := HAll.out w' hw'
                go_split_ands
                first
                  | (go_simp; done)
                  | (go_simp; with_reducible rfl)
              try simp only [Act.put, List.setIfInBounds_toArray, List.set_cons_zero, List.set_cons_succ]
              refine wq_getOn (v := ?_) (yields_at rfl rfl rfl) (fun w' hw' => ?_) ?_
              rotate_left
              · have hA := HAll.out w' hw'
                go_split_ands
                first
                  | (go_simp; done)
                  | (go_simp; with_reducible rfl)
              try simp only [Act.put, List.setIfInBounds_toArray, List.set_cons_zero, List.set_cons_succ]
              refine wq_getOn (v := ?_) (yields_at rfl rfl rfl) (fun w' hw' => ?_) ?_
              rotate_left
              · have hA := HAll.out w' hw'
                go_split_ands
                first
                  | (go_simp; done)
                  | (go_simp; with_reducible rfl)
              try simp only [Act.put, List.setIfInBounds_toArray, List.set_cons_zero, List.set_cons_succ]
              refine wq_getOn (v := ?_) (yields_at rfl rfl rfl) (fun w' hw' => ?_) ?_
              rotate_left
              · have hA := HAll.out w' hw'
                go_split_ands
                first
                  | (go_simp; done)
                  | (go_simp; with_reducible rfl)
              try simp only [Act.put, List.setIfInBounds_toArray, List.set_cons_zero, List.set_cons_succ]
              refine wq_getOn (v := ?_) (yields_at rfl rfl rfl) (fun w' hw' => ?_) ?_
              rotate_left
              · have hA := HAll.out w' hw'
                go_split_ands
                first
                  | (go_simp; done)
                  | (go_simp; with_reducible rfl)
              try simp only [Act.put, List.setIfInBounds_toArray, List.set_cons_zero, List.set_cons_succ]
              refine wq_getOn (v := ?_) (yields_at rfl rfl rfl) (fun w' hw' => ?_) ?_
              rotate_left
              · have hA := HAll.out w' hw'
                go_split_ands
                first
                  | (go_simp; done)
                  | (go_simp; with_reducible rfl)
              try simp only [Act.put, List.setIfInBounds_toArray, List.set_cons_zero, List.set_cons_succ]
              refine wq_getOn (v := ?_) (yields_at rfl rfl rfl) (fun w' hw' => ?_) ?_
              rotate_left
              · have hA := HAll.out w' hw'
                go_split_ands
                first
                  | (go_simp; done)
                  | (go_simp; with_reducible rfl)
              try simp only [Act.put, List.setIfInBounds_toArray, List.set_cons_zero, List.set_cons_succ]
              refine wq_getOn (v := ?_) (yields_at rfl rfl rfl) (fun w' hw' => ?_) ?_
              rotate_left
              · have hA := HAll.out w' hw'
                go_split_ands
                first
                  | (go_simp; done)
                  | (go_simp; with_reducible rfl)
              try simp only [Act.put, List.setIfInBounds_toArray, List.set_cons_zero, List.set_cons_succ]
              refine wq_callOn Try.call107 (yields_at rfl rfl rfl) (by rfl) (fun w' x => (HC0.out w' x).mono fun _ _ h => ⟨h.1, x.trans h.2⟩) ?_
              try simp only [Act.put, List.setIfInBounds_toArray, List.set_cons_zero, List.set_cons_succ]
              refine wq_getOn (v := ?_) (yields_at rfl rfl rfl) (fun w' hw' => ?_) ?_
              rotate_left
              · have hA := HAll.out w' hw'
                go_split_ands
                first
                  | (go_simp; done)
                  | (go_simp; with_reducible rfl)
              try simp only [Act.put, List.setIfInBounds_toArray, List.set_cons_zero, List.set_cons_succ]
              refine wq_get (v := ?_) (fun w' hw' => ?_) ?_
              rotate_left
              · have hA := HAll.out w' hw'
                go_split_ands
                first
                  | (go_simp; done)
                  | (go_simp; with_reducible rfl)
              try simp only [Act.put, List.setIfInBounds_toArray, List.set_cons_zero, List.set_cons_succ]
              refine wq_nil ?_
              intro w2 hyn
              clear HAll HC0
              replace hba := hba.ext hyn
              replace hbb := hbb.ext hyn
              replace hx := hx.trans hyn
              clear hyn
              cases hs : sameK p.know q.know
              · have HP := hid (HQ.out.trans hs)
                clear hs
                have HZ := hid (show sameL sameKP a.parts b.parts = false by rw [HU.out, HP.out, Bool.false_and])
                have HO := hid (show sameOut a b = false by rw [HS.out, wireSame, HZ.out]; simp)
                go_wp2_with fail
                go_ret2
                exact ⟨ret_two HO.out.symm HE.out.symm, hx⟩
              · have HP := hid (HQ.out.trans hs)
                clear hs
                have HN := hid (show sameL sameKP (a.parts.drop (k + 1)) (b.parts.drop (k + 1)) = sameL sameKP a.parts b.parts by rw [HU.out, HP.out, Bool.true_and])
                go_wp2_with fail
                go_roundw
                case rel => exact ⟨k + 1, hlt, by go_num, HN.out, hx, hba, hbb⟩
                case measure => simp [intOf]; omega
          · obtain rfl : k = a.parts.length := by omega
            have HD1 := hid (show sameL sameKP a.parts b.parts = true by rw [← HG.out]; exact sameL_end _ _ _ HL_parts.out)
            have y3 := hba.cell (i := 3) (u := .slice Ag a.gone.length cg) rfl
            clear hk hlt HG
            go_wp2_with fail
            clear y3
            go_loopw [108] (fun i wr => ∃ k : Nat, k ≤ a.gone.length ∧ i = .int .i64 k ∧ sameL sameGoneW (a.gone.drop k) (b.gone.drop k) = sameL sameGoneW a.gone b.gone ∧ Ext w wr ∧ Blk wr r0 26 #[.int .i64 a.site, .int .i64 a.stamp, .slice Ax a.vers.length cx, .slice Ag a.gone.length cg, .slice Ap a.parts.length cp] ∧ Blk wr r1 26 #[.int .i64 b.site, .int .i64 b.stamp, .slice Bx b.vers.length dx, .slice Bg b.gone.length dg, .slice Bp b.parts.length dp]) (fun i _ => a.gone.length - (intOf i).toNat)
            case atStart => exact ⟨0, Nat.zero_le _, rfl, rfl, hx, hba, hbb⟩
            case round =>
              clear hx hba hbb
              obtain ⟨k, hk, rfl, hG, hx, hba, hbb⟩ := hrel
              have HG := hid hG
              clear hG
              by_cases hlt : k < a.gone.length
              · have hlt2 : k < b.gone.length := by rw [← HL_gone.out]; exact hlt
                obtain ⟨p, hp⟩ : ∃ p, p = a.gone[k] := ⟨_, rfl⟩
                obtain ⟨q, hq⟩ : ∃ q, q = b.gone[k] := ⟨_, rfl⟩
                have HU := hid (show sameL sameGoneW a.gone b.gone = (sameGoneW p q && sameL sameGoneW (a.gone.drop (k + 1)) (b.gone.drop (k + 1))) by rw [← HG.out, sameL_drop _ _ _ _ hlt hlt2, hp, hq])
                obtain ⟨pb, po, Av, cv, Am, cm, hA, hpl, hr, hI⟩ := (HA.out.sg.ext RGone.monoE hx).gone hlt
                obtain ⟨qb, qo, Bv, dv, Bm, dm, hB', hql, hr2, hJ⟩ := (HB.out.sg.ext RGone.monoE hx).gone hlt2
                subst hA hB'
                rw [← hp] at hr hI
                rw [← hq] at hr2 hJ
                clear hp hq hpl hql
                have HI := hid hI
                have HJ := hid hJ
                have HC0 := hid (fun w' (x : Ext wr w') => wire_same B p.past q.past Av cv Am cm Bv dv Bm dm w' (HI.out.isK.ext x) (HJ.out.isK.ext x))
                have HAll := hid (fun w' (x : Ext wr w') => show w'.cell? ⟨r0, 3, none⟩ = some (.slice (some ⟨pb, po, none⟩) a.gone.length cg) ∧ w'.cell? ⟨r1, 3, none⟩ = some (.slice (some ⟨qb, qo, none⟩) b.gone.length dg) ∧ w'.cell? ⟨pb, po + k * 3, none⟩ = some (.string p.id) ∧ w'.cell? ⟨pb, po + k * 3 + 1, none⟩ = some (.slice Av p.past.vec.length cv) ∧ w'.cell? ⟨pb, po + k * 3 + 2, none⟩ = some (.slice Am p.past.more.length cm) ∧ w'.cell? ⟨qb, qo + k * 3, none⟩ = some (.string q.id) ∧ w'.cell? ⟨qb, qo + k * 3 + 1, none⟩ = some (.slice Bv q.past.vec.length dv) ∧ w'.cell? ⟨qb, qo + k * 3 + 2, none⟩ = some (.slice Bm q.past.more.length dm) from
                  ⟨(hba.ext x).cell rfl, (hbb.ext x).cell rfl, x.cell (hr 0 _ rfl), x.cell (hr 1 _ rfl), x.cell (hr 2 _ rfl), x.cell (hr2 0 _ rfl), x.cell (hr2 1 _ rfl), x.cell (hr2 2 _ rfl)⟩)
                clear hI hJ hr hr2
                go_wp2_with fail
                cases hs : sEq p.id q.id
                · have h1' : (p.id.toList == q.id.toList) = false := hs
                  have HP := hid (show sameGoneW p q = false by rw [sameGoneW, hs]; rfl)
                  clear hs
                  refine wq_region (fun w' => Ext wr w') (by kernel_rfl) (by kernel_rfl) (Ext.refl _).drew ?_
                  refine wq_get (v := ?_) (fun w' hw' => ?_) ?_
                  rotate_left
                  · have hA := HAll.out w' hw'
                    go_split_ands
                    first
                      | (go_simp; done)
                      | (go_simp; with_reducible rfl)
                  try simp only [Act.put, List.setIfInBounds_toArray, List.set_cons_zero, List.set_cons_succ]
                  refine wq_get (v := ?_) (fun w' hw' => ?_) ?_
                  rotate_left
                  · have hA := HAll.out w' hw'
                    go_split_ands
                    first
                      | (go_simp; done)
                      | (go_simp; with_reducible rfl)
                  try simp only [Act.put, List.setIfInBounds_toArray, List.set_cons_zero, List.set_cons_succ]
                  refine wq_get (v := ?_) (fun w' hw' => ?_) ?_
                  rotate_left
                  · have hA := HAll.out w' hw'
                    go_split_ands
                    first
                      | (go_simp; done)
                      | (go_simp; with_reducible rfl)
                  try simp only [Act.put, List.setIfInBounds_toArray, List.set_cons_zero, List.set_cons_succ]
                  refine wq_get (v := ?_) (fun w' hw' => ?_) ?_
                  rotate_left
                  · have hA := HAll.out w' hw'
                    go_split_ands
                    first
                      | (go_simp; done)
                      | (go_simp; with_reducible rfl)
                  try simp only [Act.put, List.setIfInBounds_toArray, List.set_cons_zero, List.set_cons_succ]
                  refine wq_get (v := ?_) (fun w' hw' => ?_) ?_
                  rotate_left
                  · have hA := HAll.out w' hw'
                    go_split_ands
                    first
                      | (go_simp; done)
                      | (go_simp; with_reducible rfl)
                  try simp only [Act.put, List.setIfInBounds_toArray, List.set_cons_zero, List.set_cons_succ]
                  refine wq_get (v := ?_) (fun w' hw' => ?_) ?_
                  rotate_left
                  · have hA := HAll.out w' hw'
                    go_split_ands
                    first
                      | (go_simp; done)
                      | (go_simp; with_reducible rfl)
                  try simp only [Act.put, List.setIfInBounds_toArray, List.set_cons_zero, List.set_cons_succ]
                  refine wq_get (v := ?_) (fun w' hw' => ?_) ?_
                  rotate_left
                  · have hA := HAll.out w' hw'
                    go_split_ands
                    first
                      | (go_simp; done)
                      | (go_simp; with_reducible rfl)
                  try simp only [Act.put, List.setIfInBounds_toArray, List.set_cons_zero, List.set_cons_succ]
                  refine wq_get (v := ?_) (fun w' hw' => ?_) ?_
                  rotate_left
                  · have hA := HAll.out w' hw'
                    go_split_ands
                    first
                      | (go_simp; done)
                      | (go_simp; with_reducible rfl)
                  try simp only [Act.put, List.setIfInBounds_toArray, List.set_cons_zero, List.set_cons_succ]
                  refine wq_get (v := ?_) (fun w' hw' => ?_) ?_
                  rotate_left
                  · have hA := HAll.out w' hw'
                    go_split_ands
                    first
                      | (go_simp; done)
                      | (go_simp; with_reducible rfl)
                  try simp only [Act.put, List.setIfInBounds_toArray, List.set_cons_zero, List.set_cons_succ]
                  refine wq_get (v := ?_) (fun w' hw' => ?_) ?_
                  rotate_left
                  · have hA := HAll.out w' hw'
                    go_split_ands
                    first
                      | (go_simp; done)
                      | (go_simp; with_reducible rfl)
                  try simp only [Act.put, List.setIfInBounds_toArray, List.set_cons_zero, List.set_cons_succ]
                  refine wq_get (v := ?_) (fun w' hw' => ?_) ?_
                  rotate_left
                  · have hA := HAll.out w' hw'
                    go_split_ands
                    first
                      | (go_simp; done)
                      | (go_simp; with_reducible rfl)
                  try simp only [Act.put, List.setIfInBounds_toArray, List.set_cons_zero, List.set_cons_succ]
                  refine wq_get (v := ?_) (fun w' hw' => ?_) ?_
                  rotate_left
                  · have hA := HAll.out w' hw'
                    go_split_ands
                    first
                      | (go_simp; done)
                      | (go_simp; with_reducible rfl)
                  try simp only [Act.put, List.setIfInBounds_toArray, List.set_cons_zero, List.set_cons_succ]
                  refine wq_get (v := ?_) (fun w' hw' => ?_) ?_
                  rotate_left
                  · have hA := HAll.out w' hw'
                    go_split_ands
                    first
                      | (go_simp; done)
                      | (go_simp; with_reducible rfl)
                  try simp only [Act.put, List.setIfInBounds_toArray, List.set_cons_zero, List.set_cons_succ]
                  refine wq_get (v := ?_) (fun w' hw' => ?_) ?_
                  rotate_left
                  · have hA := HAll.out w' hw'
                    go_split_ands
                    first
                      | (go_simp; done)
                      | (go_simp; with_reducible rfl)
                  try simp only [Act.put, List.setIfInBounds_toArray, List.set_cons_zero, List.set_cons_succ]
                  refine wq_skip (yields_at rfl rfl rfl) ?_
                  try simp only [Act.put, List.setIfInBounds_toArray, List.set_cons_zero, List.set_cons_succ]
                  refine wq_skip (yields_at rfl rfl rfl) ?_
                  try simp only [Act.put, List.setIfInBounds_toArray, List.set_cons_zero, List.set_cons_succ]
                  refine wq_skip (yields_at rfl rfl rfl) ?_
                  try simp only [Act.put, List.setIfInBounds_toArray, List.set_cons_zero, List.set_cons_succ]
                  refine wq_skip (yields_at rfl rfl rfl) ?_
                  try simp only [Act.put, List.setIfInBounds_toArray, List.set_cons_zero, List.set_cons_succ]
                  refine wq_skip (yields_at rfl rfl rfl) ?_
                  try simp only [Act.put, List.setIfInBounds_toArray, List.set_cons_zero, List.set_cons_succ]
                  refine wq_skip (yields_at rfl rfl rfl) ?_
                  try simp only [Act.put, List.setIfInBounds_toArray, List.set_cons_zero, List.set_cons_succ]
                  refine wq_skip (yields_at rfl rfl rfl) ?_
                  try simp only [Act.put, List.setIfInBounds_toArray, List.set_cons_zero, List.set_cons_succ]
                  refine wq_skip (yields_at rfl rfl rfl) ?_
                  try simp only [Act.put, List.setIfInBounds_toArray, List.set_cons_zero, List.set_cons_succ]
                  refine wq_skip (yields_at rfl rfl rfl) ?_
                  try simp only [Act.put, List.setIfInBounds_toArray, List.set_cons_zero, List.set_cons_succ]
                  refine wq_skip (yields_at rfl rfl rfl) ?_
                  try simp only [Act.put, List.setIfInBounds_toArray, List.set_cons_zero, List.set_cons_succ]
                  refine wq_skip (yields_at rfl rfl rfl) ?_
                  try simp only [Act.put, List.setIfInBounds_toArray, List.set_cons_zero, List.set_cons_succ]
                  refine wq_skip (yields_at rfl rfl rfl) ?_
                  try simp only [Act.put, List.setIfInBounds_toArray, List.set_cons_zero, List.set_cons_succ]
                  refine wq_skip (yields_at rfl rfl rfl) ?_
                  try simp only [Act.put, List.setIfInBounds_toArray, List.set_cons_zero, List.set_cons_succ]
                  refine wq_skip (yields_at rfl rfl rfl) ?_
                  try simp only [Act.put, List.setIfInBounds_toArray, List.set_cons_zero, List.set_cons_succ]
                  refine wq_get (v := ?_) (fun w' hw' => ?_) ?_
                  rotate_left
                  · have hA := HAll.out w' hw'
                    go_split_ands
                    first
                      | (go_simp; done)
                      | (go_simp; with_reducible rfl)
                  try simp only [Act.put, List.setIfInBounds_toArray, List.set_cons_zero, List.set_cons_succ]
                  refine wq_nil ?_
                  intro w1 hyn
                  have HZ := hid (show sameL sameGoneW a.gone b.gone = false by rw [HU.out, HP.out, Bool.false_and])
                  clear HAll HC0 h1'
                  replace hba := hba.ext hyn
                  replace hbb := hbb.ext hyn
                  replace hx := hx.trans hyn
                  clear hyn
                  have HO := hid (show sameOut a b = false by rw [HS.out, wireSame, HZ.out]; simp)
                  go_wp2_with fail
                  go_ret2
                  exact ⟨ret_two HO.out.symm HE.out.symm, hx⟩
                · have h1' : (p.id.toList == q.id.toList) = true := hs
                  have HQ := hid (show sameGoneW p q = sameK p.past q.past by rw [sameGoneW, hs]; rfl)
                  clear hs
                  refine wq_region (fun w' => Ext wr w') (by kernel_rfl) (by kernel_rfl) (Ext.refl _).drew ?_
                  refine wq_get (v := ?_) (fun w' hw' => ?_) ?_
                  rotate_left
                  · have hA := HAll.out w' hw'
                    go_split_ands
                    first
                      | (go_simp; done)
                      | (go_simp; with_reducible rfl)
                  try simp only [Act.put, List.setIfInBounds_toArray, List.set_cons_zero, List.set_cons_succ]
                  refine wq_get (v := ?_) (fun w' hw' => ?_) ?_
                  rotate_left
                  · have hA := HAll.out w' hw'
                    go_split_ands
                    first
                      | (go_simp; done)
                      | (go_simp; with_reducible rfl)
                  try simp only [Act.put, List.setIfInBounds_toArray, List.set_cons_zero, List.set_cons_succ]
                  refine wq_get (v := ?_) (fun w' hw' => ?_) ?_
                  rotate_left
                  · have hA := HAll.out w' hw'
                    go_split_ands
                    first
                      | (go_simp; done)
                      | (go_simp; with_reducible rfl)
                  try simp only [Act.put, List.setIfInBounds_toArray, List.set_cons_zero, List.set_cons_succ]
                  refine wq_get (v := ?_) (fun w' hw' => ?_) ?_
                  rotate_left
                  · have hA := HAll.out w' hw'
                    go_split_ands
                    first
                      | (go_simp; done)
                      | (go_simp; with_reducible rfl)
                  try simp only [Act.put, List.setIfInBounds_toArray, List.set_cons_zero, List.set_cons_succ]
                  refine wq_get (v := ?_) (fun w' hw' => ?_) ?_
                  rotate_left
                  · have hA := HAll.out w' hw'
                    go_split_ands
                    first
                      | (go_simp; done)
                      | (go_simp; with_reducible rfl)
                  try simp only [Act.put, List.setIfInBounds_toArray, List.set_cons_zero, List.set_cons_succ]
                  refine wq_get (v := ?_) (fun w' hw' => ?_) ?_
                  rotate_left
                  · have hA := HAll.out w' hw'
                    go_split_ands
                    first
                      | (go_simp; done)
                      | (go_simp; with_reducible rfl)
                  try simp only [Act.put, List.setIfInBounds_toArray, List.set_cons_zero, List.set_cons_succ]
                  refine wq_get (v := ?_) (fun w' hw' => ?_) ?_
                  rotate_left
                  · have hA := HAll.out w' hw'
                    go_split_ands
                    first
                      | (go_simp; done)
                      | (go_simp; with_reducible rfl)
                  try simp only [Act.put, List.setIfInBounds_toArray, List.set_cons_zero, List.set_cons_succ]
                  refine wq_get (v := ?_) (fun w' hw' => ?_) ?_
                  rotate_left
                  · have hA := HAll.out w' hw'
                    go_split_ands
                    first
                      | (go_simp; done)
                      | (go_simp; with_reducible rfl)
                  try simp only [Act.put, List.setIfInBounds_toArray, List.set_cons_zero, List.set_cons_succ]
                  refine wq_get (v := ?_) (fun w' hw' => ?_) ?_
                  rotate_left
                  · have hA := HAll.out w' hw'
                    go_split_ands
                    first
                      | (go_simp; done)
                      | (go_simp; with_reducible rfl)
                  try simp only [Act.put, List.setIfInBounds_toArray, List.set_cons_zero, List.set_cons_succ]
                  refine wq_get (v := ?_) (fun w' hw' => ?_) ?_
                  rotate_left
                  · have hA := HAll.out w' hw'
                    go_split_ands
                    first
                      | (go_simp; done)
                      | (go_simp; with_reducible rfl)
                  try simp only [Act.put, List.setIfInBounds_toArray, List.set_cons_zero, List.set_cons_succ]
                  refine wq_get (v := ?_) (fun w' hw' => ?_) ?_
                  rotate_left
                  · have hA := HAll.out w' hw'
                    go_split_ands
                    first
                      | (go_simp; done)
                      | (go_simp; with_reducible rfl)
                  try simp only [Act.put, List.setIfInBounds_toArray, List.set_cons_zero, List.set_cons_succ]
                  refine wq_get (v := ?_) (fun w' hw' => ?_) ?_
                  rotate_left
                  · have hA := HAll.out w' hw'
                    go_split_ands
                    first
                      | (go_simp; done)
                      | (go_simp; with_reducible rfl)
                  try simp only [Act.put, List.setIfInBounds_toArray, List.set_cons_zero, List.set_cons_succ]
                  refine wq_get (v := ?_) (fun w' hw' => ?_) ?_
                  rotate_left
                  · have hA := HAll.out w' hw'
                    go_split_ands
                    first
                      | (go_simp; done)
                      | (go_simp; with_reducible rfl)
                  try simp only [Act.put, List.setIfInBounds_toArray, List.set_cons_zero, List.set_cons_succ]
                  refine wq_get (v := ?_) (fun w' hw' => ?_) ?_
                  rotate_left
                  · have hA := HAll.out w' hw'
                    go_split_ands
                    first
                      | (go_simp; done)
                      | (go_simp; with_reducible rfl)
                  try simp only [Act.put, List.setIfInBounds_toArray, List.set_cons_zero, List.set_cons_succ]
                  refine wq_getOn (v := ?_) (yields_at rfl rfl rfl) (fun w' hw' => ?_) ?_
                  rotate_left
                  · have hA := HAll.out w' hw'
                    go_split_ands
                    first
                      | (go_simp; done)
                      | (go_simp; with_reducible rfl)
                  try simp only [Act.put, List.setIfInBounds_toArray, List.set_cons_zero, List.set_cons_succ]
                  refine wq_getOn (v := ?_) (yields_at rfl rfl rfl) (fun w' hw' => ?_) ?_
                  rotate_left
                  · have hA := HAll.out w' hw'
                    go_split_ands
                    first
                      | (go_simp; done)
                      | (go_simp; with_reducible rfl)
                  try simp only [Act.put, List.setIfInBounds_toArray, List.set_cons_zero, List.set_cons_succ]
                  refine wq_getOn (v := ?_) (yields_at rfl rfl rfl) (fun w' hw' => ?_) ?_
                  rotate_left
                  · have hA := HAll.out w' hw'
                    go_split_ands
                    first
                      | (go_simp; done)
                      | (go_simp; with_reducible rfl)
                  try simp only [Act.put, List.setIfInBounds_toArray, List.set_cons_zero, List.set_cons_succ]
                  refine wq_getOn (v := ?_) (yields_at rfl rfl rfl) (fun w' hw' => ?_) ?_
                  rotate_left
                  · have hA := HAll.out w' hw'
                    go_split_ands
                    first
                      | (go_simp; done)
                      | (go_simp; with_reducible rfl)
                  try simp only [Act.put, List.setIfInBounds_toArray, List.set_cons_zero, List.set_cons_succ]
                  refine wq_getOn (v := ?_) (yields_at rfl rfl rfl) (fun w' hw' => ?_) ?_
                  rotate_left
                  · have hA := HAll.out w' hw'
                    go_split_ands
                    first
                      | (go_simp; done)
                      | (go_simp; with_reducible rfl)
                  try simp only [Act.put, List.setIfInBounds_toArray, List.set_cons_zero, List.set_cons_succ]
                  refine wq_getOn (v := ?_) (yields_at rfl rfl rfl) (fun w' hw' => ?_) ?_
                  rotate_left
                  · have hA := HAll.out w' hw'
                    go_split_ands
                    first
                      | (go_simp; done)
                      | (go_simp; with_reducible rfl)
                  try simp only [Act.put, List.setIfInBounds_toArray, List.set_cons_zero, List.set_cons_succ]
                  refine wq_getOn (v := ?_) (yields_at rfl rfl rfl) (fun w' hw' => ?_) ?_
                  rotate_left
                  · have hA := HAll.out w' hw'
                    go_split_ands
                    first
                      | (go_simp; done)
                      | (go_simp; with_reducible rfl)
                  try simp only [Act.put, List.setIfInBounds_toArray, List.set_cons_zero, List.set_cons_succ]
                  refine wq_getOn (v := ?_) (yields_at rfl rfl rfl) (fun w' hw' => ?_) ?_
                  rotate_left
                  · have hA := HAll.out w' hw'
                    go_split_ands
                    first
                      | (go_simp; done)
                      | (go_simp; with_reducible rfl)
                  try simp only [Act.put, List.setIfInBounds_toArray, List.set_cons_zero, List.set_cons_succ]
                  refine wq_getOn (v := ?_) (yields_at rfl rfl rfl) (fun w' hw' => ?_) ?_
                  rotate_left
                  · have hA := HAll.out w' hw'
                    go_split_ands
                    first
                      | (go_simp; done)
                      | (go_simp; with_reducible rfl)
                  try simp only [Act.put, List.setIfInBounds_toArray, List.set_cons_zero, List.set_cons_succ]
                  refine wq_getOn (v := ?_) (yields_at rfl rfl rfl) (fun w' hw' => ?_) ?_
                  rotate_left
                  · have hA := HAll.out w' hw'
                    go_split_ands
                    first
                      | (go_simp; done)
                      | (go_simp; with_reducible rfl)
                  try simp only [Act.put, List.setIfInBounds_toArray, List.set_cons_zero, List.set_cons_succ]
                  refine wq_getOn (v := ?_) (yields_at rfl rfl rfl) (fun w' hw' => ?_) ?_
                  rotate_left
                  · have hA := HAll.out w' hw'
                    go_split_ands
                    first
                      | (go_simp; done)
                      | (go_simp; with_reducible rfl)
                  try simp only [Act.put, List.setIfInBounds_toArray, List.set_cons_zero, List.set_cons_succ]
                  refine wq_getOn (v := ?_) (yields_at rfl rfl rfl) (fun w' hw' => ?_) ?_
                  rotate_left
                  · have hA := HAll.out w' hw'
                    go_split_ands
                    first
                      | (go_simp; done)
                      | (go_simp; with_reducible rfl)
                  try simp only [Act.put, List.setIfInBounds_toArray, List.set_cons_zero, List.set_cons_succ]
                  refine wq_callOn Try.call107 (yields_at rfl rfl rfl) (by rfl) (fun w' x => (HC0.out w' x).mono fun _ _ h => ⟨h.1, x.trans h.2⟩) ?_
                  try simp only [Act.put, List.setIfInBounds_toArray, List.set_cons_zero, List.set_cons_succ]
                  refine wq_getOn (v := ?_) (yields_at rfl rfl rfl) (fun w' hw' => ?_) ?_
                  rotate_left
                  · have hA := HAll.out w' hw'
                    go_split_ands
                    first
                      | (go_simp; done)
                      | (go_simp; with_reducible rfl)
                  try simp only [Act.put, List.setIfInBounds_toArray, List.set_cons_zero, List.set_cons_succ]
                  refine wq_get (v := ?_) (fun w' hw' => ?_) ?_
                  rotate_left
                  · have hA := HAll.out w' hw'
                    go_split_ands
                    first
                      | (go_simp; done)
                      | (go_simp; with_reducible rfl)
                  try simp only [Act.put, List.setIfInBounds_toArray, List.set_cons_zero, List.set_cons_succ]
                  refine wq_nil ?_
                  intro w1 hyn
                  clear HAll HC0 h1'
                  replace hba := hba.ext hyn
                  replace hbb := hbb.ext hyn
                  replace hx := hx.trans hyn
                  clear hyn
                  cases hs : sameK p.past q.past
                  · have HP := hid (HQ.out.trans hs)
                    clear hs
                    have HZ := hid (show sameL sameGoneW a.gone b.gone = false by rw [HU.out, HP.out, Bool.false_and])
                    have HO := hid (show sameOut a b = false by rw [HS.out, wireSame, HZ.out]; simp)
                    go_wp2_with fail
                    go_ret2
                    exact ⟨ret_two HO.out.symm HE.out.symm, hx⟩
                  · have HP := hid (HQ.out.trans hs)
                    clear hs
                    have HN := hid (show sameL sameGoneW (a.gone.drop (k + 1)) (b.gone.drop (k + 1)) = sameL sameGoneW a.gone b.gone by rw [HU.out, HP.out, Bool.true_and])
                    go_wp2_with fail
                    go_roundw
                    case rel => exact ⟨k + 1, hlt, by go_num, HN.out, hx, hba, hbb⟩
                    case measure => simp [intOf]; omega
              · obtain rfl : k = a.gone.length := by omega
                have HD2 := hid (show sameL sameGoneW a.gone b.gone = true by rw [← HG.out]; exact sameL_end _ _ _ HL_gone.out)
                have y3 := hba.cell (i := 2) (u := .slice Ax a.vers.length cx) rfl
                clear hk hlt HG
                go_wp2_with fail
                clear y3
                go_loopw [144] (fun i wr => ∃ k : Nat, k ≤ a.vers.length ∧ i = .int .i64 k ∧ sameL sameVerW (a.vers.drop k) (b.vers.drop k) = sameL sameVerW a.vers b.vers ∧ Ext w wr ∧ Blk wr r0 26 #[.int .i64 a.site, .int .i64 a.stamp, .slice Ax a.vers.length cx, .slice Ag a.gone.length cg, .slice Ap a.parts.length cp] ∧ Blk wr r1 26 #[.int .i64 b.site, .int .i64 b.stamp, .slice Bx b.vers.length dx, .slice Bg b.gone.length dg, .slice Bp b.parts.length dp]) (fun i _ => a.vers.length - (intOf i).toNat)
                case atStart => exact ⟨0, Nat.zero_le _, rfl, rfl, hx, hba, hbb⟩
                case round =>
                  clear hx hba hbb
                  obtain ⟨k, hk, rfl, hG, hx, hba, hbb⟩ := hrel
                  have HG := hid hG
                  clear hG
                  by_cases hlt : k < a.vers.length
                  · have hlt2 : k < b.vers.length := by rw [← HL_vers.out]; exact hlt
                    obtain ⟨p, hp⟩ : ∃ p, p = a.vers[k] := ⟨_, rfl⟩
                    obtain ⟨q, hq⟩ : ∃ q, q = b.vers[k] := ⟨_, rfl⟩
                    have HU := hid (show sameL sameVerW a.vers b.vers = (sameVerW p q && sameL sameVerW (a.vers.drop (k + 1)) (b.vers.drop (k + 1))) by rw [← HG.out, sameL_drop _ _ _ _ hlt hlt2, hp, hq])
                    obtain ⟨pb, po, Av, cv, Am, cm, hA, hpl, hr, hI⟩ := (HA.out.sx.ext RVer.monoE hx).ver hlt
                    obtain ⟨qb, qo, Bv, dv, Bm, dm, hB', hql, hr2, hJ⟩ := (HB.out.sx.ext RVer.monoE hx).ver hlt2
                    subst hA hB'
                    rw [← hp] at hr hI
                    rw [← hq] at hr2 hJ
                    clear hp hq hpl hql
                    have HI := hid hI
                    have HJ := hid hJ
                    have hxl := (Ext.refl wr).alloc (.cells #[.string p.id, .int .i64 p.dot.site, .int .i64 p.dot.count, .int .i64 p.pt.tags, .int .i64 p.pt.num, .int .i64 p.body, .slice Av p.past.vec.length cv, .slice Am p.past.more.length cm] 46)
                    have hr3 := rangeAt_ext hxl hr2
                    have hsz : ([.string p.id, .int .i64 p.dot.site, .int .i64 p.dot.count, .int .i64 p.pt.tags, .int .i64 p.pt.num, .int .i64 p.body, .slice Av p.past.vec.length cv, .slice Am p.past.more.length cm] : List Value).length = 8 := rfl
                    have hsz2 : ([.string q.id, .int .i64 q.dot.site, .int .i64 q.dot.count, .int .i64 q.pt.tags, .int .i64 q.pt.num, .int .i64 q.body, .slice Bv q.past.vec.length dv, .slice Bm q.past.more.length dm] : List Value).length = 8 := rfl
                    have y0 := hba.cell (i := 2) (u := .slice (some ⟨pb, po, none⟩) a.vers.length cx) rfl
                    have y1 := (hbb.ext hxl).cell (i := 2) (u := .slice (some ⟨qb, qo, none⟩) b.vers.length dx) rfl
                    clear hI hJ hr2
                    have HX := hid hx
                    have HBA := hid hba
                    have HBB := hid hbb
                    clear hx hba hbb hxl
                    cases hs : sEq p.id q.id
                    · have h1' : (p.id.toList == q.id.toList) = false := hs
                      have HP := hid (show sameVerW p q = false by rw [sameVerW, hs]; rfl)
                      clear hs
                      go_wp2_with (first | (with_reducible refine wpList_loadL (o := ⟨some 148, _, _, _, _, _⟩) ri_ver _ rfl rfl rfl hr hsz ?_) | (with_reducible refine wpList_loadL (o := ⟨some 153, _, _, _, _, _⟩) ri_ver _ rfl rfl rfl hr3 hsz2 ?_))
                      have HZ := hid (show sameL sameVerW a.vers b.vers = false by rw [HU.out, HP.out, Bool.false_and])
                      have HO := hid (show sameOut a b = false by rw [HS.out, wireSame, HZ.out]; simp)
                      go_ret2
                      exact ⟨ret_two HO.out.symm HE.out.symm, HX.out.trans (ext_two wr _ _ _ _)⟩
                    · have h1' : (p.id.toList == q.id.toList) = true := hs
                      have HQ := hid (show sameVerW p q = (sameDot p.dot q.dot && samePt p.pt q.pt && decide (p.body = q.body) && sameK p.past q.past) by rw [sameVerW, hs]; rfl)
                      clear hs
                      go_wp2_with (first | (with_reducible refine wpList_loadL (o := ⟨some 148, _, _, _, _, _⟩) ri_ver _ rfl rfl rfl hr hsz ?_) | (with_reducible refine wpList_loadL (o := ⟨some 153, _, _, _, _, _⟩) ri_ver _ rfl rfl rfl hr3 hsz2 ?_))
                      all_goals first
                        | (refine (wire_same B p.past q.past Av cv Am cm Bv dv Bm dm _ (HI.out.isK.ext (ext_two wr _ _ _ _)) (HJ.out.isK.ext (ext_two wr _ _ _ _))).mono ?_
                           rintro e w1 ⟨rfl, hx1⟩
                           have hR : sameVerW p q = sameK p.past q.past := by rw [HQ.out]; simp [sameDot, samePt, *]
                           replace hx1 := (ext_two wr _ _ _ _).trans hx1
                           have hx := HX.out.trans hx1
                           have hba := HBA.out.ext hx1
                           have hbb := HBB.out.ext hx1
                           clear hx1 hr hr3 hsz hsz2 y0 y1
                           cases hs : sameK p.past q.past
                           · have HP := hid (hR.trans hs)
                             clear hs hR
                             have HZ := hid (show sameL sameVerW a.vers b.vers = false by rw [HU.out, HP.out, Bool.false_and])
                             have HO := hid (show sameOut a b = false by rw [HS.out, wireSame, HZ.out]; simp)
                             go_wp2_with fail
                             go_ret2
                             exact ⟨ret_two HO.out.symm HE.out.symm, hx⟩
                           · have HP := hid (hR.trans hs)
                             clear hs hR
                             have HN := hid (show sameL sameVerW (a.vers.drop (k + 1)) (b.vers.drop (k + 1)) = sameL sameVerW a.vers b.vers by rw [HU.out, HP.out, Bool.true_and])
                             go_wp2_with fail
                             go_roundw
                             case rel => exact ⟨k + 1, hlt, by go_num, HN.out, hx, hba, hbb⟩
                             case measure => simp [intOf]; omega)
                        | (have HP := hid (show sameVerW p q = false by rw [HQ.out]; simp [sameDot, samePt, *])
                           have HZ := hid (show sameL sameVerW a.vers b.vers = false by rw [HU.out, HP.out, Bool.false_and])
                           have HO := hid (show sameOut a b = false by rw [HS.out, wireSame, HZ.out]; simp)
                           go_ret2
                           exact ⟨ret_two HO.out.symm HE.out.symm, HX.out.trans (ext_two wr _ _ _ _)⟩)
                  · obtain rfl : k = a.vers.length := by omega
                    have HD3 := hid (show sameL sameVerW a.vers b.vers = true by rw [← HG.out]; exact sameL_end _ _ _ HL_vers.out)
                    have HO := hid (show sameOut a b = true by rw [HS.out, wireSame, HLN.out, HD1.out, HD2.out, HD3.out]; rfl)
                    clear hk hlt HG
                    go_wp2_with fail
                    go_ret2
                    exact ⟨ret_two HO.out.symm HE.out.symm, hx⟩
      · have HO := hid (show sameOut a b = false by rw [HS.out, wireSame, show lens a b = false by simpa using hl]; rfl)
        have hd : ¬(a.site = b.site ∧ a.stamp = b.stamp ∧ a.vers.length = b.vers.length ∧ a.gone.length = b.gone.length ∧ a.parts.length = b.parts.length) := by
          rintro ⟨l1, l2, l3, l4, l5⟩
          exact hl (by simp [lens, l1, l2, l3, l4, l5])
        clear hl
        by_cases m0 : a.site = b.site
        · have n0 : (a.site != b.site) = false := by simp [m0]
          by_cases m1 : a.stamp = b.stamp
          · have n1 : (a.stamp != b.stamp) = false := by simp [m1]
            by_cases m2 : a.vers.length = b.vers.length
            · have n2 : ((a.vers.length : Int) != b.vers.length) = false := by simp [m2]
              by_cases m3 : a.gone.length = b.gone.length
              · have n3 : ((a.gone.length : Int) != b.gone.length) = false := by simp [m3]
                have m4 : ¬a.parts.length = b.parts.length := fun h => hd ⟨m0, m1, m2, m3, h⟩
                have n4 : ((a.parts.length : Int) != b.parts.length) = true := by simp; omega
                clear hd m0 m1 m2 m3 m4
                go_wp2_with fail
                go_ret2
                exact ⟨ret_two HO.out.symm HE.out.symm, hx⟩
              · have n3 : ((a.gone.length : Int) != b.gone.length) = true := by simp; omega
                clear hd m0 m1 m2 m3
                go_wp2_with fail
                go_ret2
                exact ⟨ret_two HO.out.symm HE.out.symm, hx⟩
            · have n2 : ((a.vers.length : Int) != b.vers.length) = true := by simp; omega
              clear hd m0 m1 m2
              go_wp2_with fail
              go_ret2
              exact ⟨ret_two HO.out.symm HE.out.symm, hx⟩
          · have n1 : (a.stamp != b.stamp) = true := by simp; omega
            clear hd m0 m1
            go_wp2_with fail
            go_ret2
            exact ⟨ret_two HO.out.symm HE.out.symm, hx⟩
        · have n0 : (a.site != b.site) = true := by simp; omega
          clear hd m0
          go_wp2_with fail
          go_ret2
          exact ⟨ret_two HO.out.symm HE.out.symm, hx⟩
    · have hne : (wireErr b != 0) = true := by simpa using h1
      have HO := hid (show sameOut a b = false by rw [HO0.out, if_neg (by rw [HE1.out]; exact h1)])
      clear h1
      go_wp2_with fail
      go_ret2
      exact ⟨ret_two HO.out.symm HE1.out.symm, hx⟩
  · have hne : (wireErr a != 0) = true := by simpa using h0
    have HE1 := hid (show sameErr a b = wireErr a by rw [HE0.out, if_neg h0])
    have HO := hid (show sameOut a b = false by rw [HO0.out, if_neg (by rw [HE1.out]; exact h0)])
    clear h0
    go_wp2_with fail
    go_ret2
    exact ⟨ret_two HO.out.symm HE1.out.symm, hx⟩
end Go.Proofs.Ytmedmfjhpabfdaa
