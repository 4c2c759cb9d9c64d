/- The walk of part.Within. -/
import Derived.Test.YtmedmfjhpabfdaaPartB
namespace Go.Proofs.Ytmedmfjhpabfdaa
open Go Go.RowKit

set_option maxRecDepth 100000 in
set_option maxHeartbeats 4000000 in
theorem part_Within (B : Nat) (A A' : Option Addr) (c c' : Nat) (a b : List Part) (w : World) (hB : B ≤ w.heap.size) (hla : a.length ≤ maxLen) (hlb : b.length ≤ maxLen) (ha : SlParts B w A a) (hb : SlParts B w A' b) :
    Calls Try.prog 34 #[.slice A a.length c, .slice A' b.length c'] w fun e w' => e = .returned (.tuple #[.bool (partsWithin a b), .int .i64 (partsTwo a b)]) ∧ Ext w w' := by
  have HW0 := hid (show partsWithin a b = if partsTwo a b = 0 then partsWithinP a b else false from rfl)
  have HT := hid (show partsTwo a b = if partsCheck a = 0 then partsCheck b else partsCheck a from rfl)
  have HCa := hid (partsCheck_ok (l := a))
  have HCb := hid (partsCheck_ok (l := b))
  go_enter Try.func34, Try.ntmps34
  go_wp2_with fail
  refine (part_Check B A c a _ hla ha).mono ?_
  rintro e w1 ⟨rfl, hx1⟩
  generalize hpa : partsCheck a = x at HT HCa ⊢
  clear hpa
  by_cases h0 : x = 0
  · subst h0
    have HOa := hid (HCa.out rfl)
    have HT1 := hid (show partsTwo a b = partsCheck b by rw [HT.out]; rfl)
    clear HCa HT
    go_wp2_with fail
    refine (part_Check B A' c' b _ hlb (hb.ext RPart.monoE hx1)).mono ?_
    rintro e w2 ⟨rfl, hx2⟩
    generalize hpb : partsCheck b = y at HT1 HCb ⊢
    clear hpb
    by_cases h1 : y = 0
    · subst h1
      have HOb := hid (HCb.out rfl)
      have HT0 := hid HT1.out
      have HPW := hid (show partsWithin a b = partsWithinP a b by rw [HW0.out, if_pos HT0.out])
      clear HCb HT1 HW0
      have hx := hx1.trans hx2
      clear hx1 hx2
      go_wp2_with fail
      go_loopw [21] (fun i wr => ∃ t : Nat, t ≤ 16 ∧ i = .int .i64 t ∧ allTo (fun t => allTo (fun n => withinK (atK a ⟨(t : Int), (n : Int)⟩) (atK b ⟨(t : Int), (n : Int)⟩)) 32) t = true ∧ Ext w wr) (fun i _ => 16 - (intOf i).toNat)
      case atStart => exact ⟨0, by omega, rfl, rfl, hx⟩
      case round =>
        clear hx
        obtain ⟨t, ht, rfl, hG, hx⟩ := hrel
        have HGt := hid hG
        clear hG
        by_cases htl : t < 16
        · have t0 : (0 : Int) ≤ t := by omega
          have t4 : (t : Int) < 16 := by omega
          go_wp2_with fail
          obtain ⟨wo, rfl⟩ : ∃ wo, wo = wr := ⟨_, rfl⟩
          go_loopw [24] (fun i wr => ∃ n : Nat, n ≤ 32 ∧ i = .int .i64 n ∧ allTo (fun n => withinK (atK a ⟨(t : Int), (n : Int)⟩) (atK b ⟨(t : Int), (n : Int)⟩)) n = true ∧ Ext w wr) (fun i _ => 32 - (intOf i).toNat)
          case atStart => exact ⟨0, by omega, rfl, rfl, hx⟩
          case round =>
            clear hx
            obtain ⟨n, hn, rfl, hG, hx⟩ := hrel
            have HGn := hid hG
            clear hG
            by_cases hnl : n < 32
            · have n0 : (0 : Int) ≤ n := by omega
              have n4 : (n : Int) < 32 := by omega
              have HPO := hid (show pointOk ⟨(t : Int), (n : Int)⟩ = true from pointOk_iff.2 ⟨by show (0 : Int) ≤ t; omega, by show (t : Int) ≤ 15; omega, by show (0 : Int) ≤ n; omega, by show (n : Int) ≤ 31; omega⟩)
              obtain ⟨W, hW⟩ : ∃ W, W = withinK (atK a ⟨(t : Int), (n : Int)⟩) (atK b ⟨(t : Int), (n : Int)⟩) := ⟨_, rfl⟩
              have HWW := hid hW
              clear hW
              go_wp2_with fail
              have q0 : (wr.alloc (.cells #[.int .i64 (t : Int), .int .i64 (n : Int)] 40)).cell? ⟨wr.heap.size, 0, none⟩ = some (.int .i64 (t : Int)) := by go_simp
              have q1 : (wr.alloc (.cells #[.int .i64 (t : Int), .int .i64 (n : Int)] 40)).cell? ⟨wr.heap.size, 1, none⟩ = some (.int .i64 (n : Int)) := by go_simp
              have hxa := hx.alloc (.cells #[.int .i64 (t : Int), .int .i64 (n : Int)] 40)
              obtain ⟨wa, hwa⟩ : ∃ wa, wa = wr.alloc (.cells #[.int .i64 (t : Int), .int .i64 (n : Int)] 40) := ⟨_, rfl⟩
              obtain ⟨r, hr⟩ : ∃ r, r = wr.heap.size := ⟨_, rfl⟩
              rw [← hwa] at q0 q1 hxa ⊢
              rw [← hr] at q0 q1 ⊢
              clear hwa hr
              have HX := hid hxa
              have HBW := hid (show B ≤ wa.heap.size from Nat.le_trans hB hxa.size)
              have HAll := hid (fun w' (x : Ext wa w') => show w'.cell? ⟨r, 0, none⟩ = some (.int .i64 (t : Int)) ∧ w'.cell? ⟨r, 1, none⟩ = some (.int .i64 (n : Int)) from ⟨x.cell q0, x.cell q1⟩)
              have HSa := hid (fun w' (x : Ext wa w') => ha.ext RPart.monoE (HX.out.trans x))
              have HSb := hid (fun w' (x : Ext wa w') => hb.ext RPart.monoE (HX.out.trans x))
              clear q0 q1 hxa hx
              have hyn := (Ext.refl wa).drew
              refine wp_region_held_drew (S := fun w' => w'.cell? ⟨r, 0, none⟩ = some (.int .i64 (t : Int)) ∧ w'.cell? ⟨r, 1, none⟩ = some (.int .i64 (n : Int))) (by kernel_rfl) (HAll.out _ hyn) (fun hHeld => ?_)
              obtain ⟨wc, hwc⟩ : ∃ wc, wc = wa.drew := ⟨_, rfl⟩
              rw [← hwc] at hHeld hyn ⊢
              clear hwc
              refine wpAnyH_take (i := 0) (oi := _) (v := ?_) rfl (by kernel_rfl) (by kernel_rfl) (by kernel_rfl) (fun _ _ _ h => h) (Or.inl ⟨by rfl, ?_⟩) (by assumption) ?_
              rotate_left
              · intro w' hSw
                try dsimp only at hSw
                first
                  | (go_simp; done)
                  | (go_simp; with_reducible rfl)
              simp only [List.getElem_toArray, List.getElem_cons_zero]
              try simp only [Act.put, List.setIfInBounds_toArray, List.set_cons_zero, List.set_cons_succ]
              refine wpAnyH_take (i := 1) (oi := _) (v := ?_) rfl (by kernel_rfl) (by kernel_rfl) (by kernel_rfl) (fun _ _ _ h => h) (Or.inl ⟨by rfl, ?_⟩) (by assumption) ?_
              rotate_left
              · intro w' hSw
                try dsimp only at hSw
                first
                  | (go_simp; done)
                  | (go_simp; with_reducible rfl)
              simp only [List.getElem_toArray, List.getElem_cons_zero, List.getElem_cons_succ]
              try simp only [Act.put, List.setIfInBounds_toArray, List.set_cons_zero, List.set_cons_succ]
              refine wpAnyH_take (i := 3) (oi := _) (v := ?_) rfl (by kernel_rfl) (by kernel_rfl) (by kernel_rfl) (fun _ _ _ h => h) (Or.inl ⟨by rfl, ?_⟩) (by assumption) ?_
              rotate_left
              · intro w' hSw
                try dsimp only at hSw
                first
                  | (go_simp; done)
                  | (go_simp; with_reducible rfl)
              simp only [List.getElem_toArray, List.getElem_cons_zero, List.getElem_cons_succ]
              try simp only [Act.put, List.setIfInBounds_toArray, List.set_cons_zero, List.set_cons_succ]
              refine wpAnyH_take (i := 4) (oi := _) (v := ?_) rfl (by kernel_rfl) (by kernel_rfl) (by kernel_rfl) (fun _ _ _ h => h) (Or.inl ⟨by rfl, ?_⟩) (by assumption) ?_
              rotate_left
              · intro w' hSw
                try dsimp only at hSw
                first
                  | (go_simp; done)
                  | (go_simp; with_reducible rfl)
              simp only [List.getElem_toArray, List.getElem_cons_zero, List.getElem_cons_succ]
              try simp only [Act.put, List.setIfInBounds_toArray, List.set_cons_zero, List.set_cons_succ]
              refine wpAnyH_ready (rs := [2]) (by kernel_rfl) (by simp) ?_
              refine AllReadyH.cons rfl (fun K hK => ?_) AllReadyH.nil
              simp only [List.getElem_toArray, List.getElem_cons_zero, List.getElem_cons_succ]
              go_simp
              refine (part_at B A c a ⟨(t : Int), (n : Int)⟩ wc (by have := hyn.size; have := HBW.out; omega) HOa.out.1 HOa.out.2 HPO.out (HSa.out _ hyn)).mono ?_
              rintro e wn ⟨v2, rfl, hk2, hxa⟩
              dsimp only
              replace hyn := hyn.trans hxa
              clear hxa
              obtain ⟨wc, rfl⟩ : ∃ wc', wc' = wn := ⟨_, rfl⟩
              refine hK.out _ _ (HAll.out _ hyn) (fun hHeld => ?_)
              clear hK K
              try simp only [Act.put, List.setIfInBounds_toArray, List.set_cons_zero, List.set_cons_succ]
              refine wpAnyH_ready (rs := [5]) (by kernel_rfl) (by simp) ?_
              refine AllReadyH.cons rfl (fun K hK => ?_) AllReadyH.nil
              simp only [List.getElem_toArray, List.getElem_cons_zero, List.getElem_cons_succ]
              go_simp
              refine (part_at B A' c' b ⟨(t : Int), (n : Int)⟩ wc (by have := hyn.size; have := HBW.out; omega) HOb.out.1 HOb.out.2 HPO.out (HSb.out _ hyn)).mono ?_
              rintro e wn ⟨v5, rfl, hk5, hxa⟩
              dsimp only
              replace hk2 := hk2.ext hxa
              replace hyn := hyn.trans hxa
              clear hxa
              obtain ⟨wc, rfl⟩ : ∃ wc', wc' = wn := ⟨_, rfl⟩
              refine hK.out _ _ (HAll.out _ hyn) (fun hHeld => ?_)
              clear hK K
              try simp only [Act.put, List.setIfInBounds_toArray, List.set_cons_zero, List.set_cons_succ]
              refine wpAnyH_ready (rs := [6]) (by kernel_rfl) (by simp) ?_
              refine AllReadyH.cons rfl (fun K hK => ?_) AllReadyH.nil
              simp only [List.getElem_toArray, List.getElem_cons_zero, List.getElem_cons_succ]
              go_simp
              refine (part_within 0 v2 v5 (atK a ⟨(t : Int), (n : Int)⟩) (atK b ⟨(t : Int), (n : Int)⟩) wc (Nat.zero_le _) hk2 hk5 (form_any _) (form_any _)).mono ?_
              rintro e wn ⟨rfl, hxa⟩
              dsimp only
              rw [← HWW.out]
              replace hyn := hyn.trans hxa
              clear hxa hk2 hk5
              obtain ⟨wc, rfl⟩ : ∃ wc', wc' = wn := ⟨_, rfl⟩
              refine hK.out _ _ (HAll.out _ hyn) (fun hHeld => ?_)
              clear hK K
              try simp only [Act.put, List.setIfInBounds_toArray, List.set_cons_zero, List.set_cons_succ]
              refine wpAnyH_take (i := 7) (oi := _) (v := ?_) rfl (by kernel_rfl) (by kernel_rfl) (by kernel_rfl) (fun _ _ _ h => h) (Or.inl ⟨by rfl, ?_⟩) (by assumption) ?_
              rotate_left
              · intro w' hSw
                try dsimp only at hSw
                first
                  | (go_simp; done)
                  | (go_simp; with_reducible rfl)
              simp only [List.getElem_toArray, List.getElem_cons_zero, List.getElem_cons_succ]
              try simp only [Act.put, List.setIfInBounds_toArray, List.set_cons_zero, List.set_cons_succ]
              refine wpAnyH_done (by kernel_rfl) ?_ _
              cases W
              · go_wp2_with fail
                have hF : partsWithin a b = false := by
                  rw [HPW.out, ← Bool.not_eq_true, partsWithinP, allTo_iff]
                  intro h
                  have h1 := (allTo_iff _ 32).1 (h t (by omega)) n (by omega)
                  rw [← HWW.out] at h1
                  cases h1
                go_ret2
                exact ⟨by simp [hF, HT0.out], HX.out.trans hyn⟩
              · go_wp2_with fail
                go_roundw
                case rel => exact ⟨n + 1, by omega, by go_num, by rw [allTo, HGn.out, Bool.true_and, ← HWW.out], HX.out.trans hyn⟩
                case measure => simp [intOf]; omega
            · obtain rfl : n = 32 := by omega
              go_wp2_with fail
              go_roundw
              case rel => exact ⟨t + 1, by omega, by go_num, by rw [allTo, HGt.out, Bool.true_and]; exact HGn.out, hx⟩
              case measure => simp [intOf]; omega
        · obtain rfl : t = 16 := by omega
          have hTr : partsWithin a b = true := by rw [HPW.out]; exact HGt.out
          go_wp2_with fail
          go_ret2
          exact ⟨by simp [hTr, HT0.out], hx⟩
    · have hne : (y != 0) = true := by simpa using h1
      have hF : partsWithin a b = false := by rw [HW0.out, if_neg (by rw [HT1.out]; exact h1)]
      clear h1
      go_wp2_with fail
      go_ret2
      exact ⟨by simp [hF, HT1.out], hx1.trans hx2⟩
  · have hne : (x != 0) = true := by simpa using h0
    have hT : partsTwo a b = x := by rw [HT.out, if_neg h0]
    have hF : partsWithin a b = false := by rw [HW0.out, if_neg (by rw [hT]; exact h0)]
    clear h0
    go_wp2_with fail
    go_ret2
    exact ⟨by simp [hF, hT], hx1⟩

end Go.Proofs.Ytmedmfjhpabfdaa
