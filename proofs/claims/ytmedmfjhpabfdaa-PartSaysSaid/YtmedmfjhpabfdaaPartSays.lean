/- THE LAW PartSays: whatever parts, points and dots are handed in, Check, Has and Within answer what the document says. The conditions are the statement's own. -/
import Derived.Test.YtmedmfjhpabfdaaRows
import Derived.Test.YtmedmfjhpabfdaaPartC
import Derived.Test.YtmedmfjhpabfdaaPartM
namespace Go.Proofs.Ytmedmfjhpabfdaa
open Go Go.RowKit

theorem own_bad : partsCheck [⟨[], ⟨[0], []⟩⟩] = 3 := by decide +kernel
theorem Sl.ofBlk {α : Type} {R : World → List Value → α → Prop} {B sz : Nat} {e : TypeId} {w : World} {b : Nat} {cs : Array Value} {x : α} (h : Blk w b e cs) (hl : cs.size = sz) (hR : R w cs.toList x) : Sl B e R sz w (some ⟨b, 0, none⟩) [x] := by
  intro i y hi
  match i, hi with
  | 0, hi =>
    simp at hi; subst hi
    exact ⟨b, 0, cs.toList, rfl, h.lt, .inr h.ty, by simp [hl], fun j u hj => by rw [Nat.zero_mul, Nat.zero_add]; exact h.cell (by rwa [Array.getElem?_toList] at hj), hR⟩

set_option maxRecDepth 100000 in
set_option maxHeartbeats 4000000 in
theorem law_PartSays (B : Nat) (A A' : Option Addr) (c c' : Nat) (a b : List Part) (p : Point) (d : Dot) (w : World) (hB : B ≤ w.heap.size) (hla : a.length ≤ maxLen) (hlb : b.length ≤ maxLen) (ha : SlParts B w A a) (hb : SlParts B w A' b) :
    Calls Try.prog 6 #[.slice A a.length c, .slice A' b.length c', .agg #[.int .i64 p.tags, .int .i64 p.num], .agg #[.int .i64 d.site, .int .i64 d.count]] w fun e w' => e = .returned (.bool true) ∧ Ext w w' := by
  have HCa := hid (partsCheck_ok (l := a))
  have HCb := hid (partsCheck_ok (l := b))
  obtain ⟨MA, hMA⟩ : ∃ m, m = a.map meanOf := ⟨_, rfl⟩
  obtain ⟨MB, hMB⟩ : ∃ m, m = b.map meanOf := ⟨_, rfl⟩
  have HMA := hid hMA
  have HMB := hid hMB
  have HLA := hid (show MA.length ≤ maxLen by rw [hMA, List.length_map]; exact hla)
  have HLB := hid (show MB.length ≤ maxLen by rw [hMB, List.length_map]; exact hlb)
  clear hMA hMB
  have hx0 := ((Ext.refl w).alloc (.cells #[.int .i64 p.tags, .int .i64 p.num] 40)).alloc (.cells #[.int .i64 d.site, .int .i64 d.count] 38)
  go_enter Try.func6, Try.ntmps6
  go_wp2_with fail
  refine (part_Has B A c a p d _ hla (ha.ext RPart.monoE hx0)).mono ?_
  rintro e w1 ⟨rfl, hx1⟩
  have q0 : w1.cell? ⟨w.heap.size, 0, none⟩ = some (.int .i64 p.tags) := hx1.cell (by go_simp)
  have q1 : w1.cell? ⟨w.heap.size, 1, none⟩ = some (.int .i64 p.num) := hx1.cell (by go_simp)
  have q2 : w1.cell? ⟨w.heap.size + 1, 0, none⟩ = some (.int .i64 d.site) := hx1.cell (by go_simp)
  have q3 : w1.cell? ⟨w.heap.size + 1, 1, none⟩ = some (.int .i64 d.count) := hx1.cell (by go_simp)
  have hx := hx0.trans hx1
  clear hx0 hx1
  go_wp2_with fail
  refine (part_Within B A A' c c' a b _ (Nat.le_trans hB hx.size) hla hlb (ha.ext RPart.monoE hx) (hb.ext RPart.monoE hx)).mono ?_
  rintro e w2 ⟨rfl, hx2⟩
  replace q0 := hx2.cell q0
  replace q1 := hx2.cell q1
  replace q2 := hx2.cell q2
  replace q3 := hx2.cell q3
  replace hx := hx.trans hx2
  clear hx2
  go_wp2_with fail
  refine (ref_Parts B A c a _ hla (ha.ext RPart.monoE hx)).mono ?_
  rintro e w3 ⟨rfl, hx3⟩
  replace q0 := hx3.cell q0
  replace q1 := hx3.cell q1
  replace q2 := hx3.cell q2
  replace q3 := hx3.cell q3
  replace hx := hx.trans hx3
  clear hx3
  go_wp2_with fail
  refine (ref_Parts B A c a _ hla (ha.ext RPart.monoE hx)).mono ?_
  rintro e w4 ⟨rfl, hx4⟩
  replace q0 := hx4.cell q0
  replace q1 := hx4.cell q1
  replace q2 := hx4.cell q2
  replace q3 := hx4.cell q3
  replace hx := hx.trans hx4
  clear hx4
  go_wp2_with fail
  refine (part_Check B A c a _ hla (ha.ext RPart.monoE hx)).mono ?_
  rintro e w5 ⟨rfl, hx5⟩
  replace q0 := hx5.cell q0
  replace q1 := hx5.cell q1
  replace q2 := hx5.cell q2
  replace q3 := hx5.cell q3
  replace hx := hx.trans hx5
  clear hx5
  have HH := hid (show partsHas a p d = if partsCheck a = 0 then (if (pointOk p && dotOk d) = true then partsIn a p d else false) else false from rfl)
  have HE := hid (show partsHasErr a p d = if partsCheck a = 0 then (if (pointOk p && dotOk d) = true then 0 else 1) else partsCheck a from rfl)
  have HT := hid (show partsTwo a b = if partsCheck a = 0 then partsCheck b else partsCheck a from rfl)
  generalize hpa : partsCheck a = x at HCa HH HE HT ⊢
  have hxe : (x == x) = true := by simp
  go_wp2_with fail
  have hbv := (Blk.new w5 3 #[.int .i64 0]).alloc (.cells #[.slice none 0 0, .slice (some ⟨w5.heap.size, 0, none⟩) 1 1, .slice none 0 0] 69)
  have hbp := Blk.new (w5.alloc (.cells #[.int .i64 0] 3)) 69 #[.slice none 0 0, .slice (some ⟨w5.heap.size, 0, none⟩) 1 1, .slice none 0 0]
  rw [World.size_alloc] at hbp
  have hxp := ((Ext.refl w5).alloc (.cells #[.int .i64 0] 3)).alloc (.cells #[.slice none 0 0, .slice (some ⟨w5.heap.size, 0, none⟩) 1 1, .slice none 0 0] 69)
  refine (part_Check 0 (some ⟨w5.heap.size + 1, 0, none⟩) 1 [⟨[], ⟨[0], []⟩⟩] _ (by simp [maxLen]) (Sl.ofBlk hbp rfl ⟨_, _, _, rfl, IsSl.nil, ⟨_, 1, rfl, by simp, by simp [maxLen], Sl.ofBlk hbv rfl rfl⟩, IsSl.nil⟩)).mono ?_
  rintro e w6 ⟨rfl, hx6⟩
  rw [own_bad]
  replace hx6 := hxp.trans hx6
  clear hbv hbp hxp
  replace q0 := hx6.cell q0
  replace q1 := hx6.cell q1
  replace q2 := hx6.cell q2
  replace q3 := hx6.cell q3
  replace hx := hx.trans hx6
  clear hx6
  by_cases h0 : x = 0
  · subst h0
    have HOa := hid (HCa.out rfl)
    have HT1 := hid (show partsTwo a b = partsCheck b by rw [HT.out]; rfl)
    have HH1 := hid (show partsHas a p d = if (pointOk p && dotOk d) = true then partsIn a p d else false by rw [HH.out]; rfl)
    have HE1 := hid (show partsHasErr a p d = if (pointOk p && dotOk d) = true then 0 else 1 by rw [HE.out]; rfl)
    clear HCa HH HE HT hpa hxe
    rw [HT1.out]
    go_wp2_with fail
    refine (ref_Parts B A' c' b _ hlb (hb.ext RPart.monoE hx)).mono ?_
    rintro e w7 ⟨rfl, hx7⟩
    replace q0 := hx7.cell q0
    replace q1 := hx7.cell q1
    replace q2 := hx7.cell q2
    replace q3 := hx7.cell q3
    replace hx := hx.trans hx7
    clear hx7
    generalize hpb : partsCheck b = y at HCb HT1 ⊢
    have hye : (y == y) = true := by simp
    clear hpb
    cases hp : pointOk p
    · rw [hp] at HH1 HE1
      rw [HH1.out, HE1.out]
      have HPF := hid hp
      go_wp2_with fail
      refine (ref_Point p _).mono ?_
      rintro e w8 ⟨rfl, hx8⟩
      rw [HPF.out]
      replace hx := hx.trans hx8
      clear hx8 hp
      by_cases h1 : y = 0
      · subst h1
        have HOb := hid (HCb.out rfl)
        have HPW := hid (show partsWithin a b = partsWithinR MA MB by
          rw [HMA.out, HMB.out, partsWithin, if_pos HT1.out, partsWithin_mean fun x hx => (HOa.out.2 x hx).k])
        clear HCb
        go_wp2_with fail
        refine (ref_Mean B A c a _ HOa.out.1 HOa.out.2 (ha.ext RPart.monoE hx)).mono ?_
        rintro e w8 ⟨v8, rfl, hv8, hx8⟩
        rw [← HMA.out] at hv8
        obtain ⟨A8, c8, rfl, _, _⟩ := hv8.len
        replace hx := hx.trans hx8
        clear hx8
        go_wp2_with fail
        refine (ref_Mean B A' c' b _ HOb.out.1 HOb.out.2 (hb.ext RPart.monoE hx)).mono ?_
        rintro e w9 ⟨v9, rfl, hv9, hx9⟩
        rw [← HMB.out] at hv9
        obtain ⟨A9, c9, rfl, _, _⟩ := hv9.len
        replace hx := hx.trans hx9
        replace hv8 := hv8.ext (RRef.mono (B := 0)) hx9
        clear hx9
        go_wp2_with fail
        refine (refs_Within 0 0 A8 A9 c8 c9 MA MB w9 HLA.out HLB.out (hv8.sl 0) (hv9.sl 0)).mono ?_
        rintro e w10 ⟨rfl, hx10⟩
        rw [HPW.out]
        replace hx := hx.trans hx10
        clear hx10
        go_wp2_with fail
        go_ret
        exact ⟨rfl, hx⟩
      · have hne : (y != 0) = true := by simpa using h1
        have hF : partsWithin a b = false := by rw [partsWithin, HT1.out, if_neg h1]
        rw [hF]
        clear h1
        go_wp2_with fail
        go_ret
        exact ⟨rfl, hx⟩
    · rw [hp] at HH1 HE1
      have HP := hid hp
      clear hp
      cases hd : dotOk d
      · rw [hd] at HH1 HE1
        rw [HH1.out, HE1.out]
        have HDF := hid hd
        go_wp2_with fail
        refine (ref_Point p _).mono ?_
        rintro e w8 ⟨rfl, hx8⟩
        rw [HP.out]
        replace q0 := hx8.cell q0
        replace q1 := hx8.cell q1
        replace q2 := hx8.cell q2
        replace q3 := hx8.cell q3
        replace hx := hx.trans hx8
        clear hx8
        go_wp2_with fail
        refine (ref_Dot d _).mono ?_
        rintro e w9 ⟨rfl, hx9⟩
        rw [HDF.out]
        replace hx := hx.trans hx9
        clear hx9 hd
        by_cases h1 : y = 0
        · subst h1
          have HOb := hid (HCb.out rfl)
          have HPW := hid (show partsWithin a b = partsWithinR MA MB by
            rw [HMA.out, HMB.out, partsWithin, if_pos HT1.out, partsWithin_mean fun x hx => (HOa.out.2 x hx).k])
          clear HCb
          go_wp2_with fail
          refine (ref_Mean B A c a _ HOa.out.1 HOa.out.2 (ha.ext RPart.monoE hx)).mono ?_
          rintro e w8 ⟨v8, rfl, hv8, hx8⟩
          rw [← HMA.out] at hv8
          obtain ⟨A8, c8, rfl, _, _⟩ := hv8.len
          replace hx := hx.trans hx8
          clear hx8
          go_wp2_with fail
          refine (ref_Mean B A' c' b _ HOb.out.1 HOb.out.2 (hb.ext RPart.monoE hx)).mono ?_
          rintro e w9 ⟨v9, rfl, hv9, hx9⟩
          rw [← HMB.out] at hv9
          obtain ⟨A9, c9, rfl, _, _⟩ := hv9.len
          replace hx := hx.trans hx9
          replace hv8 := hv8.ext (RRef.mono (B := 0)) hx9
          clear hx9
          go_wp2_with fail
          refine (refs_Within 0 0 A8 A9 c8 c9 MA MB w9 HLA.out HLB.out (hv8.sl 0) (hv9.sl 0)).mono ?_
          rintro e w10 ⟨rfl, hx10⟩
          rw [HPW.out]
          replace hx := hx.trans hx10
          clear hx10
          go_wp2_with fail
          go_ret
          exact ⟨rfl, hx⟩
        · have hne : (y != 0) = true := by simpa using h1
          have hF : partsWithin a b = false := by rw [partsWithin, HT1.out, if_neg h1]
          rw [hF]
          clear h1
          go_wp2_with fail
          go_ret
          exact ⟨rfl, hx⟩
      · rw [hd] at HH1 HE1
        rw [HH1.out, HE1.out]
        have HD := hid hd
        obtain ⟨o1, o2, o3, o4⟩ := dotOk_iff.1 hd
        clear hd
        go_wp2_with fail
        refine (ref_Point p _).mono ?_
        rintro e w8 ⟨rfl, hx8⟩
        rw [HP.out]
        replace q0 := hx8.cell q0
        replace q1 := hx8.cell q1
        replace q2 := hx8.cell q2
        replace q3 := hx8.cell q3
        replace hx := hx.trans hx8
        clear hx8
        go_wp2_with fail
        refine (ref_Dot d _).mono ?_
        rintro e w9 ⟨rfl, hx9⟩
        rw [HD.out]
        replace q0 := hx9.cell q0
        replace q1 := hx9.cell q1
        replace q2 := hx9.cell q2
        replace q3 := hx9.cell q3
        replace hx := hx.trans hx9
        clear hx9
        obtain ⟨s, n, rfl⟩ : ∃ s n : Nat, d = ⟨(s : Int), (n : Int)⟩ := ⟨d.site.toNat, d.count.toNat, Dot.ext' (by show d.site = ((d.site.toNat : Nat) : Int); omega) (by show d.count = ((d.count.toNat : Nat) : Int); omega)⟩
        have o5 : s < 5 := by have : (s : Int) ≤ 4 := o2; omega
        have o6 : 1 ≤ n := by have : (1 : Int) ≤ n := o3; omega
        have o7 : n ≤ 1000 := by have : (n : Int) ≤ 1000 := o4; omega
        clear o1 o2 o3 o4
        have HKN' := hid (partsIn_mean a p HP.out s n o6)
        obtain ⟨I, hI⟩ : ∃ I, I = partsIn a p ⟨(s : Int), (n : Int)⟩ := ⟨_, rfl⟩
        have HKN := hid (show I = knowsR MA (32 * p.tags + p.num).toNat s n by rw [hI, HMA.out]; exact HKN'.out)
        dsimp only
        rw [← hI]
        clear hI HKN'
        have hie : (I != I) = false := by simp
        go_wp2_with fail
        have HX := hid hx
        have HAll := hid (fun w' (x : Ext w9 w') => show w'.cell? ⟨w.heap.size, 0, none⟩ = some (.int .i64 p.tags) ∧ w'.cell? ⟨w.heap.size, 1, none⟩ = some (.int .i64 p.num) ∧ w'.cell? ⟨w.heap.size + 1, 0, none⟩ = some (.int .i64 (s : Int)) ∧ w'.cell? ⟨w.heap.size + 1, 1, none⟩ = some (.int .i64 (n : Int)) from ⟨x.cell q0, x.cell q1, x.cell q2, x.cell q3⟩)
        clear q0 q1 q2 q3 hx
        have hyn := (Ext.refl w9).drew
        refine wp_region_held_drew (S := fun w' => w'.cell? ⟨w.heap.size, 0, none⟩ = some (.int .i64 p.tags) ∧ w'.cell? ⟨w.heap.size, 1, none⟩ = some (.int .i64 p.num) ∧ w'.cell? ⟨w.heap.size + 1, 0, none⟩ = some (.int .i64 (s : Int)) ∧ w'.cell? ⟨w.heap.size + 1, 1, none⟩ = some (.int .i64 (n : Int))) (by kernel_rfl) (HAll.out _ hyn) (fun hHeld => ?_)
        obtain ⟨wc, hwc⟩ : ∃ wc, wc = w9.drew := ⟨_, rfl⟩
        rw [← hwc] at hHeld hyn ⊢
        clear hwc
        refine wpAnyH_take (i := 0) (oi := _) (v := ?_) rfl (by kernel_rfl) (by kernel_rfl) (by kernel_rfl) (fun _ _ _ h => h) (Or.inl ⟨by rfl, ?_⟩) (by assumption) ?_
        rotate_left
        · intro w' hSw
          try dsimp only at hSw
          first
            | (go_simp; done)
            | (go_simp; with_reducible rfl)
        simp only [List.getElem_toArray, List.getElem_cons_zero]
        try simp only [Act.put, List.setIfInBounds_toArray, List.set_cons_zero, List.set_cons_succ]
        refine wpAnyH_take (i := 1) (oi := _) (v := ?_) rfl (by kernel_rfl) (by kernel_rfl) (by kernel_rfl) (fun _ _ _ h => h) (Or.inl ⟨by rfl, ?_⟩) (by assumption) ?_
        rotate_left
        · intro w' hSw
          try dsimp only at hSw
          first
            | (go_simp; done)
            | (go_simp; with_reducible rfl)
        simp only [List.getElem_toArray, List.getElem_cons_zero, List.getElem_cons_succ]
        try simp only [Act.put, List.setIfInBounds_toArray, List.set_cons_zero, List.set_cons_succ]
        refine wpAnyH_take (i := 2) (oi := _) (v := ?_) rfl (by kernel_rfl) (by kernel_rfl) (by kernel_rfl) (fun _ _ _ h => h) (Or.inl ⟨by rfl, ?_⟩) (by assumption) ?_
        rotate_left
        · intro w' hSw
          try dsimp only at hSw
          first
            | (go_simp; done)
            | (go_simp; with_reducible rfl)
        simp only [List.getElem_toArray, List.getElem_cons_zero, List.getElem_cons_succ]
        try simp only [Act.put, List.setIfInBounds_toArray, List.set_cons_zero, List.set_cons_succ]
        refine wpAnyH_take (i := 3) (oi := _) (v := ?_) rfl (by kernel_rfl) (by kernel_rfl) (by kernel_rfl) (fun _ _ _ h => h) (Or.inl ⟨by rfl, ?_⟩) (by assumption) ?_
        rotate_left
        · intro w' hSw
          try dsimp only at hSw
          first
            | (go_simp; done)
            | (go_simp; with_reducible rfl)
        simp only [List.getElem_toArray, List.getElem_cons_zero, List.getElem_cons_succ]
        try simp only [Act.put, List.setIfInBounds_toArray, List.set_cons_zero, List.set_cons_succ]
        refine wpAnyH_take (i := 4) (oi := _) (v := ?_) rfl (by kernel_rfl) (by kernel_rfl) (by kernel_rfl) (fun _ _ _ h => h) (Or.inl ⟨by rfl, ?_⟩) (by assumption) ?_
        rotate_left
        · intro w' hSw
          try dsimp only at hSw
          first
            | (go_simp; done)
            | (go_simp; with_reducible rfl)
        simp only [List.getElem_toArray, List.getElem_cons_zero, List.getElem_cons_succ]
        try simp only [Act.put, List.setIfInBounds_toArray, List.set_cons_zero, List.set_cons_succ]
        refine wpAnyH_take (i := 6) (oi := _) (v := ?_) rfl (by kernel_rfl) (by kernel_rfl) (by kernel_rfl) (fun _ _ _ h => h) (Or.inl ⟨by rfl, ?_⟩) (by assumption) ?_
        rotate_left
        · intro w' hSw
          try dsimp only at hSw
          first
            | (go_simp; done)
            | (go_simp; with_reducible rfl)
        simp only [List.getElem_toArray, List.getElem_cons_zero, List.getElem_cons_succ]
        try simp only [Act.put, List.setIfInBounds_toArray, List.set_cons_zero, List.set_cons_succ]
        refine wpAnyH_take (i := 7) (oi := _) (v := ?_) rfl (by kernel_rfl) (by kernel_rfl) (by kernel_rfl) (fun _ _ _ h => h) (Or.inl ⟨by rfl, ?_⟩) (by assumption) ?_
        rotate_left
        · intro w' hSw
          try dsimp only at hSw
          first
            | (go_simp; done)
            | (go_simp; with_reducible rfl)
        simp only [List.getElem_toArray, List.getElem_cons_zero, List.getElem_cons_succ]
        try simp only [Act.put, List.setIfInBounds_toArray, List.set_cons_zero, List.set_cons_succ]
        refine wpAnyH_ready (rs := [5]) (by kernel_rfl) (by simp) ?_
        refine AllReadyH.cons rfl (fun K hK => ?_) AllReadyH.nil
        simp only [List.getElem_toArray, List.getElem_cons_zero, List.getElem_cons_succ]
        go_simp
        refine (ref_Mean B A c a wc HOa.out.1 HOa.out.2 (ha.ext RPart.monoE (HX.out.trans hyn))).mono ?_
        rintro e wn ⟨v5, rfl, hv5, hxa⟩
        dsimp only
        rw [← HMA.out] at hv5
        obtain ⟨A5, c5, rfl, _, _⟩ := hv5.len
        replace hyn := hyn.trans hxa
        clear hxa
        obtain ⟨wc, rfl⟩ : ∃ wc', wc' = wn := ⟨_, rfl⟩
        refine hK.out _ _ (HAll.out _ hyn) (fun hHeld => ?_)
        clear hK K
        try simp only [Act.put, List.setIfInBounds_toArray, List.set_cons_zero, List.set_cons_succ]
        refine wpAnyH_ready (rs := [8]) (by kernel_rfl) (by simp) ?_
        refine AllReadyH.cons rfl (fun K hK => ?_) AllReadyH.nil
        simp only [List.getElem_toArray, List.getElem_cons_zero, List.getElem_cons_succ]
        go_simp
        refine (ref_Knows 0 A5 c5 MA p s n wc HP.out (by omega) (by omega) HLA.out (hv5.sl 0)).mono ?_
        rintro e wn ⟨rfl, hxa⟩
        dsimp only
        rw [← HKN.out]
        replace hyn := hyn.trans hxa
        clear hxa hv5
        obtain ⟨wc, rfl⟩ : ∃ wc', wc' = wn := ⟨_, rfl⟩
        refine hK.out _ _ (HAll.out _ hyn) (fun hHeld => ?_)
        clear hK K
        try simp only [Act.put, List.setIfInBounds_toArray, List.set_cons_zero, List.set_cons_succ]
        refine wpAnyH_take (i := 9) (oi := _) (v := ?_) rfl (by kernel_rfl) (by kernel_rfl) (by kernel_rfl) (fun _ _ _ h => h) (Or.inl ⟨by rfl, ?_⟩) (by assumption) ?_
        rotate_left
        · intro w' hSw
          try dsimp only at hSw
          first
            | (go_simp; done)
            | (go_simp; with_reducible rfl)
        simp only [List.getElem_toArray, List.getElem_cons_zero, List.getElem_cons_succ]
        try simp only [Act.put, List.setIfInBounds_toArray, List.set_cons_zero, List.set_cons_succ]
        refine wpAnyH_take (i := 10) (oi := _) (v := ?_) rfl (by kernel_rfl) (by kernel_rfl) (by kernel_rfl) (fun _ _ _ h => h) (Or.inl ⟨by rfl, ?_⟩) (by assumption) ?_
        rotate_left
        · intro w' hSw
          try dsimp only at hSw
          first
            | (go_simp; done)
            | (go_simp; with_reducible rfl)
        simp only [List.getElem_toArray, List.getElem_cons_zero, List.getElem_cons_succ]
        try simp only [Act.put, List.setIfInBounds_toArray, List.set_cons_zero, List.set_cons_succ]
        refine wpAnyH_done (by kernel_rfl) ?_ _
        have hx := HX.out.trans hyn
        by_cases h1 : y = 0
        · subst h1
          have HOb := hid (HCb.out rfl)
          have HPW := hid (show partsWithin a b = partsWithinR MA MB by
            rw [HMA.out, HMB.out, partsWithin, if_pos HT1.out, partsWithin_mean fun x hx => (HOa.out.2 x hx).k])
          clear HCb
          go_wp2_with fail
          refine (ref_Mean B A c a _ HOa.out.1 HOa.out.2 (ha.ext RPart.monoE hx)).mono ?_
          rintro e w8 ⟨v8, rfl, hv8, hx8⟩
          rw [← HMA.out] at hv8
          obtain ⟨A8, c8, rfl, _, _⟩ := hv8.len
          replace hx := hx.trans hx8
          clear hx8
          go_wp2_with fail
          refine (ref_Mean B A' c' b _ HOb.out.1 HOb.out.2 (hb.ext RPart.monoE hx)).mono ?_
          rintro e w9 ⟨v9, rfl, hv9, hx9⟩
          rw [← HMB.out] at hv9
          obtain ⟨A9, c9, rfl, _, _⟩ := hv9.len
          replace hx := hx.trans hx9
          replace hv8 := hv8.ext (RRef.mono (B := 0)) hx9
          clear hx9
          go_wp2_with fail
          refine (refs_Within 0 0 A8 A9 c8 c9 MA MB w9 HLA.out HLB.out (hv8.sl 0) (hv9.sl 0)).mono ?_
          rintro e w10 ⟨rfl, hx10⟩
          rw [HPW.out]
          replace hx := hx.trans hx10
          clear hx10
          go_wp2_with fail
          go_ret
          exact ⟨rfl, hx⟩
        · have hne : (y != 0) = true := by simpa using h1
          have hF : partsWithin a b = false := by rw [partsWithin, HT1.out, if_neg h1]
          rw [hF]
          clear h1
          go_wp2_with fail
          go_ret
          exact ⟨rfl, hx⟩
  · have hne : (x != 0) = true := by simpa using h0
    have hze : (x == 0) = false := by simpa using h0
    rw [HH.out, HE.out, HT.out, if_neg h0, if_neg h0, if_neg h0, partsWithin, HT.out, if_neg h0, if_neg h0]
    clear h0 HH HE HT HCa
    go_wp2_with fail
    go_ret
    exact ⟨rfl, hx⟩

namespace PartSaysProof
open Go.ChangeShapes Go.WideShapes Go.ChangeAt Go.Joins

set_option maxRecDepth 100000 in
theorem lifted (os : Os) (started : os.Started) (H : Type) (enc : TypeId × Value → H) :
    ReturnsInHanded {} Try.checked os 6 .any (Rows.partSaysSpec.pre6 enc Try.prog Try.f6 Rows.partSaysRow.domain false) (Rows.partSaysSpec.post enc Try.prog Try.f6 false true false false) := by
  refine returnsInHanded_of_change (C := Try.checked) own started (by kernel_rfl) Try.func6
    (ChangeSpec.witness6 (enc := enc) (C := Try.checked) false ⟨#[], #[.slice none 0 0, .slice none 0 0, .agg #[.int .i64 0, .int .i64 0], .agg #[.int .i64 0, .int .i64 0]], []⟩ 8 (by kernel_rfl) (by kernel_rfl) (by kernel_rfl) (by kernel_rfl)) ?_
  intro W base args ds gs before hval0 hW hcnd _
  have hval : ∀ (j : Nat) t v, Try.f6.params[j]? = some t → args[j]? = some v → Value.okWide Try.prog W .any base t v := hval0
  have hW' := hW
  obtain ⟨p, q, hA0, hV, rfl, hfz, hnd⟩ := hW
  have hA : DataW.TrodAll enc Try.prog W 0 (fun _ => true) true Try.f6.params.toList args.toList ds p := hA0
  rw [Try.params6] at hA hval
  obtain ⟨v0, vs0, d0, ds0, p0, q0, hargs, rfl, rfl, h0, r0⟩ := trodAll_cons hA
  obtain ⟨v1, vs1, d1, ds1, p1, q1, rfl, rfl, rfl, h1, r1⟩ := trodAll_cons r0
  obtain ⟨v2, vs2, d2, ds2, p2, q2, rfl, rfl, rfl, h2, r2⟩ := trodAll_cons r1
  obtain ⟨v3, vs3, d3, ds3, p3, q3, rfl, rfl, rfl, h3, r3⟩ := trodAll_cons r2
  obtain ⟨rfl, rfl, rfl⟩ := trodAll_nil r3
  obtain rfl : args = #[v0, v1, v2, v3] := by cases args; simp_all
  obtain ⟨rfl, rfl⟩ := trodVars_none hV
  obtain ⟨a0, n0, c0, rfl⟩ := okWide_slice Try.underlying24 (hval 0 24 v0 rfl rfl)
  have k0 := h0
  have lt0 : ∀ x ∈ p0, x.block < W.heap.size := by obtain ⟨m, hm⟩ := k0; exact DataW.trod_lt m _ _ _ hm
  obtain ⟨l0, rfl, hl0, s0, g0⟩ := open_parts h0
  obtain ⟨a1, n1, c1, rfl⟩ := okWide_slice Try.underlying24 (hval 1 24 v1 rfl rfl)
  have k1 := h1
  have lt1 : ∀ x ∈ p1, x.block < W.heap.size := by obtain ⟨m, hm⟩ := k1; exact DataW.trod_lt m _ _ _ hm
  obtain ⟨l1, rfl, hl1, s1, g1⟩ := open_parts h1
  have k2 := h2
  have lt2 : ∀ x ∈ p2, x.block < W.heap.size := by obtain ⟨m, hm⟩ := k2; exact DataW.trod_lt m _ _ _ hm
  obtain ⟨x2, y2, rfl, g2, _⟩ := open_pair Try.underlying40 (by kernel_rfl) cells_point Try.underlying3 rfl rfl (hval 2 40 v2 rfl rfl) h2
  have k3 := h3
  have lt3 : ∀ x ∈ p3, x.block < W.heap.size := by obtain ⟨m, hm⟩ := k3; exact DataW.trod_lt m _ _ _ hm
  obtain ⟨x3, y3, rfl, g3, _⟩ := open_pair Try.underlying38 (by kernel_rfl) cells_dot Try.underlying3 rfl rfl (hval 3 38 v3 rfl rfl) h3
  clear hA0 hval0
  refine (law_PartSays W.heap.size a0 a1 c0 c1 l0 l1 ⟨x2, y2⟩ ⟨x3, y3⟩ W (Nat.le_refl _) hl0 hl1 s0 s1).mono fun e W' ⟨he, bel⟩ => ?_
  subst he
  exact ⟨_, rfl, _, _, _, [], _, [], hW', trodAll_mk1 (shut_bool Try.underlying4 _), (trodAll_cons_mk (Below.trod laidOut (by kernel_rfl) (of_decide_eq_true (by kernel_rfl)) k0 bel lt0) (trodAll_cons_mk (Below.trod laidOut (by kernel_rfl) (of_decide_eq_true (by kernel_rfl)) k1 bel lt1) (trodAll_cons_mk (Below.trod laidOut (by kernel_rfl) (of_decide_eq_true (by kernel_rfl)) k2 bel lt2) (trodAll_cons_mk (Below.trod laidOut (by kernel_rfl) (of_decide_eq_true (by kernel_rfl)) k3 bel lt3) trodAll_mk0)))), rfl, Below.frame bel _, fun h => by cases h⟩

theorem over : Rows.partSaysRow.holds Try.pinned (OpenSpec.ofChange Rows.partSaysSpec) :=
  OpenClaim.holds_of_wide 6 Try.f6 rfl rfl rfl rfl rfl rfl rfl ⟨rfl, rfl, rfl, rfl, rfl⟩ rfl rfl rfl rfl rfl (by kernel_rfl) Try.func6 (by kernel_rfl)
    (of_decide_eq_true (by kernel_rfl)) (by unfold Func.isWrapper; first | (rw [if_pos (by decide +kernel)]; kernel_rfl) | (rw [if_neg (by decide +kernel)]; exact ⟨rfl, rfl⟩))
    (fun os started H enc _ => lifted os started H enc)
end PartSaysProof

theorem partSays_holds : Rows.PartSaysSaid := PartSaysProof.over
#print axioms partSays_holds

end Go.Proofs.Ytmedmfjhpabfdaa
