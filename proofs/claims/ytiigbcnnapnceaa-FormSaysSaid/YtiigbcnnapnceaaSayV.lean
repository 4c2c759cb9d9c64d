/- The walk of the reference's Says. -/
import Derived.Test.YtiigbcnnapnceaaSayW
import Derived.Laws.EntriesVeiled
namespace Go.Proofs.Ytiigbcnnapnceaa
open Go Go.RowKit

set_option maxHeartbeats 2000000 in
theorem ref_Says (B : Nat) (A : Option Addr) (c : Nat) (l : List Node) (w : World) (hf : FormOk l) (h : SlNodes B w A l) :
    Calls Try.prog 14 #[.slice A l.length c] w fun e w' => e = .returned (.agg (rowB 512 (sayAt l (l.length - 1)))) ∧ Ext w w' := by
  have hlo := hf.lo
  have hhi := hf.hi
  have HS := hid (says_ok B l hf (l.length - 1) (by omega))
  have en : ((l.length : Int) - 1) = ((l.length - 1 : Nat) : Int) := by omega
  go_enter Try.func14, Try.ntmps14
  go_upto_region 1 with ((with_reducible refine wpList_allocArr (o := ⟨some 2, _, _, _, _, _⟩) zi_points rfl rfl ?_); intro w1 hx1 hb1 hs1)
  have q1 : w1.cell? ⟨w.heap.size, 0, none⟩ = some (.slice A l.length c) := hx1.cell (by go_simp)
  have hxa : Ext w w1 := ((Ext.refl w).alloc _).trans hx1
  have h1 : SlNodes B w1 A l := h.ext RTrip.mono hxa
  have hz1 : w.heap.size < w1.heap.size := World.block_lt_of_cell? _ _ q1
  have hs1' : w1.heap.size = w.heap.size + 1 + 1 := by rw [hs1]; simp
  clear hs1
  go_wp2_with ((with_reducible refine at_op (some 5) (.makeMap _ _) ?_); refine wpList_makeMapI rfl _ rfl ?_; intro w2 hx2 hm2 hs2; have hz2 := Nat.lt_of_lt_of_le hz1 hx2.size; have q2 := hx2.cell q1; clear hs2)
  rw [hs1'] at hm2
  have hb2 : Blk w2 (w.heap.size + 1) 31 (rowB 512 fun _ => false) := by
    have := hb1.ext hx2
    simpa using this
  obtain ⟨W, hW⟩ : ∃ W, W = ((w2.alloc (.cells #[.map (some (w.heap.size + 1 + 1))] 104)).alloc (.cells #[.func (.func 67) #[] #[.pointer (some ⟨w2.heap.size, 0, none⟩), .pointer (some ⟨w.heap.size, 0, none⟩), .pointer (some ⟨w2.heap.size + 1, 0, none⟩)]] 105)) := ⟨_, rfl⟩
  have hxW : Ext w2 W := by rw [hW]; exact ((Ext.refl w2).alloc _).alloc _
  have hmW : MapR W (w.heap.size + 1 + 1) (fun k v => Told l k v ∧ False) := (hm2.ext hxW).imp fun _ _ h => h.elim
  have henv : SayEnv B W (w.heap.size + 1 + 1) w2.heap.size w.heap.size (w2.heap.size + 1) A c l :=
    ⟨by rw [hW]; go_simp, hxW.cell q2, by rw [hW]; go_simp, (h1.ext RTrip.mono hx2).ext RTrip.mono hxW⟩
  rw [← hW]
  have hbW := hb2.ext hxW
  have hxx := (hxa.trans hx2).trans hxW
  clear hW
  refine (HS.out W (w.heap.size + 1 + 1) w2.heap.size w.heap.size (w2.heap.size + 1) A c (fun _ => False) henv hmW).mono ?_
  rintro e w5 ⟨rfl, hfr, _⟩
  have hb5 := hfr.blk hmW hbW
  go_wp2_with ((with_reducible refine at_op none (.store _ (.tmp 2) _) ?_); refine wpList_storeArr ai_points _ _ rfl rfl rfl rfl hb5 (rowB_size _ _) (rowB_size _ _) (rowB_all _ _) ?_; intro w6 hx6 hb6 hs6 ho6)
  refine ret_arr rfl ai_points rfl hb6 (rowB_size _ _) rfl ⟨rfl, Fr.ext (r := w.heap.size + 1 + 1) (((Fr.of_ext hxx).trans hfr).below hx6 (by omega)) (by omega)⟩

end Go.Proofs.Ytiigbcnnapnceaa
