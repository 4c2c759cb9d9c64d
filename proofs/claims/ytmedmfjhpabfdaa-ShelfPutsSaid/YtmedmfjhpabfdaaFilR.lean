/- The walks of the reference's Of, Many, At, Each, Point. -/
import Derived.Test.YtmedmfjhpabfdaaProg
import Derived.Test.YtmedmfjhpabfdaaBase
import Derived.WalkKit
import Derived.Outline
import Derived.Deep.QuietTactic
import Derived.BigQuiet
import Derived.Test.YtmedmfjhpabfdaaWalks
import Derived.ChangeKeysEq
import Derived.Deep.RegionWith
import Derived.Deep.DeepCutAuto
namespace Go.Proofs.Ytmedmfjhpabfdaa
open Go Go.RowKit

theorem tmod_nat (a b : Nat) : Int.tmod (a : Int) (b : Int) = ((a % b : Nat) : Int) := (Int.ofNat_tmod a b).symm
theorem tdiv_nat (a b : Nat) : Int.tdiv (a : Int) (b : Int) = ((a / b : Nat) : Int) := (Int.ofNat_tdiv a b).symm

theorem betw_num (x : Int) : betw x 0 31 = (decide (0 ≤ x) && decide (x ≤ 31)) := by
  unfold betw
  rw [Bool.decide_and]

theorem ref_Point (p : Point) (w : World) :
    Calls Try.prog 37 #[.agg #[.int .i64 p.tags, .int .i64 p.num]] w fun e w' => e = .returned (.bool (pointOk p)) ∧ Ext w w' := by
  have HP := hid (show pointOk p = (tagsOk p.tags && betw p.num 0 31) by rw [pointOk, betw_num])
  cases h1 : tagsOk p.tags
  · have H1 := hid h1
    go_enter Try.func37, Try.ntmps37
    go_wp2_with fail
    refine (ref_within _ _ _ _).mono ?_
    rintro e w1 ⟨rfl, rfl⟩
    rw [betw_tags, h1]
    clear h1
    go_wp2_with fail
    go_ret
    exact ⟨ret_bool (by rw [HP.out, H1.out]; rfl), (Ext.refl w).alloc _⟩
  · have H1 := hid h1
    go_enter Try.func37, Try.ntmps37
    go_wp2_with fail
    refine (ref_within _ _ _ _).mono ?_
    rintro e w1 ⟨rfl, rfl⟩
    rw [betw_tags, h1]
    clear h1
    go_wp2_with fail
    refine (ref_within _ _ _ _).mono ?_
    rintro e w1 ⟨rfl, rfl⟩
    go_wp2_with fail
    go_ret
    exact ⟨ret_bool (by rw [HP.out, H1.out]; rfl), (Ext.refl w).alloc _⟩

end Go.Proofs.Ytmedmfjhpabfdaa
