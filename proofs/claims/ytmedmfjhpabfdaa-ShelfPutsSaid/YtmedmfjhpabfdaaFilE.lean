/- The walks of filter.Join, Meet, Less, Within, Same, Count, Every, Point, Has. -/
import Derived.Test.YtmedmfjhpabfdaaFilB
import Derived.Test.YtmedmfjhpabfdaaBase
import Derived.Laws.BitsAllLaws
namespace Go.Proofs.Ytmedmfjhpabfdaa
open Go Go.RowKit

theorem filter_Point (p : Point) (w : World) :
    Calls Try.prog 93 #[.agg #[.int .i64 p.tags, .int .i64 p.num]] w fun e w' => e = .returned (.bool (pointOk p)) ∧ Ext w w' := by
  have HP := hid (show pointOk p = (tagsOk p.tags && (decide (0 ≤ p.num) && decide (p.num ≤ 31))) from rfl)
  cases h1 : tagsOk p.tags
  · have H1 := hid h1
    go_enter Try.func93, Try.ntmps93
    go_wp2_with fail
    refine (cube_Tags _ _).mono ?_
    rintro e w1 ⟨rfl, rfl⟩
    rw [h1]
    clear h1
    go_wp2_with fail
    go_ret
    exact ⟨ret_bool (by rw [HP.out, H1.out]; rfl), (Ext.refl w).alloc _⟩
  · have H1 := hid h1
    rcases Int.lt_or_le p.num 0 with hn | hn
    · go_enter Try.func93, Try.ntmps93
      go_wp2_with fail
      refine (cube_Tags _ _).mono ?_
      rintro e w1 ⟨rfl, rfl⟩
      rw [h1]
      clear h1
      go_wp2_with fail
      go_ret
      exact ⟨ret_bool (by rw [HP.out, H1.out, decide_eq_false (show ¬ 0 ≤ p.num by omega)]; rfl), (Ext.refl w).alloc _⟩
    · go_enter Try.func93, Try.ntmps93
      go_wp2_with fail
      refine (cube_Tags _ _).mono ?_
      rintro e w1 ⟨rfl, rfl⟩
      rw [h1]
      clear h1
      go_wp2_with fail
      go_ret
      exact ⟨ret_bool (by rw [HP.out, H1.out, decide_eq_true hn, Bool.true_and, Bool.true_and, decide_eq_decide]; omega), (Ext.refl w).alloc _⟩

end Go.Proofs.Ytmedmfjhpabfdaa
