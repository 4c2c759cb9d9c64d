/- Two arrays by value are compared cell by cell. No program in sight. -/
import Derived.Test.YtiigbcnnapnceaaArr
import Derived.Test.YtiigbcnnapnceaaSpanP
import Derived.ChangeKeysEq
namespace Go.Proofs.Ytiigbcnnapnceaa
open Go Go.RowKit

theorem allTo_all (q : Nat → Bool) : ∀ n, allTo q n = (List.range n).all q
  | 0 => rfl
  | n + 1 => by rw [allTo, allTo_all q n, List.range_succ, List.all_append]; simp

section
variable {P : Program} {t e : TypeId} {n : Nat} {f g : Nat → Value} {q : Nat → Bool}
theorem run_eqItems_row (hag : ∀ w, (isAgg e).run P w = .ok false w) (d : Nat) (he : ∀ i, i < n → ∀ w, (Op.equalIn d e (f i) (g i)).run P w = .ok (q i) w) :
    ∀ (is : List Nat), (∀ i ∈ is, i < n) → ∀ w, (Op.eqItems d e 1 (rowF n f) (rowF n g) is).run P w = .ok (is.all q) w
  | [], _, w => by simp [Op.eqItems]
  | i :: r, h, w => by
    have hi := h i (by simp)
    have p1 : (part e (rowF n f) (i * 1)).run P w = .ok (f i) w := by simp [part, hag, rowF_get f hi]
    have p2 : (part e (rowF n g) (i * 1)).run P w = .ok (g i) w := by simp [part, hag, rowF_get g hi]
    have ih := run_eqItems_row hag d he r (fun j hj => h j (by simp [hj])) w
    simp only [Op.eqItems, Sem.run_bind, p1, p2, Result.andThen_ok, he i hi, List.all_cons]
    cases q i <;> simp [ih]
theorem run_equalIn_row (hu : P.underlying t = some (.array n e)) {i : TypeInfo} (hi : P.info? e = some i) (hc : P.cellsOf e = 1) (hag : ∀ w, (isAgg e).run P w = .ok false w)
    (d : Nat) (he : ∀ i, i < n → ∀ w, (Op.equalIn d e (f i) (g i)).run P w = .ok (q i) w) (w : World) :
    (Op.equalIn (d + 1) t (.agg (rowF n f)) (.agg (rowF n g))).run P w = .ok (allTo q n) w := by
  rw [run_equalIn_array w d _ _ hu hi, hc, run_eqItems_row hag d he _ (fun i hi => List.mem_range.1 hi), allTo_all]
end
end Go.Proofs.Ytiigbcnnapnceaa
