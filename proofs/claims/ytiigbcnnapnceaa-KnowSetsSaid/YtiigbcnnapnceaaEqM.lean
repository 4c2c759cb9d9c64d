/- Two arrays of arrays by value are compared cell by cell. No program in sight. -/
import Derived.Test.YtiigbcnnapnceaaEqA
namespace Go.Proofs.Ytiigbcnnapnceaa
open Go Go.RowKit

theorem rowF_extract (m s : Nat) (f : Nat → Value) {i : Nat} (hi : i < m) : (rowF (m * s) f).extract (i * s) (i * s + s) = rowF s (fun k => f (i * s + k)) := by
  have hle : i * s + s ≤ m * s := by rw [← Nat.succ_mul]; exact Nat.mul_le_mul_right s hi
  apply Array.ext
  · simp [rowF_size]; omega
  · intro j h1 h2
    rw [rowF_size] at h2
    simp [rowF]
section
variable {P : Program} {t e : TypeId} {m s : Nat} {f g : Nat → Value} {q : Nat → Bool}
theorem run_eqItems_mat (hag : ∀ w, (isAgg e).run P w = .ok true w) (hsz : ∀ w, (sizeOf e).run P w = .ok s w) (d : Nat) (he : ∀ i, i < m → ∀ w, (Op.equalIn d e (.agg (rowF s fun k => f (i * s + k))) (.agg (rowF s fun k => g (i * s + k)))).run P w = .ok (q i) w) :
    ∀ (is : List Nat), (∀ i ∈ is, i < m) → ∀ w, (Op.eqItems d e s (rowF (m * s) f) (rowF (m * s) g) is).run P w = .ok (is.all q) w
  | [], _, w => by simp [Op.eqItems]
  | i :: r, h, w => by
    have hi := h i (by simp)
    have p1 : (part e (rowF (m * s) f) (i * s)).run P w = .ok (.agg (rowF s fun k => f (i * s + k))) w := by simp [part, hag, hsz, rowF_extract m s f hi]
    have p2 : (part e (rowF (m * s) g) (i * s)).run P w = .ok (.agg (rowF s fun k => g (i * s + k))) w := by simp [part, hag, hsz, rowF_extract m s g hi]
    have ih := run_eqItems_mat hag hsz d he r (fun j hj => h j (by simp [hj])) w
    simp only [Op.eqItems, Sem.run_bind, p1, p2, Result.andThen_ok, he i hi, List.all_cons]
    cases q i <;> simp [ih]
theorem run_equalIn_mat (hu : P.underlying t = some (.array m e)) {i : TypeInfo} (hi : P.info? e = some i) (hc : P.cellsOf e = s) (hag : ∀ w, (isAgg e).run P w = .ok true w) (hsz : ∀ w, (sizeOf e).run P w = .ok s w)
    (d : Nat) (he : ∀ i, i < m → ∀ w, (Op.equalIn d e (.agg (rowF s fun k => f (i * s + k))) (.agg (rowF s fun k => g (i * s + k)))).run P w = .ok (q i) w) (w : World) :
    (Op.equalIn (d + 1) t (.agg (rowF (m * s) f)) (.agg (rowF (m * s) g))).run P w = .ok (allTo q m) w := by
  rw [run_equalIn_array w d _ _ hu hi, hc, run_eqItems_mat hag hsz d he _ (fun i hi => List.mem_range.1 hi), allTo_all]
end
end Go.Proofs.Ytiigbcnnapnceaa
