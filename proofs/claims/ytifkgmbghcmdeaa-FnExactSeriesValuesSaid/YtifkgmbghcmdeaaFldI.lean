/-
  Inverses in the field of 55441 elements. No condition.
-/
import Derived.Test.YtifkgmbghcmdeaaFld
import Derived.Test.YtifkgmbghcmdeaaPow
namespace Go.Proofs.Ytifkgmbghcmdeaa
open Go Go.RowKit
theorem inv_all (q : Int) (h : 1 ≤ q ∧ q ≤ 55440) : q * pwF q 55439 % 55441 = 1 := by
  obtain ⟨a, rfl⟩ : ∃ a : Nat, q = a := ⟨q.toNat, by omega⟩
  have hf := fermat (a := a) (by omega)
  have e1 : (55439 : Int).toNat.succ = 55440 := by decide
  unfold pwF
  rw [mulmod', Int.mul_comm, ← Int.pow_succ, e1]
  generalize 55440 = n at hf ⊢
  rw [← Int.natCast_pow]
  omega
end Go.Proofs.Ytifkgmbghcmdeaa
