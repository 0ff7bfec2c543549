
/-
  Parametrisations: orders and divisors. No condition.
-/
import Derived.Test.YtpbfgmehdhdjdaaSer1
namespace Go.Proofs.Ytpbfgmehdhdjdaa
open Go Go.RowKit
attribute [local irreducible] AWp AOps ResIs Ret1 QOp LOp COp AFnV AFn Imms LeE LeO
set_option maxHeartbeats 1000000
set_option linter.unusedSimpArgs false
set_option linter.unusedVariables false

/-- The least index of a number of which p holds, -1 if there is none. -/
def idxP (p : Int → Bool) (xs : List Int) : Int := match xs.findIdx? p with | some i => i | none => -1

theorem findIdx_take {p : Int → Bool} {xs : List Int} {i : Nat} (h : ∀ j, j < i → p (geti xs j) = false) : ∀ k, k ≤ i → k ≤ xs.length → (xs.take k).findIdx? p = none := by
  intro k hk hl
  rw [List.findIdx?_eq_none_iff]
  intro x hx
  obtain ⟨j, hj, rfl⟩ := List.getElem_of_mem hx
  simp at hj
  have := h j (by omega)
  simpa [geti, show j < xs.length by omega] using this

theorem idxP_at {p : Int → Bool} {xs : List Int} {i : Nat} (hi : i < xs.length) (h : ∀ j, j < i → p (geti xs j) = false) (hp : p (geti xs i) = true) : idxP p xs = i := by
  unfold idxP
  have : xs.findIdx? p = some i := by
    rw [List.findIdx?_eq_some_iff_getElem]
    refine ⟨hi, by simpa [geti, hi] using hp, fun j hj => ?_⟩
    have := h j hj
    simpa [geti, show j < xs.length by omega] using this
  rw [this]
theorem idxP_none {p : Int → Bool} {xs : List Int} (h : ∀ j, j < xs.length → p (geti xs j) = false) : idxP p xs = -1 := by
  unfold idxP
  have : xs.findIdx? p = none := by
    have := findIdx_take (i := xs.length) h xs.length (Nat.le_refl _) (Nat.le_refl _)
    simpa using this
  rw [this]

end Go.Proofs.Ytpbfgmehdhdjdaa
