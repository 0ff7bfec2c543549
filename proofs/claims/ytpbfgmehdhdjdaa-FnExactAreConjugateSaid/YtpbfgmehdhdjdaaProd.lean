
/-
  Products of lists of coefficients up to an exponent. No condition but bounds.
-/
import Derived.Test.YtpbfgmehdhdjdaaInts
import Derived.Test.YtpbfgmehdhdjdaaAmMore
namespace Go.Proofs.Ytpbfgmehdhdjdaa
open Go Go.RowKit
attribute [local irreducible] AWp AOps ResIs Ret1 QOp LOp COp AFnV AFn Imms LeE LeO
set_option maxHeartbeats 1000000
set_option linter.unusedSimpArgs false
set_option linter.unusedVariables false

/-- All entries are numbers of the field. -/
def inF (l : List Int) : Prop := ∀ i : Int, 0 ≤ geti l i ∧ geti l i ≤ 55440
theorem geti_set (l : List Int) (j : Nat) (v : Int) (i : Int) : geti (l.set j v) i = if j = i.toNat ∧ j < l.length then v else geti l i := by
  unfold geti
  rw [List.getD_eq_getElem?_getD, List.getD_eq_getElem?_getD, List.getElem?_set]
  by_cases e : j = i.toNat
  · by_cases h : j < l.length
    · simp [e, e ▸ h]
    · simp [e, e ▸ h, List.getElem?_eq_none (show l.length ≤ i.toNat by omega)]
  · simp [e]
end Go.Proofs.Ytpbfgmehdhdjdaa
