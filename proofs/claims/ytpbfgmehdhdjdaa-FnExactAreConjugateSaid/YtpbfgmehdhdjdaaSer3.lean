
/-
  Parametrisations: the terms, and whether one is primitive. No condition.
-/
import Derived.Test.YtpbfgmehdhdjdaaSer2
import Derived.Test.YtpbfgmehdhdjdaaGcd
namespace Go.Proofs.Ytpbfgmehdhdjdaa
open Go Go.RowKit
attribute [local irreducible] AWp AOps ResIs Ret1 QOp LOp COp AFnV AFn Imms LeE LeO
set_option maxHeartbeats 1000000
set_option linter.unusedSimpArgs false
set_option linter.unusedVariables false

/-- The terms up to k, and the divisor that is left. -/
def tm (n : Int) (cs : List Int) : Nat → List Int × Int
  | 0 => ([n], n)
  | k + 1 => if geti cs k = 0 ∨ (k : Int) % (tm n cs k).2 = 0 then tm n cs k else ((tm n cs k).1 ++ [(k : Int)], (Int.gcd (tm n cs k).2 k : Int))

theorem isSerB_n {n : Int} {cs : List Int} (h : isSerB n cs = true) : 1 ≤ n ∧ n ≤ 12 ∧ 0 < cs.length ∧ cs.length ≤ 81 ∧ geti cs 0 = 0 := by
  simp only [isSerB, Bool.and_eq_true, decide_eq_true_eq] at h
  omega

end Go.Proofs.Ytpbfgmehdhdjdaa
