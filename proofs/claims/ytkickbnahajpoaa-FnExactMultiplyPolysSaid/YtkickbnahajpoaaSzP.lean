/-
  Sizes of polynomials: bounds. No condition.
-/
import Derived.Test.YtkickbnahajpoaaMarkP
namespace Go.Proofs.Ytkickbnahajpoaa
open Go Go.RowKit
attribute [local irreducible] AWp AOps ResIs Ret1 QOp LOp COp AFnV AFn Imms LeE LeO
set_option maxHeartbeats 1000000
set_option linter.unusedSimpArgs false
set_option linter.unusedVariables false

theorem szSS_le {xss : List (List Int)} {left : Int} (h : 0 ≤ szSS xss left) (h0 : 0 ≤ left) : szSS xss left ≤ left := by
  unfold szSS at *
  split
  · omega
  · rename_i hl
    rw [if_neg hl] at h
    have := (szR_ok xss _ h (by omega)).1
    omega
theorem sz_bounds {xss : List (List Int)} {left : Int} (h : ¬ szSS xss left < 0) (h0 : 0 ≤ left ∧ left ≤ 1048576) : xss.length ≤ 1048576 ∧ (∀ xs ∈ xss, xs.length ≤ 1048576) ∧ cnt xss xss.length ≤ 1099511627776 := by
  have hs := szSS_ok (xss := xss) (left := left) (by omega) h0.1
  have hb : xss.length ≤ 1048576 := by omega
  have hr : ∀ xs ∈ xss, xs.length ≤ 1048576 := fun xs hx => by have := hs.2 xs hx; omega
  refine ⟨hb, hr, ?_⟩
  have c1 := cnt_le hr xss.length
  have : xss.length * 1048576 ≤ 1048576 * 1048576 := Nat.mul_le_mul_right _ hb
  omega
end Go.Proofs.Ytkickbnahajpoaa
