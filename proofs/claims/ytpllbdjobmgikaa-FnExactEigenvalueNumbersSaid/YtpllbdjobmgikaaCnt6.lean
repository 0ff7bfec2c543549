/-
  Eigenvalue numbers: what both sides compute; the reference. No condition but bounds.
-/
import Derived.Test.YtpllbdjobmgikaaCnt5
import Derived.Test.YtpllbdjobmgikaaAmMore4
namespace Go.Proofs.Ytpllbdjobmgikaa
open Go Go.RowKit
attribute [local irreducible] AWp AOps ResIs Ret1 QOp LOp COp AFnV AFn Imms LeE LeO
set_option maxHeartbeats 1000000
set_option linter.unusedSimpArgs false
set_option linter.unusedVariables false

/-- What one number d does. -/
def stZ (L : List (List Int)) (m c : Int) (d : Nat) : List (List Int) :=
  if m % (d : Int) = 0 then (if (d : Int) * d = m then putZ L d (-c) else putZ (putZ L d (-c)) (m / (d : Int)) (-c)) else L
def rowZ (L : List (List Int)) (m c : Int) : Nat → List (List Int)
  | 0 => L
  | k + 1 => stZ (rowZ L m c k) m c (k + 1)
def isqN (m : Int) : Nat → Nat
  | 0 => 0
  | k + 1 => if ((k + 1 : Nat) : Int) * (k + 1 : Nat) ≤ m then k + 1 else isqN m k
def isq (m : Int) : Nat := isqN m 1000
theorem isqN_eq {m : Int} {k : Nat} (h1 : (k : Int) * k ≤ m) (h2 : m < ((k + 1 : Nat) : Int) * (k + 1 : Nat)) : ∀ F, k ≤ F → isqN m F = k
  | 0, h => by have : k = 0 := by omega
               subst this; rfl
  | F + 1, h => by
    rw [isqN]
    by_cases e : k = F + 1
    · subst e; rw [if_pos h1]
    · have hle : ((k + 1 : Nat) : Int) * (k + 1 : Nat) ≤ ((F + 1 : Nat) : Int) * (F + 1 : Nat) := Int.mul_le_mul (by omega) (by omega) (by omega) (by omega)
      rw [if_neg (by omega)]
      exact isqN_eq h1 h2 F (by omega)
def numZ (Z : List (List Int)) : Nat → List (List Int)
  | 0 => [[1, 1]]
  | i + 1 => rowZ (numZ Z i) (geti (gets Z (i : Nat)) 0) (geti (gets Z (i : Nat)) 1) (isq (geti (gets Z (i : Nat)) 0))
theorem zi_st {j : Nat} {L : List (List Int)} (h : ZI j L) {m c : Int} (hm : 1 ≤ m ∧ m ≤ 1000000) (hc : -1000 ≤ c ∧ c ≤ 1000) {d : Nat} (hd : 1 ≤ d ∧ d ≤ 1000) : ZI (j + 2) (stZ L m c d) := by
  have hq : 1 ≤ m / (d : Int) ∨ m / (d : Int) < 1 := by omega
  unfold stZ
  split
  · rename_i h0
    have h1 := zi_put h (m := (d : Int)) (e := -c) (by omega) (by omega)
    split
    · exact zi_mono h1 (by omega)
    · have hdm : (d : Int) * (m / (d : Int)) = m := by have := Int.mul_ediv_add_emod m (d : Int); omega
      have hq1 : 1 ≤ m / (d : Int) := by
        rcases Int.lt_or_le (m / (d : Int)) 1 with hq | hq
        · have := Int.mul_le_mul_of_nonneg_left (show m / (d : Int) ≤ 0 by omega) (show (0 : Int) ≤ (d : Int) by omega)
          omega
        · exact hq
      have hq2 : m / (d : Int) ≤ m := Int.ediv_le_self _ (by omega)
      exact zi_put h1 ⟨hq1, by omega⟩ (by omega)
  · exact zi_mono h (by omega)
theorem zi_row {j : Nat} {L : List (List Int)} (h : ZI j L) {m c : Int} (hm : 1 ≤ m ∧ m ≤ 1000000) (hc : -1000 ≤ c ∧ c ≤ 1000) : ∀ k, k ≤ 1000 → ZI (j + 2 * k) (rowZ L m c k)
  | 0, _ => h
  | k + 1, hk => by
    have := zi_st (zi_row h hm hc k (by omega)) hm hc (d := k + 1) (by omega)
    rw [rowZ]
    exact zi_mono this (by omega)
theorem isqN_le (m : Int) : ∀ F, isqN m F ≤ F
  | 0 => Nat.le_refl _
  | F + 1 => by have := isqN_le m F; rw [isqN]; split <;> omega
/-- The rows of a zeta list. -/
def ZtOk (Z : List (List Int)) : Prop := Z.length ≤ 40 ∧ ∀ i : Nat, i < Z.length → (gets Z (i : Nat)).length = 2 ∧ (1 ≤ geti (gets Z (i : Nat)) 0 ∧ geti (gets Z (i : Nat)) 0 ≤ 1000000) ∧ (-1000 ≤ geti (gets Z (i : Nat)) 1 ∧ geti (gets Z (i : Nat)) 1 ≤ 1000)
theorem zi_num {Z : List (List Int)} (hZ : ZtOk Z) : ∀ i, i ≤ Z.length → ZI (2000 * i) (numZ Z i)
  | 0, _ => zi_one
  | i + 1, hi => by
    obtain ⟨_, h2, h3⟩ := hZ.2 i (by omega)
    have hq := isqN_le (geti (gets Z (i : Nat)) 0) 1000
    have := zi_row (zi_num hZ i (by omega)) h2 h3 (isq (geti (gets Z (i : Nat)) 0)) hq
    rw [numZ]
    exact zi_mono this (by unfold isq; omega)
end Go.Proofs.Ytpllbdjobmgikaa
