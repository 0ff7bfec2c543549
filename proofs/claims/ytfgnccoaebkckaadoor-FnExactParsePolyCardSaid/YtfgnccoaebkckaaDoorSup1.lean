/-
  Supports: whether a list is one, and its values. No condition.
-/
import Derived.Test.YtfgnccoaebkckaaDoorLists2
namespace Go.Proofs.YtfgnccoaebkckaaDoor
open Go Go.RowKit
attribute [local irreducible] AWp AOps ResIs Ret1 QOp LOp COp AFnV AFn Imms LeE LeO
set_option maxHeartbeats 1000000
set_option linter.unusedSimpArgs false
set_option linter.unusedVariables false

/-- The i-th row of a support. -/
def SR (xss : List (List Int)) (i : Nat) : Prop :=
  (gets xss i).length = 2 ∧ (0 ≤ geti (gets xss i) 0 ∧ geti (gets xss i) 0 ≤ 60) ∧ (0 ≤ geti (gets xss i) 1 ∧ geti (gets xss i) 1 ≤ 60)
def IsSup (xss : List (List Int)) : Prop := (1 ≤ xss.length ∧ xss.length ≤ 200) ∧ ∀ j, j < xss.length → SR xss j
noncomputable instance (xss : List (List Int)) : Decidable (IsSup xss) := Classical.propDecidable _
noncomputable def isSup (xss : List (List Int)) : Bool := decide (IsSup xss)

theorem isSup_false {xss : List (List Int)} {i : Nat} (hi : i < xss.length) (h : ¬ SR xss i) : false = isSup xss := (decide_eq_false fun hz => h (hz.2 i hi)).symm
theorem isSup_bad {xss : List (List Int)} (h : ¬ (1 ≤ xss.length ∧ xss.length ≤ 200)) : false = isSup xss := (decide_eq_false fun hz => h hz.1).symm
theorem isSup_all {xss : List (List Int)} (h : ∀ j, j < xss.length → SR xss j) : isSup xss = decide (1 ≤ xss.length ∧ xss.length ≤ 200) := by
  unfold isSup
  by_cases h2 : 1 ≤ xss.length ∧ xss.length ≤ 200
  · rw [decide_eq_true ⟨h2, h⟩, decide_eq_true h2]
  · rw [decide_eq_false (fun hz => h2 hz.1), decide_eq_false h2]
theorem isSup_of {xss : List (List Int)} (h : isSup xss = true) : (1 ≤ xss.length ∧ xss.length ≤ 200) ∧ ∀ j, j < xss.length → SR xss j := of_decide_eq_true (p := IsSup xss) h

theorem within2 {xs : List Int} {a b : Int} (hl : xs.length = 2) : withinL xs a b = decide ((a ≤ geti xs 0 ∧ geti xs 0 ≤ b) ∧ (a ≤ geti xs 1 ∧ geti xs 1 ≤ b)) := by
  match xs, hl with
  | [x, y], _ => simp [withinL, geti]

theorem within2_c (xs : List Int) (hl : xs.length = 2) : AFnV Tryd.prog 35 [.ints xs, .i 0, .i 60] (.bool (decide ((0 ≤ geti xs 0 ∧ geti xs 0 ≤ 60) ∧ (0 ≤ geti xs 1 ∧ geti xs 1 ≤ 60)))) := by
  rw [← within2 hl]; exact within_c xs 0 60

/-! ### Values -/
theorem mulS {p g : Int} (h0 : 0 ≤ p) (h1 : p ≤ 1000) (h2 : 0 ≤ g) (h3 : g ≤ 60) : 0 ≤ p * g ∧ p * g ≤ 60000 := by
  refine ⟨Int.mul_nonneg h0 h2, ?_⟩
  have := Int.mul_le_mul h1 h3 h2 (by omega : (0 : Int) ≤ 1000)
  omega

/-- The least value of the first row and the first k rows. -/
def svmin (xss : List (List Int)) (p q : Int) : Nat → Int
  | 0 => p * geti (gets xss 0) 0 + q * geti (gets xss 0) 1
  | k + 1 => min (svmin xss p q k) (p * geti (gets xss k) 0 + q * geti (gets xss k) 1)

theorem sv_in {xss : List (List Int)} (h : isSup xss = true) {p q : Int} (hp : 0 ≤ p ∧ p ≤ 1000) (hq : 0 ≤ q ∧ q ≤ 1000) (k : Nat) :
    (0 ≤ p * geti (gets xss k) 0 ∧ p * geti (gets xss k) 0 ≤ 60000) ∧ (0 ≤ q * geti (gets xss k) 1 ∧ q * geti (gets xss k) 1 ≤ 60000) := by
  by_cases hk : k < xss.length
  · have := (isSup_of h).2 k hk
    unfold SR at this
    exact ⟨mulS hp.1 hp.2 this.2.1.1 this.2.1.2, mulS hq.1 hq.2 this.2.2.1 this.2.2.2⟩
  · simp [gets, geti, List.getElem?_eq_none (show xss.length ≤ k by omega)]
theorem svmin_in {xss : List (List Int)} (h : isSup xss = true) {p q : Int} (hp : 0 ≤ p ∧ p ≤ 1000) (hq : 0 ≤ q ∧ q ≤ 1000) : ∀ k : Nat, 0 ≤ svmin xss p q k ∧ svmin xss p q k ≤ 120000
  | 0 => by have := sv_in h hp hq 0; simp only [svmin]; simp only [Int.natCast_zero] at this; omega
  | k + 1 => by
    have ih := svmin_in h hp hq k
    have := sv_in h hp hq k
    simp only [svmin]
    omega

noncomputable def svA (xss : List (List Int)) (p q : Int) : Int := if isSup xss = true ∧ (0 ≤ p ∧ p ≤ 1000) ∧ (0 ≤ q ∧ q ≤ 1000) then svmin xss p q xss.length else 0
noncomputable def svE (xss : List (List Int)) (p q : Int) : Int := if isSup xss = true then (if (0 ≤ p ∧ p ≤ 1000) ∧ (0 ≤ q ∧ q ≤ 1000) then 0 else 2) else 1

end Go.Proofs.YtfgnccoaebkckaaDoor
