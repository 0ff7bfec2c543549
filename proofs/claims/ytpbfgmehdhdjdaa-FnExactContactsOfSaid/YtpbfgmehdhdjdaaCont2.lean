
/-
  Contacts of parametrisations: the program's. No condition.
-/
import Derived.Test.YtpbfgmehdhdjdaaRoots3
import Derived.Test.YtpbfgmehdhdjdaaCont1
import Derived.Test.YtpbfgmehdhdjdaaAmMore6
namespace Go.Proofs.Ytpbfgmehdhdjdaa
open Go Go.RowKit

theorem rt_in (n : Nat) : inF (rtL n) := srt_in (lst_in _ _) _

def cC (n m : Int) : Int := n / (Int.gcd n m : Int) * m
def cA (n m : Int) : Int := cC n m / n
def cB (n m : Int) : Int := cC n m / m
def cS (n m : Int) : Int := 80 * max (cA n m) (cB n m) + 1
structure CtOk (n m : Int) : Prop where
  g : 1 ≤ (Int.gcd n m : Int) ∧ (Int.gcd n m : Int) ≤ 12
  q : 0 ≤ n / (Int.gcd n m : Int) ∧ n / (Int.gcd n m : Int) ≤ 12
  c : 0 ≤ n / (Int.gcd n m : Int) * m ∧ n / (Int.gcd n m : Int) * m ≤ 144
  a : 1 ≤ cA n m ∧ cA n m ≤ 12
  b : 1 ≤ cB n m ∧ cB n m ≤ 12
  e : cA n m = m / (Int.gcd n m : Int)
set_option maxRecDepth 100000 in
theorem ctOk_all : ∀ n ∈ List.range 13, ∀ m ∈ List.range 13, 0 < n → 0 < m → ((1 ≤ (Int.gcd n m : Int) ∧ (Int.gcd n m : Int) ≤ 12) ∧ (0 ≤ (n : Int) / (Int.gcd n m : Int) ∧ (n : Int) / (Int.gcd n m : Int) ≤ 12) ∧ (0 ≤ (n : Int) / (Int.gcd n m : Int) * m ∧ (n : Int) / (Int.gcd n m : Int) * m ≤ 144) ∧
    (1 ≤ cA n m ∧ cA n m ≤ 12) ∧ (1 ≤ cB n m ∧ cB n m ≤ 12) ∧ cA n m = (m : Int) / (Int.gcd n m : Int)) := by decide +kernel
theorem ctOk {n m : Nat} (h0 : 1 ≤ n ∧ n ≤ 12) (h1 : 1 ≤ m ∧ m ≤ 12) : CtOk n m := by
  obtain ⟨a, b, c, d, e, f⟩ := ctOk_all n (List.mem_range.2 (by omega)) m (List.mem_range.2 (by omega)) (by omega) (by omega)
  exact ⟨a, b, c, d, e, f⟩

theorem mulK {i k c : Int} (hi : 0 ≤ i) (hk : 0 ≤ k) (hc : k ≤ c) (h : i ≤ 80) : 0 ≤ i * k ∧ i * k ≤ 80 * c := by
  refine ⟨Int.mul_nonneg hi hk, ?_⟩
  have := Int.mul_le_mul h hc hk (by omega : (0 : Int) ≤ 80)
  omega

theorem conjK_in {m : Int} {b : List Int} (h : isSerB m b = true) {z : Int} (hz : 0 ≤ z ∧ z ≤ 55440) : inF (conjK b z b.length) := fun i => by
  unfold geti conjK
  rw [List.getD_eq_getElem?_getD, List.getElem?_map]
  cases e : (List.range b.length)[i.toNat]? with
  | none => simp
  | some k => simpa using modF _
/-- The z of the j-th conjugate, and where it parts. -/
def ctG (m : Nat) (b : List Int) (j : Nat) : List Int := conjK b (geti (rtL m) (j : Nat)) b.length
def ctD (n m : Nat) (a b : List Int) (j : Nat) : Nat := dif (val a (cA n m).toNat a.length) (val (ctG m b j) (cB n m).toNat (ctG m b j).length) (cS n m).toNat
def ctL (n m : Nat) (a b : List Int) (j : Nat) : List Int := (List.range j).map fun i : Nat => (ctD n m a b i : Int)
theorem ctL_len (n m : Nat) (a b : List Int) (j : Nat) : (ctL n m a b j).length = j := by simp [ctL]
theorem ctL_succ (n m : Nat) (a b : List Int) (j : Nat) : ctL n m a b j ++ [(ctD n m a b j : Int)] = ctL n m a b (j + 1) := by simp [ctL, List.range_succ]
def CtAll (n m : Nat) (a b : List Int) : Prop := ∀ j : Nat, j < m → ctD n m a b j ≠ (cS n m).toNat
noncomputable instance (n m : Nat) (a b : List Int) : Decidable (CtAll n m a b) := Classical.propDecidable _

noncomputable def coL (n m : Nat) (a b : List Int) : List Int := if CtAll n m a b then ctL n m a b m else []
noncomputable def coK (n m : Nat) (a b : List Int) : Bool := decide (CtAll n m a b)

attribute [local irreducible] AWp AOps ResIs Ret1 QOp LOp COp AFnV AFn Imms LeE LeO
set_option maxHeartbeats 1000000
set_option linter.unusedSimpArgs false
set_option linter.unusedVariables false

attribute [local irreducible] spL rtL conjK ctD dif
end Go.Proofs.Ytpbfgmehdhdjdaa
