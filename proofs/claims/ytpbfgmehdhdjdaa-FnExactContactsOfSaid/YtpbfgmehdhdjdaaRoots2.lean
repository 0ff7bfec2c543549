
/-
  Roots of unity in the field: the functions. No condition.
-/
import Derived.Test.YtpbfgmehdhdjdaaRoots1
namespace Go.Proofs.Ytpbfgmehdhdjdaa
open Go Go.RowKit

theorem ok_n {n : Nat} (h0 : 0 < n) (h1 : n ≤ 12) : (∀ x : Nat, 0 < x → x ≤ tblN n → okX n x = true) ∧ insL (zN (tblN n) n) n = srt (lst (zN (tblN n) n) n) (n - 1) := by
  have h := okAll_true
  unfold okAll at h
  rw [List.all_eq_true] at h
  have h2 := h n (List.mem_range.2 (by omega))
  simp only [Bool.or_eq_true, Bool.and_eq_true, beq_iff_eq] at h2
  rcases h2 with h2 | ⟨h2, h3⟩
  · omega
  · refine ⟨fun x x0 x1 => ?_, h3⟩
    rw [List.all_eq_true] at h2
    have := h2 x (List.mem_range.2 (by omega))
    simp only [Bool.or_eq_true, beq_iff_eq] at this
    rcases this with this | this
    · omega
    · exact this

structure OkX (n x : Nat) : Prop where
  d0 : 0 < odN (zN x n)
  one : itN (zN x n) (odN (zN x n)) = 1
  ne : ∀ i : Nat, 0 < i → i < odN (zN x n) → itN (zN x n) i ≠ 1
  eq : odN (zN x n) = n ↔ x = tblN n
  le : odN (zN x n) ≤ n
  fresh : ∀ k : Nat, k < odN (zN x n) → ¬ (itN (zN x n) k : Int) ∈ insL (zN x n) k
  old : odN (zN x n) ≠ n → (itN (zN x n) (odN (zN x n)) : Int) ∈ insL (zN x n) (odN (zN x n))

theorem okX_of {n x : Nat} (h : okX n x = true) : OkX n x := by
  unfold okX at h
  simp only [Bool.and_eq_true, decide_eq_true_eq, beq_iff_eq] at h
  obtain ⟨⟨⟨⟨⟨⟨h1, h2⟩, h3⟩, h4⟩, h5⟩, h6⟩, h7⟩ := h
  rw [List.all_eq_true] at h3 h6
  refine ⟨h1, h2, fun i i0 i1 => ?_, ?_, h5, fun k k0 => ?_, fun hd => ?_⟩
  · have := h3 i (List.mem_range.2 i1)
    simp only [Bool.or_eq_true, beq_iff_eq, bne_iff_ne] at this
    rcases this with this | this
    · omega
    · exact this
  · constructor
    · intro e
      have e1 : (odN (zN x n) == n) = true := by simp [e]
      rw [e1] at h4
      simpa using h4.symm
    · intro e
      have e1 : (x == tblN n) = true := by simp [e]
      rw [e1] at h4
      simpa using h4
  · have := h6 k (List.mem_range.2 k0)
    simpa using this
  · simp only [Bool.or_eq_true, beq_iff_eq] at h7
    rcases h7 with h7 | h7
    · exact absurd h7 hd
    · simpa using h7

theorem tbl_le {n : Nat} (h1 : n ≤ 12) : 1 ≤ tblN n ∧ tblN n ≤ 23 := by
  have : ∀ m ∈ List.range 13, 1 ≤ tblN m ∧ tblN m ≤ 23 := by decide
  exact this n (List.mem_range.2 (by omega))
theorem itN_lt (z : Nat) : ∀ k, itN z k < 55441
  | 0 => by rw [itN]; decide
  | k + 1 => Nat.mod_lt _ (by decide)
theorem zN_lt (x n : Nat) : zN x n < 55441 := Nat.mod_lt _ (by decide)
theorem pwF_it (z : Nat) : ∀ k : Nat, pwF (z : Int) (k : Nat) = (itN z k : Int)
  | 0 => by simp [pwF, itN]
  | k + 1 => by
    rw [← pwF_succ, pwF_it z k, itN, Int.natCast_emod, Int.natCast_mul]
    rfl
theorem pwF_zN (x n : Nat) : pwF (x : Int) (55440 / (n : Int)) = (zN x n : Int) := by
  unfold pwF zN
  have e : (55440 / (n : Int)).toNat = 55440 / n := by
    rw [show (55440 : Int) / (n : Int) = ((55440 / n : Nat) : Int) by rw [Int.natCast_ediv]; rfl, Int.toNat_natCast]
  rw [e, Int.natCast_emod, Int.natCast_pow]
  rfl

theorem lst_len (z m : Nat) : (lst z m).length = m := by simp [lst]
theorem lst_in (z m : Nat) : inF (lst z m) := fun i => by
  unfold geti lst
  rw [List.getD_eq_getElem?_getD, List.getElem?_map]
  cases h : (List.range m)[i.toNat]? with
  | none => simp
  | some k => have := itN_lt z k; simp; omega

/-- The roots of n, ascending. -/
def rtL (n : Nat) : List Int := srt (lst (zN (tblN n) n) n) (n - 1)

attribute [local irreducible] AWp AOps ResIs Ret1 QOp LOp COp AFnV AFn Imms LeE LeO
set_option maxHeartbeats 1000000
set_option linter.unusedSimpArgs false
set_option linter.unusedVariables false

end Go.Proofs.Ytpbfgmehdhdjdaa
