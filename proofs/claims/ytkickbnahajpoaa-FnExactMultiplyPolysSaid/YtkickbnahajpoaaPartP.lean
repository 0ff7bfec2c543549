/-
  Partial derivatives, and sorted lists: the plain law. No program.
-/
import Derived.Test.YtkickbnahajpoaaPut
import Derived.Test.YtkickbnahajpoaaPoly1
import Derived.Test.YtkickbnahajpoaaSortCT
namespace Go.Proofs.Ytkickbnahajpoaa
open Go Go.RowKit
attribute [local irreducible] AWp AOps ResIs Ret1 QOp LOp COp AFnV AFn Imms LeE LeO
set_option maxHeartbeats 1000000
set_option linter.unusedSimpArgs false
set_option linter.unusedVariables false

/-- The derivative of a term by x (k = 0) or y. -/
def derT (k : Nat) (t : List Int) : List Int := if k = 0 then [geti t 0 - 1, geti t 1, geti t 0 * geti t 2 % 55441] else [geti t 0, geti t 1 - 1, geti t 1 * geti t 2 % 55441]
/-- The derivative of the first n terms. -/
def derL (k : Nat) (ts : List (List Int)) : Nat → List (List Int)
  | 0 => []
  | n + 1 => if 0 < geti (gets ts (n : Nat)) (k : Nat) then derL k ts n ++ [derT k (gets ts (n : Nat))] else derL k ts n

theorem derL_len (k : Nat) (ts : List (List Int)) : ∀ n, (derL k ts n).length ≤ n
  | 0 => Nat.le_refl _
  | n + 1 => by
    have := derL_len k ts n
    rw [derL]; split
    · rw [List.length_append]; simp; omega
    · omega
theorem derL_mem (k : Nat) (ts : List (List Int)) : ∀ n, ∀ d ∈ derL k ts n, ∃ m : Nat, m < n ∧ 0 < geti (gets ts (m : Nat)) (k : Nat) ∧ d = derT k (gets ts (m : Nat))
  | 0, d, h => by simp [derL] at h
  | n + 1, d, h => by
    rw [derL] at h
    split at h
    · rename_i hp
      rcases List.mem_append.1 h with h | h
      · obtain ⟨m, h1, h2⟩ := derL_mem k ts n d h
        exact ⟨m, by omega, h2⟩
      · simp at h
        exact ⟨n, by omega, hp, h⟩
    · obtain ⟨m, h1, h2⟩ := derL_mem k ts n d h
      exact ⟨m, by omega, h2⟩

theorem po_bef {ts : List (List Int)} (h : isPo ts = true) : ∀ (d i : Nat), i + d + 1 < ts.length → Bef (gets ts (i : Nat)) (gets ts ((i + d + 1 : Nat) : Int))
  | 0, i, hi => by
    have := ((isPo_of h).2 (i + 1) (by omega)).2.2.2.2 (by omega)
    rw [show (((i + 1 : Nat) : Int) - 1) = (i : Int) by omega] at this
    exact this
  | d + 1, i, hi => by
    have ih := po_bef h d i (by omega)
    have := ((isPo_of h).2 (i + (d + 1) + 1) (by omega)).2.2.2.2 (by omega)
    rw [show (((i + (d + 1) + 1 : Nat) : Int) - 1) = ((i + d + 1 : Nat) : Int) by omega] at this
    unfold Bef at *
    omega
theorem po_lt {ts : List (List Int)} (h : isPo ts = true) {i j : Nat} (hij : i < j) (hj : j < ts.length) : Bef (gets ts (i : Nat)) (gets ts (j : Nat)) := by
  have := po_bef h (j - i - 1) i (by omega)
  rwa [show i + (j - i - 1) + 1 = j by omega] at this

theorem cop_all : (List.range 61).all (fun a => a == 0 || Nat.gcd a 55441 == 1) = true := by decide +kernel
theorem mod_ne {a b : Int} (ha : 1 ≤ a ∧ a ≤ 60) (hb : 1 ≤ b ∧ b ≤ 55440) : a * b % 55441 ≠ 0 := by
  obtain ⟨x, rfl⟩ := Int.eq_ofNat_of_zero_le (show 0 ≤ a by omega)
  obtain ⟨y, rfl⟩ := Int.eq_ofNat_of_zero_le (show 0 ≤ b by omega)
  intro h
  have h1 : (x * y) % 55441 = 0 := by
    have : ((x * y % 55441 : Nat) : Int) = 0 := by rw [Int.natCast_emod, Int.natCast_mul]; exact h
    omega
  have hc := List.all_eq_true.1 cop_all x (List.mem_range.2 (by omega))
  simp only [Bool.or_eq_true, beq_iff_eq] at hc
  have hg : Nat.Coprime 55441 x := by
    rcases hc with hc | hc
    · omega
    · rw [Nat.coprime_comm]; exact hc
  have h2 : 55441 ∣ y := hg.dvd_of_dvd_mul_left (Nat.dvd_of_mod_eq_zero h1)
  have := Nat.le_of_dvd (by omega) h2
  omega
theorem mulTB {a b : Int} (ha : 0 ≤ a ∧ a ≤ 60) (hb : 1 ≤ b ∧ b ≤ 55440) : 0 ≤ a * b ∧ a * b ≤ 3326400 := by
  refine ⟨Int.mul_nonneg ha.1 (by omega), ?_⟩
  have := Int.mul_le_mul ha.2 hb.2 (by omega) (by omega : (0 : Int) ≤ 60)
  omega

theorem putT_end {ts : List (List Int)} {i j c : Int} (h : ∀ t ∈ ts, bef i j t) (hc : c ≠ 0) : putT ts i j c = ts ++ [[i, j, c]] := by
  have e : putAt ts i j = ts.length := putAt_eq (Nat.le_refl _) (fun k hk => by
    rw [List.getD_eq_getElem?_getD, List.getElem?_eq_getElem hk]; exact h _ (List.getElem_mem hk)) (.inl rfl)
  unfold putT
  rw [e, if_neg (fun h => Nat.lt_irrefl _ h.1), if_neg hc, List.take_length, List.drop_length]

theorem tok3 {a b c : Int} (h0 : 0 ≤ a ∧ a ≤ 60) (h1 : 0 ≤ b ∧ b ≤ 60) (h2 : 1 ≤ c ∧ c ≤ 55440) : TOk [a, b, c] ∧ (1 ≤ geti [a, b, c] 2) ∧ (geti [a, b, c] 0 ≤ 60 ∧ geti [a, b, c] 1 ≤ 60) := by
  have e0 : geti [a, b, c] 0 = a := rfl
  have e1 : geti [a, b, c] 1 = b := rfl
  have e2 : geti [a, b, c] 2 = c := rfl
  unfold TOk
  rw [e0, e1, e2]
  exact ⟨⟨rfl, by omega, by omega, by omega⟩, by omega, by omega, by omega⟩
/-- Terms that are derivatives of terms. -/
theorem der_ok {ts : List (List Int)} (h : isPo ts = true) {k : Nat} (hk : k = 0 ∨ k = 1) {n : Nat} (hn : n ≤ ts.length) : ∀ d ∈ derL k ts n, TOk d ∧ (1 ≤ geti d 2) ∧ (geti d 0 ≤ 60 ∧ geti d 1 ≤ 60) := by
  intro d hd
  obtain ⟨m, h1, h2, rfl⟩ := derL_mem k ts n d hd
  obtain ⟨q1, q2, q3, q4, _⟩ := (isPo_of h).2 m (by omega)
  unfold derT
  rcases hk with rfl | rfl
  · have z := mod_ne (a := geti (gets ts (m : Nat)) 0) (b := geti (gets ts (m : Nat)) 2) (by simp only [Int.natCast_zero] at h2; omega) q4
    have z2 := Int.emod_nonneg (geti (gets ts (m : Nat)) 0 * geti (gets ts (m : Nat)) 2) (show (55441 : Int) ≠ 0 by decide)
    have z3 := Int.emod_lt_of_pos (geti (gets ts (m : Nat)) 0 * geti (gets ts (m : Nat)) 2) (show (0 : Int) < 55441 by decide)
    simp only [Int.natCast_zero] at h2
    exact tok3 (by omega) (by omega) (by omega)
  · have z := mod_ne (a := geti (gets ts (m : Nat)) 1) (b := geti (gets ts (m : Nat)) 2) (by simp only [Int.natCast_one] at h2; omega) q4
    have z2 := Int.emod_nonneg (geti (gets ts (m : Nat)) 1 * geti (gets ts (m : Nat)) 2) (show (55441 : Int) ≠ 0 by decide)
    have z3 := Int.emod_lt_of_pos (geti (gets ts (m : Nat)) 1 * geti (gets ts (m : Nat)) 2) (show (0 : Int) < 55441 by decide)
    simp only [Int.natCast_one] at h2
    exact tok3 (by omega) (by omega) (by omega)
/-- The derivatives stand in order. -/
theorem der_bef {ts : List (List Int)} (h : isPo ts = true) {k : Nat} (hk : k = 0 ∨ k = 1) {n : Nat} (hn : n < ts.length) (hp : 0 < geti (gets ts (n : Nat)) (k : Nat)) : ∀ d ∈ derL k ts n, bef (geti (derT k (gets ts (n : Nat))) 0) (geti (derT k (gets ts (n : Nat))) 1) d := by
  intro d hd
  obtain ⟨m, h1, h2, rfl⟩ := derL_mem k ts n d hd
  have hb := po_lt h h1 hn
  unfold Bef at hb
  unfold bef derT
  rcases hk with rfl | rfl
  · simp only [if_true]
    simp only [geti, Int.toNat_zero, Int.toNat_one, List.getD_cons_zero, List.getD_cons_succ] at *
    omega
  · rw [if_neg (by decide), if_neg (by decide)]
    simp only [geti, Int.toNat_zero, Int.toNat_one, List.getD_cons_zero, List.getD_cons_succ] at *
    omega

/-- Two orders of the same rows, the second strict. -/
theorem sorted_eq {l m : List (List Int)} (hp : l.Perm m) (hl : l.Pairwise (fun a b => ¬ cmpW b a < 0)) (hm : m.Pairwise (fun a b => cmpW a b < 0)) : l = m := by
  refine List.Perm.eq_of_pairwise (le := fun a b => ¬ cmpW b a < 0) ?_ hl (hm.imp fun {a b} h => ?_) hp
  · intro a b ha hb h1 h2
    obtain ⟨i, hi, rfl⟩ := List.mem_iff_getElem.1 (hp.mem_iff.1 ha)
    obtain ⟨j, hj, rfl⟩ := List.mem_iff_getElem.1 hb
    rw [List.pairwise_iff_getElem] at hm
    rcases Nat.lt_trichotomy i j with h | h | h
    · exact absurd (hm i j hi hj h) h2
    · subst h; rfl
    · exact absurd (hm j i hj hi h) h1
  · rw [cmpW_lt] at *; omega
theorem sorted_idx {xss : List (List Int)} {idx : List Nat} (hp : idx.Perm (List.range xss.length)) (h : ∀ i j : Nat, i < j → j < idx.length → ¬ cmpW (xss.getD (idx.getD j 0) []) (xss.getD (idx.getD i 0) []) < 0) :
    (idx.map fun i => xss.getD i []).Perm xss ∧ (idx.map fun i => xss.getD i []).Pairwise (fun a b => ¬ cmpW b a < 0) := by
  constructor
  · refine (hp.map _).trans (List.Perm.of_eq ?_)
    apply List.ext_getElem
    · simp
    · intro i h1 h2
      simp [List.getD_eq_getElem?_getD, h2]
  · rw [List.pairwise_iff_getElem]
    intro i j hi hj hij
    rw [List.length_map] at hi hj
    have := h i j hij hj
    simp only [List.getD_eq_getElem?_getD, List.getElem?_eq_getElem hi, List.getElem?_eq_getElem hj, Option.getD_some] at this
    simpa [List.getD_eq_getElem?_getD] using this
theorem derL_strict {ts : List (List Int)} (h : isPo ts = true) {k : Nat} (hk : k = 0 ∨ k = 1) : ∀ n, n ≤ ts.length → (derL k ts n).Pairwise (fun a b => cmpW a b < 0)
  | 0, _ => List.Pairwise.nil
  | n + 1, hn => by
    have ih := derL_strict h hk n (by omega)
    rw [derL]
    split
    · rename_i hp
      rw [List.pairwise_append]
      refine ⟨ih, List.pairwise_singleton _ _, fun a ha b hb => ?_⟩
      simp only [List.mem_singleton] at hb
      subst hb
      have := der_bef h hk (by omega) hp a ha
      rw [cmpW_lt]
      unfold bef at this
      omega
    · exact ih

end Go.Proofs.Ytkickbnahajpoaa
