
/-
  Lists whose coefficients are spread, and where two of them part. No condition.
-/
import Derived.Test.YtpbfgmehdhdjdaaProd
namespace Go.Proofs.Ytpbfgmehdhdjdaa
open Go Go.RowKit

/-- The entry s of the first m coefficients, k apart. -/
def val (cs : List Int) (k : Nat) : Nat → Nat → Int
  | 0, _ => 0
  | m + 1, s => if s = m * k then geti cs m else val cs k m s
def spL (cs : List Int) (k L m : Nat) : List Int := (List.range L).map fun s : Nat => val cs k m s
theorem spL_len (cs : List Int) (k L m : Nat) : (spL cs k L m).length = L := by simp [spL]
theorem spL_zero (cs : List Int) (k L : Nat) : List.replicate L 0 = spL cs k L 0 := by
  apply List.ext_getElem?
  intro s
  rw [List.getElem?_replicate]
  unfold spL
  rw [List.getElem?_map]
  by_cases h : s < L
  · simp [h, val]
  · rw [if_neg h, List.getElem?_eq_none (by simp; omega)]
    rfl
theorem spL_set (cs : List Int) (k L m : Nat) (h : m * k < L) : (spL cs k L m).set (m * k) (geti cs m) = spL cs k L (m + 1) := by
  apply List.ext_getElem?
  intro s
  rw [List.getElem?_set, spL_len]
  unfold spL
  by_cases e : m * k = s
  · subst e
    rw [if_pos rfl, if_pos h]
    simp [h, val]
  · rw [if_neg e]
    simp only [List.getElem?_map]
    by_cases hs : s < L
    · have e' : ¬ s = m * k := fun h2 => e h2.symm
      simp [hs, val, e']
    · rw [List.getElem?_eq_none (by simp; omega)]
      rfl
theorem spL_get (cs : List Int) (k L m s : Nat) (h : s < L) : geti (spL cs k L m) (s : Nat) = val cs k m s := by simp [spL, geti, h]
theorem val_far (cs : List Int) (k : Nat) : ∀ (m s : Nat), (∀ i, i < m → i * k < s) → val cs k m s = 0
  | 0, _, _ => rfl
  | m + 1, s, h => by
    have h1 := h m (by omega)
    rw [val, if_neg (by omega)]
    exact val_far cs k m s fun i hi => h i (by omega)
/-- Where f and g part, below B, or B. -/
def dif (f g : Nat → Int) (B : Nat) : Nat := (List.range B).findIdx fun s => decide (f s ≠ g s)
theorem dif_le (f g : Nat → Int) (B : Nat) : dif f g B ≤ B := by
  have := List.findIdx_le_length (xs := List.range B) (p := fun s => decide (f s ≠ g s))
  simpa [dif] using this
theorem dif_eq {f g : Nat → Int} {B s : Nat} (h : s < dif f g B) : f s = g s := by
  have hB := dif_le f g B
  have := List.not_of_lt_findIdx (p := fun s => decide (f s ≠ g s)) (xs := List.range B) h
  simpa using this
theorem dif_ne {f g : Nat → Int} {B : Nat} (h : dif f g B < B) : f (dif f g B) ≠ g (dif f g B) := by
  have h2 : (List.range B).findIdx (fun s => decide (f s ≠ g s)) < (List.range B).length := by simpa [dif] using h
  have := List.findIdx_getElem (xs := List.range B) (p := fun s => decide (f s ≠ g s)) (w := h2)
  simpa [dif] using this
theorem dif_is {f g : Nat → Int} {B s : Nat} (h : ∀ t, t < s → f t = g t) (hs : s < B) (hn : f s ≠ g s) : dif f g B = s := by
  rcases Nat.lt_trichotomy (dif f g B) s with h1 | h1 | h1
  · exact absurd (h _ h1) (dif_ne (by omega))
  · exact h1
  · exact absurd (dif_eq h1) hn
theorem dif_all {f g : Nat → Int} {B : Nat} (h : ∀ t, t < B → f t = g t) : dif f g B = B := by
  have h0 := dif_le f g B
  rcases Nat.lt_or_ge (dif f g B) B with h1 | h1
  · exact absurd (h _ h1) (dif_ne h1)
  · omega
end Go.Proofs.Ytpbfgmehdhdjdaa
