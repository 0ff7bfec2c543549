/-
  Bounds on what is read. Plain law. No condition.
-/
import Derived.Test.YtfgnccoaebkckaaDoorDt4
namespace Go.Proofs.YtfgnccoaebkckaaDoor
open Go

theorem exV_b {s r : List UInt8} {a : Int} (h : exV s = some (a, r)) : (0 ≤ a ∧ a < 1000000000) ∧ r.length ≤ s.length := by
  unfold exV at h
  split at h
  · rename_i hd
    simp only [Option.some.injEq, Prod.mk.injEq] at h
    obtain ⟨rfl, rfl⟩ := h
    have h9 : ndg s ≤ 9 := by unfold dgOk okN at hd; exact (of_decide_eq_true hd).2.1
    have hv := vl_lt (Nat.le_refl (ndg s))
    have hp : (10 : Int) ^ ndg s ≤ 10 ^ 9 := by
      have := Nat.pow_le_pow_right (n := 10) (by omega) h9
      exact_mod_cast this
    exact ⟨by omega, by simp⟩
  · cases h
theorem exU_b {s r : List UInt8} {a : Int} (h : exU s = some (a, r)) : (0 ≤ a ∧ a < 1000000000) ∧ r.length ≤ s.length := by
  unfold exU at h
  split at h
  · simp only [Option.some.injEq, Prod.mk.injEq] at h
    obtain ⟨rfl, rfl⟩ := h
    exact ⟨by omega, Nat.le_refl _⟩
  · have := exV_b h
    rw [List.length_drop] at this
    exact ⟨this.1, by omega⟩
theorem exT_b {nm : UInt8} {s r : List UInt8} {a : Int} (h : exT nm s = some (a, r)) : (0 ≤ a ∧ a < 1000000000) ∧ r.length ≤ s.length := by
  unfold exT at h
  split at h
  · simp only [Option.some.injEq, Prod.mk.injEq] at h
    obtain ⟨rfl, rfl⟩ := h
    exact ⟨by omega, Nat.le_refl _⟩
  · have := exU_b h
    rw [List.length_drop] at this
    exact ⟨this.1, by omega⟩
theorem exJ_b (nm : UInt8) (s : List UInt8) : (-1 ≤ (exJ nm s).1 ∧ (exJ nm s).1 < 1000000000) ∧ (exJ nm s).2.length ≤ s.length := by
  unfold exJ
  cases h : exT nm s with
  | none => exact ⟨⟨by simp, by simp⟩, by simp⟩
  | some p =>
    obtain ⟨a, r⟩ := p
    have := exT_b h
    exact ⟨⟨by simp only; omega, this.1.2⟩, this.2⟩
theorem pl_mem {p : UInt8 → Bool} : ∀ (s : List UInt8), ∀ x ∈ s.take (pl p s), p x = true
  | [], x, h => by simp at h
  | y :: r, x, h => by
    simp only [pl] at h
    split at h
    · rename_i hy
      rw [List.take_succ_cons] at h
      rcases List.mem_cons.1 h with rfl | h
      · exact hy
      · exact pl_mem r x h
    · simp at h
theorem take_dg (s : List UInt8) : ndg (s.take (ndg s)) = ndg s ∧ (s.take (ndg s)).length = ndg s ∧ dgOk (s.take (ndg s)) = dgOk s := by
  have hl : (s.take (ndg s)).length = ndg s := by rw [List.length_take]; have := pl_le isDg s; unfold ndg; omega
  have h1 : ndg (s.take (ndg s)) = ndg s := by
    have := pl_append (p := isDg) (a := s.take (ndg s)) (b := []) (pl_mem s) (.inl rfl)
    rw [List.append_nil, hl] at this
    exact this
  refine ⟨h1, hl, ?_⟩
  unfold dgOk okN
  rw [h1]
  by_cases h0 : ndg s = 0
  · simp [h0]
  · have : (s.take (ndg s)).getD 0 0 = s.getD 0 0 := by simp only [List.getD_eq_getElem?_getD]; rw [List.getElem?_take_of_lt (by omega)]
    rw [this]
end Go.Proofs.YtfgnccoaebkckaaDoor
