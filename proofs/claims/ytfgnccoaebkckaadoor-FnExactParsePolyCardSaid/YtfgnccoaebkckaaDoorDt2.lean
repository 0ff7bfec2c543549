/-
  The text of a polynomial, term by term: plain law. No condition.
-/
import Derived.Test.YtfgnccoaebkckaaDoorDt1
namespace Go.Proofs.YtfgnccoaebkckaaDoor
open Go

theorem pwN_nil {nm : List UInt8} {n : Int} (hn : nm ≠ []) : pwN nm n = [] ↔ n = 0 := by
  unfold pwN
  by_cases h0 : n = 0
  · simp [h0]
  · rw [if_neg h0]
    by_cases h1 : n = 1
    · simp [h1, hn]
    · rw [if_neg h1]; simp [h0]
theorem xyT_nil {t : List Int} (h0 : 0 ≤ geti t 0) (h1 : 0 ≤ geti t 1) : xyT t = [] ↔ geti t 0 + geti t 1 = 0 := by
  unfold xyT
  rw [List.append_eq_nil_iff, pwN_nil (by simp), pwN_nil (by simp)]
  omega
theorem join_snoc (ss : List (List UInt8)) (x sep : List UInt8) : Lib.join (ss ++ [x]) sep = if ss.length = 0 then x else Lib.join ss sep ++ sep ++ x := by
  cases ss with
  | nil => simp [Lib.join_one]
  | cons y r =>
    rw [List.cons_append, Lib.join_cons, Lib.join_cons, if_neg (by simp)]
    simp [Lib.joinTail, List.append_assoc]
/-- The text of the first i terms. -/
def txN (f : List (List Int)) (i : Nat) : List UInt8 := Lib.join ((f.take i).map wd) [43]
theorem txN_zero (f : List (List Int)) : txN f 0 = [] := by simp [txN, Lib.join_nil]
theorem txN_succ {f : List (List Int)} {i : Nat} (hi : i < f.length) : txN f (i + 1) = if i = 0 then wd (gets f i) else txN f i ++ [43] ++ wd (gets f i) := by
  have e : gets f i = f[i] := by simp [gets, hi]
  unfold txN
  rw [List.take_succ_eq_append_getElem hi, List.map_append, List.map_cons, List.map_nil, join_snoc, e]
  simp only [List.length_map, List.length_take]
  by_cases h0 : i = 0
  · rw [if_pos (by omega), if_pos h0]
  · rw [if_neg (by omega), if_neg h0]
theorem txN_len {f : List (List Int)} (h : IsPo f) (i : Nat) : (txN f i).length ≤ 4000 := by
  have h1 := join_len ((f.take i).map wd) [43] 19 (fun s hs => by
    obtain ⟨t, ht, rfl⟩ := List.mem_map.1 hs
    exact words_len h _ (List.mem_map.2 ⟨t, List.mem_of_mem_take ht, rfl⟩))
  rw [List.length_map, List.length_take] at h1
  have := h.1
  simp only [List.length_cons, List.length_nil] at h1
  unfold txN
  omega
theorem wd_nil {f : List (List Int)} (h : IsPo f) {i : Nat} (hi : i < f.length) : 1 ≤ (wd (gets f i)).length := by
  have hp := (h.2 i hi).lt
  exact (wd_len (by omega) (by omega) (by omega)).2
theorem txN_ne {f : List (List Int)} (h : IsPo f) : txN f f.length = [] ↔ f.length = 0 := by
  constructor
  · intro e
    rcases Nat.eq_zero_or_pos f.length with h0 | h0
    · exact h0
    · exfalso
      have h1 := txN_succ (f := f) (i := f.length - 1) (by omega)
      have h2 := wd_nil h (i := f.length - 1) (by omega)
      rw [show f.length - 1 + 1 = f.length by omega, e] at h1
      split at h1
      · rw [← h1] at h2; simp at h2
      · have := congrArg List.length h1
        simp at this
  · intro e; rw [e, txN_zero]
theorem txt_txN (f : List (List Int)) : txt f = if f.length = 0 then [48] else txN f f.length := by unfold txt txN; rw [List.take_length]
end Go.Proofs.YtfgnccoaebkckaaDoor
