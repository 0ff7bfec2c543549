/-
  The texts of numbers, terms and polynomials: plain words and their lengths. No condition.
-/
import Derived.Test.YtfgnccoaebkckaaDoorPoly1
import Derived.Lib.ItoaNum
import Derived.Lib.Join
namespace Go.Proofs.YtfgnccoaebkckaaDoor
open Go

abbrev dec (n : Int) : List UInt8 := Lib.decDigits n.toNat
def pwN (nm : List UInt8) (n : Int) : List UInt8 := if n = 0 then [] else if n = 1 then nm else (nm ++ [94]) ++ dec n
def xyT (t : List Int) : List UInt8 := pwN [120] (geti t 0) ++ pwN [121] (geti t 1)
def wd (t : List Int) : List UInt8 := if geti t 2 ≠ 1 ∨ xyT t = [] then dec (geti t 2) ++ xyT t else xyT t
def txt (f : List (List Int)) : List UInt8 := if f.length = 0 then [48] else Lib.join (f.map wd) [43]

theorem dd_len {n : Nat} (h : n < 100000) : (Lib.decDigits n).length ≤ 5 ∧ 1 ≤ (Lib.decDigits n).length := by
  rw [Lib.decDigits_length]
  refine ⟨?_, Lib.nDigits_pos _⟩
  rw [Lib.nDigits]; split; · omega
  rw [Lib.nDigits]; split; · omega
  rw [Lib.nDigits]; split; · omega
  rw [Lib.nDigits]; split; · omega
  rw [Lib.nDigits]; split; · omega
  omega
theorem dec_len {n : Int} (h : n < 100000) : (dec n).length ≤ 5 ∧ 1 ≤ (dec n).length := dd_len (by omega)
theorem pwN_len {nm : List UInt8} {n : Int} (h : n < 100000) : (pwN nm n).length ≤ nm.length + 6 := by
  unfold pwN
  have := (dec_len h).1
  (repeat' split) <;> (try simp only [List.length_append, List.length_cons, List.length_nil]) <;> omega
theorem xyT_len {t : List Int} (h0 : geti t 0 < 100000) (h1 : geti t 1 < 100000) : (xyT t).length ≤ 14 := by
  unfold xyT
  have a := pwN_len (nm := [120]) h0
  have b := pwN_len (nm := [121]) h1
  simp only [List.length_append, List.length_cons, List.length_nil] at *
  omega
theorem wd_len {t : List Int} (h0 : geti t 0 < 100000) (h1 : geti t 1 < 100000) (h2 : geti t 2 < 100000) : (wd t).length ≤ 19 ∧ 1 ≤ (wd t).length := by
  unfold wd
  have a := xyT_len h0 h1
  have b := dec_len h2
  split
  · simp only [List.length_append]; omega
  · rename_i h
    have h' : ¬ xyT t = [] := fun e => h (.inr e)
    have : 0 < (xyT t).length := List.length_pos_iff.2 h'
    omega
theorem join_len (ss : List (List UInt8)) (sep : List UInt8) (b : Nat) (h : ∀ s ∈ ss, s.length ≤ b) : (Lib.join ss sep).length ≤ ss.length * (b + sep.length) := by
  have key : ∀ r : List (List UInt8), (∀ s ∈ r, s.length ≤ b) → (Lib.joinTail sep r).length ≤ r.length * (b + sep.length) := by
    intro r
    induction r with
    | nil => intro _; simp [Lib.joinTail]
    | cons x r ih =>
      intro hr
      have h1 := ih fun s hs => hr s (List.mem_cons_of_mem _ hs)
      have h2 := hr x (List.mem_cons_self ..)
      simp only [Lib.joinTail, List.map_cons, List.flatten_cons, List.length_append, List.length_cons] at h1 ⊢
      rw [Nat.succ_mul]; omega
  cases ss with
  | nil => simp [Lib.join_nil]
  | cons x r =>
    rw [Lib.join_cons]
    have h1 := key r fun s hs => h s (List.mem_cons_of_mem _ hs)
    have h2 := h x (List.mem_cons_self ..)
    simp only [List.length_append, List.length_cons]
    rw [Nat.succ_mul]; omega
theorem PR.lt {f : List (List Int)} {i : Nat} (h : PR f i) : (0 ≤ geti (gets f i) 0 ∧ geti (gets f i) 0 ≤ 60) ∧ (0 ≤ geti (gets f i) 1 ∧ geti (gets f i) 1 ≤ 60) ∧ (1 ≤ geti (gets f i) 2 ∧ geti (gets f i) 2 ≤ 55440) := ⟨h.2.1, h.2.2.1, h.2.2.2.1⟩
theorem words_len {f : List (List Int)} (h : IsPo f) : ∀ s ∈ f.map wd, s.length ≤ 19 := by
  intro s hs
  obtain ⟨t, ht, rfl⟩ := List.mem_map.1 hs
  obtain ⟨i, hi, rfl⟩ := List.getElem_of_mem ht
  have hp := (h.2 i hi).lt
  have e : gets f i = f[i] := by simp [gets, hi]
  rw [e] at hp
  exact (wd_len (by omega) (by omega) (by omega)).1
theorem txt_len {f : List (List Int)} (h : IsPo f) : (Lib.join (f.map wd) [43]).length ≤ 4000 := by
  have h1 := join_len _ [43] 19 (words_len h)
  rw [List.length_map] at h1
  have := h.1
  simp only [List.length_cons, List.length_nil] at h1
  omega
end Go.Proofs.YtfgnccoaebkckaaDoor
