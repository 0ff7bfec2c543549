/-
  Orders along a parametrisation: the sums. No condition.
-/
import Derived.Test.YtpijpkhjkkjocaaProd
import Derived.Test.YtpijpkhjkkjocaaPoly1
import Derived.Test.YtpijpkhjkkjocaaSer2
import Derived.Test.YtpijpkhjkkjocaaAmMore4
namespace Go.Proofs.Ytpijpkhjkkjocaa
open Go Go.RowKit
attribute [local irreducible] AWp AOps ResIs Ret1 QOp LOp COp AFnV AFn Imms LeE LeO
set_option maxHeartbeats 1000000
set_option linter.unusedSimpArgs false
set_option linter.unusedVariables false

theorem serN {n : Int} {cs : List Int} (h : isSerB n cs = true) : 1 ≤ n ∧ n ≤ 12 ∧ 0 < cs.length ∧ cs.length ≤ 81 := by
  simp only [isSerB, Bool.and_eq_true, decide_eq_true_eq] at h
  omega
theorem serF {n : Int} {cs : List Int} (h : isSerB n cs = true) : inF cs := by
  intro i
  by_cases h1 : i.toNat < cs.length
  · simp only [isSerB, Bool.and_eq_true] at h
    have := withinL_get h.2 i.toNat h1
    have e : geti cs ((i.toNat : Nat) : Int) = geti cs i := by unfold geti; rw [Int.toNat_natCast]
    rw [e] at this
    omega
  · simp [geti, List.getElem?_eq_none (show cs.length ≤ i.toNat by omega)]

/-! ### Powers -/
def L241 : Nat := ((240 : Int) + 1).toNat
def pw (c : List Int) : Nat → List Int
  | 0 => (List.replicate (Int.toNat 241) 0).set (Int.toNat 0) 1
  | j + 1 => prd (pw c j) c ((240 : Int) + 1).toNat (pw c j).length
def sp (c : List Int) : Nat → List Int
  | 0 => [1]
  | j + 1 => prd (sp c j) c ((240 : Int) + 1).toNat (sp c j).length
theorem pw_len (c : List Int) : ∀ j, (pw c j).length = 241
  | 0 => by rw [pw, List.length_set, List.length_replicate]; rfl
  | j + 1 => by rw [pw, prd_len]; rfl
theorem sp_len (c : List Int) : ∀ j, (sp c j).length ≤ 241
  | 0 => by simp [sp]
  | j + 1 => by rw [sp, prd_len]; decide
theorem pw_in (c : List Int) : ∀ j, inF (pw c j)
  | 0 => fun i => by
    rw [pw, geti_set]
    split
    · omega
    · exact inF_rep _ i
  | j + 1 => prd_in _ _ _ _
theorem sp_in (c : List Int) : ∀ j, inF (sp c j)
  | 0 => fun i => by
    rw [sp]
    unfold geti
    match i.toNat with
    | 0 => simp
    | k + 1 => simp
  | j + 1 => prd_in _ _ _ _
theorem prd_tail {a b : List Int} {L n : Nat} : ∀ m, (∀ j : Nat, n ≤ j → j < n + m → geti a j = 0) → prd a b L (n + m) = prd a b L n
  | 0, _ => rfl
  | m + 1, h => by
    rw [← Nat.add_assoc, prd, h (n + m) (by omega) (by omega), prw_zero (prd_in _ _ _ _)]
    exact prd_tail m fun j h1 h2 => h j h1 (by omega)
theorem pw0_get (s : Nat) : geti (pw [] 0) (s : Nat) = if s = 0 then 1 else 0 := by
  rw [pw, geti_set, List.length_replicate, Int.toNat_natCast]
  by_cases e : s = 0
  · subst e
    rw [if_pos ⟨rfl, by decide⟩, if_pos rfl]
  · rw [if_neg (fun h => e h.1.symm), if_neg e]
    unfold geti
    rw [List.getD_eq_getElem?_getD, List.getElem?_replicate]
    split <;> rfl
theorem sp0_get (s : Nat) : geti [1] (s : Nat) = if s = 0 then 1 else 0 := by
  unfold geti
  match s with
  | 0 => rfl
  | s + 1 => simp
theorem prd_unit {a c : List Int} {L : Nat} (h0 : geti a ((0 : Nat) : Int) = 1) (h : ∀ j : Nat, 1 ≤ j → geti a j = 0) (m : Nat) : prd [1] c L 1 = prd a c L (1 + m) := by
  rw [prd_tail m fun j h1 _ => h j h1]
  have e1 : prd [1] c L 1 = prw c (geti [1] ((0 : Nat) : Int)) 0 (List.replicate L 0) c.length := rfl
  have e2 : prd a c L 1 = prw c (geti a ((0 : Nat) : Int)) 0 (List.replicate L 0) c.length := rfl
  rw [e1, e2, h0]
  rfl
theorem sp_pw (c : List Int) : ∀ j, sp c (j + 1) = pw c (j + 1)
  | 0 => by
    have h0 : geti (pw c 0) ((0 : Nat) : Int) = 1 := pw0_get 0
    have h : ∀ j : Nat, 1 ≤ j → geti (pw c 0) j = 0 := fun j h1 => by
      have := pw0_get j
      rw [if_neg (by omega)] at this
      exact this
    have hl := pw_len c 0
    rw [sp, sp, pw]
    generalize pw c 0 = a at h0 h hl ⊢
    rw [show a.length = 1 + (a.length - 1) by omega]
    exact prd_unit h0 h _
  | j + 1 => by rw [sp, pw, sp_pw c j]
theorem sp_get (c : List Int) : ∀ (j : Nat) (s : Nat), geti (sp c j) (s : Nat) = geti (pw c j) (s : Nat)
  | 0, s => by
    rw [sp, sp0_get]
    exact (pw0_get s).symm
  | j + 1, s => by rw [sp_pw]

/-! ### Sums -/
def sumF (f : Nat → Int) : List Int := (List.range 241).map fun s : Nat => f s % 55441
theorem sumF_len (f : Nat → Int) : (sumF f).length = 241 := by simp [sumF]
theorem sumF_get (f : Nat → Int) (s : Nat) (h : s < 241) : geti (sumF f) (s : Nat) = f s % 55441 := by simp [sumF, geti, h]
theorem sumF_congr {f g : Nat → Int} (h : ∀ s, s < 241 → f s = g s) : sumF f = sumF g := by
  unfold sumF
  apply List.map_congr_left
  intro s hs
  rw [h s (List.mem_range.1 hs)]
theorem sumF_zero : List.replicate (Int.toNat 241) (0 : Int) = sumF fun _ => 0 := by decide +kernel
def stp (f : Nat → Int) (a : Nat) (g : Nat → Int) (k : Nat) : Nat → Int := fun s => f s + if a ≤ s ∧ s < a + k then g (s - a) else 0
def ful (f : Nat → Int) (a : Nat) (g : Nat → Int) : Nat → Int := fun s => f s + if a ≤ s then g (s - a) else 0
theorem stp_zero (f : Nat → Int) (a : Nat) (g : Nat → Int) : sumF f = sumF (stp f a g 0) := by
  apply sumF_congr
  intro s _
  unfold stp
  rw [if_neg (by omega), Int.add_zero]
theorem stp_set (f : Nat → Int) (a : Nat) (g : Nat → Int) (k : Nat) (h : a + k < 241) :
    (sumF (stp f a g k)).set (a + k) ((geti (sumF (stp f a g k)) ((a + k : Nat) : Int) + g k) % 55441) = sumF (stp f a g (k + 1)) := by
  rw [sumF_get _ _ h]
  apply List.ext_getElem?
  intro s
  rw [List.getElem?_set, sumF_len]
  by_cases e : a + k = s
  · subst e
    rw [if_pos rfl, if_pos h]
    have : (stp f a g k (a + k) % 55441 + g k) % 55441 = stp f a g (k + 1) (a + k) % 55441 := by
      unfold stp
      rw [if_neg (by omega), if_pos (by omega), Int.add_zero, show a + k - a = k by omega]
      omega
    rw [this]
    simp [sumF, h]
  · rw [if_neg e]
    by_cases hs : s < 241
    · have : stp f a g k s = stp f a g (k + 1) s := by
        unfold stp
        by_cases h2 : a ≤ s ∧ s < a + k
        · rw [if_pos h2, if_pos (by omega)]
        · rw [if_neg h2, if_neg (by omega)]
      simp [sumF, hs, this]
    · rw [List.getElem?_eq_none (by rw [sumF_len]; omega), List.getElem?_eq_none (by rw [sumF_len]; omega)]
theorem stp_out (f : Nat → Int) (a : Nat) (g : Nat → Int) (k : Nat) (h : 241 ≤ a + k) : sumF (stp f a g k) = sumF (stp f a g (k + 1)) := by
  apply sumF_congr
  intro s hs
  unfold stp
  by_cases h2 : a ≤ s ∧ s < a + k
  · rw [if_pos h2, if_pos (by omega)]
  · rw [if_neg h2, if_neg (by omega)]
theorem stp_ful (f : Nat → Int) (a : Nat) (g : Nat → Int) (k : Nat) (h : ∀ s, k ≤ s → a + s < 241 → g s = 0) : sumF (stp f a g k) = sumF (ful f a g) := by
  apply sumF_congr
  intro s hs
  unfold stp ful
  by_cases h2 : a ≤ s
  · rw [if_pos h2]
    by_cases h3 : s < a + k
    · rw [if_pos ⟨h2, h3⟩]
    · rw [if_neg (by omega), h (s - a) (by omega) (by omega)]
  · rw [if_neg (by omega), if_neg h2]

/-- What the term i gives at s. -/
def trm (c : List Int) (xss : List (List Int)) (i : Nat) (s : Nat) : Int := geti (pw c (geti (gets xss i) 1).toNat) (s : Nat) * geti (gets xss i) 2
def off (n : Int) (xss : List (List Int)) (i : Nat) : Nat := (geti (gets xss i) 0 * n).toNat
def SS (n : Int) (c : List Int) (xss : List (List Int)) : Nat → Nat → Int
  | 0 => fun _ => 0
  | m + 1 => ful (SS n c xss m) (off n xss m) (trm c xss m)
/-- The same where only terms with the second exponent j count, from what was there on. -/
def RR (n : Int) (c : List Int) (xss : List (List Int)) (f : Nat → Int) (j : Nat) : Nat → Nat → Int
  | 0 => f
  | m + 1 => if geti (gets xss m) 1 = j then ful (RR n c xss f j m) (off n xss m) (trm c xss m) else RR n c xss f j m
def TT (n : Int) (c : List Int) (xss : List (List Int)) (N : Nat) : Nat → Nat → Int
  | 0 => fun _ => 0
  | j + 1 => RR n c xss (TT n c xss N j) j N

/-- What the term m adds at s. -/
def add1 (n : Int) (c : List Int) (xss : List (List Int)) (m s : Nat) : Int := if off n xss m ≤ s then trm c xss m (s - off n xss m) else 0
theorem SS_succ (n : Int) (c : List Int) (xss : List (List Int)) (m s : Nat) : SS n c xss (m + 1) s = SS n c xss m s + add1 n c xss m s := rfl
theorem RR_succ (n : Int) (c : List Int) (xss : List (List Int)) (f : Nat → Int) (j m s : Nat) : RR n c xss f j (m + 1) s = RR n c xss f j m s + if geti (gets xss m) 1 = j then add1 n c xss m s else 0 := by
  rw [RR]
  split
  · rfl
  · rw [Int.add_zero]
theorem RR_add (n : Int) (c : List Int) (xss : List (List Int)) (f g : Nat → Int) (s : Nat) (d : Int) (h : f s = g s + d) (j : Nat) : ∀ m, RR n c xss f j m s = RR n c xss g j m s + d
  | 0 => h
  | m + 1 => by rw [RR_succ, RR_succ, RR_add n c xss f g s d h j m]; omega
theorem TT_succ (n : Int) (c : List Int) (xss : List (List Int)) (N s : Nat) : ∀ J : Nat, TT n c xss (N + 1) J s = TT n c xss N J s + if 0 ≤ geti (gets xss N) 1 ∧ geti (gets xss N) 1 < J then add1 n c xss N s else 0
  | 0 => by
    rw [if_neg (by omega)]
    rfl
  | J + 1 => by
    have ih := TT_succ n c xss N s J
    rw [TT, RR_succ, TT, RR_add n c xss _ (TT n c xss N J) s _ ih J N]
    generalize add1 n c xss N s = d
    generalize geti (gets xss N) 1 = t
    by_cases h1 : 0 ≤ t ∧ t < J
    · rw [if_pos h1, if_neg (by omega), if_pos (by omega)]; omega
    · by_cases h2 : t = J
      · rw [if_neg h1, if_pos h2, if_pos (by omega)]; omega
      · rw [if_neg h1, if_neg h2, if_neg (by omega)]; omega
theorem RR_nil (n : Int) (c : List Int) (xss : List (List Int)) (f : Nat → Int) (j : Nat) : RR n c xss f j 0 = f := rfl
theorem TT_nil (n : Int) (c : List Int) (xss : List (List Int)) (s : Nat) : ∀ J, TT n c xss 0 J s = 0
  | 0 => rfl
  | J + 1 => by rw [TT, RR_nil]; exact TT_nil n c xss s J
theorem TT_eq (n : Int) (c : List Int) (xss : List (List Int)) (J : Nat) (s : Nat) : ∀ N, (∀ i : Nat, i < N → 0 ≤ geti (gets xss i) 1 ∧ geti (gets xss i) 1 < J) → TT n c xss N J s = SS n c xss N s
  | 0, _ => TT_nil n c xss s J
  | N + 1, h => by
    rw [TT_succ, if_pos (h N (by omega)), SS_succ, TT_eq n c xss J s N fun i hi => h i (by omega)]
end Go.Proofs.Ytpijpkhjkkjocaa
