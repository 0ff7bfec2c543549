
/-
  slices.Sort at up to twelve integers: insertion. No condition but on the entries.
-/
import Derived.Test.YtpbfgmehdhdjdaaBits
import Derived.Test.YtpbfgmehdhdjdaaProd
import Derived.Test.YtpbfgmehdhdjdaaAmMore5
namespace Go.Proofs.Ytpbfgmehdhdjdaa
open Go Go.RowKit

attribute [local irreducible] AWp AOps ResIs Ret1 QOp LOp COp AFnV AFn Imms LeE LeO
set_option maxHeartbeats 1000000
set_option linter.unusedSimpArgs false
set_option linter.unusedVariables false

def swp (l : List Int) (m : Nat) : List Int := (l.set (m + 1) (geti l (m : Nat))).set m (geti l ((m + 1 : Nat) : Int))
def dn : Nat → List Int → List Int
  | 0, l => l
  | m + 1, l => if geti l ((m + 1 : Nat) : Int) < geti l (m : Nat) then dn m (swp l m) else l
def srt (l : List Int) : Nat → List Int
  | 0 => l
  | i + 1 => dn (i + 1) (srt l i)
theorem swp_len (l : List Int) (m : Nat) : (swp l m).length = l.length := by simp [swp]
theorem dn_len : ∀ (m : Nat) (l : List Int), (dn m l).length = l.length
  | 0, l => rfl
  | m + 1, l => by rw [dn]; split; rw [dn_len m, swp_len]; rfl
theorem srt_len (l : List Int) : ∀ i, (srt l i).length = l.length
  | 0 => rfl
  | i + 1 => by rw [srt, dn_len, srt_len l i]
theorem inF_set' {l : List Int} (h : inF l) (j : Nat) {v : Int} (hv : 0 ≤ v ∧ v ≤ 55440) : inF (l.set j v) := fun i => by
  rw [geti_set]
  split
  · exact hv
  · exact h i
theorem swp_in {l : List Int} (h : inF l) (m : Nat) : inF (swp l m) := inF_set' (inF_set' h _ (h _)) _ (h _)
theorem dn_in : ∀ (m : Nat) {l : List Int}, inF l → inF (dn m l)
  | 0, l, h => h
  | m + 1, l, h => by rw [dn]; split; exact dn_in m (swp_in h m); exact h
theorem srt_in {l : List Int} (h : inF l) : ∀ i, inF (srt l i)
  | 0 => h
  | i + 1 => dn_in _ (srt_in h i)

end Go.Proofs.Ytpbfgmehdhdjdaa
