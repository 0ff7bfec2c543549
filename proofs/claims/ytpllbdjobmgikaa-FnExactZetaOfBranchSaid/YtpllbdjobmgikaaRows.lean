/-
  No cell of these rows narrows 'for every input' (looked for: loops, veiled, ifaces, maps, wideKeys, modest, calm, conditions, laid).
  DERIVED. THE GIVEN ROWS OF THIS SEAT. 3 by the template 'for every input the law returns true; each argument reads behind the call as it read before'; 0 by the template 'total and deterministic' (their statements: YtpllbdjobmgikaaTotals.lean).
  GIVEN WITH THE SEED: the statements are not yours to turn. If you find one false, say at which input.
  Laid BY PROGRAM, IN A SANDBOX (cutbox-rows.mjs): the forced cells as the released guide's own fill.sh prints them over the translation d06350e0d50616dc… (all of the seat's roots in one cut). By AI agents, Wed Nov 11 2026. No macro, syntax, notation, axiom, sorry.
-/
import Derived.Test.YtpllbdjobmgikaaChecked
import GoSem.Claim
import GoSem.ClaimJoined
import GoSem.ClaimMapViews
import Derived.JoinedTies
import Derived.KernelRfl
namespace Go.Proofs.Ytpllbdjobmgikaa
/- THE CELL 'sum', in the pinned program and in every row, IS THE sha256 OF THE DUMP (.gsa) THAT YtpllbdjobmgikaaProg.lean LOADS. Nothing in Lean hashes anything: it is a label: what it is worth is what the hold of that sum in a sandbox is worth. -/
noncomputable def Try.pinned : Pinned := { name := "ytpllbdjobmgikaa", sum := "d06350e0d50616dc9fce08c50e15d759757ea08f9b8fee5688752800c09099d2", checked := Try.checked }
namespace Rows
def none {H : Type} : Left H := { results := [], args := [] }

/-- 'laws.FnExactEigenvalueNumbers': WHATEVER THE INPUT: true; the input reads as it did. -/
def fnExactEigenvalueNumbersSpec : ChangeSpec := { name := "fnExactEigenvalueNumbers", fn := fun _ => fun
  | [d] => { results := [.lit (.bool true)], args := [d] }
  | _ => none }
def fnExactEigenvalueNumbersRow : OpenClaim := { program := "ytpllbdjobmgikaa", sum := "d06350e0d50616dc9fce08c50e15d759757ea08f9b8fee5688752800c09099d2", func := "loop.example/g01140/laws.FnExactEigenvalueNumbers", spec := "fnExactEigenvalueNumbers", inPlace := ["slices.overlaps[[]int64]"], unfollowed := true, recurses := true, apart := false }
def FnExactEigenvalueNumbersSaid : Prop := fnExactEigenvalueNumbersRow.holds Try.pinned (OpenSpec.ofChange fnExactEigenvalueNumbersSpec)

/-- ITS FALSE NEIGHBOUR: 'it returns false'. Refute it at one input. -/
def fnExactEigenvalueNumbersWrong : ChangeSpec := { name := "fnExactEigenvalueNumbers", fn := fun _ => fun
  | [d] => { results := [.lit (.bool false)], args := [d] }
  | _ => none }
def FnExactEigenvalueNumbersWrongFalsely : Prop := fnExactEigenvalueNumbersRow.holds Try.pinned (OpenSpec.ofChange fnExactEigenvalueNumbersWrong)

/-- 'laws.FnExactPeriodOfZeta': WHATEVER THE INPUT: true; the input reads as it did. -/
def fnExactPeriodOfZetaSpec : ChangeSpec := { name := "fnExactPeriodOfZeta", fn := fun _ => fun
  | [d] => { results := [.lit (.bool true)], args := [d] }
  | _ => none }
def fnExactPeriodOfZetaRow : OpenClaim := { program := "ytpllbdjobmgikaa", sum := "d06350e0d50616dc9fce08c50e15d759757ea08f9b8fee5688752800c09099d2", func := "loop.example/g01140/laws.FnExactPeriodOfZeta", spec := "fnExactPeriodOfZeta", inPlace := ["slices.overlaps[[]int64]"], unfollowed := true, recurses := true, apart := false }
def FnExactPeriodOfZetaSaid : Prop := fnExactPeriodOfZetaRow.holds Try.pinned (OpenSpec.ofChange fnExactPeriodOfZetaSpec)

/-- ITS FALSE NEIGHBOUR: 'it returns false'. Refute it at one input. -/
def fnExactPeriodOfZetaWrong : ChangeSpec := { name := "fnExactPeriodOfZeta", fn := fun _ => fun
  | [d] => { results := [.lit (.bool false)], args := [d] }
  | _ => none }
def FnExactPeriodOfZetaWrongFalsely : Prop := fnExactPeriodOfZetaRow.holds Try.pinned (OpenSpec.ofChange fnExactPeriodOfZetaWrong)

/-- 'laws.FnExactZetaOfBranch': WHATEVER THE INPUT: true; the input reads as it did. -/
def fnExactZetaOfBranchSpec : ChangeSpec := { name := "fnExactZetaOfBranch", fn := fun _ => fun
  | [d] => { results := [.lit (.bool true)], args := [d] }
  | _ => none }
def fnExactZetaOfBranchRow : OpenClaim := { program := "ytpllbdjobmgikaa", sum := "d06350e0d50616dc9fce08c50e15d759757ea08f9b8fee5688752800c09099d2", func := "loop.example/g01140/laws.FnExactZetaOfBranch", spec := "fnExactZetaOfBranch", inPlace := ["slices.overlaps[[]int64]"], unfollowed := true, recurses := true, apart := false }
def FnExactZetaOfBranchSaid : Prop := fnExactZetaOfBranchRow.holds Try.pinned (OpenSpec.ofChange fnExactZetaOfBranchSpec)

/-- ITS FALSE NEIGHBOUR: 'it returns false'. Refute it at one input. -/
def fnExactZetaOfBranchWrong : ChangeSpec := { name := "fnExactZetaOfBranch", fn := fun _ => fun
  | [d] => { results := [.lit (.bool false)], args := [d] }
  | _ => none }
def FnExactZetaOfBranchWrongFalsely : Prop := fnExactZetaOfBranchRow.holds Try.pinned (OpenSpec.ofChange fnExactZetaOfBranchWrong)

/- THE SECOND FORM. 'bulk': how many values and letters a reading holds, each counted each time it is reached (what is shared counts as often as it is met; a slice's spare places count too). A statement '..UptoSaid' is the law's where the arguments, and the package variables that the reading takes, are together of bulk at most 1048576: NARROWER than '..Said'. Prove '..Said' where nothing that the law and all that it calls make is longer than what came in: it says more and counts as full. Else prove '..UptoSaid'. A law counts once. -/
mutual
def uptoBulk {H : Type} : DataW H → Nat
  | .lit (.string bytes) => bytes.length + 1
  | .lit _ => 1
  | .nil => 1
  | .ptr d => uptoBulk d + 1
  | .slice elems spare => uptoBulkAll elems + uptoBulkAll spare + 1
  | .agg parts => uptoBulkAll parts + 1
  | .iface _ d => uptoBulk d + 1
  | .map entries => uptoBulkEntries entries + 1
  | .held _ => 1
def uptoBulkAll {H : Type} : List (DataW H) → Nat
  | [] => 0
  | d :: r => uptoBulk d + uptoBulkAll r
def uptoBulkEntries {H : Type} : List (Lit × DataW H) → Nat
  | [] => 0
  | x :: r => uptoBulkEntry x + uptoBulkEntries r
def uptoBulkEntry {H : Type} : Lit × DataW H → Nat
  | (.string bytes, d) => bytes.length + uptoBulk d + 1
  | (_, d) => uptoBulk d + 1
 end
def uptoSmall : (H : Type) → List (DataW H) → Bool := fun _ ds => decide (uptoBulkAll ds ≤ 1048576)
def OpenSpec.upto (s : _root_.Go.ChangeSpec) : _root_.Go.OpenSpec := { _root_.Go.OpenSpec.ofChange s with cond := some uptoSmall }

/-- 'laws.FnExactEigenvalueNumbers', WHERE WHAT IT READS IS OF BULK AT MOST 1048576: true; the input reads as it did. -/
def fnExactEigenvalueNumbersUptoRow : OpenClaim := { program := "ytpllbdjobmgikaa", sum := "d06350e0d50616dc9fce08c50e15d759757ea08f9b8fee5688752800c09099d2", func := "loop.example/g01140/laws.FnExactEigenvalueNumbers", spec := "fnExactEigenvalueNumbers", inPlace := ["slices.overlaps[[]int64]"], unfollowed := true, recurses := true, apart := false, narrowed := true }
def FnExactEigenvalueNumbersUptoSaid : Prop := fnExactEigenvalueNumbersUptoRow.holds Try.pinned (OpenSpec.upto fnExactEigenvalueNumbersSpec)

/-- 'laws.FnExactPeriodOfZeta', WHERE WHAT IT READS IS OF BULK AT MOST 1048576: true; the input reads as it did. -/
def fnExactPeriodOfZetaUptoRow : OpenClaim := { program := "ytpllbdjobmgikaa", sum := "d06350e0d50616dc9fce08c50e15d759757ea08f9b8fee5688752800c09099d2", func := "loop.example/g01140/laws.FnExactPeriodOfZeta", spec := "fnExactPeriodOfZeta", inPlace := ["slices.overlaps[[]int64]"], unfollowed := true, recurses := true, apart := false, narrowed := true }
def FnExactPeriodOfZetaUptoSaid : Prop := fnExactPeriodOfZetaUptoRow.holds Try.pinned (OpenSpec.upto fnExactPeriodOfZetaSpec)

/-- 'laws.FnExactZetaOfBranch', WHERE WHAT IT READS IS OF BULK AT MOST 1048576: true; the input reads as it did. -/
def fnExactZetaOfBranchUptoRow : OpenClaim := { program := "ytpllbdjobmgikaa", sum := "d06350e0d50616dc9fce08c50e15d759757ea08f9b8fee5688752800c09099d2", func := "loop.example/g01140/laws.FnExactZetaOfBranch", spec := "fnExactZetaOfBranch", inPlace := ["slices.overlaps[[]int64]"], unfollowed := true, recurses := true, apart := false, narrowed := true }
def FnExactZetaOfBranchUptoSaid : Prop := fnExactZetaOfBranchUptoRow.holds Try.pinned (OpenSpec.upto fnExactZetaOfBranchSpec)

end Rows
end Go.Proofs.Ytpllbdjobmgikaa
