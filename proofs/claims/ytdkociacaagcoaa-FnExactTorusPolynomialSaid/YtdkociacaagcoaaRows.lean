/-
  No cell of these rows narrows 'for every input' (looked for: loops, veiled, ifaces, maps, wideKeys, modest, calm, conditions, laid).
  DERIVED. THE GIVEN ROWS OF THIS SEAT. 4 by the template 'for every input the law returns true; each argument reads behind the call as it read before'; 0 by the template 'total and deterministic' (their statements: YtdkociacaagcoaaTotals.lean).
  GIVEN WITH THE SEED: the statements are not yours to turn. If you find one false, say at which input.
  Laid BY PROGRAM, IN A SANDBOX (cutbox-rows.mjs): the forced cells as the released guide's own fill.sh prints them over the translation a769c9e8fe3a5894… (all of the seat's roots in one cut). By AI agents, Wed Nov 11 2026. No macro, syntax, notation, axiom, sorry.
-/
import Derived.Test.YtdkociacaagcoaaChecked
import GoSem.Claim
import GoSem.ClaimJoined
import GoSem.ClaimMapViews
import Derived.JoinedTies
import Derived.KernelRfl
namespace Go.Proofs.Ytdkociacaagcoaa
/- THE CELL 'sum', in the pinned program and in every row, IS THE sha256 OF THE DUMP (.gsa) THAT YtdkociacaagcoaaProg.lean LOADS. Nothing in Lean hashes anything: it is a label: what it is worth is what the hold of that sum in a sandbox is worth. -/
noncomputable def Try.pinned : Pinned := { name := "ytdkociacaagcoaa", sum := "a769c9e8fe3a589487490dd0fde22f8bd52ce0252b5b44c99b6939dd804ca358", checked := Try.checked }
namespace Rows
def none {H : Type} : Left H := { results := [], args := [] }

/-- 'laws.FnExactTorusPolynomial': WHATEVER THE INPUT: true; the input reads as it did. -/
def fnExactTorusPolynomialSpec : ChangeSpec := { name := "fnExactTorusPolynomial", fn := fun _ => fun
  | [d1, d2] => { results := [.lit (.bool true)], args := [d1, d2] }
  | _ => none }
def fnExactTorusPolynomialRow : OpenClaim := { program := "ytdkociacaagcoaa", sum := "a769c9e8fe3a589487490dd0fde22f8bd52ce0252b5b44c99b6939dd804ca358", func := "loop.example/g01140/laws.FnExactTorusPolynomial", spec := "fnExactTorusPolynomial", apart := false }
def FnExactTorusPolynomialSaid : Prop := fnExactTorusPolynomialRow.holds Try.pinned (OpenSpec.ofChange fnExactTorusPolynomialSpec)

/-- ITS FALSE NEIGHBOUR: 'it returns false'. Refute it at one input. -/
def fnExactTorusPolynomialWrong : ChangeSpec := { name := "fnExactTorusPolynomial", fn := fun _ => fun
  | [d1, d2] => { results := [.lit (.bool false)], args := [d1, d2] }
  | _ => none }
def FnExactTorusPolynomialWrongFalsely : Prop := fnExactTorusPolynomialRow.holds Try.pinned (OpenSpec.ofChange fnExactTorusPolynomialWrong)

/-- 'laws.FnExactCharacteristicOfZeta': WHATEVER THE INPUT: true; the input reads as it did. -/
def fnExactCharacteristicOfZetaSpec : ChangeSpec := { name := "fnExactCharacteristicOfZeta", fn := fun _ => fun
  | [d] => { results := [.lit (.bool true)], args := [d] }
  | _ => none }
def fnExactCharacteristicOfZetaRow : OpenClaim := { program := "ytdkociacaagcoaa", sum := "a769c9e8fe3a589487490dd0fde22f8bd52ce0252b5b44c99b6939dd804ca358", func := "loop.example/g01140/laws.FnExactCharacteristicOfZeta", spec := "fnExactCharacteristicOfZeta", inPlace := ["slices.overlaps[[]int64]"], unfollowed := true, recurses := true, apart := false }
def FnExactCharacteristicOfZetaSaid : Prop := fnExactCharacteristicOfZetaRow.holds Try.pinned (OpenSpec.ofChange fnExactCharacteristicOfZetaSpec)

/-- ITS FALSE NEIGHBOUR: 'it returns false'. Refute it at one input. -/
def fnExactCharacteristicOfZetaWrong : ChangeSpec := { name := "fnExactCharacteristicOfZeta", fn := fun _ => fun
  | [d] => { results := [.lit (.bool false)], args := [d] }
  | _ => none }
def FnExactCharacteristicOfZetaWrongFalsely : Prop := fnExactCharacteristicOfZetaRow.holds Try.pinned (OpenSpec.ofChange fnExactCharacteristicOfZetaWrong)

/-- 'laws.FnTorusPolynomials': WHATEVER THE INPUT: true; the input reads as it did. -/
def fnTorusPolynomialsSpec : ChangeSpec := { name := "fnTorusPolynomials", fn := fun _ => fun
  | [d] => { results := [.lit (.bool true)], args := [d] }
  | _ => none }
def fnTorusPolynomialsRow : OpenClaim := { program := "ytdkociacaagcoaa", sum := "a769c9e8fe3a589487490dd0fde22f8bd52ce0252b5b44c99b6939dd804ca358", func := "loop.example/g01140/laws.FnTorusPolynomials", spec := "fnTorusPolynomials", inPlace := ["slices.overlaps[[]int64]"], unfollowed := true, recurses := true, apart := false }
def FnTorusPolynomialsSaid : Prop := fnTorusPolynomialsRow.holds Try.pinned (OpenSpec.ofChange fnTorusPolynomialsSpec)

/-- ITS FALSE NEIGHBOUR: 'it returns false'. Refute it at one input. -/
def fnTorusPolynomialsWrong : ChangeSpec := { name := "fnTorusPolynomials", fn := fun _ => fun
  | [d] => { results := [.lit (.bool false)], args := [d] }
  | _ => none }
def FnTorusPolynomialsWrongFalsely : Prop := fnTorusPolynomialsRow.holds Try.pinned (OpenSpec.ofChange fnTorusPolynomialsWrong)

/-- 'laws.FnExactPolynomialOfBranch': WHATEVER THE INPUT: true; the input reads as it did. -/
def fnExactPolynomialOfBranchSpec : ChangeSpec := { name := "fnExactPolynomialOfBranch", fn := fun _ => fun
  | [d] => { results := [.lit (.bool true)], args := [d] }
  | _ => none }
def fnExactPolynomialOfBranchRow : OpenClaim := { program := "ytdkociacaagcoaa", sum := "a769c9e8fe3a589487490dd0fde22f8bd52ce0252b5b44c99b6939dd804ca358", func := "loop.example/g01140/laws.FnExactPolynomialOfBranch", spec := "fnExactPolynomialOfBranch", inPlace := ["slices.overlaps[[]int64]"], unfollowed := true, recurses := true, apart := false }
def FnExactPolynomialOfBranchSaid : Prop := fnExactPolynomialOfBranchRow.holds Try.pinned (OpenSpec.ofChange fnExactPolynomialOfBranchSpec)

/-- ITS FALSE NEIGHBOUR: 'it returns false'. Refute it at one input. -/
def fnExactPolynomialOfBranchWrong : ChangeSpec := { name := "fnExactPolynomialOfBranch", fn := fun _ => fun
  | [d] => { results := [.lit (.bool false)], args := [d] }
  | _ => none }
def FnExactPolynomialOfBranchWrongFalsely : Prop := fnExactPolynomialOfBranchRow.holds Try.pinned (OpenSpec.ofChange fnExactPolynomialOfBranchWrong)

/- THE SECOND FORM. 'bulk': how many values and letters a reading holds, each counted each time it is reached (what is shared counts as often as it is met; a slice's spare places count too). A statement '..UptoSaid' is the law's where the arguments, and the package variables that the reading takes, are together of bulk at most 1048576: NARROWER than '..Said'. Prove '..Said' where nothing that the law and all that it calls make is longer than what came in: it says more and counts as full. Else prove '..UptoSaid'. A law counts once. -/
mutual
def uptoBulk {H : Type} : DataW H → Nat
  | .lit (.string bytes) => bytes.length + 1
  | .lit _ => 1
  | .nil => 1
  | .ptr d => uptoBulk d + 1
  | .slice elems spare => uptoBulkAll elems + uptoBulkAll spare + 1
  | .agg parts => uptoBulkAll parts + 1
  | .iface _ d => uptoBulk d + 1
  | .map entries => uptoBulkEntries entries + 1
  | .held _ => 1
def uptoBulkAll {H : Type} : List (DataW H) → Nat
  | [] => 0
  | d :: r => uptoBulk d + uptoBulkAll r
def uptoBulkEntries {H : Type} : List (Lit × DataW H) → Nat
  | [] => 0
  | x :: r => uptoBulkEntry x + uptoBulkEntries r
def uptoBulkEntry {H : Type} : Lit × DataW H → Nat
  | (.string bytes, d) => bytes.length + uptoBulk d + 1
  | (_, d) => uptoBulk d + 1
 end
def uptoSmall : (H : Type) → List (DataW H) → Bool := fun _ ds => decide (uptoBulkAll ds ≤ 1048576)
def OpenSpec.upto (s : _root_.Go.ChangeSpec) : _root_.Go.OpenSpec := { _root_.Go.OpenSpec.ofChange s with cond := some uptoSmall }

/-- 'laws.FnExactTorusPolynomial', WHERE WHAT IT READS IS OF BULK AT MOST 1048576: true; the input reads as it did. -/
def fnExactTorusPolynomialUptoRow : OpenClaim := { program := "ytdkociacaagcoaa", sum := "a769c9e8fe3a589487490dd0fde22f8bd52ce0252b5b44c99b6939dd804ca358", func := "loop.example/g01140/laws.FnExactTorusPolynomial", spec := "fnExactTorusPolynomial", apart := false, narrowed := true }
def FnExactTorusPolynomialUptoSaid : Prop := fnExactTorusPolynomialUptoRow.holds Try.pinned (OpenSpec.upto fnExactTorusPolynomialSpec)

/-- 'laws.FnExactCharacteristicOfZeta', WHERE WHAT IT READS IS OF BULK AT MOST 1048576: true; the input reads as it did. -/
def fnExactCharacteristicOfZetaUptoRow : OpenClaim := { program := "ytdkociacaagcoaa", sum := "a769c9e8fe3a589487490dd0fde22f8bd52ce0252b5b44c99b6939dd804ca358", func := "loop.example/g01140/laws.FnExactCharacteristicOfZeta", spec := "fnExactCharacteristicOfZeta", inPlace := ["slices.overlaps[[]int64]"], unfollowed := true, recurses := true, apart := false, narrowed := true }
def FnExactCharacteristicOfZetaUptoSaid : Prop := fnExactCharacteristicOfZetaUptoRow.holds Try.pinned (OpenSpec.upto fnExactCharacteristicOfZetaSpec)

/-- 'laws.FnTorusPolynomials', WHERE WHAT IT READS IS OF BULK AT MOST 1048576: true; the input reads as it did. -/
def fnTorusPolynomialsUptoRow : OpenClaim := { program := "ytdkociacaagcoaa", sum := "a769c9e8fe3a589487490dd0fde22f8bd52ce0252b5b44c99b6939dd804ca358", func := "loop.example/g01140/laws.FnTorusPolynomials", spec := "fnTorusPolynomials", inPlace := ["slices.overlaps[[]int64]"], unfollowed := true, recurses := true, apart := false, narrowed := true }
def FnTorusPolynomialsUptoSaid : Prop := fnTorusPolynomialsUptoRow.holds Try.pinned (OpenSpec.upto fnTorusPolynomialsSpec)

/-- 'laws.FnExactPolynomialOfBranch', WHERE WHAT IT READS IS OF BULK AT MOST 1048576: true; the input reads as it did. -/
def fnExactPolynomialOfBranchUptoRow : OpenClaim := { program := "ytdkociacaagcoaa", sum := "a769c9e8fe3a589487490dd0fde22f8bd52ce0252b5b44c99b6939dd804ca358", func := "loop.example/g01140/laws.FnExactPolynomialOfBranch", spec := "fnExactPolynomialOfBranch", inPlace := ["slices.overlaps[[]int64]"], unfollowed := true, recurses := true, apart := false, narrowed := true }
def FnExactPolynomialOfBranchUptoSaid : Prop := fnExactPolynomialOfBranchUptoRow.holds Try.pinned (OpenSpec.upto fnExactPolynomialOfBranchSpec)

end Rows
end Go.Proofs.Ytdkociacaagcoaa
