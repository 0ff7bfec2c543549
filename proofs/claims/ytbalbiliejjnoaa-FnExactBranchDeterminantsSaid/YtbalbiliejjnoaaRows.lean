/-
  No cell of these rows narrows 'for every input' (looked for: loops, veiled, ifaces, maps, wideKeys, modest, calm, conditions, laid).
  DERIVED. THE GIVEN ROWS OF THIS SEAT. 4 by the template 'for every input the law returns true; each argument reads behind the call as it read before'; 0 by the template 'total and deterministic' (their statements: YtbalbiliejjnoaaTotals.lean).
  GIVEN WITH THE SEED: the statements are not yours to turn. If you find one false, say at which input.
  Laid BY PROGRAM, IN A SANDBOX (cutbox-rows.mjs): the forced cells as the released guide's own fill.sh prints them over the translation 83624f577195856d… (all of the seat's roots in one cut). By AI agents, Wed Nov 11 2026. No macro, syntax, notation, axiom, sorry.
-/
import Derived.Test.YtbalbiliejjnoaaChecked
import GoSem.Claim
import GoSem.ClaimJoined
import GoSem.ClaimMapViews
import Derived.JoinedTies
import Derived.KernelRfl
namespace Go.Proofs.Ytbalbiliejjnoaa
/- THE CELL 'sum', in the pinned program and in every row, IS THE sha256 OF THE DUMP (.gsa) THAT YtbalbiliejjnoaaProg.lean LOADS. Nothing in Lean hashes anything: it is a label: what it is worth is what the hold of that sum in a sandbox is worth. -/
noncomputable def Try.pinned : Pinned := { name := "ytbalbiliejjnoaa", sum := "83624f577195856dbd6a28e9a27f3966c3ae45c2d4591ef0d733eea43ff445f6", checked := Try.checked }
namespace Rows
def none {H : Type} : Left H := { results := [], args := [] }

/-- 'laws.FnExactSpliceWeight': WHATEVER THE INPUT: true; the input reads as it did. -/
def fnExactSpliceWeightSpec : ChangeSpec := { name := "fnExactSpliceWeight", fn := fun _ => fun
  | [d1, d2, d3] => { results := [.lit (.bool true)], args := [d1, d2, d3] }
  | _ => none }
def fnExactSpliceWeightRow : OpenClaim := { program := "ytbalbiliejjnoaa", sum := "83624f577195856dbd6a28e9a27f3966c3ae45c2d4591ef0d733eea43ff445f6", func := "loop.example/g01140/laws.FnExactSpliceWeight", spec := "fnExactSpliceWeight", unfollowed := true, recurses := true, apart := false }
def FnExactSpliceWeightSaid : Prop := fnExactSpliceWeightRow.holds Try.pinned (OpenSpec.ofChange fnExactSpliceWeightSpec)

/-- ITS FALSE NEIGHBOUR: 'it returns false'. Refute it at one input. -/
def fnExactSpliceWeightWrong : ChangeSpec := { name := "fnExactSpliceWeight", fn := fun _ => fun
  | [d1, d2, d3] => { results := [.lit (.bool false)], args := [d1, d2, d3] }
  | _ => none }
def FnExactSpliceWeightWrongFalsely : Prop := fnExactSpliceWeightRow.holds Try.pinned (OpenSpec.ofChange fnExactSpliceWeightWrong)

/-- 'laws.FnExactBranchDeterminants': WHATEVER THE INPUT: true; the input reads as it did. -/
def fnExactBranchDeterminantsSpec : ChangeSpec := { name := "fnExactBranchDeterminants", fn := fun _ => fun
  | [d] => { results := [.lit (.bool true)], args := [d] }
  | _ => none }
def fnExactBranchDeterminantsRow : OpenClaim := { program := "ytbalbiliejjnoaa", sum := "83624f577195856dbd6a28e9a27f3966c3ae45c2d4591ef0d733eea43ff445f6", func := "loop.example/g01140/laws.FnExactBranchDeterminants", spec := "fnExactBranchDeterminants", recurses := true, apart := false }
def FnExactBranchDeterminantsSaid : Prop := fnExactBranchDeterminantsRow.holds Try.pinned (OpenSpec.ofChange fnExactBranchDeterminantsSpec)

/-- ITS FALSE NEIGHBOUR: 'it returns false'. Refute it at one input. -/
def fnExactBranchDeterminantsWrong : ChangeSpec := { name := "fnExactBranchDeterminants", fn := fun _ => fun
  | [d] => { results := [.lit (.bool false)], args := [d] }
  | _ => none }
def FnExactBranchDeterminantsWrongFalsely : Prop := fnExactBranchDeterminantsRow.holds Try.pinned (OpenSpec.ofChange fnExactBranchDeterminantsWrong)

/-- 'laws.FnExactGraphDeterminant': WHATEVER THE INPUT: true; the input reads as it did. -/
def fnExactGraphDeterminantSpec : ChangeSpec := { name := "fnExactGraphDeterminant", fn := fun _ => fun
  | [d] => { results := [.lit (.bool true)], args := [d] }
  | _ => none }
def fnExactGraphDeterminantRow : OpenClaim := { program := "ytbalbiliejjnoaa", sum := "83624f577195856dbd6a28e9a27f3966c3ae45c2d4591ef0d733eea43ff445f6", func := "loop.example/g01140/laws.FnExactGraphDeterminant", spec := "fnExactGraphDeterminant", recurses := true, apart := false }
def FnExactGraphDeterminantSaid : Prop := fnExactGraphDeterminantRow.holds Try.pinned (OpenSpec.ofChange fnExactGraphDeterminantSpec)

/-- ITS FALSE NEIGHBOUR: 'it returns false'. Refute it at one input. -/
def fnExactGraphDeterminantWrong : ChangeSpec := { name := "fnExactGraphDeterminant", fn := fun _ => fun
  | [d] => { results := [.lit (.bool false)], args := [d] }
  | _ => none }
def FnExactGraphDeterminantWrongFalsely : Prop := fnExactGraphDeterminantRow.holds Try.pinned (OpenSpec.ofChange fnExactGraphDeterminantWrong)

/-- 'laws.FnExactIsNegativeDefinite': WHATEVER THE INPUT: true; the input reads as it did. -/
def fnExactIsNegativeDefiniteSpec : ChangeSpec := { name := "fnExactIsNegativeDefinite", fn := fun _ => fun
  | [d] => { results := [.lit (.bool true)], args := [d] }
  | _ => none }
def fnExactIsNegativeDefiniteRow : OpenClaim := { program := "ytbalbiliejjnoaa", sum := "83624f577195856dbd6a28e9a27f3966c3ae45c2d4591ef0d733eea43ff445f6", func := "loop.example/g01140/laws.FnExactIsNegativeDefinite", spec := "fnExactIsNegativeDefinite", recurses := true, apart := false }
def FnExactIsNegativeDefiniteSaid : Prop := fnExactIsNegativeDefiniteRow.holds Try.pinned (OpenSpec.ofChange fnExactIsNegativeDefiniteSpec)

/-- ITS FALSE NEIGHBOUR: 'it returns false'. Refute it at one input. -/
def fnExactIsNegativeDefiniteWrong : ChangeSpec := { name := "fnExactIsNegativeDefinite", fn := fun _ => fun
  | [d] => { results := [.lit (.bool false)], args := [d] }
  | _ => none }
def FnExactIsNegativeDefiniteWrongFalsely : Prop := fnExactIsNegativeDefiniteRow.holds Try.pinned (OpenSpec.ofChange fnExactIsNegativeDefiniteWrong)

/- THE SECOND FORM. 'bulk': how many values and letters a reading holds, each counted each time it is reached (what is shared counts as often as it is met; a slice's spare places count too). A statement '..UptoSaid' is the law's where the arguments, and the package variables that the reading takes, are together of bulk at most 1048576: NARROWER than '..Said'. Prove '..Said' where nothing that the law and all that it calls make is longer than what came in: it says more and counts as full. Else prove '..UptoSaid'. A law counts once. -/
mutual
def uptoBulk {H : Type} : DataW H → Nat
  | .lit (.string bytes) => bytes.length + 1
  | .lit _ => 1
  | .nil => 1
  | .ptr d => uptoBulk d + 1
  | .slice elems spare => uptoBulkAll elems + uptoBulkAll spare + 1
  | .agg parts => uptoBulkAll parts + 1
  | .iface _ d => uptoBulk d + 1
  | .map entries => uptoBulkEntries entries + 1
  | .held _ => 1
def uptoBulkAll {H : Type} : List (DataW H) → Nat
  | [] => 0
  | d :: r => uptoBulk d + uptoBulkAll r
def uptoBulkEntries {H : Type} : List (Lit × DataW H) → Nat
  | [] => 0
  | x :: r => uptoBulkEntry x + uptoBulkEntries r
def uptoBulkEntry {H : Type} : Lit × DataW H → Nat
  | (.string bytes, d) => bytes.length + uptoBulk d + 1
  | (_, d) => uptoBulk d + 1
 end
def uptoSmall : (H : Type) → List (DataW H) → Bool := fun _ ds => decide (uptoBulkAll ds ≤ 1048576)
def OpenSpec.upto (s : _root_.Go.ChangeSpec) : _root_.Go.OpenSpec := { _root_.Go.OpenSpec.ofChange s with cond := some uptoSmall }

/-- 'laws.FnExactSpliceWeight', WHERE WHAT IT READS IS OF BULK AT MOST 1048576: true; the input reads as it did. -/
def fnExactSpliceWeightUptoRow : OpenClaim := { program := "ytbalbiliejjnoaa", sum := "83624f577195856dbd6a28e9a27f3966c3ae45c2d4591ef0d733eea43ff445f6", func := "loop.example/g01140/laws.FnExactSpliceWeight", spec := "fnExactSpliceWeight", unfollowed := true, recurses := true, apart := false, narrowed := true }
def FnExactSpliceWeightUptoSaid : Prop := fnExactSpliceWeightUptoRow.holds Try.pinned (OpenSpec.upto fnExactSpliceWeightSpec)

/-- 'laws.FnExactBranchDeterminants', WHERE WHAT IT READS IS OF BULK AT MOST 1048576: true; the input reads as it did. -/
def fnExactBranchDeterminantsUptoRow : OpenClaim := { program := "ytbalbiliejjnoaa", sum := "83624f577195856dbd6a28e9a27f3966c3ae45c2d4591ef0d733eea43ff445f6", func := "loop.example/g01140/laws.FnExactBranchDeterminants", spec := "fnExactBranchDeterminants", recurses := true, apart := false, narrowed := true }
def FnExactBranchDeterminantsUptoSaid : Prop := fnExactBranchDeterminantsUptoRow.holds Try.pinned (OpenSpec.upto fnExactBranchDeterminantsSpec)

/-- 'laws.FnExactGraphDeterminant', WHERE WHAT IT READS IS OF BULK AT MOST 1048576: true; the input reads as it did. -/
def fnExactGraphDeterminantUptoRow : OpenClaim := { program := "ytbalbiliejjnoaa", sum := "83624f577195856dbd6a28e9a27f3966c3ae45c2d4591ef0d733eea43ff445f6", func := "loop.example/g01140/laws.FnExactGraphDeterminant", spec := "fnExactGraphDeterminant", recurses := true, apart := false, narrowed := true }
def FnExactGraphDeterminantUptoSaid : Prop := fnExactGraphDeterminantUptoRow.holds Try.pinned (OpenSpec.upto fnExactGraphDeterminantSpec)

/-- 'laws.FnExactIsNegativeDefinite', WHERE WHAT IT READS IS OF BULK AT MOST 1048576: true; the input reads as it did. -/
def fnExactIsNegativeDefiniteUptoRow : OpenClaim := { program := "ytbalbiliejjnoaa", sum := "83624f577195856dbd6a28e9a27f3966c3ae45c2d4591ef0d733eea43ff445f6", func := "loop.example/g01140/laws.FnExactIsNegativeDefinite", spec := "fnExactIsNegativeDefinite", recurses := true, apart := false, narrowed := true }
def FnExactIsNegativeDefiniteUptoSaid : Prop := fnExactIsNegativeDefiniteUptoRow.holds Try.pinned (OpenSpec.upto fnExactIsNegativeDefiniteSpec)

end Rows
end Go.Proofs.Ytbalbiliejjnoaa
