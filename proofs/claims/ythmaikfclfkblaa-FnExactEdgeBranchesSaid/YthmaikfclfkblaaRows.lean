/-
  No cell of these rows narrows 'for every input' (looked for: loops, veiled, ifaces, maps, wideKeys, modest, calm, conditions, laid).
  DERIVED. THE GIVEN ROWS OF THIS SEAT. 7 by the template 'for every input the law returns true; each argument reads behind the call as it read before'; 0 by the template 'total and deterministic' (their statements: YthmaikfclfkblaaTotals.lean).
  GIVEN WITH THE SEED: the statements are not yours to turn. If you find one false, say at which input.
  Laid BY PROGRAM, IN A SANDBOX (cutbox-rows.mjs): the forced cells as the released guide's own fill.sh prints them over the translation 3e15bf6afbe43ef5… (all of the seat's roots in one cut). By AI agents, Wed Nov 11 2026. No macro, syntax, notation, axiom, sorry.
-/
import Derived.Test.YthmaikfclfkblaaChecked
import GoSem.Claim
import GoSem.ClaimJoined
import GoSem.ClaimMapViews
import Derived.JoinedTies
import Derived.KernelRfl
namespace Go.Proofs.Ythmaikfclfkblaa
/- THE CELL 'sum', in the pinned program and in every row, IS THE sha256 OF THE DUMP (.gsa) THAT YthmaikfclfkblaaProg.lean LOADS. Nothing in Lean hashes anything: it is a label: what it is worth is what the hold of that sum in a sandbox is worth. -/
noncomputable def Try.pinned : Pinned := { name := "ythmaikfclfkblaa", sum := "3e15bf6afbe43ef5416f7e5e48c049f4471eb7076425e75c7b394ffac18c1ac0", checked := Try.checked }
namespace Rows
def none {H : Type} : Left H := { results := [], args := [] }

/-- 'laws.FnExactIsConvenient': WHATEVER THE INPUT: true; the input reads as it did. -/
def fnExactIsConvenientSpec : ChangeSpec := { name := "fnExactIsConvenient", fn := fun _ => fun
  | [d] => { results := [.lit (.bool true)], args := [d] }
  | _ => none }
def fnExactIsConvenientRow : OpenClaim := { program := "ythmaikfclfkblaa", sum := "3e15bf6afbe43ef5416f7e5e48c049f4471eb7076425e75c7b394ffac18c1ac0", func := "loop.example/g01140/laws.FnExactIsConvenient", spec := "fnExactIsConvenient", unfollowed := true, recurses := true, apart := false }
def FnExactIsConvenientSaid : Prop := fnExactIsConvenientRow.holds Try.pinned (OpenSpec.ofChange fnExactIsConvenientSpec)

/-- ITS FALSE NEIGHBOUR: 'it returns false'. Refute it at one input. -/
def fnExactIsConvenientWrong : ChangeSpec := { name := "fnExactIsConvenient", fn := fun _ => fun
  | [d] => { results := [.lit (.bool false)], args := [d] }
  | _ => none }
def FnExactIsConvenientWrongFalsely : Prop := fnExactIsConvenientRow.holds Try.pinned (OpenSpec.ofChange fnExactIsConvenientWrong)

/-- 'laws.FnExactNewtonVertices': WHATEVER THE INPUT: true; the input reads as it did. -/
def fnExactNewtonVerticesSpec : ChangeSpec := { name := "fnExactNewtonVertices", fn := fun _ => fun
  | [d] => { results := [.lit (.bool true)], args := [d] }
  | _ => none }
def fnExactNewtonVerticesRow : OpenClaim := { program := "ythmaikfclfkblaa", sum := "3e15bf6afbe43ef5416f7e5e48c049f4471eb7076425e75c7b394ffac18c1ac0", func := "loop.example/g01140/laws.FnExactNewtonVertices", spec := "fnExactNewtonVertices", unfollowed := true, recurses := true, apart := false }
def FnExactNewtonVerticesSaid : Prop := fnExactNewtonVerticesRow.holds Try.pinned (OpenSpec.ofChange fnExactNewtonVerticesSpec)

/-- ITS FALSE NEIGHBOUR: 'it returns false'. Refute it at one input. -/
def fnExactNewtonVerticesWrong : ChangeSpec := { name := "fnExactNewtonVertices", fn := fun _ => fun
  | [d] => { results := [.lit (.bool false)], args := [d] }
  | _ => none }
def FnExactNewtonVerticesWrongFalsely : Prop := fnExactNewtonVerticesRow.holds Try.pinned (OpenSpec.ofChange fnExactNewtonVerticesWrong)

/-- 'laws.FnExactAreaBelow': WHATEVER THE INPUT: true; the input reads as it did. -/
def fnExactAreaBelowSpec : ChangeSpec := { name := "fnExactAreaBelow", fn := fun _ => fun
  | [d] => { results := [.lit (.bool true)], args := [d] }
  | _ => none }
def fnExactAreaBelowRow : OpenClaim := { program := "ythmaikfclfkblaa", sum := "3e15bf6afbe43ef5416f7e5e48c049f4471eb7076425e75c7b394ffac18c1ac0", func := "loop.example/g01140/laws.FnExactAreaBelow", spec := "fnExactAreaBelow", unfollowed := true, recurses := true, apart := false }
def FnExactAreaBelowSaid : Prop := fnExactAreaBelowRow.holds Try.pinned (OpenSpec.ofChange fnExactAreaBelowSpec)

/-- ITS FALSE NEIGHBOUR: 'it returns false'. Refute it at one input. -/
def fnExactAreaBelowWrong : ChangeSpec := { name := "fnExactAreaBelow", fn := fun _ => fun
  | [d] => { results := [.lit (.bool false)], args := [d] }
  | _ => none }
def FnExactAreaBelowWrongFalsely : Prop := fnExactAreaBelowRow.holds Try.pinned (OpenSpec.ofChange fnExactAreaBelowWrong)

/-- 'laws.FnExactNewtonNumber': WHATEVER THE INPUT: true; the input reads as it did. -/
def fnExactNewtonNumberSpec : ChangeSpec := { name := "fnExactNewtonNumber", fn := fun _ => fun
  | [d] => { results := [.lit (.bool true)], args := [d] }
  | _ => none }
def fnExactNewtonNumberRow : OpenClaim := { program := "ythmaikfclfkblaa", sum := "3e15bf6afbe43ef5416f7e5e48c049f4471eb7076425e75c7b394ffac18c1ac0", func := "loop.example/g01140/laws.FnExactNewtonNumber", spec := "fnExactNewtonNumber", unfollowed := true, recurses := true, apart := false }
def FnExactNewtonNumberSaid : Prop := fnExactNewtonNumberRow.holds Try.pinned (OpenSpec.ofChange fnExactNewtonNumberSpec)

/-- ITS FALSE NEIGHBOUR: 'it returns false'. Refute it at one input. -/
def fnExactNewtonNumberWrong : ChangeSpec := { name := "fnExactNewtonNumber", fn := fun _ => fun
  | [d] => { results := [.lit (.bool false)], args := [d] }
  | _ => none }
def FnExactNewtonNumberWrongFalsely : Prop := fnExactNewtonNumberRow.holds Try.pinned (OpenSpec.ofChange fnExactNewtonNumberWrong)

/-- 'laws.FnExactNewtonEdges': WHATEVER THE INPUT: true; the input reads as it did. -/
def fnExactNewtonEdgesSpec : ChangeSpec := { name := "fnExactNewtonEdges", fn := fun _ => fun
  | [d] => { results := [.lit (.bool true)], args := [d] }
  | _ => none }
def fnExactNewtonEdgesRow : OpenClaim := { program := "ythmaikfclfkblaa", sum := "3e15bf6afbe43ef5416f7e5e48c049f4471eb7076425e75c7b394ffac18c1ac0", func := "loop.example/g01140/laws.FnExactNewtonEdges", spec := "fnExactNewtonEdges", unfollowed := true, recurses := true, apart := false }
def FnExactNewtonEdgesSaid : Prop := fnExactNewtonEdgesRow.holds Try.pinned (OpenSpec.ofChange fnExactNewtonEdgesSpec)

/-- ITS FALSE NEIGHBOUR: 'it returns false'. Refute it at one input. -/
def fnExactNewtonEdgesWrong : ChangeSpec := { name := "fnExactNewtonEdges", fn := fun _ => fun
  | [d] => { results := [.lit (.bool false)], args := [d] }
  | _ => none }
def FnExactNewtonEdgesWrongFalsely : Prop := fnExactNewtonEdgesRow.holds Try.pinned (OpenSpec.ofChange fnExactNewtonEdgesWrong)

/-- 'laws.FnExactThresholdOf': WHATEVER THE INPUT: true; the input reads as it did. -/
def fnExactThresholdOfSpec : ChangeSpec := { name := "fnExactThresholdOf", fn := fun _ => fun
  | [d] => { results := [.lit (.bool true)], args := [d] }
  | _ => none }
def fnExactThresholdOfRow : OpenClaim := { program := "ythmaikfclfkblaa", sum := "3e15bf6afbe43ef5416f7e5e48c049f4471eb7076425e75c7b394ffac18c1ac0", func := "loop.example/g01140/laws.FnExactThresholdOf", spec := "fnExactThresholdOf", unfollowed := true, recurses := true, apart := false }
def FnExactThresholdOfSaid : Prop := fnExactThresholdOfRow.holds Try.pinned (OpenSpec.ofChange fnExactThresholdOfSpec)

/-- ITS FALSE NEIGHBOUR: 'it returns false'. Refute it at one input. -/
def fnExactThresholdOfWrong : ChangeSpec := { name := "fnExactThresholdOf", fn := fun _ => fun
  | [d] => { results := [.lit (.bool false)], args := [d] }
  | _ => none }
def FnExactThresholdOfWrongFalsely : Prop := fnExactThresholdOfRow.holds Try.pinned (OpenSpec.ofChange fnExactThresholdOfWrong)

/-- 'laws.FnExactEdgeBranches': WHATEVER THE INPUT: true; the input reads as it did. -/
def fnExactEdgeBranchesSpec : ChangeSpec := { name := "fnExactEdgeBranches", fn := fun _ => fun
  | [d] => { results := [.lit (.bool true)], args := [d] }
  | _ => none }
def fnExactEdgeBranchesRow : OpenClaim := { program := "ythmaikfclfkblaa", sum := "3e15bf6afbe43ef5416f7e5e48c049f4471eb7076425e75c7b394ffac18c1ac0", func := "loop.example/g01140/laws.FnExactEdgeBranches", spec := "fnExactEdgeBranches", unfollowed := true, recurses := true, apart := false }
def FnExactEdgeBranchesSaid : Prop := fnExactEdgeBranchesRow.holds Try.pinned (OpenSpec.ofChange fnExactEdgeBranchesSpec)

/-- ITS FALSE NEIGHBOUR: 'it returns false'. Refute it at one input. -/
def fnExactEdgeBranchesWrong : ChangeSpec := { name := "fnExactEdgeBranches", fn := fun _ => fun
  | [d] => { results := [.lit (.bool false)], args := [d] }
  | _ => none }
def FnExactEdgeBranchesWrongFalsely : Prop := fnExactEdgeBranchesRow.holds Try.pinned (OpenSpec.ofChange fnExactEdgeBranchesWrong)

/- THE SECOND FORM. 'bulk': how many values and letters a reading holds, each counted each time it is reached (what is shared counts as often as it is met; a slice's spare places count too). A statement '..UptoSaid' is the law's where the arguments, and the package variables that the reading takes, are together of bulk at most 1048576: NARROWER than '..Said'. Prove '..Said' where nothing that the law and all that it calls make is longer than what came in: it says more and counts as full. Else prove '..UptoSaid'. A law counts once. -/
mutual
def uptoBulk {H : Type} : DataW H → Nat
  | .lit (.string bytes) => bytes.length + 1
  | .lit _ => 1
  | .nil => 1
  | .ptr d => uptoBulk d + 1
  | .slice elems spare => uptoBulkAll elems + uptoBulkAll spare + 1
  | .agg parts => uptoBulkAll parts + 1
  | .iface _ d => uptoBulk d + 1
  | .map entries => uptoBulkEntries entries + 1
  | .held _ => 1
def uptoBulkAll {H : Type} : List (DataW H) → Nat
  | [] => 0
  | d :: r => uptoBulk d + uptoBulkAll r
def uptoBulkEntries {H : Type} : List (Lit × DataW H) → Nat
  | [] => 0
  | x :: r => uptoBulkEntry x + uptoBulkEntries r
def uptoBulkEntry {H : Type} : Lit × DataW H → Nat
  | (.string bytes, d) => bytes.length + uptoBulk d + 1
  | (_, d) => uptoBulk d + 1
 end
def uptoSmall : (H : Type) → List (DataW H) → Bool := fun _ ds => decide (uptoBulkAll ds ≤ 1048576)
def OpenSpec.upto (s : _root_.Go.ChangeSpec) : _root_.Go.OpenSpec := { _root_.Go.OpenSpec.ofChange s with cond := some uptoSmall }

/-- 'laws.FnExactIsConvenient', WHERE WHAT IT READS IS OF BULK AT MOST 1048576: true; the input reads as it did. -/
def fnExactIsConvenientUptoRow : OpenClaim := { program := "ythmaikfclfkblaa", sum := "3e15bf6afbe43ef5416f7e5e48c049f4471eb7076425e75c7b394ffac18c1ac0", func := "loop.example/g01140/laws.FnExactIsConvenient", spec := "fnExactIsConvenient", unfollowed := true, recurses := true, apart := false, narrowed := true }
def FnExactIsConvenientUptoSaid : Prop := fnExactIsConvenientUptoRow.holds Try.pinned (OpenSpec.upto fnExactIsConvenientSpec)

/-- 'laws.FnExactNewtonVertices', WHERE WHAT IT READS IS OF BULK AT MOST 1048576: true; the input reads as it did. -/
def fnExactNewtonVerticesUptoRow : OpenClaim := { program := "ythmaikfclfkblaa", sum := "3e15bf6afbe43ef5416f7e5e48c049f4471eb7076425e75c7b394ffac18c1ac0", func := "loop.example/g01140/laws.FnExactNewtonVertices", spec := "fnExactNewtonVertices", unfollowed := true, recurses := true, apart := false, narrowed := true }
def FnExactNewtonVerticesUptoSaid : Prop := fnExactNewtonVerticesUptoRow.holds Try.pinned (OpenSpec.upto fnExactNewtonVerticesSpec)

/-- 'laws.FnExactAreaBelow', WHERE WHAT IT READS IS OF BULK AT MOST 1048576: true; the input reads as it did. -/
def fnExactAreaBelowUptoRow : OpenClaim := { program := "ythmaikfclfkblaa", sum := "3e15bf6afbe43ef5416f7e5e48c049f4471eb7076425e75c7b394ffac18c1ac0", func := "loop.example/g01140/laws.FnExactAreaBelow", spec := "fnExactAreaBelow", unfollowed := true, recurses := true, apart := false, narrowed := true }
def FnExactAreaBelowUptoSaid : Prop := fnExactAreaBelowUptoRow.holds Try.pinned (OpenSpec.upto fnExactAreaBelowSpec)

/-- 'laws.FnExactNewtonNumber', WHERE WHAT IT READS IS OF BULK AT MOST 1048576: true; the input reads as it did. -/
def fnExactNewtonNumberUptoRow : OpenClaim := { program := "ythmaikfclfkblaa", sum := "3e15bf6afbe43ef5416f7e5e48c049f4471eb7076425e75c7b394ffac18c1ac0", func := "loop.example/g01140/laws.FnExactNewtonNumber", spec := "fnExactNewtonNumber", unfollowed := true, recurses := true, apart := false, narrowed := true }
def FnExactNewtonNumberUptoSaid : Prop := fnExactNewtonNumberUptoRow.holds Try.pinned (OpenSpec.upto fnExactNewtonNumberSpec)

/-- 'laws.FnExactNewtonEdges', WHERE WHAT IT READS IS OF BULK AT MOST 1048576: true; the input reads as it did. -/
def fnExactNewtonEdgesUptoRow : OpenClaim := { program := "ythmaikfclfkblaa", sum := "3e15bf6afbe43ef5416f7e5e48c049f4471eb7076425e75c7b394ffac18c1ac0", func := "loop.example/g01140/laws.FnExactNewtonEdges", spec := "fnExactNewtonEdges", unfollowed := true, recurses := true, apart := false, narrowed := true }
def FnExactNewtonEdgesUptoSaid : Prop := fnExactNewtonEdgesUptoRow.holds Try.pinned (OpenSpec.upto fnExactNewtonEdgesSpec)

/-- 'laws.FnExactThresholdOf', WHERE WHAT IT READS IS OF BULK AT MOST 1048576: true; the input reads as it did. -/
def fnExactThresholdOfUptoRow : OpenClaim := { program := "ythmaikfclfkblaa", sum := "3e15bf6afbe43ef5416f7e5e48c049f4471eb7076425e75c7b394ffac18c1ac0", func := "loop.example/g01140/laws.FnExactThresholdOf", spec := "fnExactThresholdOf", unfollowed := true, recurses := true, apart := false, narrowed := true }
def FnExactThresholdOfUptoSaid : Prop := fnExactThresholdOfUptoRow.holds Try.pinned (OpenSpec.upto fnExactThresholdOfSpec)

/-- 'laws.FnExactEdgeBranches', WHERE WHAT IT READS IS OF BULK AT MOST 1048576: true; the input reads as it did. -/
def fnExactEdgeBranchesUptoRow : OpenClaim := { program := "ythmaikfclfkblaa", sum := "3e15bf6afbe43ef5416f7e5e48c049f4471eb7076425e75c7b394ffac18c1ac0", func := "loop.example/g01140/laws.FnExactEdgeBranches", spec := "fnExactEdgeBranches", unfollowed := true, recurses := true, apart := false, narrowed := true }
def FnExactEdgeBranchesUptoSaid : Prop := fnExactEdgeBranchesUptoRow.holds Try.pinned (OpenSpec.upto fnExactEdgeBranchesSpec)

end Rows
end Go.Proofs.Ythmaikfclfkblaa
