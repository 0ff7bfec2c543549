/-
  No cell of these rows narrows 'for every input' (looked for: loops, veiled, ifaces, maps, wideKeys, modest, calm, conditions, laid).
  DERIVED. THE GIVEN ROWS OF THIS SEAT. 6 by the template 'for every input the law returns true; each argument reads behind the call as it read before'; 0 by the template 'total and deterministic' (their statements: YtpijpkhjkkjocaaTotals.lean).
  GIVEN WITH THE SEED: the statements are not yours to turn. If you find one false, say at which input.
  Laid BY PROGRAM, IN A SANDBOX (cutbox-rows.mjs): the forced cells as the released guide's own fill.sh prints them over the translation 885ae332713f55d4… (all of the seat's roots in one cut). By AI agents, Wed Nov 11 2026. No macro, syntax, notation, axiom, sorry.
-/
import Derived.Test.YtpijpkhjkkjocaaChecked
import GoSem.Claim
import GoSem.ClaimJoined
import GoSem.ClaimMapViews
import Derived.JoinedTies
import Derived.KernelRfl
namespace Go.Proofs.Ytpijpkhjkkjocaa
/- THE CELL 'sum', in the pinned program and in every row, IS THE sha256 OF THE DUMP (.gsa) THAT YtpijpkhjkkjocaaProg.lean LOADS. Nothing in Lean hashes anything: it is a label: what it is worth is what the hold of that sum in a sandbox is worth. -/
noncomputable def Try.pinned : Pinned := { name := "ytpijpkhjkkjocaa", sum := "885ae332713f55d482ef90d4fb54513fb3c80c17dbc299244cc70c0bcac5aa56", checked := Try.checked }
namespace Rows
def none {H : Type} : Left H := { results := [], args := [] }

/-- 'laws.FnExactIsSupport': WHATEVER THE INPUT: true; the input reads as it did. -/
def fnExactIsSupportSpec : ChangeSpec := { name := "fnExactIsSupport", fn := fun _ => fun
  | [d] => { results := [.lit (.bool true)], args := [d] }
  | _ => none }
def fnExactIsSupportRow : OpenClaim := { program := "ytpijpkhjkkjocaa", sum := "885ae332713f55d482ef90d4fb54513fb3c80c17dbc299244cc70c0bcac5aa56", func := "loop.example/g01140/laws.FnExactIsSupport", spec := "fnExactIsSupport", apart := false }
def FnExactIsSupportSaid : Prop := fnExactIsSupportRow.holds Try.pinned (OpenSpec.ofChange fnExactIsSupportSpec)

/-- ITS FALSE NEIGHBOUR: 'it returns false'. Refute it at one input. -/
def fnExactIsSupportWrong : ChangeSpec := { name := "fnExactIsSupport", fn := fun _ => fun
  | [d] => { results := [.lit (.bool false)], args := [d] }
  | _ => none }
def FnExactIsSupportWrongFalsely : Prop := fnExactIsSupportRow.holds Try.pinned (OpenSpec.ofChange fnExactIsSupportWrong)

/-- 'laws.FnExactSupportValue': WHATEVER THE INPUT: true; the input reads as it did. -/
def fnExactSupportValueSpec : ChangeSpec := { name := "fnExactSupportValue", fn := fun _ => fun
  | [d1, d2, d3] => { results := [.lit (.bool true)], args := [d1, d2, d3] }
  | _ => none }
def fnExactSupportValueRow : OpenClaim := { program := "ytpijpkhjkkjocaa", sum := "885ae332713f55d482ef90d4fb54513fb3c80c17dbc299244cc70c0bcac5aa56", func := "loop.example/g01140/laws.FnExactSupportValue", spec := "fnExactSupportValue", apart := false }
def FnExactSupportValueSaid : Prop := fnExactSupportValueRow.holds Try.pinned (OpenSpec.ofChange fnExactSupportValueSpec)

/-- ITS FALSE NEIGHBOUR: 'it returns false'. Refute it at one input. -/
def fnExactSupportValueWrong : ChangeSpec := { name := "fnExactSupportValue", fn := fun _ => fun
  | [d1, d2, d3] => { results := [.lit (.bool false)], args := [d1, d2, d3] }
  | _ => none }
def FnExactSupportValueWrongFalsely : Prop := fnExactSupportValueRow.holds Try.pinned (OpenSpec.ofChange fnExactSupportValueWrong)

/-- 'laws.FnExactIsPoly': WHATEVER THE INPUT: true; the input reads as it did. -/
def fnExactIsPolySpec : ChangeSpec := { name := "fnExactIsPoly", fn := fun _ => fun
  | [d] => { results := [.lit (.bool true)], args := [d] }
  | _ => none }
def fnExactIsPolyRow : OpenClaim := { program := "ytpijpkhjkkjocaa", sum := "885ae332713f55d482ef90d4fb54513fb3c80c17dbc299244cc70c0bcac5aa56", func := "loop.example/g01140/laws.FnExactIsPoly", spec := "fnExactIsPoly", apart := false }
def FnExactIsPolySaid : Prop := fnExactIsPolyRow.holds Try.pinned (OpenSpec.ofChange fnExactIsPolySpec)

/-- ITS FALSE NEIGHBOUR: 'it returns false'. Refute it at one input. -/
def fnExactIsPolyWrong : ChangeSpec := { name := "fnExactIsPoly", fn := fun _ => fun
  | [d] => { results := [.lit (.bool false)], args := [d] }
  | _ => none }
def FnExactIsPolyWrongFalsely : Prop := fnExactIsPolyRow.holds Try.pinned (OpenSpec.ofChange fnExactIsPolyWrong)

/-- 'laws.FnExactOrderOf': WHATEVER THE INPUT: true; the input reads as it did. -/
def fnExactOrderOfSpec : ChangeSpec := { name := "fnExactOrderOf", fn := fun _ => fun
  | [d] => { results := [.lit (.bool true)], args := [d] }
  | _ => none }
def fnExactOrderOfRow : OpenClaim := { program := "ytpijpkhjkkjocaa", sum := "885ae332713f55d482ef90d4fb54513fb3c80c17dbc299244cc70c0bcac5aa56", func := "loop.example/g01140/laws.FnExactOrderOf", spec := "fnExactOrderOf", apart := false }
def FnExactOrderOfSaid : Prop := fnExactOrderOfRow.holds Try.pinned (OpenSpec.ofChange fnExactOrderOfSpec)

/-- ITS FALSE NEIGHBOUR: 'it returns false'. Refute it at one input. -/
def fnExactOrderOfWrong : ChangeSpec := { name := "fnExactOrderOf", fn := fun _ => fun
  | [d] => { results := [.lit (.bool false)], args := [d] }
  | _ => none }
def FnExactOrderOfWrongFalsely : Prop := fnExactOrderOfRow.holds Try.pinned (OpenSpec.ofChange fnExactOrderOfWrong)

/-- 'laws.FnExactOrderAlong': WHATEVER THE INPUT: true; the input reads as it did. -/
def fnExactOrderAlongSpec : ChangeSpec := { name := "fnExactOrderAlong", fn := fun _ => fun
  | [d1, d2] => { results := [.lit (.bool true)], args := [d1, d2] }
  | _ => none }
def fnExactOrderAlongRow : OpenClaim := { program := "ytpijpkhjkkjocaa", sum := "885ae332713f55d482ef90d4fb54513fb3c80c17dbc299244cc70c0bcac5aa56", func := "loop.example/g01140/laws.FnExactOrderAlong", spec := "fnExactOrderAlong", unfollowed := true, recurses := true, apart := false }
def FnExactOrderAlongSaid : Prop := fnExactOrderAlongRow.holds Try.pinned (OpenSpec.ofChange fnExactOrderAlongSpec)

/-- ITS FALSE NEIGHBOUR: 'it returns false'. Refute it at one input. -/
def fnExactOrderAlongWrong : ChangeSpec := { name := "fnExactOrderAlong", fn := fun _ => fun
  | [d1, d2] => { results := [.lit (.bool false)], args := [d1, d2] }
  | _ => none }
def FnExactOrderAlongWrongFalsely : Prop := fnExactOrderAlongRow.holds Try.pinned (OpenSpec.ofChange fnExactOrderAlongWrong)

/-- 'laws.FnExactSupportOf': WHATEVER THE INPUT: true; the input reads as it did. -/
def fnExactSupportOfSpec : ChangeSpec := { name := "fnExactSupportOf", fn := fun _ => fun
  | [d] => { results := [.lit (.bool true)], args := [d] }
  | _ => none }
def fnExactSupportOfRow : OpenClaim := { program := "ytpijpkhjkkjocaa", sum := "885ae332713f55d482ef90d4fb54513fb3c80c17dbc299244cc70c0bcac5aa56", func := "loop.example/g01140/laws.FnExactSupportOf", spec := "fnExactSupportOf", apart := false }
def FnExactSupportOfSaid : Prop := fnExactSupportOfRow.holds Try.pinned (OpenSpec.ofChange fnExactSupportOfSpec)

/-- ITS FALSE NEIGHBOUR: 'it returns false'. Refute it at one input. -/
def fnExactSupportOfWrong : ChangeSpec := { name := "fnExactSupportOf", fn := fun _ => fun
  | [d] => { results := [.lit (.bool false)], args := [d] }
  | _ => none }
def FnExactSupportOfWrongFalsely : Prop := fnExactSupportOfRow.holds Try.pinned (OpenSpec.ofChange fnExactSupportOfWrong)

/- THE SECOND FORM. 'bulk': how many values and letters a reading holds, each counted each time it is reached (what is shared counts as often as it is met; a slice's spare places count too). A statement '..UptoSaid' is the law's where the arguments, and the package variables that the reading takes, are together of bulk at most 1048576: NARROWER than '..Said'. Prove '..Said' where nothing that the law and all that it calls make is longer than what came in: it says more and counts as full. Else prove '..UptoSaid'. A law counts once. -/
mutual
def uptoBulk {H : Type} : DataW H → Nat
  | .lit (.string bytes) => bytes.length + 1
  | .lit _ => 1
  | .nil => 1
  | .ptr d => uptoBulk d + 1
  | .slice elems spare => uptoBulkAll elems + uptoBulkAll spare + 1
  | .agg parts => uptoBulkAll parts + 1
  | .iface _ d => uptoBulk d + 1
  | .map entries => uptoBulkEntries entries + 1
  | .held _ => 1
def uptoBulkAll {H : Type} : List (DataW H) → Nat
  | [] => 0
  | d :: r => uptoBulk d + uptoBulkAll r
def uptoBulkEntries {H : Type} : List (Lit × DataW H) → Nat
  | [] => 0
  | x :: r => uptoBulkEntry x + uptoBulkEntries r
def uptoBulkEntry {H : Type} : Lit × DataW H → Nat
  | (.string bytes, d) => bytes.length + uptoBulk d + 1
  | (_, d) => uptoBulk d + 1
 end
def uptoSmall : (H : Type) → List (DataW H) → Bool := fun _ ds => decide (uptoBulkAll ds ≤ 1048576)
def OpenSpec.upto (s : _root_.Go.ChangeSpec) : _root_.Go.OpenSpec := { _root_.Go.OpenSpec.ofChange s with cond := some uptoSmall }

/-- 'laws.FnExactIsSupport', WHERE WHAT IT READS IS OF BULK AT MOST 1048576: true; the input reads as it did. -/
def fnExactIsSupportUptoRow : OpenClaim := { program := "ytpijpkhjkkjocaa", sum := "885ae332713f55d482ef90d4fb54513fb3c80c17dbc299244cc70c0bcac5aa56", func := "loop.example/g01140/laws.FnExactIsSupport", spec := "fnExactIsSupport", apart := false, narrowed := true }
def FnExactIsSupportUptoSaid : Prop := fnExactIsSupportUptoRow.holds Try.pinned (OpenSpec.upto fnExactIsSupportSpec)

/-- 'laws.FnExactSupportValue', WHERE WHAT IT READS IS OF BULK AT MOST 1048576: true; the input reads as it did. -/
def fnExactSupportValueUptoRow : OpenClaim := { program := "ytpijpkhjkkjocaa", sum := "885ae332713f55d482ef90d4fb54513fb3c80c17dbc299244cc70c0bcac5aa56", func := "loop.example/g01140/laws.FnExactSupportValue", spec := "fnExactSupportValue", apart := false, narrowed := true }
def FnExactSupportValueUptoSaid : Prop := fnExactSupportValueUptoRow.holds Try.pinned (OpenSpec.upto fnExactSupportValueSpec)

/-- 'laws.FnExactIsPoly', WHERE WHAT IT READS IS OF BULK AT MOST 1048576: true; the input reads as it did. -/
def fnExactIsPolyUptoRow : OpenClaim := { program := "ytpijpkhjkkjocaa", sum := "885ae332713f55d482ef90d4fb54513fb3c80c17dbc299244cc70c0bcac5aa56", func := "loop.example/g01140/laws.FnExactIsPoly", spec := "fnExactIsPoly", apart := false, narrowed := true }
def FnExactIsPolyUptoSaid : Prop := fnExactIsPolyUptoRow.holds Try.pinned (OpenSpec.upto fnExactIsPolySpec)

/-- 'laws.FnExactOrderOf', WHERE WHAT IT READS IS OF BULK AT MOST 1048576: true; the input reads as it did. -/
def fnExactOrderOfUptoRow : OpenClaim := { program := "ytpijpkhjkkjocaa", sum := "885ae332713f55d482ef90d4fb54513fb3c80c17dbc299244cc70c0bcac5aa56", func := "loop.example/g01140/laws.FnExactOrderOf", spec := "fnExactOrderOf", apart := false, narrowed := true }
def FnExactOrderOfUptoSaid : Prop := fnExactOrderOfUptoRow.holds Try.pinned (OpenSpec.upto fnExactOrderOfSpec)

/-- 'laws.FnExactOrderAlong', WHERE WHAT IT READS IS OF BULK AT MOST 1048576: true; the input reads as it did. -/
def fnExactOrderAlongUptoRow : OpenClaim := { program := "ytpijpkhjkkjocaa", sum := "885ae332713f55d482ef90d4fb54513fb3c80c17dbc299244cc70c0bcac5aa56", func := "loop.example/g01140/laws.FnExactOrderAlong", spec := "fnExactOrderAlong", unfollowed := true, recurses := true, apart := false, narrowed := true }
def FnExactOrderAlongUptoSaid : Prop := fnExactOrderAlongUptoRow.holds Try.pinned (OpenSpec.upto fnExactOrderAlongSpec)

/-- 'laws.FnExactSupportOf', WHERE WHAT IT READS IS OF BULK AT MOST 1048576: true; the input reads as it did. -/
def fnExactSupportOfUptoRow : OpenClaim := { program := "ytpijpkhjkkjocaa", sum := "885ae332713f55d482ef90d4fb54513fb3c80c17dbc299244cc70c0bcac5aa56", func := "loop.example/g01140/laws.FnExactSupportOf", spec := "fnExactSupportOf", apart := false, narrowed := true }
def FnExactSupportOfUptoSaid : Prop := fnExactSupportOfUptoRow.holds Try.pinned (OpenSpec.upto fnExactSupportOfSpec)

end Rows
end Go.Proofs.Ytpijpkhjkkjocaa
