/-
  No cell of these rows narrows 'for every input' (looked for: loops, veiled, ifaces, maps, wideKeys, modest, calm, conditions, laid).
  DERIVED. THE GIVEN ROWS OF THIS SEAT. 13 by the template 'for every input the law returns true; each argument reads behind the call as it read before'; 0 by the template 'total and deterministic' (their statements: YtpbfgmehdhdjdaaTotals.lean).
  GIVEN WITH THE SEED: the statements are not yours to turn. If you find one false, say at which input.
  Laid BY PROGRAM, IN A SANDBOX (cutbox-rows.mjs): the forced cells as the released guide's own fill.sh prints them over the translation 69e0789793603187… (all of the seat's roots in one cut). By AI agents, Wed Nov 11 2026. No macro, syntax, notation, axiom, sorry.
-/
import Derived.Test.YtpbfgmehdhdjdaaChecked
import GoSem.Claim
import GoSem.ClaimJoined
import GoSem.ClaimMapViews
import Derived.JoinedTies
import Derived.KernelRfl
namespace Go.Proofs.Ytpbfgmehdhdjdaa
/- THE CELL 'sum', in the pinned program and in every row, IS THE sha256 OF THE DUMP (.gsa) THAT YtpbfgmehdhdjdaaProg.lean LOADS. Nothing in Lean hashes anything: it is a label: what it is worth is what the hold of that sum in a sandbox is worth. -/
noncomputable def Try.pinned : Pinned := { name := "ytpbfgmehdhdjdaa", sum := "69e0789793603187937eed0fe358d5788f1b476cfcbdbdab7e29765b278b6fd7", checked := Try.checked }
namespace Rows
def none {H : Type} : Left H := { results := [], args := [] }

/-- 'laws.FnExactIsSeries': WHATEVER THE INPUT: true; the input reads as it did. -/
def fnExactIsSeriesSpec : ChangeSpec := { name := "fnExactIsSeries", fn := fun _ => fun
  | [d] => { results := [.lit (.bool true)], args := [d] }
  | _ => none }
def fnExactIsSeriesRow : OpenClaim := { program := "ytpbfgmehdhdjdaa", sum := "69e0789793603187937eed0fe358d5788f1b476cfcbdbdab7e29765b278b6fd7", func := "loop.example/g01140/laws.FnExactIsSeries", spec := "fnExactIsSeries", apart := false }
def FnExactIsSeriesSaid : Prop := fnExactIsSeriesRow.holds Try.pinned (OpenSpec.ofChange fnExactIsSeriesSpec)

/-- ITS FALSE NEIGHBOUR: 'it returns false'. Refute it at one input. -/
def fnExactIsSeriesWrong : ChangeSpec := { name := "fnExactIsSeries", fn := fun _ => fun
  | [d] => { results := [.lit (.bool false)], args := [d] }
  | _ => none }
def FnExactIsSeriesWrongFalsely : Prop := fnExactIsSeriesRow.holds Try.pinned (OpenSpec.ofChange fnExactIsSeriesWrong)

/-- 'laws.FnExactOrderOfSeries': WHATEVER THE INPUT: true; the input reads as it did. -/
def fnExactOrderOfSeriesSpec : ChangeSpec := { name := "fnExactOrderOfSeries", fn := fun _ => fun
  | [d] => { results := [.lit (.bool true)], args := [d] }
  | _ => none }
def fnExactOrderOfSeriesRow : OpenClaim := { program := "ytpbfgmehdhdjdaa", sum := "69e0789793603187937eed0fe358d5788f1b476cfcbdbdab7e29765b278b6fd7", func := "loop.example/g01140/laws.FnExactOrderOfSeries", spec := "fnExactOrderOfSeries", unfollowed := true, recurses := true, apart := false }
def FnExactOrderOfSeriesSaid : Prop := fnExactOrderOfSeriesRow.holds Try.pinned (OpenSpec.ofChange fnExactOrderOfSeriesSpec)

/-- ITS FALSE NEIGHBOUR: 'it returns false'. Refute it at one input. -/
def fnExactOrderOfSeriesWrong : ChangeSpec := { name := "fnExactOrderOfSeries", fn := fun _ => fun
  | [d] => { results := [.lit (.bool false)], args := [d] }
  | _ => none }
def FnExactOrderOfSeriesWrongFalsely : Prop := fnExactOrderOfSeriesRow.holds Try.pinned (OpenSpec.ofChange fnExactOrderOfSeriesWrong)

/-- 'laws.FnExactIsPrimitive': WHATEVER THE INPUT: true; the input reads as it did. -/
def fnExactIsPrimitiveSpec : ChangeSpec := { name := "fnExactIsPrimitive", fn := fun _ => fun
  | [d] => { results := [.lit (.bool true)], args := [d] }
  | _ => none }
def fnExactIsPrimitiveRow : OpenClaim := { program := "ytpbfgmehdhdjdaa", sum := "69e0789793603187937eed0fe358d5788f1b476cfcbdbdab7e29765b278b6fd7", func := "loop.example/g01140/laws.FnExactIsPrimitive", spec := "fnExactIsPrimitive", apart := false }
def FnExactIsPrimitiveSaid : Prop := fnExactIsPrimitiveRow.holds Try.pinned (OpenSpec.ofChange fnExactIsPrimitiveSpec)

/-- ITS FALSE NEIGHBOUR: 'it returns false'. Refute it at one input. -/
def fnExactIsPrimitiveWrong : ChangeSpec := { name := "fnExactIsPrimitive", fn := fun _ => fun
  | [d] => { results := [.lit (.bool false)], args := [d] }
  | _ => none }
def FnExactIsPrimitiveWrongFalsely : Prop := fnExactIsPrimitiveRow.holds Try.pinned (OpenSpec.ofChange fnExactIsPrimitiveWrong)

/-- 'laws.FnExactAddSeries': WHATEVER THE INPUT: true; the input reads as it did. -/
def fnExactAddSeriesSpec : ChangeSpec := { name := "fnExactAddSeries", fn := fun _ => fun
  | [d1, d2, d3] => { results := [.lit (.bool true)], args := [d1, d2, d3] }
  | _ => none }
def fnExactAddSeriesRow : OpenClaim := { program := "ytpbfgmehdhdjdaa", sum := "69e0789793603187937eed0fe358d5788f1b476cfcbdbdab7e29765b278b6fd7", func := "loop.example/g01140/laws.FnExactAddSeries", spec := "fnExactAddSeries", apart := false }
def FnExactAddSeriesSaid : Prop := fnExactAddSeriesRow.holds Try.pinned (OpenSpec.ofChange fnExactAddSeriesSpec)

/-- ITS FALSE NEIGHBOUR: 'it returns false'. Refute it at one input. -/
def fnExactAddSeriesWrong : ChangeSpec := { name := "fnExactAddSeries", fn := fun _ => fun
  | [d1, d2, d3] => { results := [.lit (.bool false)], args := [d1, d2, d3] }
  | _ => none }
def FnExactAddSeriesWrongFalsely : Prop := fnExactAddSeriesRow.holds Try.pinned (OpenSpec.ofChange fnExactAddSeriesWrong)

/-- 'laws.FnExactConjugateSeries': WHATEVER THE INPUT: true; the input reads as it did. -/
def fnExactConjugateSeriesSpec : ChangeSpec := { name := "fnExactConjugateSeries", fn := fun _ => fun
  | [d1, d2] => { results := [.lit (.bool true)], args := [d1, d2] }
  | _ => none }
def fnExactConjugateSeriesRow : OpenClaim := { program := "ytpbfgmehdhdjdaa", sum := "69e0789793603187937eed0fe358d5788f1b476cfcbdbdab7e29765b278b6fd7", func := "loop.example/g01140/laws.FnExactConjugateSeries", spec := "fnExactConjugateSeries", apart := false }
def FnExactConjugateSeriesSaid : Prop := fnExactConjugateSeriesRow.holds Try.pinned (OpenSpec.ofChange fnExactConjugateSeriesSpec)

/-- ITS FALSE NEIGHBOUR: 'it returns false'. Refute it at one input. -/
def fnExactConjugateSeriesWrong : ChangeSpec := { name := "fnExactConjugateSeries", fn := fun _ => fun
  | [d1, d2] => { results := [.lit (.bool false)], args := [d1, d2] }
  | _ => none }
def FnExactConjugateSeriesWrongFalsely : Prop := fnExactConjugateSeriesRow.holds Try.pinned (OpenSpec.ofChange fnExactConjugateSeriesWrong)

/-- 'laws.FnExactMultiplySeries': WHATEVER THE INPUT: true; the input reads as it did. -/
def fnExactMultiplySeriesSpec : ChangeSpec := { name := "fnExactMultiplySeries", fn := fun _ => fun
  | [d1, d2] => { results := [.lit (.bool true)], args := [d1, d2] }
  | _ => none }
def fnExactMultiplySeriesRow : OpenClaim := { program := "ytpbfgmehdhdjdaa", sum := "69e0789793603187937eed0fe358d5788f1b476cfcbdbdab7e29765b278b6fd7", func := "loop.example/g01140/laws.FnExactMultiplySeries", spec := "fnExactMultiplySeries", apart := false }
def FnExactMultiplySeriesSaid : Prop := fnExactMultiplySeriesRow.holds Try.pinned (OpenSpec.ofChange fnExactMultiplySeriesSpec)

/-- ITS FALSE NEIGHBOUR: 'it returns false'. Refute it at one input. -/
def fnExactMultiplySeriesWrong : ChangeSpec := { name := "fnExactMultiplySeries", fn := fun _ => fun
  | [d1, d2] => { results := [.lit (.bool false)], args := [d1, d2] }
  | _ => none }
def FnExactMultiplySeriesWrongFalsely : Prop := fnExactMultiplySeriesRow.holds Try.pinned (OpenSpec.ofChange fnExactMultiplySeriesWrong)

/-- 'laws.FnExactSeriesOfBranch': WHATEVER THE INPUT: true; the input reads as it did. -/
def fnExactSeriesOfBranchSpec : ChangeSpec := { name := "fnExactSeriesOfBranch", fn := fun _ => fun
  | [d] => { results := [.lit (.bool true)], args := [d] }
  | _ => none }
def fnExactSeriesOfBranchRow : OpenClaim := { program := "ytpbfgmehdhdjdaa", sum := "69e0789793603187937eed0fe358d5788f1b476cfcbdbdab7e29765b278b6fd7", func := "loop.example/g01140/laws.FnExactSeriesOfBranch", spec := "fnExactSeriesOfBranch", apart := false }
def FnExactSeriesOfBranchSaid : Prop := fnExactSeriesOfBranchRow.holds Try.pinned (OpenSpec.ofChange fnExactSeriesOfBranchSpec)

/-- ITS FALSE NEIGHBOUR: 'it returns false'. Refute it at one input. -/
def fnExactSeriesOfBranchWrong : ChangeSpec := { name := "fnExactSeriesOfBranch", fn := fun _ => fun
  | [d] => { results := [.lit (.bool false)], args := [d] }
  | _ => none }
def FnExactSeriesOfBranchWrongFalsely : Prop := fnExactSeriesOfBranchRow.holds Try.pinned (OpenSpec.ofChange fnExactSeriesOfBranchWrong)

/-- 'laws.FnExactBranchOfSeries': WHATEVER THE INPUT: true; the input reads as it did. -/
def fnExactBranchOfSeriesSpec : ChangeSpec := { name := "fnExactBranchOfSeries", fn := fun _ => fun
  | [d] => { results := [.lit (.bool true)], args := [d] }
  | _ => none }
def fnExactBranchOfSeriesRow : OpenClaim := { program := "ytpbfgmehdhdjdaa", sum := "69e0789793603187937eed0fe358d5788f1b476cfcbdbdab7e29765b278b6fd7", func := "loop.example/g01140/laws.FnExactBranchOfSeries", spec := "fnExactBranchOfSeries", unfollowed := true, recurses := true, apart := false }
def FnExactBranchOfSeriesSaid : Prop := fnExactBranchOfSeriesRow.holds Try.pinned (OpenSpec.ofChange fnExactBranchOfSeriesSpec)

/-- ITS FALSE NEIGHBOUR: 'it returns false'. Refute it at one input. -/
def fnExactBranchOfSeriesWrong : ChangeSpec := { name := "fnExactBranchOfSeries", fn := fun _ => fun
  | [d] => { results := [.lit (.bool false)], args := [d] }
  | _ => none }
def FnExactBranchOfSeriesWrongFalsely : Prop := fnExactBranchOfSeriesRow.holds Try.pinned (OpenSpec.ofChange fnExactBranchOfSeriesWrong)

/-- 'laws.FnExactSeriesValues': WHATEVER THE INPUT: true; the input reads as it did. -/
def fnExactSeriesValuesSpec : ChangeSpec := { name := "fnExactSeriesValues", fn := fun _ => fun
  | [d1, d2] => { results := [.lit (.bool true)], args := [d1, d2] }
  | _ => none }
def fnExactSeriesValuesRow : OpenClaim := { program := "ytpbfgmehdhdjdaa", sum := "69e0789793603187937eed0fe358d5788f1b476cfcbdbdab7e29765b278b6fd7", func := "loop.example/g01140/laws.FnExactSeriesValues", spec := "fnExactSeriesValues", unfollowed := true, recurses := true, apart := false }
def FnExactSeriesValuesSaid : Prop := fnExactSeriesValuesRow.holds Try.pinned (OpenSpec.ofChange fnExactSeriesValuesSpec)

/-- ITS FALSE NEIGHBOUR: 'it returns false'. Refute it at one input. -/
def fnExactSeriesValuesWrong : ChangeSpec := { name := "fnExactSeriesValues", fn := fun _ => fun
  | [d1, d2] => { results := [.lit (.bool false)], args := [d1, d2] }
  | _ => none }
def FnExactSeriesValuesWrongFalsely : Prop := fnExactSeriesValuesRow.holds Try.pinned (OpenSpec.ofChange fnExactSeriesValuesWrong)

/-- 'laws.FnExactRootsOf': WHATEVER THE INPUT: true; the input reads as it did. -/
def fnExactRootsOfSpec : ChangeSpec := { name := "fnExactRootsOf", fn := fun _ => fun
  | [d] => { results := [.lit (.bool true)], args := [d] }
  | _ => none }
def fnExactRootsOfRow : OpenClaim := { program := "ytpbfgmehdhdjdaa", sum := "69e0789793603187937eed0fe358d5788f1b476cfcbdbdab7e29765b278b6fd7", func := "loop.example/g01140/laws.FnExactRootsOf", spec := "fnExactRootsOf", recurses := true, apart := false }
def FnExactRootsOfSaid : Prop := fnExactRootsOfRow.holds Try.pinned (OpenSpec.ofChange fnExactRootsOfSpec)

/-- ITS FALSE NEIGHBOUR: 'it returns false'. Refute it at one input. -/
def fnExactRootsOfWrong : ChangeSpec := { name := "fnExactRootsOf", fn := fun _ => fun
  | [d] => { results := [.lit (.bool false)], args := [d] }
  | _ => none }
def FnExactRootsOfWrongFalsely : Prop := fnExactRootsOfRow.holds Try.pinned (OpenSpec.ofChange fnExactRootsOfWrong)

/-- 'laws.FnExactAreConjugate': WHATEVER THE INPUT: true; the input reads as it did. -/
def fnExactAreConjugateSpec : ChangeSpec := { name := "fnExactAreConjugate", fn := fun _ => fun
  | [d1, d2] => { results := [.lit (.bool true)], args := [d1, d2] }
  | _ => none }
def fnExactAreConjugateRow : OpenClaim := { program := "ytpbfgmehdhdjdaa", sum := "69e0789793603187937eed0fe358d5788f1b476cfcbdbdab7e29765b278b6fd7", func := "loop.example/g01140/laws.FnExactAreConjugate", spec := "fnExactAreConjugate", recurses := true, apart := false }
def FnExactAreConjugateSaid : Prop := fnExactAreConjugateRow.holds Try.pinned (OpenSpec.ofChange fnExactAreConjugateSpec)

/-- ITS FALSE NEIGHBOUR: 'it returns false'. Refute it at one input. -/
def fnExactAreConjugateWrong : ChangeSpec := { name := "fnExactAreConjugate", fn := fun _ => fun
  | [d1, d2] => { results := [.lit (.bool false)], args := [d1, d2] }
  | _ => none }
def FnExactAreConjugateWrongFalsely : Prop := fnExactAreConjugateRow.holds Try.pinned (OpenSpec.ofChange fnExactAreConjugateWrong)

/-- 'laws.FnExactIntersectionOf': WHATEVER THE INPUT: true; the input reads as it did. -/
def fnExactIntersectionOfSpec : ChangeSpec := { name := "fnExactIntersectionOf", fn := fun _ => fun
  | [d1, d2] => { results := [.lit (.bool true)], args := [d1, d2] }
  | _ => none }
def fnExactIntersectionOfRow : OpenClaim := { program := "ytpbfgmehdhdjdaa", sum := "69e0789793603187937eed0fe358d5788f1b476cfcbdbdab7e29765b278b6fd7", func := "loop.example/g01140/laws.FnExactIntersectionOf", spec := "fnExactIntersectionOf", recurses := true, apart := false }
def FnExactIntersectionOfSaid : Prop := fnExactIntersectionOfRow.holds Try.pinned (OpenSpec.ofChange fnExactIntersectionOfSpec)

/-- ITS FALSE NEIGHBOUR: 'it returns false'. Refute it at one input. -/
def fnExactIntersectionOfWrong : ChangeSpec := { name := "fnExactIntersectionOf", fn := fun _ => fun
  | [d1, d2] => { results := [.lit (.bool false)], args := [d1, d2] }
  | _ => none }
def FnExactIntersectionOfWrongFalsely : Prop := fnExactIntersectionOfRow.holds Try.pinned (OpenSpec.ofChange fnExactIntersectionOfWrong)

/-- 'laws.FnExactContactsOf': WHATEVER THE INPUT: true; the input reads as it did. -/
def fnExactContactsOfSpec : ChangeSpec := { name := "fnExactContactsOf", fn := fun _ => fun
  | [d1, d2] => { results := [.lit (.bool true)], args := [d1, d2] }
  | _ => none }
def fnExactContactsOfRow : OpenClaim := { program := "ytpbfgmehdhdjdaa", sum := "69e0789793603187937eed0fe358d5788f1b476cfcbdbdab7e29765b278b6fd7", func := "loop.example/g01140/laws.FnExactContactsOf", spec := "fnExactContactsOf", recurses := true, apart := false }
def FnExactContactsOfSaid : Prop := fnExactContactsOfRow.holds Try.pinned (OpenSpec.ofChange fnExactContactsOfSpec)

/-- ITS FALSE NEIGHBOUR: 'it returns false'. Refute it at one input. -/
def fnExactContactsOfWrong : ChangeSpec := { name := "fnExactContactsOf", fn := fun _ => fun
  | [d1, d2] => { results := [.lit (.bool false)], args := [d1, d2] }
  | _ => none }
def FnExactContactsOfWrongFalsely : Prop := fnExactContactsOfRow.holds Try.pinned (OpenSpec.ofChange fnExactContactsOfWrong)

/- THE SECOND FORM. 'bulk': how many values and letters a reading holds, each counted each time it is reached (what is shared counts as often as it is met; a slice's spare places count too). A statement '..UptoSaid' is the law's where the arguments, and the package variables that the reading takes, are together of bulk at most 1048576: NARROWER than '..Said'. Prove '..Said' where nothing that the law and all that it calls make is longer than what came in: it says more and counts as full. Else prove '..UptoSaid'. A law counts once. -/
mutual
def uptoBulk {H : Type} : DataW H → Nat
  | .lit (.string bytes) => bytes.length + 1
  | .lit _ => 1
  | .nil => 1
  | .ptr d => uptoBulk d + 1
  | .slice elems spare => uptoBulkAll elems + uptoBulkAll spare + 1
  | .agg parts => uptoBulkAll parts + 1
  | .iface _ d => uptoBulk d + 1
  | .map entries => uptoBulkEntries entries + 1
  | .held _ => 1
def uptoBulkAll {H : Type} : List (DataW H) → Nat
  | [] => 0
  | d :: r => uptoBulk d + uptoBulkAll r
def uptoBulkEntries {H : Type} : List (Lit × DataW H) → Nat
  | [] => 0
  | x :: r => uptoBulkEntry x + uptoBulkEntries r
def uptoBulkEntry {H : Type} : Lit × DataW H → Nat
  | (.string bytes, d) => bytes.length + uptoBulk d + 1
  | (_, d) => uptoBulk d + 1
 end
def uptoSmall : (H : Type) → List (DataW H) → Bool := fun _ ds => decide (uptoBulkAll ds ≤ 1048576)
def OpenSpec.upto (s : _root_.Go.ChangeSpec) : _root_.Go.OpenSpec := { _root_.Go.OpenSpec.ofChange s with cond := some uptoSmall }

/-- 'laws.FnExactIsSeries', WHERE WHAT IT READS IS OF BULK AT MOST 1048576: true; the input reads as it did. -/
def fnExactIsSeriesUptoRow : OpenClaim := { program := "ytpbfgmehdhdjdaa", sum := "69e0789793603187937eed0fe358d5788f1b476cfcbdbdab7e29765b278b6fd7", func := "loop.example/g01140/laws.FnExactIsSeries", spec := "fnExactIsSeries", apart := false, narrowed := true }
def FnExactIsSeriesUptoSaid : Prop := fnExactIsSeriesUptoRow.holds Try.pinned (OpenSpec.upto fnExactIsSeriesSpec)

/-- 'laws.FnExactOrderOfSeries', WHERE WHAT IT READS IS OF BULK AT MOST 1048576: true; the input reads as it did. -/
def fnExactOrderOfSeriesUptoRow : OpenClaim := { program := "ytpbfgmehdhdjdaa", sum := "69e0789793603187937eed0fe358d5788f1b476cfcbdbdab7e29765b278b6fd7", func := "loop.example/g01140/laws.FnExactOrderOfSeries", spec := "fnExactOrderOfSeries", unfollowed := true, recurses := true, apart := false, narrowed := true }
def FnExactOrderOfSeriesUptoSaid : Prop := fnExactOrderOfSeriesUptoRow.holds Try.pinned (OpenSpec.upto fnExactOrderOfSeriesSpec)

/-- 'laws.FnExactIsPrimitive', WHERE WHAT IT READS IS OF BULK AT MOST 1048576: true; the input reads as it did. -/
def fnExactIsPrimitiveUptoRow : OpenClaim := { program := "ytpbfgmehdhdjdaa", sum := "69e0789793603187937eed0fe358d5788f1b476cfcbdbdab7e29765b278b6fd7", func := "loop.example/g01140/laws.FnExactIsPrimitive", spec := "fnExactIsPrimitive", apart := false, narrowed := true }
def FnExactIsPrimitiveUptoSaid : Prop := fnExactIsPrimitiveUptoRow.holds Try.pinned (OpenSpec.upto fnExactIsPrimitiveSpec)

/-- 'laws.FnExactAddSeries', WHERE WHAT IT READS IS OF BULK AT MOST 1048576: true; the input reads as it did. -/
def fnExactAddSeriesUptoRow : OpenClaim := { program := "ytpbfgmehdhdjdaa", sum := "69e0789793603187937eed0fe358d5788f1b476cfcbdbdab7e29765b278b6fd7", func := "loop.example/g01140/laws.FnExactAddSeries", spec := "fnExactAddSeries", apart := false, narrowed := true }
def FnExactAddSeriesUptoSaid : Prop := fnExactAddSeriesUptoRow.holds Try.pinned (OpenSpec.upto fnExactAddSeriesSpec)

/-- 'laws.FnExactConjugateSeries', WHERE WHAT IT READS IS OF BULK AT MOST 1048576: true; the input reads as it did. -/
def fnExactConjugateSeriesUptoRow : OpenClaim := { program := "ytpbfgmehdhdjdaa", sum := "69e0789793603187937eed0fe358d5788f1b476cfcbdbdab7e29765b278b6fd7", func := "loop.example/g01140/laws.FnExactConjugateSeries", spec := "fnExactConjugateSeries", apart := false, narrowed := true }
def FnExactConjugateSeriesUptoSaid : Prop := fnExactConjugateSeriesUptoRow.holds Try.pinned (OpenSpec.upto fnExactConjugateSeriesSpec)

/-- 'laws.FnExactMultiplySeries', WHERE WHAT IT READS IS OF BULK AT MOST 1048576: true; the input reads as it did. -/
def fnExactMultiplySeriesUptoRow : OpenClaim := { program := "ytpbfgmehdhdjdaa", sum := "69e0789793603187937eed0fe358d5788f1b476cfcbdbdab7e29765b278b6fd7", func := "loop.example/g01140/laws.FnExactMultiplySeries", spec := "fnExactMultiplySeries", apart := false, narrowed := true }
def FnExactMultiplySeriesUptoSaid : Prop := fnExactMultiplySeriesUptoRow.holds Try.pinned (OpenSpec.upto fnExactMultiplySeriesSpec)

/-- 'laws.FnExactSeriesOfBranch', WHERE WHAT IT READS IS OF BULK AT MOST 1048576: true; the input reads as it did. -/
def fnExactSeriesOfBranchUptoRow : OpenClaim := { program := "ytpbfgmehdhdjdaa", sum := "69e0789793603187937eed0fe358d5788f1b476cfcbdbdab7e29765b278b6fd7", func := "loop.example/g01140/laws.FnExactSeriesOfBranch", spec := "fnExactSeriesOfBranch", apart := false, narrowed := true }
def FnExactSeriesOfBranchUptoSaid : Prop := fnExactSeriesOfBranchUptoRow.holds Try.pinned (OpenSpec.upto fnExactSeriesOfBranchSpec)

/-- 'laws.FnExactBranchOfSeries', WHERE WHAT IT READS IS OF BULK AT MOST 1048576: true; the input reads as it did. -/
def fnExactBranchOfSeriesUptoRow : OpenClaim := { program := "ytpbfgmehdhdjdaa", sum := "69e0789793603187937eed0fe358d5788f1b476cfcbdbdab7e29765b278b6fd7", func := "loop.example/g01140/laws.FnExactBranchOfSeries", spec := "fnExactBranchOfSeries", unfollowed := true, recurses := true, apart := false, narrowed := true }
def FnExactBranchOfSeriesUptoSaid : Prop := fnExactBranchOfSeriesUptoRow.holds Try.pinned (OpenSpec.upto fnExactBranchOfSeriesSpec)

/-- 'laws.FnExactSeriesValues', WHERE WHAT IT READS IS OF BULK AT MOST 1048576: true; the input reads as it did. -/
def fnExactSeriesValuesUptoRow : OpenClaim := { program := "ytpbfgmehdhdjdaa", sum := "69e0789793603187937eed0fe358d5788f1b476cfcbdbdab7e29765b278b6fd7", func := "loop.example/g01140/laws.FnExactSeriesValues", spec := "fnExactSeriesValues", unfollowed := true, recurses := true, apart := false, narrowed := true }
def FnExactSeriesValuesUptoSaid : Prop := fnExactSeriesValuesUptoRow.holds Try.pinned (OpenSpec.upto fnExactSeriesValuesSpec)

/-- 'laws.FnExactRootsOf', WHERE WHAT IT READS IS OF BULK AT MOST 1048576: true; the input reads as it did. -/
def fnExactRootsOfUptoRow : OpenClaim := { program := "ytpbfgmehdhdjdaa", sum := "69e0789793603187937eed0fe358d5788f1b476cfcbdbdab7e29765b278b6fd7", func := "loop.example/g01140/laws.FnExactRootsOf", spec := "fnExactRootsOf", recurses := true, apart := false, narrowed := true }
def FnExactRootsOfUptoSaid : Prop := fnExactRootsOfUptoRow.holds Try.pinned (OpenSpec.upto fnExactRootsOfSpec)

/-- 'laws.FnExactAreConjugate', WHERE WHAT IT READS IS OF BULK AT MOST 1048576: true; the input reads as it did. -/
def fnExactAreConjugateUptoRow : OpenClaim := { program := "ytpbfgmehdhdjdaa", sum := "69e0789793603187937eed0fe358d5788f1b476cfcbdbdab7e29765b278b6fd7", func := "loop.example/g01140/laws.FnExactAreConjugate", spec := "fnExactAreConjugate", recurses := true, apart := false, narrowed := true }
def FnExactAreConjugateUptoSaid : Prop := fnExactAreConjugateUptoRow.holds Try.pinned (OpenSpec.upto fnExactAreConjugateSpec)

/-- 'laws.FnExactIntersectionOf', WHERE WHAT IT READS IS OF BULK AT MOST 1048576: true; the input reads as it did. -/
def fnExactIntersectionOfUptoRow : OpenClaim := { program := "ytpbfgmehdhdjdaa", sum := "69e0789793603187937eed0fe358d5788f1b476cfcbdbdab7e29765b278b6fd7", func := "loop.example/g01140/laws.FnExactIntersectionOf", spec := "fnExactIntersectionOf", recurses := true, apart := false, narrowed := true }
def FnExactIntersectionOfUptoSaid : Prop := fnExactIntersectionOfUptoRow.holds Try.pinned (OpenSpec.upto fnExactIntersectionOfSpec)

/-- 'laws.FnExactContactsOf', WHERE WHAT IT READS IS OF BULK AT MOST 1048576: true; the input reads as it did. -/
def fnExactContactsOfUptoRow : OpenClaim := { program := "ytpbfgmehdhdjdaa", sum := "69e0789793603187937eed0fe358d5788f1b476cfcbdbdab7e29765b278b6fd7", func := "loop.example/g01140/laws.FnExactContactsOf", spec := "fnExactContactsOf", recurses := true, apart := false, narrowed := true }
def FnExactContactsOfUptoSaid : Prop := fnExactContactsOfUptoRow.holds Try.pinned (OpenSpec.upto fnExactContactsOfSpec)

end Rows
end Go.Proofs.Ytpbfgmehdhdjdaa
