/-
  No cell of these rows narrows 'for every input' (looked for: loops, veiled, ifaces, maps, wideKeys, modest, calm, conditions, laid).
  DERIVED. THE GIVEN ROWS OF THIS SEAT. 6 by the template 'for every input the law returns true; each argument reads behind the call as it read before'; 0 by the template 'total and deterministic' (their statements: YtifkgmbghcmdeaaTotals.lean).
  GIVEN WITH THE SEED: the statements are not yours to turn. If you find one false, say at which input.
  Laid BY PROGRAM, IN A SANDBOX (cutbox-rows.mjs): the forced cells as the released guide's own fill.sh prints them over the translation ae56ba46968eb931… (all of the seat's roots in one cut). By AI agents, Wed Nov 11 2026. No macro, syntax, notation, axiom, sorry.
-/
import Derived.Test.YtifkgmbghcmdeaaChecked
import GoSem.Claim
import GoSem.ClaimJoined
import GoSem.ClaimMapViews
import Derived.JoinedTies
import Derived.KernelRfl
namespace Go.Proofs.Ytifkgmbghcmdeaa
/- THE CELL 'sum', in the pinned program and in every row, IS THE sha256 OF THE DUMP (.gsa) THAT YtifkgmbghcmdeaaProg.lean LOADS. Nothing in Lean hashes anything: it is a label: what it is worth is what the hold of that sum in a sandbox is worth. -/
noncomputable def Try.pinned : Pinned := { name := "ytifkgmbghcmdeaa", sum := "ae56ba46968eb931d4804399ff17c7515125964cb682ee544dbe21809f598dc7", checked := Try.checked }
namespace Rows
def none {H : Type} : Left H := { results := [], args := [] }

/-- 'laws.FnExactSeriesValues': WHATEVER THE INPUT: true; the input reads as it did. -/
def fnExactSeriesValuesSpec : ChangeSpec := { name := "fnExactSeriesValues", fn := fun _ => fun
  | [d1, d2] => { results := [.lit (.bool true)], args := [d1, d2] }
  | _ => none }
def fnExactSeriesValuesRow : OpenClaim := { program := "ytifkgmbghcmdeaa", sum := "ae56ba46968eb931d4804399ff17c7515125964cb682ee544dbe21809f598dc7", func := "loop.example/g01140/laws.FnExactSeriesValues", spec := "fnExactSeriesValues", unfollowed := true, recurses := true, plainKeys := false, apart := false }
def FnExactSeriesValuesSaid : Prop := fnExactSeriesValuesRow.holds Try.pinned (OpenSpec.ofChange fnExactSeriesValuesSpec)

/-- ITS FALSE NEIGHBOUR: 'it returns false'. Refute it at one input. -/
def fnExactSeriesValuesWrong : ChangeSpec := { name := "fnExactSeriesValues", fn := fun _ => fun
  | [d1, d2] => { results := [.lit (.bool false)], args := [d1, d2] }
  | _ => none }
def FnExactSeriesValuesWrongFalsely : Prop := fnExactSeriesValuesRow.holds Try.pinned (OpenSpec.ofChange fnExactSeriesValuesWrong)

/-- 'laws.FnExactLocalCounts': WHATEVER THE INPUT: true; the input reads as it did. -/
def fnExactLocalCountsSpec : ChangeSpec := { name := "fnExactLocalCounts", fn := fun _ => fun
  | [d] => { results := [.lit (.bool true)], args := [d] }
  | _ => none }
def fnExactLocalCountsRow : OpenClaim := { program := "ytifkgmbghcmdeaa", sum := "ae56ba46968eb931d4804399ff17c7515125964cb682ee544dbe21809f598dc7", func := "loop.example/g01140/laws.FnExactLocalCounts", spec := "fnExactLocalCounts", plainKeys := false, apart := false }
def FnExactLocalCountsSaid : Prop := fnExactLocalCountsRow.holds Try.pinned (OpenSpec.ofChange fnExactLocalCountsSpec)

/-- ITS FALSE NEIGHBOUR: 'it returns false'. Refute it at one input. -/
def fnExactLocalCountsWrong : ChangeSpec := { name := "fnExactLocalCounts", fn := fun _ => fun
  | [d] => { results := [.lit (.bool false)], args := [d] }
  | _ => none }
def FnExactLocalCountsWrongFalsely : Prop := fnExactLocalCountsRow.holds Try.pinned (OpenSpec.ofChange fnExactLocalCountsWrong)

/-- 'laws.FnExactLocalDimension': WHATEVER THE INPUT: true; the input reads as it did. -/
def fnExactLocalDimensionSpec : ChangeSpec := { name := "fnExactLocalDimension", fn := fun _ => fun
  | [d] => { results := [.lit (.bool true)], args := [d] }
  | _ => none }
def fnExactLocalDimensionRow : OpenClaim := { program := "ytifkgmbghcmdeaa", sum := "ae56ba46968eb931d4804399ff17c7515125964cb682ee544dbe21809f598dc7", func := "loop.example/g01140/laws.FnExactLocalDimension", spec := "fnExactLocalDimension", plainKeys := false, apart := false }
def FnExactLocalDimensionSaid : Prop := fnExactLocalDimensionRow.holds Try.pinned (OpenSpec.ofChange fnExactLocalDimensionSpec)

/-- ITS FALSE NEIGHBOUR: 'it returns false'. Refute it at one input. -/
def fnExactLocalDimensionWrong : ChangeSpec := { name := "fnExactLocalDimension", fn := fun _ => fun
  | [d] => { results := [.lit (.bool false)], args := [d] }
  | _ => none }
def FnExactLocalDimensionWrongFalsely : Prop := fnExactLocalDimensionRow.holds Try.pinned (OpenSpec.ofChange fnExactLocalDimensionWrong)

/-- 'laws.FnExactMilnorNumber': WHATEVER THE INPUT: true; the input reads as it did. -/
def fnExactMilnorNumberSpec : ChangeSpec := { name := "fnExactMilnorNumber", fn := fun _ => fun
  | [d] => { results := [.lit (.bool true)], args := [d] }
  | _ => none }
def fnExactMilnorNumberRow : OpenClaim := { program := "ytifkgmbghcmdeaa", sum := "ae56ba46968eb931d4804399ff17c7515125964cb682ee544dbe21809f598dc7", func := "loop.example/g01140/laws.FnExactMilnorNumber", spec := "fnExactMilnorNumber", unfollowed := true, recurses := true, plainKeys := false, apart := false }
def FnExactMilnorNumberSaid : Prop := fnExactMilnorNumberRow.holds Try.pinned (OpenSpec.ofChange fnExactMilnorNumberSpec)

/-- ITS FALSE NEIGHBOUR: 'it returns false'. Refute it at one input. -/
def fnExactMilnorNumberWrong : ChangeSpec := { name := "fnExactMilnorNumber", fn := fun _ => fun
  | [d] => { results := [.lit (.bool false)], args := [d] }
  | _ => none }
def FnExactMilnorNumberWrongFalsely : Prop := fnExactMilnorNumberRow.holds Try.pinned (OpenSpec.ofChange fnExactMilnorNumberWrong)

/-- 'laws.FnExactTjurinaNumber': WHATEVER THE INPUT: true; the input reads as it did. -/
def fnExactTjurinaNumberSpec : ChangeSpec := { name := "fnExactTjurinaNumber", fn := fun _ => fun
  | [d] => { results := [.lit (.bool true)], args := [d] }
  | _ => none }
def fnExactTjurinaNumberRow : OpenClaim := { program := "ytifkgmbghcmdeaa", sum := "ae56ba46968eb931d4804399ff17c7515125964cb682ee544dbe21809f598dc7", func := "loop.example/g01140/laws.FnExactTjurinaNumber", spec := "fnExactTjurinaNumber", unfollowed := true, recurses := true, plainKeys := false, apart := false }
def FnExactTjurinaNumberSaid : Prop := fnExactTjurinaNumberRow.holds Try.pinned (OpenSpec.ofChange fnExactTjurinaNumberSpec)

/-- ITS FALSE NEIGHBOUR: 'it returns false'. Refute it at one input. -/
def fnExactTjurinaNumberWrong : ChangeSpec := { name := "fnExactTjurinaNumber", fn := fun _ => fun
  | [d] => { results := [.lit (.bool false)], args := [d] }
  | _ => none }
def FnExactTjurinaNumberWrongFalsely : Prop := fnExactTjurinaNumberRow.holds Try.pinned (OpenSpec.ofChange fnExactTjurinaNumberWrong)

/-- 'laws.FnExactIsNondegenerate': WHATEVER THE INPUT: true; the input reads as it did. -/
def fnExactIsNondegenerateSpec : ChangeSpec := { name := "fnExactIsNondegenerate", fn := fun _ => fun
  | [d] => { results := [.lit (.bool true)], args := [d] }
  | _ => none }
def fnExactIsNondegenerateRow : OpenClaim := { program := "ytifkgmbghcmdeaa", sum := "ae56ba46968eb931d4804399ff17c7515125964cb682ee544dbe21809f598dc7", func := "loop.example/g01140/laws.FnExactIsNondegenerate", spec := "fnExactIsNondegenerate", unfollowed := true, recurses := true, plainKeys := false, apart := false }
def FnExactIsNondegenerateSaid : Prop := fnExactIsNondegenerateRow.holds Try.pinned (OpenSpec.ofChange fnExactIsNondegenerateSpec)

/-- ITS FALSE NEIGHBOUR: 'it returns false'. Refute it at one input. -/
def fnExactIsNondegenerateWrong : ChangeSpec := { name := "fnExactIsNondegenerate", fn := fun _ => fun
  | [d] => { results := [.lit (.bool false)], args := [d] }
  | _ => none }
def FnExactIsNondegenerateWrongFalsely : Prop := fnExactIsNondegenerateRow.holds Try.pinned (OpenSpec.ofChange fnExactIsNondegenerateWrong)

/- THE SECOND FORM. 'bulk': how many values and letters a reading holds, each counted each time it is reached (what is shared counts as often as it is met; a slice's spare places count too). A statement '..UptoSaid' is the law's where the arguments, and the package variables that the reading takes, are together of bulk at most 1048576: NARROWER than '..Said'. Prove '..Said' where nothing that the law and all that it calls make is longer than what came in: it says more and counts as full. Else prove '..UptoSaid'. A law counts once. -/
mutual
def uptoBulk {H : Type} : DataW H → Nat
  | .lit (.string bytes) => bytes.length + 1
  | .lit _ => 1
  | .nil => 1
  | .ptr d => uptoBulk d + 1
  | .slice elems spare => uptoBulkAll elems + uptoBulkAll spare + 1
  | .agg parts => uptoBulkAll parts + 1
  | .iface _ d => uptoBulk d + 1
  | .map entries => uptoBulkEntries entries + 1
  | .held _ => 1
def uptoBulkAll {H : Type} : List (DataW H) → Nat
  | [] => 0
  | d :: r => uptoBulk d + uptoBulkAll r
def uptoBulkEntries {H : Type} : List (Lit × DataW H) → Nat
  | [] => 0
  | x :: r => uptoBulkEntry x + uptoBulkEntries r
def uptoBulkEntry {H : Type} : Lit × DataW H → Nat
  | (.string bytes, d) => bytes.length + uptoBulk d + 1
  | (_, d) => uptoBulk d + 1
 end
def uptoSmall : (H : Type) → List (DataW H) → Bool := fun _ ds => decide (uptoBulkAll ds ≤ 1048576)
def OpenSpec.upto (s : _root_.Go.ChangeSpec) : _root_.Go.OpenSpec := { _root_.Go.OpenSpec.ofChange s with cond := some uptoSmall }

/-- 'laws.FnExactSeriesValues', WHERE WHAT IT READS IS OF BULK AT MOST 1048576: true; the input reads as it did. -/
def fnExactSeriesValuesUptoRow : OpenClaim := { program := "ytifkgmbghcmdeaa", sum := "ae56ba46968eb931d4804399ff17c7515125964cb682ee544dbe21809f598dc7", func := "loop.example/g01140/laws.FnExactSeriesValues", spec := "fnExactSeriesValues", unfollowed := true, recurses := true, plainKeys := false, apart := false, narrowed := true }
def FnExactSeriesValuesUptoSaid : Prop := fnExactSeriesValuesUptoRow.holds Try.pinned (OpenSpec.upto fnExactSeriesValuesSpec)

/-- 'laws.FnExactLocalCounts', WHERE WHAT IT READS IS OF BULK AT MOST 1048576: true; the input reads as it did. -/
def fnExactLocalCountsUptoRow : OpenClaim := { program := "ytifkgmbghcmdeaa", sum := "ae56ba46968eb931d4804399ff17c7515125964cb682ee544dbe21809f598dc7", func := "loop.example/g01140/laws.FnExactLocalCounts", spec := "fnExactLocalCounts", plainKeys := false, apart := false, narrowed := true }
def FnExactLocalCountsUptoSaid : Prop := fnExactLocalCountsUptoRow.holds Try.pinned (OpenSpec.upto fnExactLocalCountsSpec)

/-- 'laws.FnExactLocalDimension', WHERE WHAT IT READS IS OF BULK AT MOST 1048576: true; the input reads as it did. -/
def fnExactLocalDimensionUptoRow : OpenClaim := { program := "ytifkgmbghcmdeaa", sum := "ae56ba46968eb931d4804399ff17c7515125964cb682ee544dbe21809f598dc7", func := "loop.example/g01140/laws.FnExactLocalDimension", spec := "fnExactLocalDimension", plainKeys := false, apart := false, narrowed := true }
def FnExactLocalDimensionUptoSaid : Prop := fnExactLocalDimensionUptoRow.holds Try.pinned (OpenSpec.upto fnExactLocalDimensionSpec)

/-- 'laws.FnExactMilnorNumber', WHERE WHAT IT READS IS OF BULK AT MOST 1048576: true; the input reads as it did. -/
def fnExactMilnorNumberUptoRow : OpenClaim := { program := "ytifkgmbghcmdeaa", sum := "ae56ba46968eb931d4804399ff17c7515125964cb682ee544dbe21809f598dc7", func := "loop.example/g01140/laws.FnExactMilnorNumber", spec := "fnExactMilnorNumber", unfollowed := true, recurses := true, plainKeys := false, apart := false, narrowed := true }
def FnExactMilnorNumberUptoSaid : Prop := fnExactMilnorNumberUptoRow.holds Try.pinned (OpenSpec.upto fnExactMilnorNumberSpec)

/-- 'laws.FnExactTjurinaNumber', WHERE WHAT IT READS IS OF BULK AT MOST 1048576: true; the input reads as it did. -/
def fnExactTjurinaNumberUptoRow : OpenClaim := { program := "ytifkgmbghcmdeaa", sum := "ae56ba46968eb931d4804399ff17c7515125964cb682ee544dbe21809f598dc7", func := "loop.example/g01140/laws.FnExactTjurinaNumber", spec := "fnExactTjurinaNumber", unfollowed := true, recurses := true, plainKeys := false, apart := false, narrowed := true }
def FnExactTjurinaNumberUptoSaid : Prop := fnExactTjurinaNumberUptoRow.holds Try.pinned (OpenSpec.upto fnExactTjurinaNumberSpec)

/-- 'laws.FnExactIsNondegenerate', WHERE WHAT IT READS IS OF BULK AT MOST 1048576: true; the input reads as it did. -/
def fnExactIsNondegenerateUptoRow : OpenClaim := { program := "ytifkgmbghcmdeaa", sum := "ae56ba46968eb931d4804399ff17c7515125964cb682ee544dbe21809f598dc7", func := "loop.example/g01140/laws.FnExactIsNondegenerate", spec := "fnExactIsNondegenerate", unfollowed := true, recurses := true, plainKeys := false, apart := false, narrowed := true }
def FnExactIsNondegenerateUptoSaid : Prop := fnExactIsNondegenerateUptoRow.holds Try.pinned (OpenSpec.upto fnExactIsNondegenerateSpec)

end Rows
end Go.Proofs.Ytifkgmbghcmdeaa
