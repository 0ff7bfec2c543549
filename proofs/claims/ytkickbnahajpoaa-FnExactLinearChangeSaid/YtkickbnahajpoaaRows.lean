/-
  No cell of these rows narrows 'for every input' (looked for: loops, veiled, ifaces, maps, wideKeys, modest, calm, conditions, laid).
  DERIVED. THE GIVEN ROWS OF THIS SEAT. 4 by the template 'for every input the law returns true; each argument reads behind the call as it read before'; 0 by the template 'total and deterministic' (their statements: YtkickbnahajpoaaTotals.lean).
  GIVEN WITH THE SEED: the statements are not yours to turn. If you find one false, say at which input.
  Laid BY PROGRAM, IN A SANDBOX (cutbox-rows.mjs): the forced cells as the released guide's own fill.sh prints them over the translation 3eee26fd5d84ad79… (all of the seat's roots in one cut). By AI agents, Wed Nov 11 2026. No macro, syntax, notation, axiom, sorry.
-/
import Derived.Test.YtkickbnahajpoaaChecked
import GoSem.Claim
import GoSem.ClaimJoined
import GoSem.ClaimMapViews
import Derived.JoinedTies
import Derived.KernelRfl
namespace Go.Proofs.Ytkickbnahajpoaa
/- THE CELL 'sum', in the pinned program and in every row, IS THE sha256 OF THE DUMP (.gsa) THAT YtkickbnahajpoaaProg.lean LOADS. Nothing in Lean hashes anything: it is a label: what it is worth is what the hold of that sum in a sandbox is worth. -/
noncomputable def Try.pinned : Pinned := { name := "ytkickbnahajpoaa", sum := "3eee26fd5d84ad794a67eeeab69ff395e13f9a2b9618d3904a3ca14fccc973a2", checked := Try.checked }
namespace Rows
def none {H : Type} : Left H := { results := [], args := [] }

/-- 'laws.FnExactPartialOf': WHATEVER THE INPUT: true; the input reads as it did. -/
def fnExactPartialOfSpec : ChangeSpec := { name := "fnExactPartialOf", fn := fun _ => fun
  | [d1, d2] => { results := [.lit (.bool true)], args := [d1, d2] }
  | _ => none }
def fnExactPartialOfRow : OpenClaim := { program := "ytkickbnahajpoaa", sum := "3eee26fd5d84ad794a67eeeab69ff395e13f9a2b9618d3904a3ca14fccc973a2", func := "loop.example/g01140/laws.FnExactPartialOf", spec := "fnExactPartialOf", unfollowed := true, recurses := true, plainKeys := false, apart := false }
def FnExactPartialOfSaid : Prop := fnExactPartialOfRow.holds Try.pinned (OpenSpec.ofChange fnExactPartialOfSpec)

/-- ITS FALSE NEIGHBOUR: 'it returns false'. Refute it at one input. -/
def fnExactPartialOfWrong : ChangeSpec := { name := "fnExactPartialOf", fn := fun _ => fun
  | [d1, d2] => { results := [.lit (.bool false)], args := [d1, d2] }
  | _ => none }
def FnExactPartialOfWrongFalsely : Prop := fnExactPartialOfRow.holds Try.pinned (OpenSpec.ofChange fnExactPartialOfWrong)

/-- 'laws.FnExactAddPolys': WHATEVER THE INPUT: true; the input reads as it did. -/
def fnExactAddPolysSpec : ChangeSpec := { name := "fnExactAddPolys", fn := fun _ => fun
  | [d1, d2, d3] => { results := [.lit (.bool true)], args := [d1, d2, d3] }
  | _ => none }
def fnExactAddPolysRow : OpenClaim := { program := "ytkickbnahajpoaa", sum := "3eee26fd5d84ad794a67eeeab69ff395e13f9a2b9618d3904a3ca14fccc973a2", func := "loop.example/g01140/laws.FnExactAddPolys", spec := "fnExactAddPolys", unfollowed := true, recurses := true, plainKeys := false, apart := false }
def FnExactAddPolysSaid : Prop := fnExactAddPolysRow.holds Try.pinned (OpenSpec.ofChange fnExactAddPolysSpec)

/-- ITS FALSE NEIGHBOUR: 'it returns false'. Refute it at one input. -/
def fnExactAddPolysWrong : ChangeSpec := { name := "fnExactAddPolys", fn := fun _ => fun
  | [d1, d2, d3] => { results := [.lit (.bool false)], args := [d1, d2, d3] }
  | _ => none }
def FnExactAddPolysWrongFalsely : Prop := fnExactAddPolysRow.holds Try.pinned (OpenSpec.ofChange fnExactAddPolysWrong)

/-- 'laws.FnExactMultiplyPolys': WHATEVER THE INPUT: true; the input reads as it did. -/
def fnExactMultiplyPolysSpec : ChangeSpec := { name := "fnExactMultiplyPolys", fn := fun _ => fun
  | [d1, d2] => { results := [.lit (.bool true)], args := [d1, d2] }
  | _ => none }
def fnExactMultiplyPolysRow : OpenClaim := { program := "ytkickbnahajpoaa", sum := "3eee26fd5d84ad794a67eeeab69ff395e13f9a2b9618d3904a3ca14fccc973a2", func := "loop.example/g01140/laws.FnExactMultiplyPolys", spec := "fnExactMultiplyPolys", unfollowed := true, recurses := true, plainKeys := false, apart := false }
def FnExactMultiplyPolysSaid : Prop := fnExactMultiplyPolysRow.holds Try.pinned (OpenSpec.ofChange fnExactMultiplyPolysSpec)

/-- ITS FALSE NEIGHBOUR: 'it returns false'. Refute it at one input. -/
def fnExactMultiplyPolysWrong : ChangeSpec := { name := "fnExactMultiplyPolys", fn := fun _ => fun
  | [d1, d2] => { results := [.lit (.bool false)], args := [d1, d2] }
  | _ => none }
def FnExactMultiplyPolysWrongFalsely : Prop := fnExactMultiplyPolysRow.holds Try.pinned (OpenSpec.ofChange fnExactMultiplyPolysWrong)

/-- 'laws.FnExactLinearChange': WHATEVER THE INPUT: true; the input reads as it did. -/
def fnExactLinearChangeSpec : ChangeSpec := { name := "fnExactLinearChange", fn := fun _ => fun
  | [d1, d2, d3, d4, d5] => { results := [.lit (.bool true)], args := [d1, d2, d3, d4, d5] }
  | _ => none }
def fnExactLinearChangeRow : OpenClaim := { program := "ytkickbnahajpoaa", sum := "3eee26fd5d84ad794a67eeeab69ff395e13f9a2b9618d3904a3ca14fccc973a2", func := "loop.example/g01140/laws.FnExactLinearChange", spec := "fnExactLinearChange", unfollowed := true, recurses := true, plainKeys := false, apart := false }
def FnExactLinearChangeSaid : Prop := fnExactLinearChangeRow.holds Try.pinned (OpenSpec.ofChange fnExactLinearChangeSpec)

/-- ITS FALSE NEIGHBOUR: 'it returns false'. Refute it at one input. -/
def fnExactLinearChangeWrong : ChangeSpec := { name := "fnExactLinearChange", fn := fun _ => fun
  | [d1, d2, d3, d4, d5] => { results := [.lit (.bool false)], args := [d1, d2, d3, d4, d5] }
  | _ => none }
def FnExactLinearChangeWrongFalsely : Prop := fnExactLinearChangeRow.holds Try.pinned (OpenSpec.ofChange fnExactLinearChangeWrong)

/- THE SECOND FORM. 'bulk': how many values and letters a reading holds, each counted each time it is reached (what is shared counts as often as it is met; a slice's spare places count too). A statement '..UptoSaid' is the law's where the arguments, and the package variables that the reading takes, are together of bulk at most 1048576: NARROWER than '..Said'. Prove '..Said' where nothing that the law and all that it calls make is longer than what came in: it says more and counts as full. Else prove '..UptoSaid'. A law counts once. -/
mutual
def uptoBulk {H : Type} : DataW H → Nat
  | .lit (.string bytes) => bytes.length + 1
  | .lit _ => 1
  | .nil => 1
  | .ptr d => uptoBulk d + 1
  | .slice elems spare => uptoBulkAll elems + uptoBulkAll spare + 1
  | .agg parts => uptoBulkAll parts + 1
  | .iface _ d => uptoBulk d + 1
  | .map entries => uptoBulkEntries entries + 1
  | .held _ => 1
def uptoBulkAll {H : Type} : List (DataW H) → Nat
  | [] => 0
  | d :: r => uptoBulk d + uptoBulkAll r
def uptoBulkEntries {H : Type} : List (Lit × DataW H) → Nat
  | [] => 0
  | x :: r => uptoBulkEntry x + uptoBulkEntries r
def uptoBulkEntry {H : Type} : Lit × DataW H → Nat
  | (.string bytes, d) => bytes.length + uptoBulk d + 1
  | (_, d) => uptoBulk d + 1
 end
def uptoSmall : (H : Type) → List (DataW H) → Bool := fun _ ds => decide (uptoBulkAll ds ≤ 1048576)
def OpenSpec.upto (s : _root_.Go.ChangeSpec) : _root_.Go.OpenSpec := { _root_.Go.OpenSpec.ofChange s with cond := some uptoSmall }

/-- 'laws.FnExactPartialOf', WHERE WHAT IT READS IS OF BULK AT MOST 1048576: true; the input reads as it did. -/
def fnExactPartialOfUptoRow : OpenClaim := { program := "ytkickbnahajpoaa", sum := "3eee26fd5d84ad794a67eeeab69ff395e13f9a2b9618d3904a3ca14fccc973a2", func := "loop.example/g01140/laws.FnExactPartialOf", spec := "fnExactPartialOf", unfollowed := true, recurses := true, plainKeys := false, apart := false, narrowed := true }
def FnExactPartialOfUptoSaid : Prop := fnExactPartialOfUptoRow.holds Try.pinned (OpenSpec.upto fnExactPartialOfSpec)

/-- 'laws.FnExactAddPolys', WHERE WHAT IT READS IS OF BULK AT MOST 1048576: true; the input reads as it did. -/
def fnExactAddPolysUptoRow : OpenClaim := { program := "ytkickbnahajpoaa", sum := "3eee26fd5d84ad794a67eeeab69ff395e13f9a2b9618d3904a3ca14fccc973a2", func := "loop.example/g01140/laws.FnExactAddPolys", spec := "fnExactAddPolys", unfollowed := true, recurses := true, plainKeys := false, apart := false, narrowed := true }
def FnExactAddPolysUptoSaid : Prop := fnExactAddPolysUptoRow.holds Try.pinned (OpenSpec.upto fnExactAddPolysSpec)

/-- 'laws.FnExactMultiplyPolys', WHERE WHAT IT READS IS OF BULK AT MOST 1048576: true; the input reads as it did. -/
def fnExactMultiplyPolysUptoRow : OpenClaim := { program := "ytkickbnahajpoaa", sum := "3eee26fd5d84ad794a67eeeab69ff395e13f9a2b9618d3904a3ca14fccc973a2", func := "loop.example/g01140/laws.FnExactMultiplyPolys", spec := "fnExactMultiplyPolys", unfollowed := true, recurses := true, plainKeys := false, apart := false, narrowed := true }
def FnExactMultiplyPolysUptoSaid : Prop := fnExactMultiplyPolysUptoRow.holds Try.pinned (OpenSpec.upto fnExactMultiplyPolysSpec)

/-- 'laws.FnExactLinearChange', WHERE WHAT IT READS IS OF BULK AT MOST 1048576: true; the input reads as it did. -/
def fnExactLinearChangeUptoRow : OpenClaim := { program := "ytkickbnahajpoaa", sum := "3eee26fd5d84ad794a67eeeab69ff395e13f9a2b9618d3904a3ca14fccc973a2", func := "loop.example/g01140/laws.FnExactLinearChange", spec := "fnExactLinearChange", unfollowed := true, recurses := true, plainKeys := false, apart := false, narrowed := true }
def FnExactLinearChangeUptoSaid : Prop := fnExactLinearChangeUptoRow.holds Try.pinned (OpenSpec.upto fnExactLinearChangeSpec)

end Rows
end Go.Proofs.Ytkickbnahajpoaa
