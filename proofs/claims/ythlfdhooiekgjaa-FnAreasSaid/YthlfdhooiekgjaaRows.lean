/-
  No cell of these rows narrows 'for every input' (looked for: loops, veiled, ifaces, maps, wideKeys, modest, calm, conditions, laid).
  DERIVED. THE GIVEN ROWS OF THIS SEAT. 2 by the template 'for every input the law returns true; each argument reads behind the call as it read before'; 0 by the template 'total and deterministic' (their statements: YthlfdhooiekgjaaTotals.lean).
  GIVEN WITH THE SEED: the statements are not yours to turn. If you find one false, say at which input.
  Laid BY PROGRAM, IN A SANDBOX (cutbox-rows.mjs): the forced cells as the released guide's own fill.sh prints them over the translation 02028fd0d798e778… (all of the seat's roots in one cut). By AI agents, Wed Nov 11 2026. No macro, syntax, notation, axiom, sorry.
-/
import Derived.Test.YthlfdhooiekgjaaChecked
import GoSem.Claim
import GoSem.ClaimJoined
import GoSem.ClaimMapViews
import Derived.JoinedTies
import Derived.KernelRfl
namespace Go.Proofs.Ythlfdhooiekgjaa
/- THE CELL 'sum', in the pinned program and in every row, IS THE sha256 OF THE DUMP (.gsa) THAT YthlfdhooiekgjaaProg.lean LOADS. Nothing in Lean hashes anything: it is a label: what it is worth is what the hold of that sum in a sandbox is worth. -/
noncomputable def Try.pinned : Pinned := { name := "ythlfdhooiekgjaa", sum := "02028fd0d798e778cf7ecfdb3f7f08226b23842343c14b60ab8cad52eea0efce", checked := Try.checked }
namespace Rows
def none {H : Type} : Left H := { results := [], args := [] }

/-- 'laws.FnPolygons': WHATEVER THE INPUT: true; the input reads as it did. -/
def fnPolygonsSpec : ChangeSpec := { name := "fnPolygons", fn := fun _ => fun
  | [d] => { results := [.lit (.bool true)], args := [d] }
  | _ => none }
def fnPolygonsRow : OpenClaim := { program := "ythlfdhooiekgjaa", sum := "02028fd0d798e778cf7ecfdb3f7f08226b23842343c14b60ab8cad52eea0efce", func := "loop.example/g01140/laws.FnPolygons", spec := "fnPolygons", unfollowed := true, recurses := true, apart := false }
def FnPolygonsSaid : Prop := fnPolygonsRow.holds Try.pinned (OpenSpec.ofChange fnPolygonsSpec)

/-- ITS FALSE NEIGHBOUR: 'it returns false'. Refute it at one input. -/
def fnPolygonsWrong : ChangeSpec := { name := "fnPolygons", fn := fun _ => fun
  | [d] => { results := [.lit (.bool false)], args := [d] }
  | _ => none }
def FnPolygonsWrongFalsely : Prop := fnPolygonsRow.holds Try.pinned (OpenSpec.ofChange fnPolygonsWrong)

/-- 'laws.FnAreas': WHATEVER THE INPUT: true; the input reads as it did. -/
def fnAreasSpec : ChangeSpec := { name := "fnAreas", fn := fun _ => fun
  | [d] => { results := [.lit (.bool true)], args := [d] }
  | _ => none }
def fnAreasRow : OpenClaim := { program := "ythlfdhooiekgjaa", sum := "02028fd0d798e778cf7ecfdb3f7f08226b23842343c14b60ab8cad52eea0efce", func := "loop.example/g01140/laws.FnAreas", spec := "fnAreas", unfollowed := true, recurses := true, apart := false }
def FnAreasSaid : Prop := fnAreasRow.holds Try.pinned (OpenSpec.ofChange fnAreasSpec)

/-- ITS FALSE NEIGHBOUR: 'it returns false'. Refute it at one input. -/
def fnAreasWrong : ChangeSpec := { name := "fnAreas", fn := fun _ => fun
  | [d] => { results := [.lit (.bool false)], args := [d] }
  | _ => none }
def FnAreasWrongFalsely : Prop := fnAreasRow.holds Try.pinned (OpenSpec.ofChange fnAreasWrong)

/- THE SECOND FORM. 'bulk': how many values and letters a reading holds, each counted each time it is reached (what is shared counts as often as it is met; a slice's spare places count too). A statement '..UptoSaid' is the law's where the arguments, and the package variables that the reading takes, are together of bulk at most 1048576: NARROWER than '..Said'. Prove '..Said' where nothing that the law and all that it calls make is longer than what came in: it says more and counts as full. Else prove '..UptoSaid'. A law counts once. -/
mutual
def uptoBulk {H : Type} : DataW H → Nat
  | .lit (.string bytes) => bytes.length + 1
  | .lit _ => 1
  | .nil => 1
  | .ptr d => uptoBulk d + 1
  | .slice elems spare => uptoBulkAll elems + uptoBulkAll spare + 1
  | .agg parts => uptoBulkAll parts + 1
  | .iface _ d => uptoBulk d + 1
  | .map entries => uptoBulkEntries entries + 1
  | .held _ => 1
def uptoBulkAll {H : Type} : List (DataW H) → Nat
  | [] => 0
  | d :: r => uptoBulk d + uptoBulkAll r
def uptoBulkEntries {H : Type} : List (Lit × DataW H) → Nat
  | [] => 0
  | x :: r => uptoBulkEntry x + uptoBulkEntries r
def uptoBulkEntry {H : Type} : Lit × DataW H → Nat
  | (.string bytes, d) => bytes.length + uptoBulk d + 1
  | (_, d) => uptoBulk d + 1
 end
def uptoSmall : (H : Type) → List (DataW H) → Bool := fun _ ds => decide (uptoBulkAll ds ≤ 1048576)
def OpenSpec.upto (s : _root_.Go.ChangeSpec) : _root_.Go.OpenSpec := { _root_.Go.OpenSpec.ofChange s with cond := some uptoSmall }

/-- 'laws.FnPolygons', WHERE WHAT IT READS IS OF BULK AT MOST 1048576: true; the input reads as it did. -/
def fnPolygonsUptoRow : OpenClaim := { program := "ythlfdhooiekgjaa", sum := "02028fd0d798e778cf7ecfdb3f7f08226b23842343c14b60ab8cad52eea0efce", func := "loop.example/g01140/laws.FnPolygons", spec := "fnPolygons", unfollowed := true, recurses := true, apart := false, narrowed := true }
def FnPolygonsUptoSaid : Prop := fnPolygonsUptoRow.holds Try.pinned (OpenSpec.upto fnPolygonsSpec)

/-- 'laws.FnAreas', WHERE WHAT IT READS IS OF BULK AT MOST 1048576: true; the input reads as it did. -/
def fnAreasUptoRow : OpenClaim := { program := "ythlfdhooiekgjaa", sum := "02028fd0d798e778cf7ecfdb3f7f08226b23842343c14b60ab8cad52eea0efce", func := "loop.example/g01140/laws.FnAreas", spec := "fnAreas", unfollowed := true, recurses := true, apart := false, narrowed := true }
def FnAreasUptoSaid : Prop := fnAreasUptoRow.holds Try.pinned (OpenSpec.upto fnAreasSpec)

end Rows
end Go.Proofs.Ythlfdhooiekgjaa
