/-
  Parts of the proof, one behind the other: contracts of functions and plain laws. No condition.
-/
import Derived.Test.YtlkhcelodcneiaaProg
import Derived.KernelRfl
import Derived.Lib.SliceRun
import Derived.Test.YtlkhcelodcneiaaPt1SpliceWeight
/-
  The facts on this seat's table of types, by program. No condition.
-/
namespace Go.Proofs.Ytlkhcelodcneiaa
open Go Go.RowKit
theorem info1 : (Try.prog.info? 1).map (fun i => (i.zero, i.size, i.bytes)) = some (some (.nilFunc), 1, 8) := by kernel_rfl
instance : TCell Try.prog 1 := ⟨⟨_, Try.underlying1, rfl⟩, let ⟨i, h, _, h2, _⟩ := info_parts info1; ⟨i, h, h2⟩⟩
instance : TElem Try.prog 1 (.nilFunc) 8 := ⟨let ⟨i, h, h1, h2, h3⟩ := info_parts info1; ⟨i, h, h2, h1, h3⟩, by decide⟩
instance : TKind Try.prog 2 .i64 := ⟨Try.underlying2⟩
theorem info2 : (Try.prog.info? 2).map (fun i => (i.zero, i.size, i.bytes)) = some (some (.int .i64 0), 1, 8) := by kernel_rfl
instance : TCell Try.prog 2 := ⟨⟨_, Try.underlying2, rfl⟩, let ⟨i, h, _, h2, _⟩ := info_parts info2; ⟨i, h, h2⟩⟩
instance : TElem Try.prog 2 (.int .i64 0) 8 := ⟨let ⟨i, h, h1, h2, h3⟩ := info_parts info2; ⟨i, h, h2, h1, h3⟩, by decide⟩
instance : TKind Try.prog 3 .i64 := ⟨Try.underlying3⟩
theorem info3 : (Try.prog.info? 3).map (fun i => (i.zero, i.size, i.bytes)) = some (some (.int .i64 0), 1, 8) := by kernel_rfl
instance : TCell Try.prog 3 := ⟨⟨_, Try.underlying3, rfl⟩, let ⟨i, h, _, h2, _⟩ := info_parts info3; ⟨i, h, h2⟩⟩
instance : TElem Try.prog 3 (.int .i64 0) 8 := ⟨let ⟨i, h, h1, h2, h3⟩ := info_parts info3; ⟨i, h, h2, h1, h3⟩, by decide⟩
instance : TBool Try.prog 4 := ⟨Try.underlying4⟩
theorem info4 : (Try.prog.info? 4).map (fun i => (i.zero, i.size, i.bytes)) = some (some (.bool false), 1, 1) := by kernel_rfl
instance : TCell Try.prog 4 := ⟨⟨_, Try.underlying4, rfl⟩, let ⟨i, h, _, h2, _⟩ := info_parts info4; ⟨i, h, h2⟩⟩
instance : TElem Try.prog 4 (.bool false) 1 := ⟨let ⟨i, h, h1, h2, h3⟩ := info_parts info4; ⟨i, h, h2, h1, h3⟩, by decide⟩
instance : TKind Try.prog 5 .u8 := ⟨Try.underlying5⟩
theorem info5 : (Try.prog.info? 5).map (fun i => (i.zero, i.size, i.bytes)) = some (some (.int .u8 0), 1, 1) := by kernel_rfl
instance : TCell Try.prog 5 := ⟨⟨_, Try.underlying5, rfl⟩, let ⟨i, h, _, h2, _⟩ := info_parts info5; ⟨i, h, h2⟩⟩
instance : TElem Try.prog 5 (.int .u8 0) 1 := ⟨let ⟨i, h, h1, h2, h3⟩ := info_parts info5; ⟨i, h, h2, h1, h3⟩, by decide⟩
instance : TKind Try.prog 6 .u8 := ⟨Try.underlying6⟩
theorem info6 : (Try.prog.info? 6).map (fun i => (i.zero, i.size, i.bytes)) = some (some (.int .u8 0), 1, 1) := by kernel_rfl
instance : TCell Try.prog 6 := ⟨⟨_, Try.underlying6, rfl⟩, let ⟨i, h, _, h2, _⟩ := info_parts info6; ⟨i, h, h2⟩⟩
instance : TElem Try.prog 6 (.int .u8 0) 1 := ⟨let ⟨i, h, h1, h2, h3⟩ := info_parts info6; ⟨i, h, h2, h1, h3⟩, by decide⟩
instance : TStr Try.prog 9 := ⟨Try.underlying9⟩
theorem info9 : (Try.prog.info? 9).map (fun i => (i.zero, i.size, i.bytes)) = some (some (.string ⟨#[]⟩), 1, 16) := by kernel_rfl
instance : TCell Try.prog 9 := ⟨⟨_, Try.underlying9, rfl⟩, let ⟨i, h, _, h2, _⟩ := info_parts info9; ⟨i, h, h2⟩⟩
instance : TElem Try.prog 9 (.string ⟨#[]⟩) 16 := ⟨let ⟨i, h, h1, h2, h3⟩ := info_parts info9; ⟨i, h, h2, h1, h3⟩, by decide⟩
instance : TStr Try.prog 10 := ⟨Try.underlying10⟩
theorem info10 : (Try.prog.info? 10).map (fun i => (i.zero, i.size, i.bytes)) = some (some (.string ⟨#[]⟩), 1, 16) := by kernel_rfl
instance : TCell Try.prog 10 := ⟨⟨_, Try.underlying10, rfl⟩, let ⟨i, h, _, h2, _⟩ := info_parts info10; ⟨i, h, h2⟩⟩
instance : TElem Try.prog 10 (.string ⟨#[]⟩) 16 := ⟨let ⟨i, h, h1, h2, h3⟩ := info_parts info10; ⟨i, h, h2, h1, h3⟩, by decide⟩
instance : TStr Try.prog 11 := ⟨Try.underlying11⟩
theorem info11 : (Try.prog.info? 11).map (fun i => (i.zero, i.size, i.bytes)) = some (some (.string ⟨#[]⟩), 1, 16) := by kernel_rfl
instance : TCell Try.prog 11 := ⟨⟨_, Try.underlying11, rfl⟩, let ⟨i, h, _, h2, _⟩ := info_parts info11; ⟨i, h, h2⟩⟩
instance : TElem Try.prog 11 (.string ⟨#[]⟩) 16 := ⟨let ⟨i, h, h1, h2, h3⟩ := info_parts info11; ⟨i, h, h2, h1, h3⟩, by decide⟩
instance : TKind Try.prog 12 .u64 := ⟨Try.underlying12⟩
theorem info12 : (Try.prog.info? 12).map (fun i => (i.zero, i.size, i.bytes)) = some (some (.int .u64 0), 1, 8) := by kernel_rfl
instance : TCell Try.prog 12 := ⟨⟨_, Try.underlying12, rfl⟩, let ⟨i, h, _, h2, _⟩ := info_parts info12; ⟨i, h, h2⟩⟩
instance : TElem Try.prog 12 (.int .u64 0) 8 := ⟨let ⟨i, h, h1, h2, h3⟩ := info_parts info12; ⟨i, h, h2, h1, h3⟩, by decide⟩
theorem info15 : (Try.prog.info? 15).map (fun i => (i.zero, i.size, i.bytes)) = some (some (.pointer none), 1, 8) := by kernel_rfl
instance : TCell Try.prog 15 := ⟨⟨_, Try.underlying15, rfl⟩, let ⟨i, h, _, h2, _⟩ := info_parts info15; ⟨i, h, h2⟩⟩
instance : TElem Try.prog 15 (.pointer none) 8 := ⟨let ⟨i, h, h1, h2, h3⟩ := info_parts info15; ⟨i, h, h2, h1, h3⟩, by decide⟩
theorem info16 : (Try.prog.info? 16).map (fun i => (i.zero, i.size, i.bytes)) = some (some (.pointer none), 1, 8) := by kernel_rfl
instance : TCell Try.prog 16 := ⟨⟨_, Try.underlying16, rfl⟩, let ⟨i, h, _, h2, _⟩ := info_parts info16; ⟨i, h, h2⟩⟩
instance : TElem Try.prog 16 (.pointer none) 8 := ⟨let ⟨i, h, h1, h2, h3⟩ := info_parts info16; ⟨i, h, h2, h1, h3⟩, by decide⟩
theorem info17 : (Try.prog.info? 17).map (fun i => (i.zero, i.size, i.bytes)) = some (some (.pointer none), 1, 8) := by kernel_rfl
instance : TCell Try.prog 17 := ⟨⟨_, Try.underlying17, rfl⟩, let ⟨i, h, _, h2, _⟩ := info_parts info17; ⟨i, h, h2⟩⟩
instance : TElem Try.prog 17 (.pointer none) 8 := ⟨let ⟨i, h, h1, h2, h3⟩ := info_parts info17; ⟨i, h, h2, h1, h3⟩, by decide⟩
instance : TKind Try.prog 21 .i32 := ⟨Try.underlying21⟩
theorem info21 : (Try.prog.info? 21).map (fun i => (i.zero, i.size, i.bytes)) = some (some (.int .i32 0), 1, 4) := by kernel_rfl
instance : TCell Try.prog 21 := ⟨⟨_, Try.underlying21, rfl⟩, let ⟨i, h, _, h2, _⟩ := info_parts info21; ⟨i, h, h2⟩⟩
instance : TElem Try.prog 21 (.int .i32 0) 4 := ⟨let ⟨i, h, h1, h2, h3⟩ := info_parts info21; ⟨i, h, h2, h1, h3⟩, by decide⟩
instance : TSlice Try.prog 22 2 := ⟨Try.underlying22⟩
theorem info22 : (Try.prog.info? 22).map (fun i => (i.zero, i.size, i.bytes)) = some (some (.slice none 0 0), 1, 24) := by kernel_rfl
instance : TCell Try.prog 22 := ⟨⟨_, Try.underlying22, rfl⟩, let ⟨i, h, _, h2, _⟩ := info_parts info22; ⟨i, h, h2⟩⟩
instance : TElem Try.prog 22 (.slice none 0 0) 24 := ⟨let ⟨i, h, h1, h2, h3⟩ := info_parts info22; ⟨i, h, h2, h1, h3⟩, by decide⟩
instance : TSlice Try.prog 23 22 := ⟨Try.underlying23⟩
theorem info23 : (Try.prog.info? 23).map (fun i => (i.zero, i.size, i.bytes)) = some (some (.slice none 0 0), 1, 24) := by kernel_rfl
instance : TCell Try.prog 23 := ⟨⟨_, Try.underlying23, rfl⟩, let ⟨i, h, _, h2, _⟩ := info_parts info23; ⟨i, h, h2⟩⟩
instance : TElem Try.prog 23 (.slice none 0 0) 24 := ⟨let ⟨i, h, h1, h2, h3⟩ := info_parts info23; ⟨i, h, h2, h1, h3⟩, by decide⟩
theorem info24 : (Try.prog.info? 24).map (fun i => (i.zero, i.size, i.bytes)) = some (some (.agg [.slice none 0 0, .slice none 0 0].toArray), 2, 48) := by kernel_rfl
instance : TStruct Try.prog 24 2 [.slice none 0 0, .slice none 0 0] := ⟨⟨_, Try.underlying24, rfl⟩, let ⟨i, h, h1, h2, _⟩ := info_parts info24; ⟨i, h, h2, h1, rfl⟩⟩
instance : TBuild Try.prog 24 2 [.slice none 0 0, .slice none 0 0] := .str (let ⟨i, h, h1, _, _⟩ := info_parts info24; ⟨i, h, h1, rfl⟩) ⟨_, Try.underlying24, by kernel_rfl⟩
instance : TField Try.prog 24 0 0 := ⟨let ⟨i, h, _, h2, _⟩ := info_parts info22; ⟨_, _, i, Try.underlying24, rfl, rfl, h, h2, _, Try.underlying22, rfl⟩⟩
instance : TField Try.prog 24 1 1 := ⟨let ⟨i, h, _, h2, _⟩ := info_parts info23; ⟨_, _, i, Try.underlying24, rfl, rfl, h, h2, _, Try.underlying23, rfl⟩⟩
theorem info25 : (Try.prog.info? 25).map (fun i => (i.zero, i.size, i.bytes)) = some (some (.agg [.slice none 0 0, .slice none 0 0].toArray), 2, 48) := by kernel_rfl
instance : TStruct Try.prog 25 2 [.slice none 0 0, .slice none 0 0] := ⟨⟨_, Try.underlying25, rfl⟩, let ⟨i, h, h1, h2, _⟩ := info_parts info25; ⟨i, h, h2, h1, rfl⟩⟩
instance : TBuild Try.prog 25 2 [.slice none 0 0, .slice none 0 0] := .str (let ⟨i, h, h1, _, _⟩ := info_parts info25; ⟨i, h, h1, rfl⟩) ⟨_, Try.underlying25, by kernel_rfl⟩
instance : TField Try.prog 25 0 0 := ⟨let ⟨i, h, _, h2, _⟩ := info_parts info22; ⟨_, _, i, Try.underlying25, rfl, rfl, h, h2, _, Try.underlying22, rfl⟩⟩
instance : TField Try.prog 25 1 1 := ⟨let ⟨i, h, _, h2, _⟩ := info_parts info23; ⟨_, _, i, Try.underlying25, rfl, rfl, h, h2, _, Try.underlying23, rfl⟩⟩
theorem info26 : (Try.prog.info? 26).map (fun i => (i.zero, i.size, i.bytes)) = some (some (.nilFunc), 1, 8) := by kernel_rfl
instance : TCell Try.prog 26 := ⟨⟨_, Try.underlying26, rfl⟩, let ⟨i, h, _, h2, _⟩ := info_parts info26; ⟨i, h, h2⟩⟩
instance : TElem Try.prog 26 (.nilFunc) 8 := ⟨let ⟨i, h, h1, h2, h3⟩ := info_parts info26; ⟨i, h, h2, h1, h3⟩, by decide⟩
theorem info28 : (Try.prog.info? 28).map (fun i => (i.zero, i.size, i.bytes)) = some (some (.nilFunc), 1, 8) := by kernel_rfl
instance : TCell Try.prog 28 := ⟨⟨_, Try.underlying28, rfl⟩, let ⟨i, h, _, h2, _⟩ := info_parts info28; ⟨i, h, h2⟩⟩
instance : TElem Try.prog 28 (.nilFunc) 8 := ⟨let ⟨i, h, h1, h2, h3⟩ := info_parts info28; ⟨i, h, h2, h1, h3⟩, by decide⟩
theorem info29 : (Try.prog.info? 29).map (fun i => (i.zero, i.size, i.bytes)) = some (some (.agg [.slice none 0 0, .slice none 0 0].toArray), 2, 48) := by kernel_rfl
instance : TStruct Try.prog 29 2 [.slice none 0 0, .slice none 0 0] := ⟨⟨_, Try.underlying29, rfl⟩, let ⟨i, h, h1, h2, _⟩ := info_parts info29; ⟨i, h, h2, h1, rfl⟩⟩
instance : TBuild Try.prog 29 2 [.slice none 0 0, .slice none 0 0] := .str (let ⟨i, h, h1, _, _⟩ := info_parts info29; ⟨i, h, h1, rfl⟩) ⟨_, Try.underlying29, by kernel_rfl⟩
instance : TField Try.prog 29 0 0 := ⟨let ⟨i, h, _, h2, _⟩ := info_parts info22; ⟨_, _, i, Try.underlying29, rfl, rfl, h, h2, _, Try.underlying22, rfl⟩⟩
instance : TField Try.prog 29 1 1 := ⟨let ⟨i, h, _, h2, _⟩ := info_parts info23; ⟨_, _, i, Try.underlying29, rfl, rfl, h, h2, _, Try.underlying23, rfl⟩⟩
theorem info30 : (Try.prog.info? 30).map (fun i => (i.zero, i.size, i.bytes)) = some (some (.nilFunc), 1, 8) := by kernel_rfl
instance : TCell Try.prog 30 := ⟨⟨_, Try.underlying30, rfl⟩, let ⟨i, h, _, h2, _⟩ := info_parts info30; ⟨i, h, h2⟩⟩
instance : TElem Try.prog 30 (.nilFunc) 8 := ⟨let ⟨i, h, h1, h2, h3⟩ := info_parts info30; ⟨i, h, h2, h1, h3⟩, by decide⟩
theorem info31 : (Try.prog.info? 31).map (fun i => (i.zero, i.size, i.bytes)) = some (some (.nilFunc), 1, 8) := by kernel_rfl
instance : TCell Try.prog 31 := ⟨⟨_, Try.underlying31, rfl⟩, let ⟨i, h, _, h2, _⟩ := info_parts info31; ⟨i, h, h2⟩⟩
instance : TElem Try.prog 31 (.nilFunc) 8 := ⟨let ⟨i, h, h1, h2, h3⟩ := info_parts info31; ⟨i, h, h2, h1, h3⟩, by decide⟩
theorem info32 : (Try.prog.info? 32).map (fun i => (i.zero, i.size, i.bytes)) = some (some (.nilFunc), 1, 8) := by kernel_rfl
instance : TCell Try.prog 32 := ⟨⟨_, Try.underlying32, rfl⟩, let ⟨i, h, _, h2, _⟩ := info_parts info32; ⟨i, h, h2⟩⟩
instance : TElem Try.prog 32 (.nilFunc) 8 := ⟨let ⟨i, h, h1, h2, h3⟩ := info_parts info32; ⟨i, h, h2, h1, h3⟩, by decide⟩
theorem info33 : (Try.prog.info? 33).map (fun i => (i.zero, i.size, i.bytes)) = some (some (.nilFunc), 1, 8) := by kernel_rfl
instance : TCell Try.prog 33 := ⟨⟨_, Try.underlying33, rfl⟩, let ⟨i, h, _, h2, _⟩ := info_parts info33; ⟨i, h, h2⟩⟩
instance : TElem Try.prog 33 (.nilFunc) 8 := ⟨let ⟨i, h, h1, h2, h3⟩ := info_parts info33; ⟨i, h, h2, h1, h3⟩, by decide⟩
theorem info34 : (Try.prog.info? 34).map (fun i => (i.zero, i.size, i.bytes)) = some (some (.nilFunc), 1, 8) := by kernel_rfl
instance : TCell Try.prog 34 := ⟨⟨_, Try.underlying34, rfl⟩, let ⟨i, h, _, h2, _⟩ := info_parts info34; ⟨i, h, h2⟩⟩
instance : TElem Try.prog 34 (.nilFunc) 8 := ⟨let ⟨i, h, h1, h2, h3⟩ := info_parts info34; ⟨i, h, h2, h1, h3⟩, by decide⟩
theorem info35 : (Try.prog.info? 35).map (fun i => (i.zero, i.size, i.bytes)) = some (some (.nilFunc), 1, 8) := by kernel_rfl
instance : TCell Try.prog 35 := ⟨⟨_, Try.underlying35, rfl⟩, let ⟨i, h, _, h2, _⟩ := info_parts info35; ⟨i, h, h2⟩⟩
instance : TElem Try.prog 35 (.nilFunc) 8 := ⟨let ⟨i, h, h1, h2, h3⟩ := info_parts info35; ⟨i, h, h2, h1, h3⟩, by decide⟩
theorem info36 : (Try.prog.info? 36).map (fun i => (i.zero, i.size, i.bytes)) = some (some (.nilFunc), 1, 8) := by kernel_rfl
instance : TCell Try.prog 36 := ⟨⟨_, Try.underlying36, rfl⟩, let ⟨i, h, _, h2, _⟩ := info_parts info36; ⟨i, h, h2⟩⟩
instance : TElem Try.prog 36 (.nilFunc) 8 := ⟨let ⟨i, h, h1, h2, h3⟩ := info_parts info36; ⟨i, h, h2, h1, h3⟩, by decide⟩
theorem info37 : (Try.prog.info? 37).map (fun i => (i.zero, i.size, i.bytes)) = some (some (.nilFunc), 1, 8) := by kernel_rfl
instance : TCell Try.prog 37 := ⟨⟨_, Try.underlying37, rfl⟩, let ⟨i, h, _, h2, _⟩ := info_parts info37; ⟨i, h, h2⟩⟩
instance : TElem Try.prog 37 (.nilFunc) 8 := ⟨let ⟨i, h, h1, h2, h3⟩ := info_parts info37; ⟨i, h, h2, h1, h3⟩, by decide⟩
theorem info39 : (Try.prog.info? 39).map (fun i => (i.zero, i.size, i.bytes)) = some (some (.nilFunc), 1, 8) := by kernel_rfl
instance : TCell Try.prog 39 := ⟨⟨_, Try.underlying39, rfl⟩, let ⟨i, h, _, h2, _⟩ := info_parts info39; ⟨i, h, h2⟩⟩
instance : TElem Try.prog 39 (.nilFunc) 8 := ⟨let ⟨i, h, h1, h2, h3⟩ := info_parts info39; ⟨i, h, h2, h1, h3⟩, by decide⟩
theorem info40 : (Try.prog.info? 40).map (fun i => (i.zero, i.size, i.bytes)) = some (some (.nilFunc), 1, 8) := by kernel_rfl
instance : TCell Try.prog 40 := ⟨⟨_, Try.underlying40, rfl⟩, let ⟨i, h, _, h2, _⟩ := info_parts info40; ⟨i, h, h2⟩⟩
instance : TElem Try.prog 40 (.nilFunc) 8 := ⟨let ⟨i, h, h1, h2, h3⟩ := info_parts info40; ⟨i, h, h2, h1, h3⟩, by decide⟩
theorem info41 : (Try.prog.info? 41).map (fun i => (i.zero, i.size, i.bytes)) = some (some (.nilFunc), 1, 8) := by kernel_rfl
instance : TCell Try.prog 41 := ⟨⟨_, Try.underlying41, rfl⟩, let ⟨i, h, _, h2, _⟩ := info_parts info41; ⟨i, h, h2⟩⟩
instance : TElem Try.prog 41 (.nilFunc) 8 := ⟨let ⟨i, h, h1, h2, h3⟩ := info_parts info41; ⟨i, h, h2, h1, h3⟩, by decide⟩
theorem info42 : (Try.prog.info? 42).map (fun i => (i.zero, i.size, i.bytes)) = some (some (.agg [.slice none 0 0, .slice none 0 0, .slice none 0 0].toArray), 3, 72) := by kernel_rfl
instance : TStruct Try.prog 42 3 [.slice none 0 0, .slice none 0 0, .slice none 0 0] := ⟨⟨_, Try.underlying42, rfl⟩, let ⟨i, h, h1, h2, _⟩ := info_parts info42; ⟨i, h, h2, h1, rfl⟩⟩
instance : TField Try.prog 42 1 2 := ⟨let ⟨i, h, _, h2, _⟩ := info_parts info23; ⟨_, _, i, Try.underlying42, rfl, rfl, h, h2, _, Try.underlying23, rfl⟩⟩
theorem info43 : (Try.prog.info? 43).map (fun i => (i.zero, i.size, i.bytes)) = some (some (.agg [.slice none 0 0, .slice none 0 0, .slice none 0 0].toArray), 3, 72) := by kernel_rfl
instance : TStruct Try.prog 43 3 [.slice none 0 0, .slice none 0 0, .slice none 0 0] := ⟨⟨_, Try.underlying43, rfl⟩, let ⟨i, h, h1, h2, _⟩ := info_parts info43; ⟨i, h, h2, h1, rfl⟩⟩
instance : TField Try.prog 43 1 2 := ⟨let ⟨i, h, _, h2, _⟩ := info_parts info23; ⟨_, _, i, Try.underlying43, rfl, rfl, h, h2, _, Try.underlying23, rfl⟩⟩
theorem info45 : (Try.prog.info? 45).map (fun i => (i.zero, i.size, i.bytes)) = some (some (.nilFunc), 1, 8) := by kernel_rfl
instance : TCell Try.prog 45 := ⟨⟨_, Try.underlying45, rfl⟩, let ⟨i, h, _, h2, _⟩ := info_parts info45; ⟨i, h, h2⟩⟩
instance : TElem Try.prog 45 (.nilFunc) 8 := ⟨let ⟨i, h, h1, h2, h3⟩ := info_parts info45; ⟨i, h, h2, h1, h3⟩, by decide⟩
theorem info46 : (Try.prog.info? 46).map (fun i => (i.zero, i.size, i.bytes)) = some (some (.nilFunc), 1, 8) := by kernel_rfl
instance : TCell Try.prog 46 := ⟨⟨_, Try.underlying46, rfl⟩, let ⟨i, h, _, h2, _⟩ := info_parts info46; ⟨i, h, h2⟩⟩
instance : TElem Try.prog 46 (.nilFunc) 8 := ⟨let ⟨i, h, h1, h2, h3⟩ := info_parts info46; ⟨i, h, h2, h1, h3⟩, by decide⟩
theorem info47 : (Try.prog.info? 47).map (fun i => (i.zero, i.size, i.bytes)) = some (some (.nilFunc), 1, 8) := by kernel_rfl
instance : TCell Try.prog 47 := ⟨⟨_, Try.underlying47, rfl⟩, let ⟨i, h, _, h2, _⟩ := info_parts info47; ⟨i, h, h2⟩⟩
instance : TElem Try.prog 47 (.nilFunc) 8 := ⟨let ⟨i, h, h1, h2, h3⟩ := info_parts info47; ⟨i, h, h2, h1, h3⟩, by decide⟩
theorem info48 : (Try.prog.info? 48).map (fun i => (i.zero, i.size, i.bytes)) = some (some (.nilFunc), 1, 8) := by kernel_rfl
instance : TCell Try.prog 48 := ⟨⟨_, Try.underlying48, rfl⟩, let ⟨i, h, _, h2, _⟩ := info_parts info48; ⟨i, h, h2⟩⟩
instance : TElem Try.prog 48 (.nilFunc) 8 := ⟨let ⟨i, h, h1, h2, h3⟩ := info_parts info48; ⟨i, h, h2, h1, h3⟩, by decide⟩
theorem info49 : (Try.prog.info? 49).map (fun i => (i.zero, i.size, i.bytes)) = some (some (.nilFunc), 1, 8) := by kernel_rfl
instance : TCell Try.prog 49 := ⟨⟨_, Try.underlying49, rfl⟩, let ⟨i, h, _, h2, _⟩ := info_parts info49; ⟨i, h, h2⟩⟩
instance : TElem Try.prog 49 (.nilFunc) 8 := ⟨let ⟨i, h, h1, h2, h3⟩ := info_parts info49; ⟨i, h, h2, h1, h3⟩, by decide⟩
theorem info50 : (Try.prog.info? 50).map (fun i => (i.zero, i.size, i.bytes)) = some (some (.nilFunc), 1, 8) := by kernel_rfl
instance : TCell Try.prog 50 := ⟨⟨_, Try.underlying50, rfl⟩, let ⟨i, h, _, h2, _⟩ := info_parts info50; ⟨i, h, h2⟩⟩
instance : TElem Try.prog 50 (.nilFunc) 8 := ⟨let ⟨i, h, h1, h2, h3⟩ := info_parts info50; ⟨i, h, h2, h1, h3⟩, by decide⟩
theorem info51 : (Try.prog.info? 51).map (fun i => (i.zero, i.size, i.bytes)) = some (some (.nilFunc), 1, 8) := by kernel_rfl
instance : TCell Try.prog 51 := ⟨⟨_, Try.underlying51, rfl⟩, let ⟨i, h, _, h2, _⟩ := info_parts info51; ⟨i, h, h2⟩⟩
instance : TElem Try.prog 51 (.nilFunc) 8 := ⟨let ⟨i, h, h1, h2, h3⟩ := info_parts info51; ⟨i, h, h2, h1, h3⟩, by decide⟩
theorem info52 : (Try.prog.info? 52).map (fun i => (i.zero, i.size, i.bytes)) = some (some (.nilFunc), 1, 8) := by kernel_rfl
instance : TCell Try.prog 52 := ⟨⟨_, Try.underlying52, rfl⟩, let ⟨i, h, _, h2, _⟩ := info_parts info52; ⟨i, h, h2⟩⟩
instance : TElem Try.prog 52 (.nilFunc) 8 := ⟨let ⟨i, h, h1, h2, h3⟩ := info_parts info52; ⟨i, h, h2, h1, h3⟩, by decide⟩
theorem info53 : (Try.prog.info? 53).map (fun i => (i.zero, i.size, i.bytes)) = some (some (.nilFunc), 1, 8) := by kernel_rfl
instance : TCell Try.prog 53 := ⟨⟨_, Try.underlying53, rfl⟩, let ⟨i, h, _, h2, _⟩ := info_parts info53; ⟨i, h, h2⟩⟩
instance : TElem Try.prog 53 (.nilFunc) 8 := ⟨let ⟨i, h, h1, h2, h3⟩ := info_parts info53; ⟨i, h, h2, h1, h3⟩, by decide⟩
theorem info54 : (Try.prog.info? 54).map (fun i => (i.zero, i.size, i.bytes)) = some (some (.nilFunc), 1, 8) := by kernel_rfl
instance : TCell Try.prog 54 := ⟨⟨_, Try.underlying54, rfl⟩, let ⟨i, h, _, h2, _⟩ := info_parts info54; ⟨i, h, h2⟩⟩
instance : TElem Try.prog 54 (.nilFunc) 8 := ⟨let ⟨i, h, h1, h2, h3⟩ := info_parts info54; ⟨i, h, h2, h1, h3⟩, by decide⟩
instance : TSlice Try.prog 55 4 := ⟨Try.underlying55⟩
theorem info55 : (Try.prog.info? 55).map (fun i => (i.zero, i.size, i.bytes)) = some (some (.slice none 0 0), 1, 24) := by kernel_rfl
instance : TCell Try.prog 55 := ⟨⟨_, Try.underlying55, rfl⟩, let ⟨i, h, _, h2, _⟩ := info_parts info55; ⟨i, h, h2⟩⟩
instance : TElem Try.prog 55 (.slice none 0 0) 24 := ⟨let ⟨i, h, h1, h2, h3⟩ := info_parts info55; ⟨i, h, h2, h1, h3⟩, by decide⟩
theorem info56 : (Try.prog.info? 56).map (fun i => (i.zero, i.size, i.bytes)) = some (some (.nilFunc), 1, 8) := by kernel_rfl
instance : TCell Try.prog 56 := ⟨⟨_, Try.underlying56, rfl⟩, let ⟨i, h, _, h2, _⟩ := info_parts info56; ⟨i, h, h2⟩⟩
instance : TElem Try.prog 56 (.nilFunc) 8 := ⟨let ⟨i, h, h1, h2, h3⟩ := info_parts info56; ⟨i, h, h2, h1, h3⟩, by decide⟩
theorem info57 : (Try.prog.info? 57).map (fun i => (i.zero, i.size, i.bytes)) = some (some (.nilFunc), 1, 8) := by kernel_rfl
instance : TCell Try.prog 57 := ⟨⟨_, Try.underlying57, rfl⟩, let ⟨i, h, _, h2, _⟩ := info_parts info57; ⟨i, h, h2⟩⟩
instance : TElem Try.prog 57 (.nilFunc) 8 := ⟨let ⟨i, h, h1, h2, h3⟩ := info_parts info57; ⟨i, h, h2, h1, h3⟩, by decide⟩
theorem info58 : (Try.prog.info? 58).map (fun i => (i.zero, i.size, i.bytes)) = some (some (.nilFunc), 1, 8) := by kernel_rfl
instance : TCell Try.prog 58 := ⟨⟨_, Try.underlying58, rfl⟩, let ⟨i, h, _, h2, _⟩ := info_parts info58; ⟨i, h, h2⟩⟩
instance : TElem Try.prog 58 (.nilFunc) 8 := ⟨let ⟨i, h, h1, h2, h3⟩ := info_parts info58; ⟨i, h, h2, h1, h3⟩, by decide⟩
theorem info59 : (Try.prog.info? 59).map (fun i => (i.zero, i.size, i.bytes)) = some (some (.nilFunc), 1, 8) := by kernel_rfl
instance : TCell Try.prog 59 := ⟨⟨_, Try.underlying59, rfl⟩, let ⟨i, h, _, h2, _⟩ := info_parts info59; ⟨i, h, h2⟩⟩
instance : TElem Try.prog 59 (.nilFunc) 8 := ⟨let ⟨i, h, h1, h2, h3⟩ := info_parts info59; ⟨i, h, h2, h1, h3⟩, by decide⟩
theorem info60 : (Try.prog.info? 60).map (fun i => (i.zero, i.size, i.bytes)) = some (some (.nilFunc), 1, 8) := by kernel_rfl
instance : TCell Try.prog 60 := ⟨⟨_, Try.underlying60, rfl⟩, let ⟨i, h, _, h2, _⟩ := info_parts info60; ⟨i, h, h2⟩⟩
instance : TElem Try.prog 60 (.nilFunc) 8 := ⟨let ⟨i, h, h1, h2, h3⟩ := info_parts info60; ⟨i, h, h2, h1, h3⟩, by decide⟩
theorem info61 : (Try.prog.info? 61).map (fun i => (i.zero, i.size, i.bytes)) = some (some (.nilFunc), 1, 8) := by kernel_rfl
instance : TCell Try.prog 61 := ⟨⟨_, Try.underlying61, rfl⟩, let ⟨i, h, _, h2, _⟩ := info_parts info61; ⟨i, h, h2⟩⟩
instance : TElem Try.prog 61 (.nilFunc) 8 := ⟨let ⟨i, h, h1, h2, h3⟩ := info_parts info61; ⟨i, h, h2, h1, h3⟩, by decide⟩
theorem info62 : (Try.prog.info? 62).map (fun i => (i.zero, i.size, i.bytes)) = some (some (.nilFunc), 1, 8) := by kernel_rfl
instance : TCell Try.prog 62 := ⟨⟨_, Try.underlying62, rfl⟩, let ⟨i, h, _, h2, _⟩ := info_parts info62; ⟨i, h, h2⟩⟩
instance : TElem Try.prog 62 (.nilFunc) 8 := ⟨let ⟨i, h, h1, h2, h3⟩ := info_parts info62; ⟨i, h, h2, h1, h3⟩, by decide⟩
theorem info63 : (Try.prog.info? 63).map (fun i => (i.zero, i.size, i.bytes)) = some (some (.nilFunc), 1, 8) := by kernel_rfl
instance : TCell Try.prog 63 := ⟨⟨_, Try.underlying63, rfl⟩, let ⟨i, h, _, h2, _⟩ := info_parts info63; ⟨i, h, h2⟩⟩
instance : TElem Try.prog 63 (.nilFunc) 8 := ⟨let ⟨i, h, h1, h2, h3⟩ := info_parts info63; ⟨i, h, h2, h1, h3⟩, by decide⟩
theorem info65 : (Try.prog.info? 65).map (fun i => (i.zero, i.size, i.bytes)) = some (some (.nilFunc), 1, 8) := by kernel_rfl
instance : TCell Try.prog 65 := ⟨⟨_, Try.underlying65, rfl⟩, let ⟨i, h, _, h2, _⟩ := info_parts info65; ⟨i, h, h2⟩⟩
instance : TElem Try.prog 65 (.nilFunc) 8 := ⟨let ⟨i, h, h1, h2, h3⟩ := info_parts info65; ⟨i, h, h2, h1, h3⟩, by decide⟩
theorem info66 : (Try.prog.info? 66).map (fun i => (i.zero, i.size, i.bytes)) = some (some (.nilFunc), 1, 8) := by kernel_rfl
instance : TCell Try.prog 66 := ⟨⟨_, Try.underlying66, rfl⟩, let ⟨i, h, _, h2, _⟩ := info_parts info66; ⟨i, h, h2⟩⟩
instance : TElem Try.prog 66 (.nilFunc) 8 := ⟨let ⟨i, h, h1, h2, h3⟩ := info_parts info66; ⟨i, h, h2, h1, h3⟩, by decide⟩
theorem info67 : (Try.prog.info? 67).map (fun i => (i.zero, i.size, i.bytes)) = some (some (.nilFunc), 1, 8) := by kernel_rfl
instance : TCell Try.prog 67 := ⟨⟨_, Try.underlying67, rfl⟩, let ⟨i, h, _, h2, _⟩ := info_parts info67; ⟨i, h, h2⟩⟩
instance : TElem Try.prog 67 (.nilFunc) 8 := ⟨let ⟨i, h, h1, h2, h3⟩ := info_parts info67; ⟨i, h, h2, h1, h3⟩, by decide⟩
theorem info68 : (Try.prog.info? 68).map (fun i => (i.zero, i.size, i.bytes)) = some (some (.nilFunc), 1, 8) := by kernel_rfl
instance : TCell Try.prog 68 := ⟨⟨_, Try.underlying68, rfl⟩, let ⟨i, h, _, h2, _⟩ := info_parts info68; ⟨i, h, h2⟩⟩
instance : TElem Try.prog 68 (.nilFunc) 8 := ⟨let ⟨i, h, h1, h2, h3⟩ := info_parts info68; ⟨i, h, h2, h1, h3⟩, by decide⟩
theorem info69 : (Try.prog.info? 69).map (fun i => (i.zero, i.size, i.bytes)) = some (some (.nilFunc), 1, 8) := by kernel_rfl
instance : TCell Try.prog 69 := ⟨⟨_, Try.underlying69, rfl⟩, let ⟨i, h, _, h2, _⟩ := info_parts info69; ⟨i, h, h2⟩⟩
instance : TElem Try.prog 69 (.nilFunc) 8 := ⟨let ⟨i, h, h1, h2, h3⟩ := info_parts info69; ⟨i, h, h2, h1, h3⟩, by decide⟩
theorem info70 : (Try.prog.info? 70).map (fun i => (i.zero, i.size, i.bytes)) = some (some (.nilFunc), 1, 8) := by kernel_rfl
instance : TCell Try.prog 70 := ⟨⟨_, Try.underlying70, rfl⟩, let ⟨i, h, _, h2, _⟩ := info_parts info70; ⟨i, h, h2⟩⟩
instance : TElem Try.prog 70 (.nilFunc) 8 := ⟨let ⟨i, h, h1, h2, h3⟩ := info_parts info70; ⟨i, h, h2, h1, h3⟩, by decide⟩
theorem info71 : (Try.prog.info? 71).map (fun i => (i.zero, i.size, i.bytes)) = some (some (.nilFunc), 1, 8) := by kernel_rfl
instance : TCell Try.prog 71 := ⟨⟨_, Try.underlying71, rfl⟩, let ⟨i, h, _, h2, _⟩ := info_parts info71; ⟨i, h, h2⟩⟩
instance : TElem Try.prog 71 (.nilFunc) 8 := ⟨let ⟨i, h, h1, h2, h3⟩ := info_parts info71; ⟨i, h, h2, h1, h3⟩, by decide⟩
theorem info72 : (Try.prog.info? 72).map (fun i => (i.zero, i.size, i.bytes)) = some (some (.nilFunc), 1, 8) := by kernel_rfl
instance : TCell Try.prog 72 := ⟨⟨_, Try.underlying72, rfl⟩, let ⟨i, h, _, h2, _⟩ := info_parts info72; ⟨i, h, h2⟩⟩
instance : TElem Try.prog 72 (.nilFunc) 8 := ⟨let ⟨i, h, h1, h2, h3⟩ := info_parts info72; ⟨i, h, h2, h1, h3⟩, by decide⟩
theorem info73 : (Try.prog.info? 73).map (fun i => (i.zero, i.size, i.bytes)) = some (some (.nilFunc), 1, 8) := by kernel_rfl
instance : TCell Try.prog 73 := ⟨⟨_, Try.underlying73, rfl⟩, let ⟨i, h, _, h2, _⟩ := info_parts info73; ⟨i, h, h2⟩⟩
instance : TElem Try.prog 73 (.nilFunc) 8 := ⟨let ⟨i, h, h1, h2, h3⟩ := info_parts info73; ⟨i, h, h2, h1, h3⟩, by decide⟩
theorem info74 : (Try.prog.info? 74).map (fun i => (i.zero, i.size, i.bytes)) = some (some (.nilFunc), 1, 8) := by kernel_rfl
instance : TCell Try.prog 74 := ⟨⟨_, Try.underlying74, rfl⟩, let ⟨i, h, _, h2, _⟩ := info_parts info74; ⟨i, h, h2⟩⟩
instance : TElem Try.prog 74 (.nilFunc) 8 := ⟨let ⟨i, h, h1, h2, h3⟩ := info_parts info74; ⟨i, h, h2, h1, h3⟩, by decide⟩
theorem info76 : (Try.prog.info? 76).map (fun i => (i.zero, i.size, i.bytes)) = some (some (.nilFunc), 1, 8) := by kernel_rfl
instance : TCell Try.prog 76 := ⟨⟨_, Try.underlying76, rfl⟩, let ⟨i, h, _, h2, _⟩ := info_parts info76; ⟨i, h, h2⟩⟩
instance : TElem Try.prog 76 (.nilFunc) 8 := ⟨let ⟨i, h, h1, h2, h3⟩ := info_parts info76; ⟨i, h, h2, h1, h3⟩, by decide⟩
theorem info77 : (Try.prog.info? 77).map (fun i => (i.zero, i.size, i.bytes)) = some (some (.nilFunc), 1, 8) := by kernel_rfl
instance : TCell Try.prog 77 := ⟨⟨_, Try.underlying77, rfl⟩, let ⟨i, h, _, h2, _⟩ := info_parts info77; ⟨i, h, h2⟩⟩
instance : TElem Try.prog 77 (.nilFunc) 8 := ⟨let ⟨i, h, h1, h2, h3⟩ := info_parts info77; ⟨i, h, h2, h1, h3⟩, by decide⟩
theorem info78 : (Try.prog.info? 78).map (fun i => (i.zero, i.size, i.bytes)) = some (some (.nilFunc), 1, 8) := by kernel_rfl
instance : TCell Try.prog 78 := ⟨⟨_, Try.underlying78, rfl⟩, let ⟨i, h, _, h2, _⟩ := info_parts info78; ⟨i, h, h2⟩⟩
instance : TElem Try.prog 78 (.nilFunc) 8 := ⟨let ⟨i, h, h1, h2, h3⟩ := info_parts info78; ⟨i, h, h2, h1, h3⟩, by decide⟩
theorem info79 : (Try.prog.info? 79).map (fun i => (i.zero, i.size, i.bytes)) = some (some (.nilFunc), 1, 8) := by kernel_rfl
instance : TCell Try.prog 79 := ⟨⟨_, Try.underlying79, rfl⟩, let ⟨i, h, _, h2, _⟩ := info_parts info79; ⟨i, h, h2⟩⟩
instance : TElem Try.prog 79 (.nilFunc) 8 := ⟨let ⟨i, h, h1, h2, h3⟩ := info_parts info79; ⟨i, h, h2, h1, h3⟩, by decide⟩
instance : TKind Try.prog 80 .u64 := ⟨Try.underlying80⟩
theorem info80 : (Try.prog.info? 80).map (fun i => (i.zero, i.size, i.bytes)) = some (some (.int .u64 0), 1, 8) := by kernel_rfl
instance : TCell Try.prog 80 := ⟨⟨_, Try.underlying80, rfl⟩, let ⟨i, h, _, h2, _⟩ := info_parts info80; ⟨i, h, h2⟩⟩
instance : TElem Try.prog 80 (.int .u64 0) 8 := ⟨let ⟨i, h, h1, h2, h3⟩ := info_parts info80; ⟨i, h, h2, h1, h3⟩, by decide⟩
theorem info82 : (Try.prog.info? 82).map (fun i => (i.zero, i.size, i.bytes)) = some (some (.nilFunc), 1, 8) := by kernel_rfl
instance : TCell Try.prog 82 := ⟨⟨_, Try.underlying82, rfl⟩, let ⟨i, h, _, h2, _⟩ := info_parts info82; ⟨i, h, h2⟩⟩
instance : TElem Try.prog 82 (.nilFunc) 8 := ⟨let ⟨i, h, h1, h2, h3⟩ := info_parts info82; ⟨i, h, h2, h1, h3⟩, by decide⟩
theorem info83 : (Try.prog.info? 83).map (fun i => (i.zero, i.size, i.bytes)) = some (some (.nilFunc), 1, 8) := by kernel_rfl
instance : TCell Try.prog 83 := ⟨⟨_, Try.underlying83, rfl⟩, let ⟨i, h, _, h2, _⟩ := info_parts info83; ⟨i, h, h2⟩⟩
instance : TElem Try.prog 83 (.nilFunc) 8 := ⟨let ⟨i, h, h1, h2, h3⟩ := info_parts info83; ⟨i, h, h2, h1, h3⟩, by decide⟩
theorem info84 : (Try.prog.info? 84).map (fun i => (i.zero, i.size, i.bytes)) = some (some (.nilFunc), 1, 8) := by kernel_rfl
instance : TCell Try.prog 84 := ⟨⟨_, Try.underlying84, rfl⟩, let ⟨i, h, _, h2, _⟩ := info_parts info84; ⟨i, h, h2⟩⟩
instance : TElem Try.prog 84 (.nilFunc) 8 := ⟨let ⟨i, h, h1, h2, h3⟩ := info_parts info84; ⟨i, h, h2, h1, h3⟩, by decide⟩
instance : TKind Try.prog 85 .i64 := ⟨Try.underlying85⟩
theorem info85 : (Try.prog.info? 85).map (fun i => (i.zero, i.size, i.bytes)) = some (some (.int .i64 0), 1, 8) := by kernel_rfl
instance : TCell Try.prog 85 := ⟨⟨_, Try.underlying85, rfl⟩, let ⟨i, h, _, h2, _⟩ := info_parts info85; ⟨i, h, h2⟩⟩
instance : TElem Try.prog 85 (.int .i64 0) 8 := ⟨let ⟨i, h, h1, h2, h3⟩ := info_parts info85; ⟨i, h, h2, h1, h3⟩, by decide⟩
theorem info87 : (Try.prog.info? 87).map (fun i => (i.zero, i.size, i.bytes)) = some (some (.nilFunc), 1, 8) := by kernel_rfl
instance : TCell Try.prog 87 := ⟨⟨_, Try.underlying87, rfl⟩, let ⟨i, h, _, h2, _⟩ := info_parts info87; ⟨i, h, h2⟩⟩
instance : TElem Try.prog 87 (.nilFunc) 8 := ⟨let ⟨i, h, h1, h2, h3⟩ := info_parts info87; ⟨i, h, h2, h1, h3⟩, by decide⟩
theorem info88 : (Try.prog.info? 88).map (fun i => (i.zero, i.size, i.bytes)) = some (some (.nilFunc), 1, 8) := by kernel_rfl
instance : TCell Try.prog 88 := ⟨⟨_, Try.underlying88, rfl⟩, let ⟨i, h, _, h2, _⟩ := info_parts info88; ⟨i, h, h2⟩⟩
instance : TElem Try.prog 88 (.nilFunc) 8 := ⟨let ⟨i, h, h1, h2, h3⟩ := info_parts info88; ⟨i, h, h2, h1, h3⟩, by decide⟩
theorem info89 : (Try.prog.info? 89).map (fun i => (i.zero, i.size, i.bytes)) = some (some (.nilFunc), 1, 8) := by kernel_rfl
instance : TCell Try.prog 89 := ⟨⟨_, Try.underlying89, rfl⟩, let ⟨i, h, _, h2, _⟩ := info_parts info89; ⟨i, h, h2⟩⟩
instance : TElem Try.prog 89 (.nilFunc) 8 := ⟨let ⟨i, h, h1, h2, h3⟩ := info_parts info89; ⟨i, h, h2, h1, h3⟩, by decide⟩
theorem info90 : (Try.prog.info? 90).map (fun i => (i.zero, i.size, i.bytes)) = some (some (.nilFunc), 1, 8) := by kernel_rfl
instance : TCell Try.prog 90 := ⟨⟨_, Try.underlying90, rfl⟩, let ⟨i, h, _, h2, _⟩ := info_parts info90; ⟨i, h, h2⟩⟩
instance : TElem Try.prog 90 (.nilFunc) 8 := ⟨let ⟨i, h, h1, h2, h3⟩ := info_parts info90; ⟨i, h, h2, h1, h3⟩, by decide⟩
theorem info92 : (Try.prog.info? 92).map (fun i => (i.zero, i.size, i.bytes)) = some (some (.nilFunc), 1, 8) := by kernel_rfl
instance : TCell Try.prog 92 := ⟨⟨_, Try.underlying92, rfl⟩, let ⟨i, h, _, h2, _⟩ := info_parts info92; ⟨i, h, h2⟩⟩
instance : TElem Try.prog 92 (.nilFunc) 8 := ⟨let ⟨i, h, h1, h2, h3⟩ := info_parts info92; ⟨i, h, h2, h1, h3⟩, by decide⟩
theorem info93 : (Try.prog.info? 93).map (fun i => (i.zero, i.size, i.bytes)) = some (some (.nilFunc), 1, 8) := by kernel_rfl
instance : TCell Try.prog 93 := ⟨⟨_, Try.underlying93, rfl⟩, let ⟨i, h, _, h2, _⟩ := info_parts info93; ⟨i, h, h2⟩⟩
instance : TElem Try.prog 93 (.nilFunc) 8 := ⟨let ⟨i, h, h1, h2, h3⟩ := info_parts info93; ⟨i, h, h2, h1, h3⟩, by decide⟩
instance : TKind Try.prog 94 .u32 := ⟨Try.underlying94⟩
theorem info94 : (Try.prog.info? 94).map (fun i => (i.zero, i.size, i.bytes)) = some (some (.int .u32 0), 1, 4) := by kernel_rfl
instance : TCell Try.prog 94 := ⟨⟨_, Try.underlying94, rfl⟩, let ⟨i, h, _, h2, _⟩ := info_parts info94; ⟨i, h, h2⟩⟩
instance : TElem Try.prog 94 (.int .u32 0) 4 := ⟨let ⟨i, h, h1, h2, h3⟩ := info_parts info94; ⟨i, h, h2, h1, h3⟩, by decide⟩
theorem info95 : (Try.prog.info? 95).map (fun i => (i.zero, i.size, i.bytes)) = some (some (.nilFunc), 1, 8) := by kernel_rfl
instance : TCell Try.prog 95 := ⟨⟨_, Try.underlying95, rfl⟩, let ⟨i, h, _, h2, _⟩ := info_parts info95; ⟨i, h, h2⟩⟩
instance : TElem Try.prog 95 (.nilFunc) 8 := ⟨let ⟨i, h, h1, h2, h3⟩ := info_parts info95; ⟨i, h, h2, h1, h3⟩, by decide⟩
instance : TKind Try.prog 96 .u64 := ⟨Try.underlying96⟩
theorem info96 : (Try.prog.info? 96).map (fun i => (i.zero, i.size, i.bytes)) = some (some (.int .u64 0), 1, 8) := by kernel_rfl
instance : TCell Try.prog 96 := ⟨⟨_, Try.underlying96, rfl⟩, let ⟨i, h, _, h2, _⟩ := info_parts info96; ⟨i, h, h2⟩⟩
instance : TElem Try.prog 96 (.int .u64 0) 8 := ⟨let ⟨i, h, h1, h2, h3⟩ := info_parts info96; ⟨i, h, h2, h1, h3⟩, by decide⟩
theorem info97 : (Try.prog.info? 97).map (fun i => (i.zero, i.size, i.bytes)) = some (some (.agg [.slice none 0 0, .slice none 0 0, .slice none 0 0, .slice none 0 0, .slice none 0 0, .bool false].toArray), 6, 128) := by kernel_rfl
instance : TStruct Try.prog 97 6 [.slice none 0 0, .slice none 0 0, .slice none 0 0, .slice none 0 0, .slice none 0 0, .bool false] := ⟨⟨_, Try.underlying97, rfl⟩, let ⟨i, h, h1, h2, _⟩ := info_parts info97; ⟨i, h, h2, h1, rfl⟩⟩
instance : TBuild Try.prog 97 6 [.slice none 0 0, .slice none 0 0, .slice none 0 0, .slice none 0 0, .slice none 0 0, .bool false] := .str (let ⟨i, h, h1, _, _⟩ := info_parts info97; ⟨i, h, h1, rfl⟩) ⟨_, Try.underlying97, by kernel_rfl⟩
instance : TField Try.prog 97 0 0 := ⟨let ⟨i, h, _, h2, _⟩ := info_parts info22; ⟨_, _, i, Try.underlying97, rfl, rfl, h, h2, _, Try.underlying22, rfl⟩⟩
instance : TField Try.prog 97 1 1 := ⟨let ⟨i, h, _, h2, _⟩ := info_parts info23; ⟨_, _, i, Try.underlying97, rfl, rfl, h, h2, _, Try.underlying23, rfl⟩⟩
instance : TField Try.prog 97 2 2 := ⟨let ⟨i, h, _, h2, _⟩ := info_parts info22; ⟨_, _, i, Try.underlying97, rfl, rfl, h, h2, _, Try.underlying22, rfl⟩⟩
instance : TField Try.prog 97 3 3 := ⟨let ⟨i, h, _, h2, _⟩ := info_parts info22; ⟨_, _, i, Try.underlying97, rfl, rfl, h, h2, _, Try.underlying22, rfl⟩⟩
instance : TField Try.prog 97 4 4 := ⟨let ⟨i, h, _, h2, _⟩ := info_parts info55; ⟨_, _, i, Try.underlying97, rfl, rfl, h, h2, _, Try.underlying55, rfl⟩⟩
instance : TField Try.prog 97 5 5 := ⟨let ⟨i, h, _, h2, _⟩ := info_parts info4; ⟨_, _, i, Try.underlying97, rfl, rfl, h, h2, _, Try.underlying4, rfl⟩⟩
theorem info98 : (Try.prog.info? 98).map (fun i => (i.zero, i.size, i.bytes)) = some (some (.agg [.slice none 0 0, .slice none 0 0, .slice none 0 0, .slice none 0 0, .slice none 0 0, .bool false].toArray), 6, 128) := by kernel_rfl
instance : TStruct Try.prog 98 6 [.slice none 0 0, .slice none 0 0, .slice none 0 0, .slice none 0 0, .slice none 0 0, .bool false] := ⟨⟨_, Try.underlying98, rfl⟩, let ⟨i, h, h1, h2, _⟩ := info_parts info98; ⟨i, h, h2, h1, rfl⟩⟩
instance : TBuild Try.prog 98 6 [.slice none 0 0, .slice none 0 0, .slice none 0 0, .slice none 0 0, .slice none 0 0, .bool false] := .str (let ⟨i, h, h1, _, _⟩ := info_parts info98; ⟨i, h, h1, rfl⟩) ⟨_, Try.underlying98, by kernel_rfl⟩
instance : TField Try.prog 98 0 0 := ⟨let ⟨i, h, _, h2, _⟩ := info_parts info22; ⟨_, _, i, Try.underlying98, rfl, rfl, h, h2, _, Try.underlying22, rfl⟩⟩
instance : TField Try.prog 98 1 1 := ⟨let ⟨i, h, _, h2, _⟩ := info_parts info23; ⟨_, _, i, Try.underlying98, rfl, rfl, h, h2, _, Try.underlying23, rfl⟩⟩
instance : TField Try.prog 98 2 2 := ⟨let ⟨i, h, _, h2, _⟩ := info_parts info22; ⟨_, _, i, Try.underlying98, rfl, rfl, h, h2, _, Try.underlying22, rfl⟩⟩
instance : TField Try.prog 98 3 3 := ⟨let ⟨i, h, _, h2, _⟩ := info_parts info22; ⟨_, _, i, Try.underlying98, rfl, rfl, h, h2, _, Try.underlying22, rfl⟩⟩
instance : TField Try.prog 98 4 4 := ⟨let ⟨i, h, _, h2, _⟩ := info_parts info55; ⟨_, _, i, Try.underlying98, rfl, rfl, h, h2, _, Try.underlying55, rfl⟩⟩
instance : TField Try.prog 98 5 5 := ⟨let ⟨i, h, _, h2, _⟩ := info_parts info4; ⟨_, _, i, Try.underlying98, rfl, rfl, h, h2, _, Try.underlying4, rfl⟩⟩
theorem info99 : (Try.prog.info? 99).map (fun i => (i.zero, i.size, i.bytes)) = some (some (.nilFunc), 1, 8) := by kernel_rfl
instance : TCell Try.prog 99 := ⟨⟨_, Try.underlying99, rfl⟩, let ⟨i, h, _, h2, _⟩ := info_parts info99; ⟨i, h, h2⟩⟩
instance : TElem Try.prog 99 (.nilFunc) 8 := ⟨let ⟨i, h, h1, h2, h3⟩ := info_parts info99; ⟨i, h, h2, h1, h3⟩, by decide⟩
theorem info100 : (Try.prog.info? 100).map (fun i => (i.zero, i.size, i.bytes)) = some (some (.nilFunc), 1, 8) := by kernel_rfl
instance : TCell Try.prog 100 := ⟨⟨_, Try.underlying100, rfl⟩, let ⟨i, h, _, h2, _⟩ := info_parts info100; ⟨i, h, h2⟩⟩
instance : TElem Try.prog 100 (.nilFunc) 8 := ⟨let ⟨i, h, h1, h2, h3⟩ := info_parts info100; ⟨i, h, h2, h1, h3⟩, by decide⟩
instance : TKind Try.prog 101 .u64 := ⟨Try.underlying101⟩
theorem info101 : (Try.prog.info? 101).map (fun i => (i.zero, i.size, i.bytes)) = some (some (.int .u64 0), 1, 8) := by kernel_rfl
instance : TCell Try.prog 101 := ⟨⟨_, Try.underlying101, rfl⟩, let ⟨i, h, _, h2, _⟩ := info_parts info101; ⟨i, h, h2⟩⟩
instance : TElem Try.prog 101 (.int .u64 0) 8 := ⟨let ⟨i, h, h1, h2, h3⟩ := info_parts info101; ⟨i, h, h2, h1, h3⟩, by decide⟩
theorem info102 : (Try.prog.info? 102).map (fun i => (i.zero, i.size, i.bytes)) = some (some (.nilFunc), 1, 8) := by kernel_rfl
instance : TCell Try.prog 102 := ⟨⟨_, Try.underlying102, rfl⟩, let ⟨i, h, _, h2, _⟩ := info_parts info102; ⟨i, h, h2⟩⟩
instance : TElem Try.prog 102 (.nilFunc) 8 := ⟨let ⟨i, h, h1, h2, h3⟩ := info_parts info102; ⟨i, h, h2, h1, h3⟩, by decide⟩
theorem info103 : (Try.prog.info? 103).map (fun i => (i.zero, i.size, i.bytes)) = some (some (.nilFunc), 1, 8) := by kernel_rfl
instance : TCell Try.prog 103 := ⟨⟨_, Try.underlying103, rfl⟩, let ⟨i, h, _, h2, _⟩ := info_parts info103; ⟨i, h, h2⟩⟩
instance : TElem Try.prog 103 (.nilFunc) 8 := ⟨let ⟨i, h, h1, h2, h3⟩ := info_parts info103; ⟨i, h, h2, h1, h3⟩, by decide⟩
theorem info104 : (Try.prog.info? 104).map (fun i => (i.zero, i.size, i.bytes)) = some (some (.nilFunc), 1, 8) := by kernel_rfl
instance : TCell Try.prog 104 := ⟨⟨_, Try.underlying104, rfl⟩, let ⟨i, h, _, h2, _⟩ := info_parts info104; ⟨i, h, h2⟩⟩
instance : TElem Try.prog 104 (.nilFunc) 8 := ⟨let ⟨i, h, h1, h2, h3⟩ := info_parts info104; ⟨i, h, h2, h1, h3⟩, by decide⟩
theorem info105 : (Try.prog.info? 105).map (fun i => (i.zero, i.size, i.bytes)) = some (some (.pointer none), 1, 8) := by kernel_rfl
instance : TCell Try.prog 105 := ⟨⟨_, Try.underlying105, rfl⟩, let ⟨i, h, _, h2, _⟩ := info_parts info105; ⟨i, h, h2⟩⟩
instance : TElem Try.prog 105 (.pointer none) 8 := ⟨let ⟨i, h, h1, h2, h3⟩ := info_parts info105; ⟨i, h, h2, h1, h3⟩, by decide⟩
theorem info106 : (Try.prog.info? 106).map (fun i => (i.zero, i.size, i.bytes)) = some (some (.nilFunc), 1, 8) := by kernel_rfl
instance : TCell Try.prog 106 := ⟨⟨_, Try.underlying106, rfl⟩, let ⟨i, h, _, h2, _⟩ := info_parts info106; ⟨i, h, h2⟩⟩
instance : TElem Try.prog 106 (.nilFunc) 8 := ⟨let ⟨i, h, h1, h2, h3⟩ := info_parts info106; ⟨i, h, h2, h1, h3⟩, by decide⟩
theorem info107 : (Try.prog.info? 107).map (fun i => (i.zero, i.size, i.bytes)) = some (some (.pointer none), 1, 8) := by kernel_rfl
instance : TCell Try.prog 107 := ⟨⟨_, Try.underlying107, rfl⟩, let ⟨i, h, _, h2, _⟩ := info_parts info107; ⟨i, h, h2⟩⟩
instance : TElem Try.prog 107 (.pointer none) 8 := ⟨let ⟨i, h, h1, h2, h3⟩ := info_parts info107; ⟨i, h, h2, h1, h3⟩, by decide⟩
theorem info108 : (Try.prog.info? 108).map (fun i => (i.zero, i.size, i.bytes)) = some (some (.nilFunc), 1, 8) := by kernel_rfl
instance : TCell Try.prog 108 := ⟨⟨_, Try.underlying108, rfl⟩, let ⟨i, h, _, h2, _⟩ := info_parts info108; ⟨i, h, h2⟩⟩
instance : TElem Try.prog 108 (.nilFunc) 8 := ⟨let ⟨i, h, h1, h2, h3⟩ := info_parts info108; ⟨i, h, h2, h1, h3⟩, by decide⟩
theorem info109 : (Try.prog.info? 109).map (fun i => (i.zero, i.size, i.bytes)) = some (some (.pointer none), 1, 8) := by kernel_rfl
instance : TCell Try.prog 109 := ⟨⟨_, Try.underlying109, rfl⟩, let ⟨i, h, _, h2, _⟩ := info_parts info109; ⟨i, h, h2⟩⟩
instance : TElem Try.prog 109 (.pointer none) 8 := ⟨let ⟨i, h, h1, h2, h3⟩ := info_parts info109; ⟨i, h, h2, h1, h3⟩, by decide⟩
theorem info111 : (Try.prog.info? 111).map (fun i => (i.zero, i.size, i.bytes)) = some (some (.nilFunc), 1, 8) := by kernel_rfl
instance : TCell Try.prog 111 := ⟨⟨_, Try.underlying111, rfl⟩, let ⟨i, h, _, h2, _⟩ := info_parts info111; ⟨i, h, h2⟩⟩
instance : TElem Try.prog 111 (.nilFunc) 8 := ⟨let ⟨i, h, h1, h2, h3⟩ := info_parts info111; ⟨i, h, h2, h1, h3⟩, by decide⟩
theorem info112 : (Try.prog.info? 112).map (fun i => (i.zero, i.size, i.bytes)) = some (some (.nilFunc), 1, 8) := by kernel_rfl
instance : TCell Try.prog 112 := ⟨⟨_, Try.underlying112, rfl⟩, let ⟨i, h, _, h2, _⟩ := info_parts info112; ⟨i, h, h2⟩⟩
instance : TElem Try.prog 112 (.nilFunc) 8 := ⟨let ⟨i, h, h1, h2, h3⟩ := info_parts info112; ⟨i, h, h2, h1, h3⟩, by decide⟩
theorem info118 : (Try.prog.info? 118).map (fun i => (i.zero, i.size, i.bytes)) = some (some (.nilFunc), 1, 8) := by kernel_rfl
instance : TCell Try.prog 118 := ⟨⟨_, Try.underlying118, rfl⟩, let ⟨i, h, _, h2, _⟩ := info_parts info118; ⟨i, h, h2⟩⟩
instance : TElem Try.prog 118 (.nilFunc) 8 := ⟨let ⟨i, h, h1, h2, h3⟩ := info_parts info118; ⟨i, h, h2, h1, h3⟩, by decide⟩
instance : TKind Try.prog 119 .u8 := ⟨Try.underlying119⟩
theorem info119 : (Try.prog.info? 119).map (fun i => (i.zero, i.size, i.bytes)) = some (some (.int .u8 0), 1, 1) := by kernel_rfl
instance : TCell Try.prog 119 := ⟨⟨_, Try.underlying119, rfl⟩, let ⟨i, h, _, h2, _⟩ := info_parts info119; ⟨i, h, h2⟩⟩
instance : TElem Try.prog 119 (.int .u8 0) 1 := ⟨let ⟨i, h, h1, h2, h3⟩ := info_parts info119; ⟨i, h, h2, h1, h3⟩, by decide⟩
instance : TKind Try.prog 120 .u8 := ⟨Try.underlying120⟩
theorem info120 : (Try.prog.info? 120).map (fun i => (i.zero, i.size, i.bytes)) = some (some (.int .u8 0), 1, 1) := by kernel_rfl
instance : TCell Try.prog 120 := ⟨⟨_, Try.underlying120, rfl⟩, let ⟨i, h, _, h2, _⟩ := info_parts info120; ⟨i, h, h2⟩⟩
instance : TElem Try.prog 120 (.int .u8 0) 1 := ⟨let ⟨i, h, h1, h2, h3⟩ := info_parts info120; ⟨i, h, h2, h1, h3⟩, by decide⟩
theorem info121 : (Try.prog.info? 121).map (fun i => (i.zero, i.size, i.bytes)) = some (some (.nilFunc), 1, 8) := by kernel_rfl
instance : TCell Try.prog 121 := ⟨⟨_, Try.underlying121, rfl⟩, let ⟨i, h, _, h2, _⟩ := info_parts info121; ⟨i, h, h2⟩⟩
instance : TElem Try.prog 121 (.nilFunc) 8 := ⟨let ⟨i, h, h1, h2, h3⟩ := info_parts info121; ⟨i, h, h2, h1, h3⟩, by decide⟩
theorem info122 : (Try.prog.info? 122).map (fun i => (i.zero, i.size, i.bytes)) = some (some (.pointer none), 1, 8) := by kernel_rfl
instance : TCell Try.prog 122 := ⟨⟨_, Try.underlying122, rfl⟩, let ⟨i, h, _, h2, _⟩ := info_parts info122; ⟨i, h, h2⟩⟩
instance : TElem Try.prog 122 (.pointer none) 8 := ⟨let ⟨i, h, h1, h2, h3⟩ := info_parts info122; ⟨i, h, h2, h1, h3⟩, by decide⟩
instance : TKind Try.prog 123 .i32 := ⟨Try.underlying123⟩
theorem info123 : (Try.prog.info? 123).map (fun i => (i.zero, i.size, i.bytes)) = some (some (.int .i32 0), 1, 4) := by kernel_rfl
instance : TCell Try.prog 123 := ⟨⟨_, Try.underlying123, rfl⟩, let ⟨i, h, _, h2, _⟩ := info_parts info123; ⟨i, h, h2⟩⟩
instance : TElem Try.prog 123 (.int .i32 0) 4 := ⟨let ⟨i, h, h1, h2, h3⟩ := info_parts info123; ⟨i, h, h2, h1, h3⟩, by decide⟩
instance : TKind Try.prog 124 .i32 := ⟨Try.underlying124⟩
theorem info124 : (Try.prog.info? 124).map (fun i => (i.zero, i.size, i.bytes)) = some (some (.int .i32 0), 1, 4) := by kernel_rfl
instance : TCell Try.prog 124 := ⟨⟨_, Try.underlying124, rfl⟩, let ⟨i, h, _, h2, _⟩ := info_parts info124; ⟨i, h, h2⟩⟩
instance : TElem Try.prog 124 (.int .i32 0) 4 := ⟨let ⟨i, h, h1, h2, h3⟩ := info_parts info124; ⟨i, h, h2, h1, h3⟩, by decide⟩
end Go.Proofs.Ytlkhcelodcneiaa
/-
  Contracts of functions that write to memory that is handed to them, and calls by them. No condition.
-/
namespace Go.Proofs.Ytlkhcelodcneiaa
open Go Go.RowKit

/-- A slice of integers, or of rows of integers, that is all its own. -/
def AO.plain : AO → Prop
  | .sli _ _ => True
  | .sls _ _ _ => True
  | .ob _ => True
  | _ => False
theorem AO.plain.live {o : AO} (h : o.plain) : o.live := by cases o <;> simp_all [AO.plain, AO.live]
theorem AO.plain.ro {base : Nat} {w : World} {ok ok' : Nat → Prop} {gs gs' : List Gh} {g : Gh} {o : AO} (h : o.plain) (hr : RO base w ok gs g o) : RO base w ok' gs' g o := by
  cases o with
  | sli e xs => exact hr
  | sls e e2 xss => exact hr
  | ob q => exact hr
  | _ => exact h.elim

/-- The objects 'os' behind the handles 0, 1, .. -/
structure Objs (base : Nat) (w : World) (gs : List Gh) (os : List AO) : Prop where
  hl : gs.length = os.length
  hp : ∀ o ∈ os, o.plain
  ho : ∀ (h : Nat) g o, gs[h]? = some g → os[h]? = some o → RO base w (fun _ => True) gs g o
  hd : ∀ (h k : Nat) g g', h ≠ k → gs[h]? = some g → gs[k]? = some g' → ∀ b, b ∈ g.bl → b ∉ g'.bl
  hn : ∀ (h : Nat) g, gs[h]? = some g → ∀ b, b ∈ g.bl → base ≤ b ∧ b < w.heap.size

/-- The function writes to the objects 'os', which its arguments name, and hands back a plain value: Q speaks of both. All else is as it was. -/
def AFnU (P : Program) (f : FuncId) (args : List AV) (os : List AO) (Q : Value → List AO → Prop) : Prop :=
  HasBody P f ∧ ∀ base w gs vs, base ≤ w.heap.size → Objs base w gs os → vs.size = args.length → (∀ i : Nat, RV w (okOf gs os) gs (vs.getD i undef) (args.getD i .any)) →
    Calls P f vs w fun e w' => ∃ v os', e = .returned v ∧ Q v os' ∧ Objs base w' gs os' ∧ Below base w w' ∧ ∀ b, b < w.heap.size → (∀ (h : Nat) g, gs[h]? = some g → b ∉ g.bl) → w'.heap[b]? = w.heap[b]?

theorem start_rv {w : World} {ok : Nat → Prop} {gs : List Gh} (args : List AV) (n : Nat) (vs : Array Value) (hv : ∀ i : Nat, RV w ok gs (vs.getD i undef) (args.getD i .any)) (i : Nat) :
    RV w ok gs ((vs ++ Array.replicate n undef).getD i undef) ((Env.start args n).lk i) := by
  have e1 : (Env.start args n).lk i = args.getD i .any := by
    simp only [Env.lk, Env.fd, Env.start, fdm_enumF args 0 i (Nat.zero_le _), Nat.sub_zero]
    rw [List.getD_eq_getElem?_getD]
    cases hb : Nat.blt i (args.length + n) with
    | true => rfl
    | false =>
      have : ¬ i < args.length + n := by intro h4; rw [← Nat.blt_eq, hb] at h4; cases h4
      rw [List.getElem?_eq_none (by omega)]; rfl
  have e2 : (vs ++ Array.replicate n undef).getD i undef = vs.getD i undef := by
    simp only [Array.getD_eq_getD_getElem?, Array.getElem?_append]
    split
    · rfl
    · rename_i hi
      rw [Array.getElem?_eq_none (Nat.le_of_not_lt hi), Array.getElem?_replicate]
      split <;> rfl
  rw [e1, e2]
  exact hv i

theorem AFnU.of {P : Program} {f : FuncId} {fn : Func} {c : Code} {args : List AV} {os : List AO} {Q : Value → List AO → Prop} {n : Nat} (hf : P.funcs[f]? = some fn) (hb : fn.body = some c) (hnm : (fn.name == "runtime.NumGoroutine") = false) (hn : fn.ntmps - args.length = n)
    (h : ∀ K, AWp P c (fun _ _ => False) (fun _ _ _ => False) (fun env os1 => ∃ v os', ResIs P fn env os1 (.val v) ∧ Q v os' ∧ os1.take os.length = os' ∧ os1[os.length]? = some (.keep (os.length + 1) K) ∧ ∀ o ∈ os', o.plain) (Env.start args n) (os ++ [.keep (os.length + 1) K])) :
    AFnU P f args os Q := by
  refine ⟨⟨fn, c, hf, hnm, hb⟩, fun base w gs vs hbase hO hsz hvs => calls_of_wp hf hb ?_⟩
  rw [show fn.ntmps - vs.size = n by rw [hsz]; exact hn]
  let bl : List Nat := (List.range w.heap.size).filter fun b => decide (base ≤ b) && gs.all fun g => !g.bl.contains b
  let gk : Gh := ⟨undef, 0, bl, []⟩
  let K : Kp := ⟨fun b => w.heap[b]?, gs ++ [gk]⟩
  have hbl : ∀ b, b ∈ bl ↔ b < w.heap.size ∧ base ≤ b ∧ ∀ (h : Nat) g, gs[h]? = some g → b ∉ g.bl := by
    intro b
    simp only [bl, List.mem_filter, List.mem_range, Bool.and_eq_true, decide_eq_true_eq, List.all_eq_true, Bool.not_eq_true', List.contains_eq_mem, decide_eq_false_iff_not]
    constructor
    · rintro ⟨h1, h2, h3⟩
      exact ⟨h1, h2, fun h g hg => h3 g (List.mem_of_getElem? hg)⟩
    · rintro ⟨h1, h2, h3⟩
      exact ⟨h1, h2, fun g hg => by obtain ⟨i, hi⟩ := List.getElem?_of_mem hg; exact h3 i g hi⟩
  have hl := hO.hl
  have part : ∀ {i : Nat} {x : Gh} {y : AO}, (gs ++ [gk])[i]? = some x → (os ++ [.keep (os.length + 1) K])[i]? = some y → (gs[i]? = some x ∧ os[i]? = some y) ∨ (i = os.length ∧ x = gk ∧ y = .keep (os.length + 1) K) := by
    intro i x y hx hy
    rcases append_one hx with ⟨h1, h2⟩ | ⟨h1, rfl⟩
    · rcases append_one hy with ⟨h3, h4⟩ | ⟨h3, rfl⟩
      · exact .inl ⟨h2, h4⟩
      · omega
    · rcases append_one hy with ⟨h3, h4⟩ | ⟨h3, rfl⟩
      · omega
      · exact .inr ⟨h3, rfl, rfl⟩
  have gl : ∀ (i : Nat) x, gs[i]? = some x → (gs ++ [gk])[i]? = some x := fun i x e => by
    rw [List.getElem?_append_left (List.getElem?_eq_some_iff.1 e).1]; exact e
  have kp : Keeps (okOf gs os) (okOf (gs ++ [gk]) (os ++ [.keep (os.length + 1) K])) w w := by
    intro b hbk _
    refine ⟨fun i x y hx hy hny hm => ?_, rfl⟩
    rcases part hx hy with ⟨h1, h2⟩ | ⟨_, _, rfl⟩
    · exact hbk i x y h1 h2 hny hm
    · exact hny.elim
  have hrel : Rel base w (gs ++ [gk]) (Env.start args n) (os ++ [.keep (os.length + 1) K]) (vs ++ Array.replicate n undef) := by
    refine ⟨hbase, by simp [hl], by simp [Env.start, hsz], fun i => ?_, ?_, ?_, ?_⟩
    · exact start_rv args n vs (fun i => (hvs i).mono kp gl) i
    · intro i x y hx hy
      rcases part hx hy with ⟨h1, h2⟩ | ⟨_, rfl, rfl⟩
      · exact (hO.hp y (List.mem_of_getElem? h2)).ro (hO.ho i x y h1 h2)
      · exact ⟨fun b _ => rfl, by simp [K, hl], fun i x h => h⟩
    · intro i j g1 g2 o1 o2 hij hg1 hg2 ho1 ho2 _ _ b hb1 hb2
      rcases part hg1 ho1 with ⟨a1, a2⟩ | ⟨a1, rfl, _⟩
      · rcases part hg2 ho2 with ⟨b1, b2⟩ | ⟨_, rfl, _⟩
        · exact hO.hd i j g1 g2 hij a1 b1 b hb1 hb2
        · exact ((hbl b).1 hb2).2.2 i g1 a1 hb1
      · rcases part hg2 ho2 with ⟨b1, b2⟩ | ⟨b1, _, _⟩
        · exact ((hbl b).1 hb1).2.2 j g2 b1 hb2
        · omega
    · intro i x y hx hy _ b hb
      rcases part hx hy with ⟨h1, h2⟩ | ⟨_, rfl, _⟩
      · exact hO.hn i x h1 b hb
      · exact ⟨((hbl b).1 hb).2.1, ((hbl b).1 hb).1⟩
  refine wp_mono (h K base w w _ _ hrel (Below.refl _ _)) ?_
  intro e a w' hq
  cases e with
  | normal => obtain ⟨_, _, _, _, _, _, hx⟩ := hq; exact hx.elim
  | exit j => obtain ⟨_, _, _, _, _, _, hx⟩ := hq; exact hx.elim
  | ret =>
    obtain ⟨env, os1, gs1, hr, hd, hbel, v, os', h1, h2, h3, h4, h5⟩ := hq
    obtain ⟨u, hu, hv⟩ := h1 _ _ _ _ hr
    cases hv
    have hlt : os.length < os1.length := (List.getElem?_eq_some_iff.1 h4).1
    have hltg : os.length < gs1.length := by have := hr.hl; omega
    obtain ⟨g1, hg1⟩ : ∃ g1, gs1[os.length]? = some g1 := ⟨_, List.getElem?_eq_getElem hltg⟩
    obtain ⟨r1, r2, r3⟩ := hr.ho _ _ _ hg1 h4
    have pin : ∀ (i : Nat) x, gs[i]? = some x → gs1[i]? = some x := fun i x e => r3 i x (gl i x e)
    have egk : g1 = gk := by
      have := r3 os.length gk (by show (gs ++ [gk])[os.length]? = some gk; rw [← hl]; simp)
      rw [hg1] at this
      exact Option.some.inj this
    rw [egk] at r1
    have get' : ∀ {i : Nat} {y : AO}, os'[i]? = some y → os1[i]? = some y ∧ i < os.length := by
      intro i y hy
      rw [← h3, List.getElem?_take] at hy
      split at hy
      · exact ⟨hy, ‹_›⟩
      · cases hy
    refine ⟨hd, v, hu, v, os', rfl, h2, ⟨?_, h5, ?_, hO.hd, ?_⟩, hbel, ?_⟩
    · rw [← h3, List.length_take]; omega
    · intro i x y hx hy
      obtain ⟨h6, h7⟩ := get' hy
      exact (h5 y (List.mem_of_getElem? hy)).ro (hr.ho i x y (pin i x hx) h6)
    · intro i x hx b hb
      have := hO.hn i x hx b hb
      exact ⟨this.1, Nat.lt_of_lt_of_le this.2 hbel.size⟩
    · intro b hb hnot
      rcases Nat.lt_or_ge b base with h6 | h6
      · exact hbel.block b h6
      · exact r1 b ((hbl b).2 ⟨hb, h6, hnot⟩)
  | goto l => exact (hq : False).elim
  | panic ch => exact (hq : False).elim
  | outgrown => exact (hq : False).elim

/-! ### The caller -/
/-- What may be handed on where the handles 'H' are handed over to be written to. -/
inductive ImmU (os : List AO) (H : List Nat) : AV → AV → Prop
  | any (a : AV) : ImmU os H a .any
  | val (v : Value) : ImmU os H (.val v) (.val v)
  | ints (xs : List Int) : ImmU os H (.ints xs) (.ints xs)
  | intss (xss : List (List Int)) : ImmU os H (.intss xss) (.intss xss)
  | ro (r : Ro) : ImmU os H (.ro r) (.ro r)
  | sem (hs : List Nat) {a : AV} {r : Ro} : Reads os hs a r → (∀ h, h ∈ hs → h ∉ H) → ImmU os H a (.ro r)
  | nil : ImmU os H (.val (.slice none 0 0)) (.ints [])
  | nils : ImmU os H (.val (.slice none 0 0)) (.intss [])
  | own {k h : Nat} : H[k]? = some h → ImmU os H (.own h) (.own k)
  | optr {k h i : Nat} : H[k]? = some h → ImmU os H (.optr h i) (.optr k i)
  | sli {h : Nat} {e : TypeId} {xs : List Int} : os[h]? = some (.sli e xs) → h ∉ H → ImmU os H (.own h) (.ints xs)
  | sls {h : Nat} {e e2 : TypeId} {xss : List (List Int)} : os[h]? = some (.sls e e2 xss) → h ∉ H → ImmU os H (.own h) (.intss xss)
  | orow {h i : Nat} {e e2 : TypeId} {xss : List (List Int)} : os[h]? = some (.sls e e2 xss) → h ∉ H → ImmU os H (.orow h i) (.ints (xss.getD i []))
  | agg {l l' : List AV} : l.length = l'.length → (∀ i : Nat, ImmU os H (l.getD i .any) (l'.getD i .any)) → ImmU os H (.agg l) (.agg l')

theorem RowAt.of_owns' {w : World} {base : Nat} {e : TypeId} {v : Value} {n : Nat} {vs : List Value} {ok : Nat → Prop} (h : w.ownsRow base e 1 v n vs) (hok : ∀ b, v.ownBlock = some b → ok b) : RowAt w ok v vs := by
  obtain ⟨a, cap, hv, h1, h2, h3⟩ := RowAt.of_owns h
  refine ⟨a, cap, hv, h1, h2, fun hp => ?_⟩
  obtain ⟨b, off, ha, _, hc⟩ := h3 hp
  exact ⟨b, off, ha, hok b (by rw [hv, ha]; rfl), hc⟩

section
variable {base : Nat} {w w' : World} {gs : List Gh} {env : Env} {os : List AO} {tm : Array Value} {H : List Nat} {osP : List AO}

/-- The ghosts that are handed over. -/
def selG (gs : List Gh) (H : List Nat) : List Gh := H.map fun h => gs.getD h ⟨undef, 0, [], []⟩

theorem selG_get (hlt : ∀ h ∈ H, h < gs.length) {k : Nat} {x : Gh} (hx : (selG gs H)[k]? = some x) : ∃ h, H[k]? = some h ∧ gs[h]? = some x := by
  simp only [selG, List.getElem?_map] at hx
  cases hk : H[k]? with
  | none => rw [hk] at hx; cases hx
  | some h =>
    have hl := hlt h (List.mem_of_getElem? hk)
    rw [hk] at hx
    have e1 : gs[h]? = some gs[h] := List.getElem?_eq_getElem hl
    simp [e1] at hx
    exact ⟨h, rfl, by rw [e1, hx]⟩
theorem selG_of {k h : Nat} {x : Gh} (hk : H[k]? = some h) (hx : gs[h]? = some x) : (selG gs H)[k]? = some x := by
  simp [selG, List.getElem?_map, hk, hx]

/-- The objects that are handed over: 'osP'. -/
structure Handed (os : List AO) (H : List Nat) (osP : List AO) : Prop where
  nd : H.Nodup
  ob : ∀ (k : Nat) h, H[k]? = some h → osP[k]? = os[h]?
  ln : osP.length = H.length
  pl : ∀ o ∈ osP, o.plain

theorem Handed.lt (hh : Handed os H osP) : ∀ h ∈ H, h < os.length := by
  intro h hm
  obtain ⟨k, hk⟩ := List.getElem?_of_mem hm
  have h1 := (List.getElem?_eq_some_iff.1 hk).1
  have h2 := hh.ob k h hk
  rw [List.getElem?_eq_getElem (by rw [hh.ln]; exact h1)] at h2
  exact (List.getElem?_eq_some_iff.1 h2.symm).1

theorem Handed.get (hh : Handed os H osP) {k h : Nat} (hk : H[k]? = some h) : ∃ o, osP[k]? = some o ∧ os[h]? = some o ∧ o.plain := by
  have h1 := (List.getElem?_eq_some_iff.1 hk).1
  have h2 := hh.ob k h hk
  rw [List.getElem?_eq_getElem (by rw [hh.ln]; exact h1)] at h2
  exact ⟨_, List.getElem?_eq_getElem _, h2.symm, hh.pl _ (List.getElem_mem _)⟩

theorem Rel.objs (hr : Rel base w gs env os tm) (hh : Handed os H osP) : Objs base w (selG gs H) osP := by
  have hlt : ∀ h ∈ H, h < gs.length := fun h hm => by rw [hr.hl]; exact hh.lt h hm
  refine ⟨by simp [selG, hh.ln], hh.pl, ?_, ?_, ?_⟩
  · intro k x o hx ho
    obtain ⟨h, hk, hg⟩ := selG_get hlt hx
    obtain ⟨o', h1, h2, h3⟩ := hh.get hk
    rw [ho] at h1; cases h1
    exact h3.ro (hr.ho _ _ _ hg h2)
  · intro k l x y hkl hx hy b hb1 hb2
    obtain ⟨h1, hk, hg1⟩ := selG_get hlt hx
    obtain ⟨h2, hl, hg2⟩ := selG_get hlt hy
    obtain ⟨o1, _, a1, p1⟩ := hh.get hk
    obtain ⟨o2, _, a2, p2⟩ := hh.get hl
    refine hr.hd h1 h2 x y o1 o2 (fun e => hkl ?_) hg1 hg2 a1 a2 p1.live.ne p2.live.ne b hb1 hb2
    subst e
    exact (List.getElem?_inj (List.getElem?_eq_some_iff.1 hk).1 hh.nd).1 (hk.trans hl.symm)
  · intro k x hx b hb
    obtain ⟨h, hk, hg⟩ := selG_get hlt hx
    obtain ⟨o, _, a1, p1⟩ := hh.get hk
    exact hr.hn h x o hg a1 p1.live.ne b hb

theorem ImmU.rv (hr : Rel base w gs env os tm) (hh : Handed os H osP) {a a' : AV} (h : ImmU os H a a') : ∀ {v : Value}, RV w (okOf gs os) gs v a → RV w (okOf (selG gs H) osP) (selG gs H) v a' := by
  have hlt : ∀ h ∈ H, h < gs.length := fun h hm => by rw [hr.hl]; exact hh.lt h hm
  have kp : Keeps (okOf gs os) (okOf (selG gs H) osP) w w := by
    intro b hb _
    refine ⟨fun k x y hx hy hny hm => ?_, rfl⟩
    obtain ⟨h, hk, hg⟩ := selG_get hlt hx
    obtain ⟨o, a1, a2, p⟩ := hh.get hk
    exact hb h x o hg a2 p.live hm
  -- the blocks of a handle that is kept are none of those that are handed over
  have free : ∀ {h : Nat} {g : Gh} {o : AO}, gs[h]? = some g → os[h]? = some o → o ≠ .dead → h ∉ H → ∀ b, b ∈ g.bl → okOf (selG gs H) osP b := by
    intro h g o hg ho hnd hnot b hb k x y hx hy hny hm
    obtain ⟨h', hk, hg'⟩ := selG_get hlt hx
    obtain ⟨o', a1, a2, p⟩ := hh.get hk
    exact hr.hd h h' g x o o' (fun e => hnot (by rw [e]; exact List.mem_of_getElem? hk)) hg hg' ho a2 hnd p.live.ne b hb hm
  induction h with
  | any a => intro v _; exact .any v
  | val v => intro v hv; cases hv; exact .val _
  | ints xs => intro v hv; cases hv with | ints h1 => exact .ints (h1.mono kp)
  | intss xss => intro v hv; cases hv with | intss h1 => exact .intss (h1.mono kp)
  | ro r => intro v hv; cases hv with | ro h1 => exact .ro (r.up kp h1)
  | sem hs h1 h2 => intro v hv; exact .ro (h1 base w gs _ hr.ho (fun h hm g o hg ho hnd b hb => free hg ho hnd (h2 h hm) b hb) kp v hv)
  | nil => intro v hv; cases hv; exact .ints IntsAt.nil
  | nils => intro v hv; cases hv; exact .intss IntssAt.nil
  | own h1 => intro v hv; cases hv with | own hg => exact .own (selG_of h1 hg)
  | optr h1 => intro v hv; cases hv with | optr hg => exact .optr (selG_of h1 hg)
  | sli h1 h2 => intro v hv; cases hv with | own hg =>
      obtain ⟨a1, a2, a3⟩ := hr.ho _ _ _ hg h1
      exact .ints ⟨RowAt.of_owns' a1 fun b hb => free hg h1 (by simp) h2 b (a3.mem hb), a2⟩
  | sls h1 h2 => intro v hv; cases hv with | own hg =>
      obtain ⟨vs, bs, mb, a1, a2, a3, a4, a5, a6, a7, _⟩ := hr.ho _ _ _ hg h1
      refine .intss ⟨vs, RowAt.of_owns' a1 fun b hb => free hg h1 (by simp) h2 b ?_, a2, fun i u hu => ⟨RowAt.of_owns' (a5 i u hu).1 fun b hb => free hg h1 (by simp) h2 b ?_, (a5 i u hu).2.1⟩⟩
      · rw [a7]
        rcases a6 with ⟨b1, _⟩ | ⟨b1, b2⟩
        · rw [b1] at hb; cases hb
        · rw [b1] at hb; cases hb; simp [b2]
      · rw [a7]
        refine List.mem_append.2 (.inr (List.mem_flatten.2 ⟨bs.getD i [], ?_, by rw [← (a5 i u hu).2.2, hb]; simp⟩))
        have hi : i < bs.length := by
          have := (List.getElem?_eq_some_iff.1 hu).1
          omega
        rw [List.getD_eq_getElem?_getD, List.getElem?_eq_getElem hi]
        simp
  | @orow h i e e2 xss h1 h2 => intro v hv; cases hv with | orow hg hrow =>
      obtain ⟨vs, bs, mb, a1, a2, a3, a4, a5, a6, a7, _⟩ := hr.ho _ _ _ hg h1
      rw [a4] at hrow
      refine .ints ⟨RowAt.of_owns' (a5 _ _ hrow).1 fun b hb => free hg h1 (by simp) h2 b ?_, (a5 _ _ hrow).2.1⟩
      rw [a7]
      refine List.mem_append.2 (.inr (List.mem_flatten.2 ⟨bs.getD i [], ?_, by rw [← (a5 _ _ hrow).2.2, hb]; simp⟩))
      have hi : i < bs.length := by
        have := (List.getElem?_eq_some_iff.1 hrow).1
        omega
      rw [List.getD_eq_getElem?_getD, List.getElem?_eq_getElem hi]
      simp
  | agg h1 _ ih => intro v hv; cases hv with | agg h2 h4 h3 => exact .agg (by omega) h4 fun i => ih i (h3 i)

/-- The objects at the handles 'H' are now those. -/
def setAll : List AO → List Nat → List AO → List AO
  | os, h :: H, o :: osP => setAll (os.set h o) H osP
  | os, _, _ => os

theorem setAll_get : ∀ {H : List Nat} {osP os : List AO} {i : Nat} {y : AO}, H.Nodup → osP.length = H.length → (setAll os H osP)[i]? = some y → (∃ k : Nat, H[k]? = some i ∧ osP[k]? = some y) ∨ (i ∉ H ∧ os[i]? = some y)
  | [], _, os, i, y, _, _, h => .inr ⟨by simp, by simpa [setAll] using h⟩
  | _ :: _, [], os, i, y, _, hl, h => by simp at hl
  | h0 :: H, o :: osP, os, i, y, hn, hl, h => by
    simp only [setAll] at h
    rcases setAll_get (List.nodup_cons.1 hn).2 (by simpa using hl) h with ⟨k, h1, h2⟩ | ⟨h1, h2⟩
    · exact .inl ⟨k + 1, by simpa using h1, by simpa using h2⟩
    · rw [List.getElem?_set] at h2
      split at h2
      · subst_vars
        split at h2
        · exact .inl ⟨0, rfl, by simpa using h2⟩
        · cases h2
      · rename_i hne
        exact .inr ⟨by simp [h1]; exact fun e => hne e.symm, h2⟩
theorem length_setAll : ∀ {H : List Nat} {osP os : List AO}, (setAll os H osP).length = os.length
  | [], osP, os => by cases osP <;> simp [setAll]
  | _ :: _, [], os => by simp [setAll]
  | h :: H, o :: osP, os => by simp [setAll, length_setAll]

theorem Rel.updAll (hr : Rel base w gs env os tm) (hh : Handed os H osP) {os' : List AO} (ho' : Objs base w' (selG gs H) os') (hbel : Below base w w')
    (hw : ∀ b, b < w.heap.size → (∀ (k : Nat) g, (selG gs H)[k]? = some g → b ∉ g.bl) → w'.heap[b]? = w.heap[b]?) : Rel base w' gs env (setAll os H os') tm := by
  have hlt : ∀ h ∈ H, h < gs.length := fun h hm => by rw [hr.hl]; exact hh.lt h hm
  have hl' : os'.length = H.length := by rw [← ho'.hl]; simp [selG]
  -- an object of the new state, and what stood there
  have part : ∀ {i : Nat} {x : Gh} {y : AO}, gs[i]? = some x → (setAll os H os')[i]? = some y →
      (∃ (k : Nat) (o : AO), H[k]? = some i ∧ os'[k]? = some y ∧ y.plain ∧ os[i]? = some o ∧ o.plain) ∨ (i ∉ H ∧ os[i]? = some y) := by
    intro i x y hx hy
    rcases setAll_get hh.nd hl' hy with ⟨k, h1, h2⟩ | ⟨h1, h2⟩
    · obtain ⟨o, _, a2, p⟩ := hh.get h1
      exact .inl ⟨k, o, h1, h2, ho'.hp y (List.mem_of_getElem? h2), a2, p⟩
    · exact .inr ⟨h1, h2⟩
  have hout : ∀ b, okOf gs os b → ∀ (k : Nat) g, (selG gs H)[k]? = some g → b ∉ g.bl := by
    intro b hb k g hg
    obtain ⟨h, hk, hg'⟩ := selG_get hlt hg
    obtain ⟨o, _, a2, p⟩ := hh.get hk
    exact hb h g o hg' a2 p.live
  have kp : Keeps (okOf gs os) (okOf gs (setAll os H os')) w w' := by
    intro b hb hlt'
    refine ⟨fun i x y hx hy hny hm => ?_, hw b hlt' (hout b hb)⟩
    rcases part hx hy with ⟨k, o, _, _, _, a4, p⟩ | ⟨_, h2⟩
    · exact hb i x o hx a4 p.live hm
    · exact hb i x y hx h2 hny hm
  have same : ∀ {i : Nat} {x : Gh} {y : AO}, gs[i]? = some x → os[i]? = some y → i ∉ H → y ≠ .dead → ∀ b, b ∈ x.bl → w'.heap[b]? = w.heap[b]? := by
    intro i x y hx hy hi hny b hb
    refine hw b (hr.hn i x y hx hy hny b hb).2 fun k g hg hm => ?_
    obtain ⟨h, hk, hg'⟩ := selG_get hlt hg
    obtain ⟨o, _, a2, p⟩ := hh.get hk
    exact hr.hd i h x g y o (fun e => hi (by rw [e]; exact List.mem_of_getElem? hk)) hx hg' hy a2 hny p.live.ne b hb hm
  -- liveness of what stood there
  have was : ∀ {i : Nat} {x : Gh} {y : AO}, gs[i]? = some x → (setAll os H os')[i]? = some y → y ≠ .dead → ∃ o, os[i]? = some o ∧ o ≠ .dead := by
    intro i x y hx hy hny
    rcases part hx hy with ⟨k, o, _, _, _, a4, p⟩ | ⟨_, h2⟩
    · exact ⟨o, a4, p.live.ne⟩
    · exact ⟨y, h2, hny⟩
  refine ⟨Nat.le_trans hr.hb hbel.size, by rw [length_setAll]; exact hr.hl, hr.hs, fun i => (hr.he i).mono kp (fun _ _ e => e), ?_, ?_, ?_⟩
  · intro i x y hx hy
    rcases part hx hy with ⟨k, o, h1, h2, p2, a4, p⟩ | ⟨h1, h2⟩
    · exact p2.ro (ho'.ho k x y (selG_of h1 hx) h2)
    · exact (hr.ho i x y hx h2).mono kp (fun _ _ e => e) fun hny => same hx h2 h1 hny
  · intro i j g1 g2 o1 o2 hij hg1 hg2 ho1 ho2 hn1 hn2
    obtain ⟨y1, b1, c1⟩ := was hg1 ho1 hn1
    obtain ⟨y2, b2, c2⟩ := was hg2 ho2 hn2
    exact hr.hd i j g1 g2 y1 y2 hij hg1 hg2 b1 b2 c1 c2
  · intro i x y hx hy hny b hb
    obtain ⟨z, h1, h2⟩ := was hx hy hny
    have := hr.hn i x z hx h1 h2 b hb
    exact ⟨this.1, Nat.lt_of_lt_of_le this.2 hbel.size⟩

def ImmUs (os : List AO) (H : List Nat) : List AV → List AV → Prop
  | [], [] => True
  | a :: as0, b :: bs => ImmU os H a b ∧ ImmUs os H as0 bs
  | _, _ => False
theorem ImmUs.get : ∀ {l l' : List AV}, ImmUs os H l l' → l.length = l'.length ∧ ∀ i : Nat, ImmU os H (l.getD i .any) (l'.getD i .any)
  | [], [], _ => ⟨rfl, fun i => .any _⟩
  | a :: as0, b :: bs, h => by
    obtain ⟨h1, h2⟩ := h
    have ih := ImmUs.get h2
    refine ⟨by simp [ih.1], fun i => ?_⟩
    cases i with
    | zero => simpa using h1
    | succ i => simpa using ih.2 i
  | [], _ :: _, h => h.elim
  | _ :: _, [], h => h.elim
theorem ImmU.aggs {l l' : List AV} (h : ImmUs os H l l') : ImmU os H (.agg l) (.agg l') := .agg h.get.1 h.get.2

theorem c_callu {P : Program} {d : Option Tmp} {ty : TypeId} {pos : String} {af : Array Edge} {g : Option (Nat × Bool)} {f : FuncId} {args : List AV} {Q : Value → List AO → Prop} (hc : AFnU P f args osP Q) {xs : List Operand} {ats : Array TypeId} (hh : Handed os H osP)
    (hi : ImmUs os H (xs.map (AV.ev env)) args) :
    COp P ⟨d, .call { callee := .value (.func f), args := xs.toArray, argTypes := ats }, ty, pos, af, g⟩ env os (fun r e o => ∃ v os', Q v os' ∧ r = .val v ∧ e = env ∧ o = setAll os H os') := by
  intro base w gs tm hr
  have hg := hi.get
  refine ⟨f, _, run_call hc.1 xs ats _ rfl w, (hc.2 base w (selG gs H) _ hr.hb (hr.objs hh) (by simpa using hg.1) fun i => ?_).mono ?_⟩
  · have h1 := hg.2 i
    have e1 : (xs.map (AV.ev env)).getD i .any = match xs[i]? with | some x => AV.ev env x | none => .any := by
      simp only [List.getD_eq_getElem?_getD, List.getElem?_map]; cases xs[i]? <;> rfl
    have e2 : (xs.map (Act.eval ⟨tm, []⟩)).toArray.getD i undef = match xs[i]? with | some x => Act.eval ⟨tm, []⟩ x | none => undef := by
      simp only [Array.getD_eq_getD_getElem?, List.getElem?_toArray, List.getElem?_map]; cases xs[i]? <;> rfl
    rw [e1] at h1
    rw [e2]
    cases hx : xs[i]? with
    | some x => rw [hx] at h1; exact h1.rv hr hh (hr.ev x)
    | none => rw [hx] at h1; exact h1.rv hr hh (.any _)
  · rintro e w' ⟨v, os', rfl, hq, ho', hbel, hw⟩
    exact ⟨v, .val v, env, setAll os H os', gs, rfl, ⟨v, os', hq, rfl, rfl, rfl⟩, hr.updAll hh ho' hbel hw, .val v, hbel⟩
end
end Go.Proofs.Ytlkhcelodcneiaa
/-
  The call's own slices of rows: a row goes in, by a store or by an append; a row's cell is written. No condition.
-/
namespace Go.Proofs.Ytlkhcelodcneiaa
open Go Go.RowKit

/-- The rows of handle 'h' are no more named. -/
def AV.noRow1 (h : Nat) : AV → AV
  | .orow k i => if k = h then .any else .orow k i
  | .orptr k i j => if k = h then .any else .orptr k i j
  | .agg _ => .any
  | .tup _ => .any
  | a => a
def AV.noRow (h : Nat) : AV → AV
  | .orow k i => if k = h then .any else .orow k i
  | .orptr k i j => if k = h then .any else .orptr k i j
  | .agg l => .agg (l.map (AV.noRow1 h))
  | .tup l => .tup (l.map (AV.noRow1 h))
  | a => a

def AO.via (f : AV → AV) (p : Nat) : AO → AO
  | .bx T avs => .bx T (avs.map f)
  | .slr e avs => .slr e (avs.map f)
  | .keep n K => if p < n then .keep 0 ⟨K.snap, []⟩ else .keep n K
  | o => o
theorem AO.via_dead {f : AV → AV} {p : Nat} {o : AO} : o.via f p = .dead ↔ o = .dead := by cases o <;> simp [AO.via]; split <;> simp
theorem AO.via_live {f : AV → AV} {p : Nat} {o : AO} : (o.via f p).live ↔ o.live := by
  cases o with
  | keep n K => simp only [AO.via]; split <;> exact Iff.rfl
  | _ => exact Iff.rfl

/-- Ghosts other than p stay; that of p keeps its value. -/
structure SameV (p : Nat) (gs gs' : List Gh) : Prop where
  other : ∀ (k : Nat) g, k ≠ p → gs[k]? = some g → gs'[k]? = some g
  same : ∀ g, gs[p]? = some g → ∃ g', gs'[p]? = some g' ∧ g'.v = g.v ∧ g'.b = g.b

section
variable {w w' : World} {ok ok' : Nat → Prop} {gs gs' : List Gh} {p : Nat}

theorem SameV.own (s : SameV p gs gs') {h : Nat} {g : Gh} (hg : gs[h]? = some g) : ∃ g', gs'[h]? = some g' ∧ g'.v = g.v ∧ g'.b = g.b := by
  by_cases e : h = p
  · subst e; exact s.same g hg
  · exact ⟨g, s.other h g e hg, rfl, rfl⟩

theorem RV.noRow1 (k : Keeps ok ok' w w') (s : SameV p gs gs') {v : Value} {a : AV} (hv : RV w ok gs v a) : RV w' ok' gs' v (a.noRow1 p) := by
  cases hv with
  | any v => exact .any v
  | val v => exact .val v
  | ints h => exact .ints (h.mono k)
  | intss h => exact .intss (h.mono k)
  | @ro v r h => exact .ro (r.up k h)
  | iptr h h1 h2 => exact .iptr (h.mono k) h1 h2
  | iiptr h h1 h2 => exact .iiptr (h.mono k) h1 h2
  | own h1 =>
    obtain ⟨g', a1, a2, _⟩ := s.own h1
    rw [← a2]; exact .own a1
  | optr h1 =>
    obtain ⟨g', a1, _, a3⟩ := s.own h1
    rw [← a3]; exact .optr a1
  | osub h1 h2 h3 h4 =>
    obtain ⟨g', a1, _, a3⟩ := s.own h1
    exact .osub a1 (fun hp => by rw [a3]; exact h2 hp) h3 h4
  | @orow j i g v h1 h2 =>
    simp only [AV.noRow1]; split
    · exact .any _
    · exact .orow (s.other _ _ ‹_› h1) h2
  | @orptr j i n blk m c g h1 h2 =>
    simp only [AV.noRow1]; split
    · exact .any _
    · exact .orptr (s.other _ _ ‹_› h1) h2
  | agg _ _ _ => exact .any _
  | tup _ _ => exact .any _

theorem RV.noRow (k : Keeps ok ok' w w') (s : SameV p gs gs') {v : Value} {a : AV} (hv : RV w ok gs v a) : RV w' ok' gs' v (a.noRow p) := by
  cases hv with
  | any v => exact .any v
  | val v => exact .val v
  | ints h => exact .ints (h.mono k)
  | intss h => exact .intss (h.mono k)
  | @ro v r h => exact .ro (r.up k h)
  | iptr h h1 h2 => exact .iptr (h.mono k) h1 h2
  | iiptr h h1 h2 => exact .iiptr (h.mono k) h1 h2
  | own h1 =>
    obtain ⟨g', a1, a2, _⟩ := s.own h1
    rw [← a2]; exact .own a1
  | optr h1 =>
    obtain ⟨g', a1, _, a3⟩ := s.own h1
    rw [← a3]; exact .optr a1
  | osub h1 h2 h3 h4 =>
    obtain ⟨g', a1, _, a3⟩ := s.own h1
    exact .osub a1 (fun hp => by rw [a3]; exact h2 hp) h3 h4
  | @orow j i g v h1 h2 =>
    simp only [AV.noRow]; split
    · exact .any _
    · exact .orow (s.other _ _ ‹_› h1) h2
  | @orptr j i n blk m c g h1 h2 =>
    simp only [AV.noRow]; split
    · exact .any _
    · exact .orptr (s.other _ _ ‹_› h1) h2
  | agg h1 h3 h2 => exact .agg (by simpa using h1) h3 fun i => by rw [getD_map_f _ rfl]; exact (h2 i).noRow1 k s
  | tup h1 h2 => exact .tup (by simpa using h1) fun i => by rw [getD_map_f _ rfl]; exact (h2 i).noRow1 k s
end

/-- Object 'p' takes the blocks of object 'k', which is no more. -/
theorem Rel.absorb {base : Nat} {w w' : World} {gs : List Gh} {env : Env} {os : List AO} {tm : Array Value} (h : Rel base w gs env os tm) {p k : Nat} {g gk : Gh} {o ok : AO} (hg : gs[p]? = some g) (ho : os[p]? = some o) (hlv : o.live)
    (hgk : gs[k]? = some gk) (hok : os[k]? = some ok) (hlk : ok.live) (hpk : p ≠ k) (g' : Gh) (o' : AO) (f : AV → AV) (hf : f .any = .any)
    (hw : ∀ b, b < w.heap.size → b ∉ g.bl → w'.heap[b]? = w.heap[b]?) (hsz : w.heap.size ≤ w'.heap.size)
    (hbl : ∀ b, b ∈ g'.bl → (b ∈ g.bl ∨ b ∈ gk.bl ∨ w.heap.size ≤ b) ∧ b < w'.heap.size)
    (hrv : ∀ {ok' : Nat → Prop} {v : Value} {a : AV}, Keeps (okOf gs os) ok' w w' → RV w (okOf gs os) gs v a → RV w' ok' (gs.set p g') v (f a))
    (hro : Keeps (okOf gs os) (okOf (gs.set p g') (((os.map (AO.via f p)).set p o').set k .dead)) w w' → RO base w' (okOf (gs.set p g') (((os.map (AO.via f p)).set p o').set k .dead)) (gs.set p g') g' o') :
    Rel base w' (gs.set p g') (env.mp f) (((os.map (AO.via f p)).set p o').set k .dead) tm := by
  have hnd := hlv.ne
  have hnk := hlk.ne
  have hpg : p < gs.length := (List.getElem?_eq_some_iff.1 hg).1
  have hpo : p < os.length := (List.getElem?_eq_some_iff.1 ho).1
  have hko : k < os.length := (List.getElem?_eq_some_iff.1 hok).1
  have gset : ∀ {i : Nat} {x : Gh}, (gs.set p g')[i]? = some x → (i = p ∧ x = g') ∨ (i ≠ p ∧ gs[i]? = some x) := by
    intro i x e
    rw [List.getElem?_set] at e
    split at e
    · subst_vars; simp at e; exact .inl ⟨rfl, e.symm⟩
    · exact .inr ⟨fun e' => by simp_all, e⟩
  -- an object of the new state that is there
  have oset : ∀ {i : Nat} {x : AO}, (((os.map (AO.via f p)).set p o').set k .dead)[i]? = some x → x ≠ .dead → i ≠ k ∧ ((i = p ∧ x = o') ∨ (i ≠ p ∧ ∃ y, os[i]? = some y ∧ x = y.via f p)) := by
    intro i x e hx
    rw [List.getElem?_set] at e
    split at e
    · subst_vars; simp [hko] at e; exact absurd e.symm hx
    · rename_i hik
      refine ⟨fun e' => hik e'.symm, ?_⟩
      rw [List.getElem?_set] at e
      split at e
      · subst_vars; simp [hpo] at e; exact .inl ⟨rfl, e.symm⟩
      · refine .inr ⟨fun e' => by simp_all, ?_⟩
        rw [List.getElem?_map] at e
        cases hy : os[i]? with
        | none => simp [hy] at e
        | some y => simp [hy] at e; exact ⟨y, rfl, e.symm⟩
  have kp : Keeps (okOf gs os) (okOf (gs.set p g') (((os.map (AO.via f p)).set p o').set k .dead)) w w' := by
    intro b hb hlt
    refine ⟨?_, hw b hlt (hb p g o hg ho hlv)⟩
    intro i x y hx hy hny hmem
    obtain ⟨hik, hy'⟩ := oset hy hny.ne
    rcases gset hx with ⟨rfl, rfl⟩ | ⟨hi, hx'⟩
    · rcases (hbl b hmem).1 with h1 | h1 | h1
      · exact hb i g o hg ho hlv h1
      · exact hb k gk ok hgk hok hlk h1
      · omega
    · rcases hy' with ⟨rfl, rfl⟩ | ⟨_, z, hz, rfl⟩
      · exact hi rfl
      · exact hb i x z hx' hz (AO.via_live.1 hny) hmem
  refine ⟨Nat.le_trans h.hb hsz, by simp [h.hl], h.hs, fun i => by rw [Env.lk_mp _ hf]; exact hrv kp (h.he i), ?_, ?_, ?_⟩
  · intro i x y hx hy
    by_cases hyd : y = .dead
    · subst hyd; trivial
    · obtain ⟨hik, hy'⟩ := oset hy hyd
      rcases gset hx with ⟨rfl, rfl⟩ | ⟨hi, hx'⟩
      · rcases hy' with ⟨_, rfl⟩ | ⟨hi, _⟩
        · exact hro kp
        · exact absurd rfl hi
      · rcases hy' with ⟨rfl, rfl⟩ | ⟨_, z, hz, rfl⟩
        · exact absurd rfl hi
        · have hz' := h.ho i x z hx' hz
          have same : z ≠ .dead → ∀ b, b ∈ x.bl → w'.heap[b]? = w.heap[b]? := fun hn b hb =>
            hw b (h.hn i x z hx' hz hn b hb).2 (h.hd i p x g z o hi hx' hg hz ho hn hnd b hb)
          cases z with
          | ob q => exact q.up (fun b hb => same (by simp) b hb) hz'
          | bx T avs =>
            obtain ⟨cs, h1, h2, h3, h4, h5, h6, h7⟩ := hz'
            exact ⟨cs, by rw [same (by simp) x.b (by simp [h3])]; exact h1, h2, h3, h4, by simpa using h5, h6, fun j => by rw [getD_map_f _ hf]; exact hrv kp (h7 j)⟩
          | keep n K =>
            obtain ⟨h1, h2, h3⟩ := hz'
            have hs : ∀ b, b ∈ x.bl → w'.heap[b]? = K.snap b := fun b hb => by rw [same (by simp) b hb]; exact h1 b hb
            simp only [AO.via]
            split
            · exact ⟨hs, rfl, fun i x hx => by simp at hx⟩
            · refine ⟨hs, h2, fun i y hy => ?_⟩
              have := (List.getElem?_eq_some_iff.1 hy).1
              rw [List.getElem?_set, if_neg (by omega)]
              exact h3 i y hy
          | dead => trivial
          | sli e xs =>
            obtain ⟨h1, h2, h3⟩ := hz'
            exact ⟨ownsRow_of_block h1 fun b hb => same (by simp) b (h3.mem hb), h2, h3⟩
          | slr e avs =>
            obtain ⟨vs, h1, h2, h3, h4⟩ := hz'
            exact ⟨vs, ownsRow_of_block h1 fun b hb => same (by simp) b (h4.mem hb), by simpa using h2, fun j => by rw [getD_map_f _ hf]; exact hrv kp (h3 j), h4⟩
          | sls e e2 xss =>
            obtain ⟨vs, bs, mb, h1, h2, h3, h4, h5, h6, h7, h8⟩ := hz'
            refine ⟨vs, bs, mb, ownsRow_of_block h1 fun b hb => same (by simp) b ?_, h2, h3, h4, fun i u hu => ?_, h6, h7, h8⟩
            · rw [h7]
              rcases h6 with ⟨h6, _⟩ | ⟨h6, h6'⟩
              · rw [h6] at hb; cases hb
              · rw [h6] at hb; cases hb; simp [h6']
            · obtain ⟨r1, r2, r3⟩ := h5 i u hu
              refine ⟨ownsRow_of_block r1 fun b hb => same (by simp) b ?_, r2, r3⟩
              rw [h7]
              refine List.mem_append.2 (.inr (List.mem_flatten.2 ⟨bs.getD i [], ?_, by rw [← r3, hb]; simp⟩))
              have hi : i < bs.length := by
                have := (List.getElem?_eq_some_iff.1 hu).1
                omega
              rw [List.getD_eq_getElem?_getD, List.getElem?_eq_getElem hi]
              simp
  · -- what p has now is apart from all others
    have apart : ∀ {j : Nat} {x : Gh} {z : AO}, j ≠ p → j ≠ k → gs[j]? = some x → os[j]? = some z → z ≠ .dead → ∀ b, b ∈ g'.bl → b ∉ x.bl := by
      intro j x z hjp hjk hx hz hzn b hb hb2
      rcases (hbl b hb).1 with h1 | h1 | h1
      · exact h.hd p j g x o z (fun e => hjp e.symm) hg hx ho hz hnd hzn b h1 hb2
      · exact h.hd k j gk x ok z (fun e => hjk e.symm) hgk hx hok hz hnk hzn b h1 hb2
      · have := (h.hn j x z hx hz hzn b hb2).2; omega
    intro i j g1 g2 o1 o2 hij hg1 hg2 ho1 ho2 hn1 hn2 b hb1 hb2
    obtain ⟨hik, ho1'⟩ := oset ho1 hn1
    obtain ⟨hjk, ho2'⟩ := oset ho2 hn2
    rcases gset hg1 with ⟨rfl, rfl⟩ | ⟨hi, hg1'⟩
    · rcases gset hg2 with ⟨rfl, _⟩ | ⟨hj, hg2'⟩
      · exact hij rfl
      · rcases ho2' with ⟨rfl, _⟩ | ⟨_, z, hz, rfl⟩
        · exact hij rfl
        · exact apart hj hjk hg2' hz (fun e => hn2 (AO.via_dead.2 e)) b hb1 hb2
    · rcases ho1' with ⟨rfl, _⟩ | ⟨_, z, hz, rfl⟩
      · exact absurd rfl hi
      · have hzn : z ≠ .dead := fun e => hn1 (AO.via_dead.2 e)
        rcases gset hg2 with ⟨rfl, rfl⟩ | ⟨hj, hg2'⟩
        · exact apart hi hik hg1' hz hzn b hb2 hb1
        · rcases ho2' with ⟨rfl, _⟩ | ⟨_, y, hy, rfl⟩
          · exact absurd rfl hj
          · exact h.hd i j g1 g2 z y hij hg1' hg2' hz hy hzn (fun e => hn2 (AO.via_dead.2 e)) b hb1 hb2
  · intro i x y hx hy hny b hb
    obtain ⟨hik, hy'⟩ := oset hy hny
    rcases gset hx with ⟨rfl, rfl⟩ | ⟨hi, hx'⟩
    · have := hbl b hb
      refine ⟨?_, this.2⟩
      rcases this.1 with h1 | h1 | h1
      · exact (h.hn i g o hg ho hnd b h1).1
      · exact (h.hn k gk ok hgk hok hnk b h1).1
      · exact Nat.le_trans h.hb h1
    · rcases hy' with ⟨rfl, rfl⟩ | ⟨_, z, hz, rfl⟩
      · exact absurd rfl hi
      · have := h.hn i x z hx' hz (fun e => hny (AO.via_dead.2 e)) b hb
        exact ⟨this.1, Nat.lt_of_lt_of_le this.2 hsz⟩

theorem flatten_set {bs : List (List Nat)} {i : Nat} (c : List Nat) (hi : i < bs.length) : (bs.set i c).flatten = (bs.take i).flatten ++ (c ++ (bs.drop (i + 1)).flatten) := by
  rw [List.set_eq_take_append_cons_drop, if_pos hi, List.flatten_append, List.flatten_cons]
theorem flatten_at {bs : List (List Nat)} {i : Nat} (hi : i < bs.length) : bs.flatten = (bs.take i).flatten ++ (bs.getD i [] ++ (bs.drop (i + 1)).flatten) := by
  have h := flatten_set (bs.getD i []) hi
  rw [← h]
  congr 1
  apply List.ext_getElem?
  intro j
  rw [List.getElem?_set]
  split
  · subst_vars; simp [hi]
  · rfl
theorem nodup_swap {mb A B D c : List Nat} (h : (mb ++ (A ++ (B ++ D))).Nodup) (hc : c.Nodup) (hd : ∀ b, b ∈ c → b ∉ mb ++ (A ++ (B ++ D))) : (mb ++ (A ++ (c ++ D))).Nodup := by
  simp only [List.nodup_append, List.mem_append] at *
  obtain ⟨h1, ⟨h2, ⟨h3, h4, h5⟩, h6⟩, h7⟩ := h
  refine ⟨h1, ⟨h2, ⟨hc, h4, ?_⟩, ?_⟩, ?_⟩
  · intro a ha b hb e
    subst e
    exact hd a ha (.inr (.inr (.inr hb)))
  · intro a ha b hb e
    subst e
    rcases hb with hb | hb
    · exact hd a hb (.inr (.inl ha))
    · exact h6 a ha a (.inr hb) rfl
  · intro a ha b hb e
    subst e
    rcases hb with hb | hb | hb
    · exact h7 a ha a (.inl hb) rfl
    · exact hd a hb (.inl ha)
    · exact h7 a ha a (.inr (.inr hb)) rfl

section
variable {P : Program} {env : Env} {os : List AO} {d : Option Tmp} {ty : TypeId} {pos : String} {af : Array Edge} {g : Option (Nat × Bool)}

theorem GB.list {g : Gh} (h : GB g) : g.v.ownBlock.toList = g.bl := by
  rcases h with ⟨h1, h2⟩ | ⟨h1, h2⟩
  · rw [h1, h2]; rfl
  · rw [h1, h2]; rfl
theorem GB.nodup {g : Gh} (h : GB g) : g.bl.Nodup := by
  rcases h with ⟨_, h2⟩ | ⟨_, h2⟩ <;> rw [h2] <;> simp

/-- A row goes into a cell. -/
theorem l_store_row {t : TypeId} [ht : TCell P t] {x y : Operand} {h i k : Nat} {e e2 e3 : TypeId} {xss : List (List Int)} {ys : List Int} (hx : AV.ev env x = .optr h i) (hs : os[h]? = some (.sls e e2 xss)) (hi : i < xss.length) (hy : AV.ev env y = .own k) (hk : os[k]? = some (.sli e3 ys)) (he : e3 = e2)
    (hhk : (h == k) = false) :
    LOp P ⟨d, .store t x y, ty, pos, af, g⟩ env os .any (env.mp (AV.noRow h)) (((os.map (AO.via (AV.noRow h) h)).set h (.sls e e2 (xss.set i ys))).set k .dead) := by
  subst he
  have hne : h ≠ k := by simpa using hhk
  intro base w gs tm hr
  have hxv := hr.ev x
  have hyv := hr.ev y
  rw [hx] at hxv
  rw [hy] at hyv
  generalize hv : Act.eval ⟨tm, []⟩ x = v at hxv
  generalize hu : Act.eval ⟨tm, []⟩ y = u at hyv
  cases hxv with
  | @optr _ _ gh hg =>
  cases hyv with
  | @own _ gk hgk =>
    obtain ⟨vs, bs, mb, a1, a2, a3, a4, a5, a6, a7, a8⟩ := hr.ho _ _ _ hg hs
    obtain ⟨b1, b2, b3⟩ := hr.ho _ _ _ hgk hk
    have hiv : i < vs.length := by omega
    have hib : i < bs.length := by omega
    obtain ⟨b, cap, e1, e2', e3', e4⟩ := own_slice a1 (i := i) hiv
    have emb : mb = [gh.b] ∧ gh.v.ownBlock = some gh.b := by
      rcases a6 with ⟨c1, _⟩ | ⟨c1, c2⟩
      · rw [c1] at e2'; cases e2'
      · exact ⟨c2, c1⟩
    have eb : gh.b = b := by rw [emb.2] at e2'; exact Option.some.inj e2'
    have hcell : w.cell? ⟨gh.b, i, none⟩ = some vs[i] := by rw [eb, e3']; simp [hiv]
    obtain ⟨ua, uc, eu⟩ := ownsRow_slice b1
    have a1' := a1
    rw [e1] at a1'
    have hst := a1'.stored i gk.v
    have hother : ∀ c, c < w.heap.size → c ∉ gh.bl → (w.setCell ⟨b, i, none⟩ gk.v).heap[c]? = w.heap[c]? := fun c hc hcb => hst.2.block c hc (fun e' => hcb (by rw [a7, emb.1, eb]; simp [Option.some.inj e']))
    have hgb : gh.b ∈ gh.bl := by rw [a7, emb.1]; simp
    have hdis : ∀ c, c ∈ gk.bl → c ∉ gh.bl := hr.hd k h gk gh _ _ (fun e => hne e.symm) hgk hg hk hs (by simp) (by simp)
    have hap : ∀ c, c ≠ gh.b → (w.setCell ⟨b, i, none⟩ gk.v).heap[c]? = w.heap[c]? := fun c hc => heap_setCell_other w ⟨b, i, none⟩ c gk.v (fun e' => hc (by rw [eb]; exact e'))
    let g' : Gh := ⟨gh.v, gh.b, mb ++ (bs.set i gk.bl).flatten, vs.set i gk.v⟩
    have hhg : h < gs.length := (List.getElem?_eq_some_iff.1 hg).1
    have sv : SameV h gs (gs.set h g') := by
      refine ⟨fun j z hj hz => ?_, fun z hz => ⟨g', by simp [hhg], ?_⟩⟩
      · rw [List.getElem?_set, if_neg (fun e => hj e.symm)]; exact hz
      · rw [hg] at hz; cases hz; exact ⟨rfl, rfl⟩
    refine ⟨undef, w.setCell ⟨b, i, none⟩ gk.v, gs.set h g', .inr ⟨?_, rfl⟩, hr.absorb hg hs trivial hgk hk trivial hne g' _ (AV.noRow h) rfl hother hst.2.size ?_ (fun kp hv => hv.noRow kp sv) ?_, .any _, ?_⟩
    · have := run_store_cell (P := P) (t := t) (a := ⟨gh.b, i, none⟩) hcell (by rw [eb]; exact e4) (v := gk.v) (by rw [eu]; rfl) (by rw [eu]; rfl)
      rw [eb] at this hv
      simp only [execOp, hv, hu, Sem.run_bind, this, Result.andThen_ok, Sem.run_pure]
    · intro c hc
      have hc' : c ∈ mb ∨ c ∈ (bs.set i gk.bl).flatten := List.mem_append.1 hc
      have key : c ∈ gh.bl ∨ c ∈ gk.bl := by
        rcases hc' with hc' | hc'
        · left; rw [a7]; exact List.mem_append.2 (.inl hc')
        · rw [flatten_set _ hib] at hc'
          rcases List.mem_append.1 hc' with hc' | hc'
          · left; rw [a7, flatten_at hib]; simp [hc']
          · rcases List.mem_append.1 hc' with hc' | hc'
            · right; exact hc'
            · left; rw [a7, flatten_at hib]; simp [hc']
      refine ⟨?_, ?_⟩
      · rcases key with key | key
        · exact .inl key
        · exact .inr (.inl key)
      · rcases key with key | key
        · have := (hr.hn _ _ _ hg hs (by simp) c key).2
          exact Nat.lt_of_lt_of_le this hst.2.size
        · have := (hr.hn _ _ _ hgk hk (by simp) c key).2
          exact Nat.lt_of_lt_of_le this hst.2.size
    · intro kp
      refine ⟨vs.set i gk.v, bs.set i gk.bl, mb, ?_, by simp [a2], by simp [a3], rfl, fun j u hj => ?_, ?_, rfl, ?_⟩
      · rw [List.length_set, e1]; exact hst.1
      · rw [List.getElem?_set] at hj
        have egd : (xss.set i ys).getD j [] = if j = i then ys else xss.getD j [] := by
          simp only [List.getD_eq_getElem?_getD, List.getElem?_set]
          by_cases e : i = j
          · subst e; simp [hi]
          · have e' : ¬ j = i := fun h => e h.symm
            simp [e, e']
        have egb : (bs.set i gk.bl).getD j [] = if j = i then gk.bl else bs.getD j [] := by
          simp only [List.getD_eq_getElem?_getD, List.getElem?_set]
          by_cases e : i = j
          · subst e; simp [hib]
          · have e' : ¬ j = i := fun h => e h.symm
            simp [e, e']
        rw [egd, egb]
        split at hj
        · subst_vars
          cases hj
          simp only [if_true]
          exact ⟨ownsRow_of_block b1 fun c hc => hap c fun e => hdis c (b3.mem hc) (by rw [e]; exact hgb), b2, b3.list⟩
        · rename_i hij
          have hij' : ¬ j = i := fun e => hij e.symm
          simp only [hij', if_false]
          obtain ⟨r1, r2, r3⟩ := a5 j u hj
          refine ⟨ownsRow_of_block r1 fun c hc => hap c fun e => ?_, r2, r3⟩
          -- a row's block is not the outer one
          have hjb : j < bs.length := by
            have := (List.getElem?_eq_some_iff.1 hj).1
            omega
          have hcm : c ∈ bs.flatten := List.mem_flatten.2 ⟨bs.getD j [], by rw [List.getD_eq_getElem?_getD, List.getElem?_eq_getElem hjb]; simp, by rw [← r3, hc]; simp⟩
          rw [a7, emb.1] at a8
          have := (List.nodup_cons.1 a8).1
          rw [← e] at this
          exact this hcm
      · exact .inr ⟨emb.2, emb.1⟩
      · show (mb ++ (bs.set i gk.bl).flatten).Nodup
        rw [flatten_set _ hib]
        rw [a7, flatten_at hib] at a8
        refine nodup_swap a8 b3.nodup fun c hc => ?_
        have := hdis c hc
        rwa [a7, flatten_at hib] at this
    · have hbb : base ≤ b := by rw [← eb]; exact (hr.hn _ _ _ hg hs (by simp) gh.b hgb).1
      exact (Below.refl _ _).setCell (p := ⟨b, i, none⟩) hbb _
end
end Go.Proofs.Ytlkhcelodcneiaa
/-
  The rules of the abstract machine in the form in which the walks use them. No condition.
-/
namespace Go.Proofs.Ytlkhcelodcneiaa
open Go Go.RowKit

/-- An operand's abstract value, found in its slot. -/
def evo (env : Env) : Operand → Option AV
  | .tmp t => env.fd t
  | .const v => some (.val v)
  | .global _ => none
  | .func f => some (.val (.func (.func f) #[] #[]))

section
variable {P : Program} {env : Env} {os : List AO} {d : Option Tmp} {ty : TypeId} {pos : String} {af : Array Edge} {g : Option (Nat × Bool)} {N : APost} {X : Nat → APost} {Rt : APost} {l rest : List Oper} {K : APost} {q : Md} {wl : Bool}

theorem ev_of {x : Operand} {a : AV} (h : evo env x = some a) : AV.ev env x = a := by
  cases x with
  | tmp t => exact Env.lk_of h
  | const v => simp only [evo, Option.some.injEq] at h; exact h
  | global g => cases h
  | func f => simp only [evo, Option.some.injEq] at h; exact h
theorem gd_of {t : Nat} {a : AV} (h : env.fd t = some a) : env.lk t = a := Env.lk_of h
theorem gdl {l : List AV} {t : Nat} {a : AV} (h : l[t]? = some a) : l.getD t .any = a := by simp [h]

theorem a_move {x : Operand} {a : AV} (hx : evo env x = some a) : QOp P wl ⟨d, .move x, ty, pos, af, g⟩ env os a := ev_of hx ▸ q_move
theorem a_assign {x : Operand} {a : AV} (hx : evo env x = some a) : QOp P wl ⟨d, .assign x, ty, pos, af, g⟩ env os a := ev_of hx ▸ q_assign
theorem a_pick_t {c x y : Operand} {a : AV} (hc : evo env c = some (.val (.bool true))) (hx : evo env x = some a) : QOp P wl ⟨d, .pick c x y, ty, pos, af, g⟩ env os a := ev_of hx ▸ q_pick_t (ev_of hc)
theorem a_pick_f {c x y : Operand} {a : AV} (hc : evo env c = some (.val (.bool false))) (hy : evo env y = some a) : QOp P wl ⟨d, .pick c x y, ty, pos, af, g⟩ env os a := ev_of hy ▸ q_pick_f (ev_of hc)
theorem a_len {t e : TypeId} [TSlice P t e] {x : Operand} {a : AV} {n : Nat} (hx : evo env x = some a) (hl : HasLen os a n) : QOp P wl ⟨d, .call { callee := .builtin .len, args := #[x], argTypes := #[t] }, ty, pos, af, g⟩ env os (.i n) :=
  q_len (ev_of hx ▸ hl)

theorem im_nil : Imms os (([] : List Operand).map (AV.ev env)) [] := trivial
theorem im_cons {x : Operand} {xs : List Operand} {a b : AV} {bs : List AV} (hx : evo env x = some a) (h : Imm os a b) (hs : Imms os (xs.map (AV.ev env)) bs) : Imms os ((x :: xs).map (AV.ev env)) (b :: bs) :=
  ⟨ev_of hx ▸ h, hs⟩

theorem im_agg1 {a a' : AV} (h : Imm os a a') : Imm os (.agg [a]) (.agg [a']) := Imm.aggs ⟨h, trivial⟩
theorem im_agg2 {a a' b b' : AV} (h : Imm os a a') (h2 : Imm os b b') : Imm os (.agg [a, b]) (.agg [a', b']) := Imm.aggs ⟨h, h2, trivial⟩
theorem AWp.condT {c : Operand} {x y : Code} (hc : evo env c = some (.val (.bool true))) (h : AWp P x N X Rt env os) : AWp P (.cond c x y) N X Rt env os :=
  .cond (ev_of hc) (fun _ => h) (fun e => by cases e)
theorem AWp.condF {c : Operand} {x y : Code} (hc : evo env c = some (.val (.bool false))) (h : AWp P y N X Rt env os) : AWp P (.cond c x y) N X Rt env os :=
  .cond (ev_of hc) (fun e => by cases e) (fun _ => h)
theorem AWp.condP {c : Operand} {x y : Code} {p : Prop} {_ : Decidable p} (hc : evo env c = some (.val (.bool (decide p)))) (ht : p → AWp P x N X Rt env os) (hf : ¬ p → AWp P y N X Rt env os) : AWp P (.cond c x y) N X Rt env os :=
  .cond (ev_of hc) (fun e => ht (of_decide_eq_true e)) (fun e => hf (of_decide_eq_false e))
theorem AWp.condN {c : Operand} {x y : Code} {p : Prop} {_ : Decidable p} (hc : evo env c = some (.val (.bool (!decide p)))) (ht : ¬ p → AWp P x N X Rt env os) (hf : p → AWp P y N X Rt env os) : AWp P (.cond c x y) N X Rt env os :=
  .cond (ev_of hc) (fun e => ht (by simpa using e)) (fun e => hf (by simpa using e))
theorem AWp.condB {c : Operand} {x y : Code} {b : Bool} (hc : evo env c = some (.val (.bool b))) (ht : b = true → AWp P x N X Rt env os) (hf : b = false → AWp P y N X Rt env os) : AWp P (.cond c x y) N X Rt env os :=
  .cond (ev_of hc) ht hf

theorem imu_nil {H : List Nat} : ImmUs os H (([] : List Operand).map (AV.ev env)) [] := trivial
theorem imu_cons {H : List Nat} {x : Operand} {xs : List Operand} {a b : AV} {bs : List AV} (hx : evo env x = some a) (h : ImmU os H a b) (hs : ImmUs os H (xs.map (AV.ev env)) bs) : ImmUs os H ((x :: xs).map (AV.ev env)) (b :: bs) :=
  ⟨ev_of hx ▸ h, hs⟩
theorem imu_agg2 {H : List Nat} {a a' b b' : AV} (h : ImmU os H a a') (h2 : ImmU os H b b') : ImmU os H (.agg [a, b]) (.agg [a', b']) := ImmU.aggs ⟨h, h2, trivial⟩
theorem handed1 {h : Nat} {o : AO} (ho : os[h]? = some o) (hp : o.plain) : Handed os [h] [o] := by
  refine ⟨by simp, fun k x hk => ?_, rfl, by simpa using hp⟩
  cases k with
  | zero => simp at hk; subst hk; simp [ho]
  | succ k => simp at hk
section guards
variable {d' d'' : Tmp} {op : Op} {j : Nat} {pol : Bool}
theorem AOps.splitP (_hj : (l[j]?).bind (·.dst) = some d'') {p : Prop} {_ : Decidable p} (hd : env.fd d'' = some (.val (.bool (decide p)))) (ht : p → AOps P q l (⟨some d', op, ty, pos, af, some (j, pol)⟩ :: rest) K (env.up d'' (.val (.bool true))) os)
    (hf : ¬ p → AOps P q l (⟨some d', op, ty, pos, af, some (j, pol)⟩ :: rest) K (env.up d'' (.val (.bool false))) os) : AOps P q l (⟨some d', op, ty, pos, af, some (j, pol)⟩ :: rest) K env os :=
  .split d'' (gd_of hd) (fun e => ht (of_decide_eq_true e)) (fun e => hf (of_decide_eq_false e))
theorem AOps.splitN (_hj : (l[j]?).bind (·.dst) = some d'') {p : Prop} {_ : Decidable p} (hd : env.fd d'' = some (.val (.bool (!decide p)))) (ht : ¬ p → AOps P q l (⟨some d', op, ty, pos, af, some (j, pol)⟩ :: rest) K (env.up d'' (.val (.bool true))) os)
    (hf : p → AOps P q l (⟨some d', op, ty, pos, af, some (j, pol)⟩ :: rest) K (env.up d'' (.val (.bool false))) os) : AOps P q l (⟨some d', op, ty, pos, af, some (j, pol)⟩ :: rest) K env os :=
  .split d'' (gd_of hd) (fun e => ht (by simpa using e)) (fun e => hf (by simpa using e))
theorem AOps.splitB (_hj : (l[j]?).bind (·.dst) = some d'') {b : Bool} (hd : env.fd d'' = some (.val (.bool b))) (ht : b = true → AOps P q l (⟨some d', op, ty, pos, af, some (j, pol)⟩ :: rest) K (env.up d'' (.val (.bool true))) os)
    (hf : b = false → AOps P q l (⟨some d', op, ty, pos, af, some (j, pol)⟩ :: rest) K (env.up d'' (.val (.bool false))) os) : AOps P q l (⟨some d', op, ty, pos, af, some (j, pol)⟩ :: rest) K env os :=
  .split d'' (gd_of hd) ht hf
end guards

theorem ResIs.v1 {fn : Func} {t : Tmp} (h : fn.results = #[.tmp t]) {a : AV} (ht : env.fd t = some a) : ResIs P fn env os a := gd_of ht ▸ .t1 h
theorem ResIs.vv2 {fn : Func} {t u : Tmp} (h : fn.results = #[.tmp t, .tmp u]) {a b : Value} (ha : env.fd t = some (.val a)) (hb : env.fd u = some (.val b)) : ResIs P fn env os (.val (.tuple #[a, b])) := .v2 h (gd_of ha) (gd_of hb)
theorem ResIs.a2 {fn : Func} {t u : Tmp} (h : fn.results = #[.tmp t, .tmp u]) {a b : AV} (ha : env.fd t = some a) (hb : env.fd u = some b) : ResIs P fn env os (.tup [a, b]) := gd_of ha ▸ gd_of hb ▸ .t2 h

theorem ResIs.bool {fn : Func} {t : Tmp} (h : fn.results = #[.tmp t]) {b b' : Bool} (ht : env.fd t = some (.b b)) (e : b = b') : ResIs P fn env os (.val (.bool b')) := e ▸ .v1 h ht
theorem ResIs.int {fn : Func} {t : Tmp} (h : fn.results = #[.tmp t]) {b b' : Int} (ht : env.fd t = some (.i b)) (e : b = b') : ResIs P fn env os (.val (.int .i64 b')) := e ▸ .v1 h ht
theorem ResIs.intint {fn : Func} {t u : Tmp} (h : fn.results = #[.tmp t, .tmp u]) {a a' b b' : Int} (ht : env.fd t = some (.i a)) (hu : env.fd u = some (.i b)) (e1 : a = a') (e2 : b = b') : ResIs P fn env os (.val (.tuple #[.int .i64 a', .int .i64 b'])) :=
  e1 ▸ e2 ▸ .vv2 h ht hu
theorem ResIs.c1u {fn : Func} {p u : Tmp} {T : TypeId} (h : fn.results = #[.cell p T, .tmp u]) {n : Nat} {zs : List Value} [ht : TStruct P T n zs] {k : Nat} {T' : TypeId} {avs : List AV} {b : AV} (hp : env.fd p = some (.optr k 0)) (hs : os[k]? = some (.bx T' avs)) (hn : avs.length = n)
    (hu : env.fd u = some b) : ResIs P fn env os (.tup [.agg avs, b]) := gd_of hu ▸ .c1t h (gd_of hp) hs hn
/-- Facts on a list that is read. -/
theorem RVs.ints {w : World} {args : List AV} {vs : Array Value} (h : RVs w args vs) {i : Nat} {xs : List Int} (hi : args[i]? = some (.ints xs)) : (∀ x ∈ xs, inI x) ∧ xs.length ≤ 9223372036854775807 := by
  have := h.2 i
  rw [gdl hi] at this
  generalize vs.getD i undef = v at this
  cases this with
  | ints h1 =>
    obtain ⟨⟨a, cap, _, h2, h3, _⟩, h4⟩ := h1
    exact ⟨h4, by simp [maxLen] at h3; simp at h2; omega⟩
end

/-- The facts that the arguments bring with them. -/
def ArgOk : AV → Prop
  | .ints xs => (∀ x ∈ xs, inI x) ∧ xs.length ≤ 9223372036854775807
  | .intss xss => (∀ xs ∈ xss, (∀ x ∈ xs, inI x) ∧ xs.length ≤ 9223372036854775807) ∧ xss.length ≤ 9223372036854775807
  | .agg l => ∀ a ∈ l, match a with
    | .ints xs => (∀ x ∈ xs, inI x) ∧ xs.length ≤ 9223372036854775807
    | .intss xss => (∀ xs ∈ xss, (∀ x ∈ xs, inI x) ∧ xs.length ≤ 9223372036854775807) ∧ xss.length ≤ 9223372036854775807
    | _ => True
  | _ => True

theorem IntsAt.ok {w : World} {ok : Nat → Prop} {v : Value} {xs : List Int} (h : IntsAt w ok v xs) : (∀ x ∈ xs, inI x) ∧ xs.length ≤ 9223372036854775807 := by
  obtain ⟨⟨a, cap, _, h2, h3, _⟩, h4⟩ := h
  exact ⟨h4, by simp [maxLen] at h3; simp at h2; omega⟩
theorem IntssAt.ok {w : World} {ok : Nat → Prop} {v : Value} {xss : List (List Int)} (h : IntssAt w ok v xss) : (∀ xs ∈ xss, (∀ x ∈ xs, inI x) ∧ xs.length ≤ 9223372036854775807) ∧ xss.length ≤ 9223372036854775807 := by
  obtain ⟨vs, ⟨a, cap, _, h2, h3, _⟩, h4, h5⟩ := h
  refine ⟨fun xs hx => ?_, by simp [maxLen] at h3; omega⟩
  obtain ⟨i, hi, rfl⟩ := List.getElem_of_mem hx
  have := (h5 i _ (List.getElem?_eq_getElem (by omega))).ok
  simpa [hi] using this

theorem RV.argOk {w : World} {ok : Nat → Prop} {gs : List Gh} {v : Value} {a : AV} (h : RV w ok gs v a) : ArgOk a := by
  cases h with
  | ints h => exact h.ok
  | intss h => exact h.ok
  | @agg vs l h1 h2 h3 =>
    intro b hb
    obtain ⟨i, hi, rfl⟩ := List.getElem_of_mem hb
    have := h3 i
    rw [show l.getD i .any = l[i] by simp [hi]] at this
    show match l[i] with
      | .ints xs => (∀ x ∈ xs, inI x) ∧ xs.length ≤ 9223372036854775807
      | .intss xss => (∀ xs ∈ xss, (∀ x ∈ xs, inI x) ∧ xs.length ≤ 9223372036854775807) ∧ xss.length ≤ 9223372036854775807
      | _ => True
    generalize l[i] = b at this
    generalize vs.getD i undef = v at this
    cases this with
    | ints h => exact h.ok
    | intss h => exact h.ok
    | _ => trivial
  | _ => trivial

/-- A contract's proof may lean on what the arguments bring with them. -/
theorem AFnV.facts {P : Program} {f : FuncId} {args : List AV} {v : Value} (hb : HasBody P f) (h : (∀ a ∈ args, ArgOk a) → AFnV P f args v) : AFnV P f args v := by
  refine ⟨hb, fun w vs hvs => (h fun a ha => ?_).2 w vs hvs⟩
  obtain ⟨i, hi, rfl⟩ := List.getElem_of_mem ha
  have := (hvs.2 i).argOk
  rwa [show args.getD i .any = args[i] by simp [hi]] at this
theorem AFn.facts {P : Program} {f : FuncId} {args : List AV} {Q : AV → List AO → Prop} (hb : HasBody P f) (h : (∀ a ∈ args, ArgOk a) → AFn P f args Q) : AFn P f args Q := by
  refine ⟨hb, fun w vs hvs => (h fun a ha => ?_).2 w vs hvs⟩
  obtain ⟨i, hi, rfl⟩ := List.getElem_of_mem ha
  have := (hvs.2 i).argOk
  rwa [show args.getD i .any = args[i] by simp [hi]] at this

theorem AFnV.start {P : Program} {f : FuncId} {fn : Func} {c : Code} {args : List AV} {v : Value} {m : Nat} (hf : P.funcs[f]? = some fn) (hn : fn.ntmps = m) (hb : fn.body = some c) (hnm : (fn.name == "runtime.NumGoroutine") = false)
    (h : (∀ a ∈ args, ArgOk a) → AWp P c (fun _ _ => False) (fun _ _ _ => False) (fun env os => ResIs P fn env os (.val v)) (Env.start args (m - args.length)) []) : AFnV P f args v :=
  .facts ⟨fn, c, hf, hnm, hb⟩ fun hk => .of hf hb hnm (by rw [hn]) (h hk)
theorem AFn.start {P : Program} {f : FuncId} {fn : Func} {c : Code} {args : List AV} {Q : AV → List AO → Prop} {m : Nat} (hf : P.funcs[f]? = some fn) (hn : fn.ntmps = m) (hb : fn.body = some c) (hnm : (fn.name == "runtime.NumGoroutine") = false)
    (h : (∀ a ∈ args, ArgOk a) → AWp P c (fun _ _ => False) (fun _ _ _ => False) (fun env os => ∃ a r objs, ResIs P fn env os a ∧ Ret1 os a r objs ∧ Q r objs) (Env.start args (m - args.length)) []) : AFn P f args Q :=
  .facts ⟨fn, c, hf, hnm, hb⟩ fun hk => .of hf hb hnm (by rw [hn]) (h hk)

theorem AFnU.start {P : Program} {f : FuncId} {fn : Func} {c : Code} {args : List AV} {objs : List AO} {Q : Value → List AO → Prop} {m : Nat} (hf : P.funcs[f]? = some fn) (hn : fn.ntmps = m) (hb : fn.body = some c) (hnm : (fn.name == "runtime.NumGoroutine") = false)
    (h : ∀ K, AWp P c (fun _ _ => False) (fun _ _ _ => False) (fun env os1 => ∃ v os', ResIs P fn env os1 (.val v) ∧ Q v os' ∧ os1.take objs.length = os' ∧ os1[objs.length]? = some (.keep (objs.length + 1) K) ∧ ∀ o ∈ os', o.plain) (Env.start args (m - args.length)) (objs ++ [.keep (objs.length + 1) K])) :
    AFnU P f args objs Q := .of hf hb hnm (by rw [hn]) h

theorem geti_mem {xs : List Int} {i : Int} (h0 : 0 ≤ i) (h1 : i < xs.length) : geti xs i ∈ xs := by
  unfold geti
  have : i.toNat < xs.length := by omega
  simp [this]
theorem gets_mem {xss : List (List Int)} {i : Int} (h0 : 0 ≤ i) (h1 : i < xss.length) : gets xss i ∈ xss := by
  unfold gets
  have : i.toNat < xss.length := by omega
  simp [this]
theorem inI_of {n : Int} (h0 : -9223372036854775808 ≤ n) (h1 : n ≤ 9223372036854775807) : inI n := ⟨h0, h1⟩

/-- A loop's head against a literal. -/
theorem le_nil {e : Env} : LeM e [] := trivial
theorem le_eq {e : Env} {k : Nat} {a a' : AV} {t : List (Nat × AV)} (h : e.fd k = some a) (ha : a = a') (ht : LeM e t) : LeM e ((k, a') :: t) := ⟨ha ▸ h, ht⟩
theorem lee {e e' : Env} (h : e'.n = e.n) (hm : LeM e e'.m) : LeE e e' := ⟨h, hm⟩
theorem lo_nil {a : List AO} : LeO a [] := by cases a <;> trivial
theorem lo_dead {a : AO} {as0 bs : List AO} (h : LeO as0 bs) : LeO (a :: as0) (.dead :: bs) := ⟨.inl rfl, h⟩
theorem lo_eq {a b : AO} {as0 bs : List AO} (e : a = b) (h : LeO as0 bs) : LeO (a :: as0) (b :: bs) := ⟨.inr (.inl e), h⟩
end Go.Proofs.Ytlkhcelodcneiaa
/-
  The rules of the abstract machine joined with their operations, by program: a walk finds its rule by the operation's head. No condition.
-/
namespace Go.Proofs.Ytlkhcelodcneiaa
open Go Go.RowKit
theorem if_pos' {c : Prop} [Decidable c] {A B : Prop} (hc : c) (h : A) : if c then A else B := by rw [if_pos hc]; exact h
theorem if_neg' {c : Prop} [Decidable c] {A B : Prop} (hc : ¬ c) (h : B) : if c then A else B := by rw [if_neg hc]; exact h
theorem lt_of_get {α : Type} {l : List α} {i : Nat} {a : α} (h : l[i]? = some a) : i < l.length := (List.getElem?_eq_some_iff.1 h).1
section
variable {P : Program} {env : Env} {os : List AO} {d : Tmp} {ty : TypeId} {pos : String} {af : Array Edge} {g : Option (Nat × Bool)} {l rest : List Oper} {K : APost} {q : Md}
theorem w_move {x : Operand} {a : AV} (hw : wantedA l env ⟨some d, .move x, ty, pos, af, g⟩ = some true) (hx : evo env x = some a) (h' : AOps P q l rest K (env.up d (a)) os) : AOps P q l (⟨some d, .move x, ty, pos, af, g⟩ :: rest) K env os := AOps.qo hw (a_move hx) h'
theorem w_assign {x : Operand} {a : AV} (hw : wantedA l env ⟨some d, .assign x, ty, pos, af, g⟩ = some true) (hx : evo env x = some a) (h' : AOps P q l rest K (env.up d (a)) os) : AOps P q l (⟨some d, .assign x, ty, pos, af, g⟩ :: rest) K env os := AOps.qo hw (a_assign hx) h'
theorem w_pickT {c x y : Operand} {a : AV} (hw : wantedA l env ⟨some d, .pick c x y, ty, pos, af, g⟩ = some true) (hc : evo env c = some (.val (.bool true))) (hx : evo env x = some a) (h' : AOps P q l rest K (env.up d (a)) os) : AOps P q l (⟨some d, .pick c x y, ty, pos, af, g⟩ :: rest) K env os := AOps.qo hw (a_pick_t hc hx) h'
theorem w_pickF {c x y : Operand} {a : AV} (hw : wantedA l env ⟨some d, .pick c x y, ty, pos, af, g⟩ = some true) (hc : evo env c = some (.val (.bool false))) (hx : evo env y = some a) (h' : AOps P q l rest K (env.up d (a)) os) : AOps P q l (⟨some d, .pick c x y, ty, pos, af, g⟩ :: rest) K env os := AOps.qo hw (a_pick_f hc hx) h'
theorem w_len {t e : TypeId} [TSlice P t e] {x : Operand} {a : AV} {n : Nat} (hw : wantedA l env ⟨some d, .call { callee := .builtin .len, args := #[x], argTypes := #[t] }, ty, pos, af, g⟩ = some true) (hx : evo env x = some a) (hl : HasLen os a n) (h' : AOps P q l rest K (env.up d (.i n)) os) : AOps P q l (⟨some d, .call { callee := .builtin .len, args := #[x], argTypes := #[t] }, ty, pos, af, g⟩ :: rest) K env os := AOps.qo hw (a_len hx hl) h'
theorem w_lss {xt yt : TypeId} {x y : Operand} {a b : Int} {k : IntKind} (hw : wantedA l env ⟨some d, .binOp .lss xt x y yt, ty, pos, af, g⟩ = some true) (ha : evo env x = some (.val (.int k a))) (hb : evo env y = some (.val (.int k b))) (h' : AOps P q l rest K (env.up d (.b (decide (a < b)))) os) : AOps P q l (⟨some d, .binOp .lss xt x y yt, ty, pos, af, g⟩ :: rest) K env os := AOps.qo hw (q_lss (ev_of ha) (ev_of hb)) h'
theorem w_leq {xt yt : TypeId} {x y : Operand} {a b : Int} {k : IntKind} (hw : wantedA l env ⟨some d, .binOp .leq xt x y yt, ty, pos, af, g⟩ = some true) (ha : evo env x = some (.val (.int k a))) (hb : evo env y = some (.val (.int k b))) (h' : AOps P q l rest K (env.up d (.b (decide (a ≤ b)))) os) : AOps P q l (⟨some d, .binOp .leq xt x y yt, ty, pos, af, g⟩ :: rest) K env os := AOps.qo hw (q_leq (ev_of ha) (ev_of hb)) h'
theorem w_gtr {xt yt : TypeId} {x y : Operand} {a b : Int} {k : IntKind} (hw : wantedA l env ⟨some d, .binOp .gtr xt x y yt, ty, pos, af, g⟩ = some true) (ha : evo env x = some (.val (.int k a))) (hb : evo env y = some (.val (.int k b))) (h' : AOps P q l rest K (env.up d (.b (decide (b < a)))) os) : AOps P q l (⟨some d, .binOp .gtr xt x y yt, ty, pos, af, g⟩ :: rest) K env os := AOps.qo hw (q_gtr (ev_of ha) (ev_of hb)) h'
theorem w_geq {xt yt : TypeId} {x y : Operand} {a b : Int} {k : IntKind} (hw : wantedA l env ⟨some d, .binOp .geq xt x y yt, ty, pos, af, g⟩ = some true) (ha : evo env x = some (.val (.int k a))) (hb : evo env y = some (.val (.int k b))) (h' : AOps P q l rest K (env.up d (.b (decide (b ≤ a)))) os) : AOps P q l (⟨some d, .binOp .geq xt x y yt, ty, pos, af, g⟩ :: rest) K env os := AOps.qo hw (q_geq (ev_of ha) (ev_of hb)) h'
theorem w_eql {xt yt : TypeId} {x y : Operand} {a b : Int} {k : IntKind} (hw : wantedA l env ⟨some d, .binOp .eql xt x y yt, ty, pos, af, g⟩ = some true) (ha : evo env x = some (.val (.int k a))) (hb : evo env y = some (.val (.int k b))) (h' : AOps P q l rest K (env.up d (.b (decide (a = b)))) os) : AOps P q l (⟨some d, .binOp .eql xt x y yt, ty, pos, af, g⟩ :: rest) K env os := AOps.qo hw (q_eql (ev_of ha) (ev_of hb)) h'
theorem w_neq {xt yt : TypeId} {x y : Operand} {a b : Int} {k : IntKind} (hw : wantedA l env ⟨some d, .binOp .neq xt x y yt, ty, pos, af, g⟩ = some true) (ha : evo env x = some (.val (.int k a))) (hb : evo env y = some (.val (.int k b))) (h' : AOps P q l rest K (env.up d (.b (decide (a ≠ b)))) os) : AOps P q l (⟨some d, .binOp .neq xt x y yt, ty, pos, af, g⟩ :: rest) K env os := AOps.qo hw (q_neq (ev_of ha) (ev_of hb)) h'
theorem w_add {xt yt : TypeId} {x y : Operand} {a b : Int} (hw : wantedA l env ⟨some d, .binOp .add xt x y yt, ty, pos, af, g⟩ = some true) (ha : evo env x = some (.i a)) (hb : evo env y = some (.i b)) (hi : inI (a + b)) (h' : AOps P q l rest K (env.up d (.i (a + b))) os) : AOps P q l (⟨some d, .binOp .add xt x y yt, ty, pos, af, g⟩ :: rest) K env os := AOps.qo hw (q_add (ev_of ha) (ev_of hb) hi) h'
theorem w_sub {xt yt : TypeId} {x y : Operand} {a b : Int} (hw : wantedA l env ⟨some d, .binOp .sub xt x y yt, ty, pos, af, g⟩ = some true) (ha : evo env x = some (.i a)) (hb : evo env y = some (.i b)) (hi : inI (a - b)) (h' : AOps P q l rest K (env.up d (.i (a - b))) os) : AOps P q l (⟨some d, .binOp .sub xt x y yt, ty, pos, af, g⟩ :: rest) K env os := AOps.qo hw (q_sub (ev_of ha) (ev_of hb) hi) h'
theorem w_mul {xt yt : TypeId} {x y : Operand} {a b : Int} (hw : wantedA l env ⟨some d, .binOp .mul xt x y yt, ty, pos, af, g⟩ = some true) (ha : evo env x = some (.i a)) (hb : evo env y = some (.i b)) (hi : inI (a * b)) (h' : AOps P q l rest K (env.up d (.i (a * b))) os) : AOps P q l (⟨some d, .binOp .mul xt x y yt, ty, pos, af, g⟩ :: rest) K env os := AOps.qo hw (q_mul (ev_of ha) (ev_of hb) hi) h'
theorem w_quo {xt yt : TypeId} {x y : Operand} {a b : Int} (hw : wantedA l env ⟨some d, .binOp .quo xt x y yt, ty, pos, af, g⟩ = some true) (ha : evo env x = some (.i a)) (hb : evo env y = some (.i b)) (h0 : 0 ≤ a) (h1 : 0 < b) (hi : inI a) (h' : AOps P q l rest K (env.up d (.i (a / b))) os) : AOps P q l (⟨some d, .binOp .quo xt x y yt, ty, pos, af, g⟩ :: rest) K env os := AOps.qo hw (q_quo (ev_of ha) (ev_of hb) h0 h1 hi) h'
theorem w_rem {xt yt : TypeId} {x y : Operand} {a b : Int} (hw : wantedA l env ⟨some d, .binOp .rem xt x y yt, ty, pos, af, g⟩ = some true) (ha : evo env x = some (.i a)) (hb : evo env y = some (.i b)) (h0 : 0 ≤ a) (h1 : 0 < b) (h' : AOps P q l rest K (env.up d (.i (a % b))) os) : AOps P q l (⟨some d, .binOp .rem xt x y yt, ty, pos, af, g⟩ :: rest) K env os := AOps.qo hw (q_rem (ev_of ha) (ev_of hb) h0 h1) h'
theorem w_remT {xt yt : TypeId} {x y : Operand} {a b : Int} (hw : wantedA l env ⟨some d, .binOp .rem xt x y yt, ty, pos, af, g⟩ = some true) (ha : evo env x = some (.i a)) (hb : evo env y = some (.i b)) (h0 : b ≠ 0) (h' : AOps P q l rest K (env.up d (.i (a.tmod b))) os) : AOps P q l (⟨some d, .binOp .rem xt x y yt, ty, pos, af, g⟩ :: rest) K env os := AOps.qo hw (q_remT (ev_of ha) (ev_of hb) h0) h'
theorem w_quoT {xt yt : TypeId} {x y : Operand} {a b : Int} (hw : wantedA l env ⟨some d, .binOp .quo xt x y yt, ty, pos, af, g⟩ = some true) (ha : evo env x = some (.i a)) (hb : evo env y = some (.i b)) (h0 : b ≠ 0) (hi : inI (a.tdiv b)) (h' : AOps P q l rest K (env.up d (.i (a.tdiv b))) os) : AOps P q l (⟨some d, .binOp .quo xt x y yt, ty, pos, af, g⟩ :: rest) K env os := AOps.qo hw (q_quoT (ev_of ha) (ev_of hb) h0 hi) h'
theorem w_eqlb {xt yt : TypeId} [TBool P xt] {x y : Operand} {a b : Bool} (hw : wantedA l env ⟨some d, .binOp .eql xt x y yt, ty, pos, af, g⟩ = some true) (ha : evo env x = some (.b a)) (hb : evo env y = some (.b b)) (h' : AOps P q l rest K (env.up d (.b (decide (a = b)))) os) : AOps P q l (⟨some d, .binOp .eql xt x y yt, ty, pos, af, g⟩ :: rest) K env os := AOps.qo hw (q_eqlb (ev_of ha) (ev_of hb)) h'
theorem w_neqb {xt yt : TypeId} [TBool P xt] {x y : Operand} {a b : Bool} (hw : wantedA l env ⟨some d, .binOp .neq xt x y yt, ty, pos, af, g⟩ = some true) (ha : evo env x = some (.b a)) (hb : evo env y = some (.b b)) (h' : AOps P q l rest K (env.up d (.b (decide (a ≠ b)))) os) : AOps P q l (⟨some d, .binOp .neq xt x y yt, ty, pos, af, g⟩ :: rest) K env os := AOps.qo hw (q_neqb (ev_of ha) (ev_of hb)) h'
theorem w_not {xt : TypeId} {x : Operand} {b : Bool} (hw : wantedA l env ⟨some d, .unOp .not xt x, ty, pos, af, g⟩ = some true) (hb : evo env x = some (.b b)) (h' : AOps P q l rest K (env.up d (.b (!b))) os) : AOps P q l (⟨some d, .unOp .not xt x, ty, pos, af, g⟩ :: rest) K env os := AOps.qo hw (q_not (ev_of hb)) h'
theorem w_neg {xt : TypeId} {x : Operand} {a : Int} (hw : wantedA l env ⟨some d, .unOp .neg xt x, ty, pos, af, g⟩ = some true) (ha : evo env x = some (.i a)) (hi : inI (0 - a)) (h' : AOps P q l rest K (env.up d (.i (0 - a))) os) : AOps P q l (⟨some d, .unOp .neg xt x, ty, pos, af, g⟩ :: rest) K env os := AOps.qo hw (q_neg (ev_of ha) hi) h'
theorem w_conv {src dst : TypeId} [TKind P src .i64] [TKind P dst .i64] {x : Operand} {a : Int} (hw : wantedA l env ⟨some d, .convert src dst x, ty, pos, af, g⟩ = some true) (ha : evo env x = some (.i a)) (hi : inI a) (h' : AOps P q l rest K (env.up d (.i a)) os) : AOps P q l (⟨some d, .convert src dst x, ty, pos, af, g⟩ :: rest) K env os := AOps.qo hw (q_conv (ev_of ha) hi) h'
theorem w_min {ats : Array TypeId} {x y : Operand} {a b : Int} (hw : wantedA l env ⟨some d, .call { callee := .builtin .min, args := #[x, y], argTypes := ats }, ty, pos, af, g⟩ = some true) (ha : evo env x = some (.i a)) (hb : evo env y = some (.i b)) (h' : AOps P q l rest K (env.up d (.i (min a b))) os) : AOps P q l (⟨some d, .call { callee := .builtin .min, args := #[x, y], argTypes := ats }, ty, pos, af, g⟩ :: rest) K env os := AOps.qo hw (q_min (ev_of ha) (ev_of hb)) h'
theorem w_max {ats : Array TypeId} {x y : Operand} {a b : Int} (hw : wantedA l env ⟨some d, .call { callee := .builtin .max, args := #[x, y], argTypes := ats }, ty, pos, af, g⟩ = some true) (ha : evo env x = some (.i a)) (hb : evo env y = some (.i b)) (h' : AOps P q l rest K (env.up d (.i (max a b))) os) : AOps P q l (⟨some d, .call { callee := .builtin .max, args := #[x, y], argTypes := ats }, ty, pos, af, g⟩ :: rest) K env os := AOps.qo hw (q_max (ev_of ha) (ev_of hb)) h'
theorem w_idx {t e : TypeId} [TSlice P t e] [TCell P e] {x y : Operand} {xs : List Int} {i : Int} (hw : wantedA l env ⟨some d, .indexAddr t x y, ty, pos, af, g⟩ = some true) (hx : evo env x = some (.ints xs)) (hy : evo env y = some (.i i)) (h0 : 0 ≤ i) (h1 : i < xs.length) (h' : AOps P q l rest K (env.up d (.iptr xs i)) os) : AOps P q l (⟨some d, .indexAddr t x y, ty, pos, af, g⟩ :: rest) K env os := AOps.qo hw (q_idx_ints (ev_of hx) (ev_of hy) h0 h1) h'
theorem w_idxs {t e : TypeId} [TSlice P t e] [TCell P e] {x y : Operand} {xss : List (List Int)} {i : Int} (hw : wantedA l env ⟨some d, .indexAddr t x y, ty, pos, af, g⟩ = some true) (hx : evo env x = some (.intss xss)) (hy : evo env y = some (.i i)) (h0 : 0 ≤ i) (h1 : i < xss.length) (h' : AOps P q l rest K (env.up d (.iiptr xss i)) os) : AOps P q l (⟨some d, .indexAddr t x y, ty, pos, af, g⟩ :: rest) K env os := AOps.qo hw (q_idx_intss (ev_of hx) (ev_of hy) h0 h1) h'
theorem w_ld {t : TypeId} [TCell P t] {x : Operand} {xs : List Int} {i : Int} (hw : wantedA l env ⟨some d, .load t x, ty, pos, af, g⟩ = some true) (hq : q.wl = false) (hx : evo env x = some (.iptr xs i)) (h' : AOps P q l rest K (env.up d (.i (geti xs i))) os) : AOps P q l (⟨some d, .load t x, ty, pos, af, g⟩ :: rest) K env os := AOps.qo hw (by rw [hq]; exact q_load_iptr (ev_of hx)) h'
theorem w_lds {t : TypeId} [TCell P t] {x : Operand} {xss : List (List Int)} {i : Int} (hw : wantedA l env ⟨some d, .load t x, ty, pos, af, g⟩ = some true) (hq : q.wl = false) (hx : evo env x = some (.iiptr xss i)) (h' : AOps P q l rest K (env.up d (.ints (gets xss i))) os) : AOps P q l (⟨some d, .load t x, ty, pos, af, g⟩ :: rest) K env os := AOps.qo hw (by rw [hq]; exact q_load_iiptr (ev_of hx)) h'
theorem w_idxo {t e : TypeId} [TSlice P t e] [TCell P e] {x y : Operand} {h n : Nat} {i : Int} (hw : wantedA l env ⟨some d, .indexAddr t x y, ty, pos, af, g⟩ = some true) (hx : evo env x = some (.own h)) (hs : IsSl os h n) (hy : evo env y = some (.i i)) (h0 : 0 ≤ i) (h1 : i < n) (h' : AOps P q l rest K (env.up d (.optr h i.toNat)) os) : AOps P q l (⟨some d, .indexAddr t x y, ty, pos, af, g⟩ :: rest) K env os := AOps.qo hw (q_idx_own (ev_of hx) hs (ev_of hy) h0 h1) h'
theorem w_idxr {t e : TypeId} [TSlice P t e] [TCell P e] {x y : Operand} {h j : Nat} {te te2 : TypeId} {xss : List (List Int)} {i : Int} (hw : wantedA l env ⟨some d, .indexAddr t x y, ty, pos, af, g⟩ = some true) (hx : evo env x = some (.orow h j)) (hs : os[h]? = some (.sls te te2 xss)) (hy : evo env y = some (.i i)) (h0 : 0 ≤ i) (h1 : i < (xss.getD j []).length) (h' : AOps P q l rest K (env.up d (.orptr h j i.toNat)) os) : AOps P q l (⟨some d, .indexAddr t x y, ty, pos, af, g⟩ :: rest) K env os := AOps.qo hw (q_idx_orow (ev_of hx) hs (ev_of hy) h0 h1) h'
theorem w_ldo {t : TypeId} [TCell P t] {x : Operand} {h i : Nat} {e : TypeId} {xs : List Int} (hw : wantedA l env ⟨some d, .load t x, ty, pos, af, g⟩ = some true) (hq : q.wl = false) (hx : evo env x = some (.optr h i)) (hs : os[h]? = some (.sli e xs)) (hi : i < xs.length) (h' : AOps P q l rest K (env.up d (.i (geti xs i))) os) : AOps P q l (⟨some d, .load t x, ty, pos, af, g⟩ :: rest) K env os := AOps.qo hw (by rw [hq]; exact q_load_sli (ev_of hx) hs hi) h'
theorem w_ldr {t : TypeId} [TCell P t] {x : Operand} {h i k : Nat} {e : TypeId} {idx : List Nat} (hw : wantedA l env ⟨some d, .load t x, ty, pos, af, g⟩ = some true) (hq : q.wl = false) (hx : evo env x = some (.optr h i)) (hs : os[h]? = some (.slr e (idx.map (AV.orow k)))) (hi : i < idx.length) (h' : AOps P q l rest K (env.up d (.orow k (idx.getD i 0))) os) : AOps P q l (⟨some d, .load t x, ty, pos, af, g⟩ :: rest) K env os := AOps.qo hw (by rw [hq]; exact q_load_slr (ev_of hx) hs (by simp [hi])) h'
theorem w_ldls {t : TypeId} [TCell P t] {x : Operand} {h i : Nat} {e e2 : TypeId} {xss : List (List Int)} (hw : wantedA l env ⟨some d, .load t x, ty, pos, af, g⟩ = some true) (hq : q.wl = false) (hx : evo env x = some (.optr h i)) (hs : os[h]? = some (.sls e e2 xss)) (hi : i < xss.length) (h' : AOps P q l rest K (env.up d (.orow h i)) os) : AOps P q l (⟨some d, .load t x, ty, pos, af, g⟩ :: rest) K env os := AOps.qo hw (by rw [hq]; exact q_load_sls (ev_of hx) hs hi) h'
theorem w_ldrp {t : TypeId} [TCell P t] {x : Operand} {h i j : Nat} {e e2 : TypeId} {xss : List (List Int)} (hw : wantedA l env ⟨some d, .load t x, ty, pos, af, g⟩ = some true) (hq : q.wl = false) (hx : evo env x = some (.orptr h i j)) (hs : os[h]? = some (.sls e e2 xss)) (hj : j < (xss.getD i []).length) (h' : AOps P q l rest K (env.up d (.i (geti (xss.getD i []) j))) os) : AOps P q l (⟨some d, .load t x, ty, pos, af, g⟩ :: rest) K env os := AOps.qo hw (by rw [hq]; exact q_load_orptr (ev_of hx) hs hj) h'
theorem w_ldb {t : TypeId} [TCell P t] {x : Operand} {h i : Nat} {T : TypeId} {avs : List AV} {a : AV} (hw : wantedA l env ⟨some d, .load t x, ty, pos, af, g⟩ = some true) (hq : q.wl = false) (hx : evo env x = some (.optr h i)) (hs : os[h]? = some (.bx T avs)) (hi : avs[i]? = some a) (h' : AOps P q l rest K (env.up d (a)) os) : AOps P q l (⟨some d, .load t x, ty, pos, af, g⟩ :: rest) K env os := AOps.qo hw (by rw [hq]; exact QOp.cast (gdl hi) (q_load_bx (ev_of hx) hs (lt_of_get hi))) h'
theorem w_ldst {t : TypeId} {n : Nat} {zs : List Value} [TStruct P t n zs] {x : Operand} {h : Nat} {T : TypeId} {avs : List AV} (hw : wantedA l env ⟨some d, .load t x, ty, pos, af, g⟩ = some true) (hq : q.wl = false) (hx : evo env x = some (.optr h 0)) (hs : os[h]? = some (.bx T avs)) (hn : avs.length = n) (h' : AOps P q l rest K (env.up d (.agg avs)) os) : AOps P q l (⟨some d, .load t x, ty, pos, af, g⟩ :: rest) K env os := AOps.qo hw (by rw [hq]; exact q_load_str (ev_of hx) hs hn) h'
theorem w_fa {t : TypeId} {f off : Nat} [TField P t f off] {x : Operand} {h i j : Nat} (hw : wantedA l env ⟨some d, .fieldAddr t x f, ty, pos, af, g⟩ = some true) (hx : evo env x = some (.optr h i)) (hj : i + off = j) (h' : AOps P q l rest K (env.up d (.optr h j)) os) : AOps P q l (⟨some d, .fieldAddr t x f, ty, pos, af, g⟩ :: rest) K env os := AOps.qo hw (QOp.cast (by rw [hj]) (q_fieldAddr (off := off) (ev_of hx))) h'
theorem w_fld {t : TypeId} {f off : Nat} [TField P t f off] {x : Operand} {l' : List AV} {a : AV} (hw : wantedA l env ⟨some d, .field t x f, ty, pos, af, g⟩ = some true) (hx : evo env x = some (.agg l')) (hi : l'[off]? = some a) (h' : AOps P q l rest K (env.up d (a)) os) : AOps P q l (⟨some d, .field t x f, ty, pos, af, g⟩ :: rest) K env os := AOps.qo hw (QOp.cast (gdl hi) (q_field (off := off) (ev_of hx) (lt_of_get hi))) h'
theorem w_ext {x : Operand} {l' : List AV} {i : Nat} {a : AV} (hw : wantedA l env ⟨some d, .extract x i, ty, pos, af, g⟩ = some true) (hx : evo env x = some (.tup l')) (hi : l'[i]? = some a) (h' : AOps P q l rest K (env.up d (a)) os) : AOps P q l (⟨some d, .extract x i, ty, pos, af, g⟩ :: rest) K env os := AOps.qo hw (QOp.cast (gdl hi) (q_extract (ev_of hx) (lt_of_get hi))) h'
theorem w_extv {x : Operand} {vs : List Value} {i : Nat} {u : Value} (hw : wantedA l env ⟨some d, .extract x i, ty, pos, af, g⟩ = some true) (hx : evo env x = some (.val (.tuple vs.toArray))) (hi : vs[i]? = some u) (h' : AOps P q l rest K (env.up d (.val u)) os) : AOps P q l (⟨some d, .extract x i, ty, pos, af, g⟩ :: rest) K env os := AOps.qo hw (q_extract_v (ev_of hx) hi) h'
theorem w_slhi {t e : TypeId} [TSlice P t e] [TCell P e] {x y : Operand} {xs : List Int} {n : Int} (hw : wantedA l env ⟨some d, .slice t x none (some y) none, ty, pos, af, g⟩ = some true) (hx : evo env x = some (.ints xs)) (hy : evo env y = some (.i n)) (h0 : 0 ≤ n) (h1 : n ≤ xs.length) (h' : AOps P q l rest K (env.up d (.ints (xs.take n.toNat))) os) : AOps P q l (⟨some d, .slice t x none (some y) none, ty, pos, af, g⟩ :: rest) K env os := AOps.qo hw (q_slice_hi (ev_of hx) (ev_of hy) h0 h1) h'
theorem w_sllo {t e : TypeId} [TSlice P t e] [TCell P e] {x y : Operand} {xs : List Int} {n : Int} (hw : wantedA l env ⟨some d, .slice t x (some y) none none, ty, pos, af, g⟩ = some true) (hx : evo env x = some (.ints xs)) (hy : evo env y = some (.i n)) (h0 : 0 ≤ n) (h1 : n ≤ xs.length) (h' : AOps P q l rest K (env.up d (.ints (xs.drop n.toNat))) os) : AOps P q l (⟨some d, .slice t x (some y) none none, ty, pos, af, g⟩ :: rest) K env os := AOps.qo hw (q_slice_lo (ev_of hx) (ev_of hy) h0 h1) h'
theorem w_sllh {t e : TypeId} [TSlice P t e] [TCell P e] {x y z : Operand} {xs : List Int} {m n : Int} (hw : wantedA l env ⟨some d, .slice t x (some y) (some z) none, ty, pos, af, g⟩ = some true) (hx : evo env x = some (.ints xs)) (hy : evo env y = some (.i m)) (hz : evo env z = some (.i n)) (h0 : 0 ≤ m) (h1 : m ≤ n) (h2 : n ≤ xs.length) (h' : AOps P q l rest K (env.up d (.ints ((xs.take n.toNat).drop m.toNat))) os) : AOps P q l (⟨some d, .slice t x (some y) (some z) none, ty, pos, af, g⟩ :: rest) K env os := AOps.qo hw (q_slice_lh (ev_of hx) (ev_of hy) (ev_of hz) h0 h1 h2) h'
theorem w_oslo {t e : TypeId} [TSlice P t e] [TCell P e] {x y : Operand} {h : Nat} {e' : TypeId} {xs : List Int} {n : Int} (hw : wantedA l env ⟨some d, .slice t x (some y) none none, ty, pos, af, g⟩ = some true) (hx : evo env x = some (.own h)) (hs : os[h]? = some (.sli e' xs)) (hy : evo env y = some (.i n)) (h0 : 0 ≤ n) (h1 : n ≤ xs.length) (h' : AOps P q l rest K (env.up d (.osub h n.toNat (xs.length - n.toNat))) os) : AOps P q l (⟨some d, .slice t x (some y) none none, ty, pos, af, g⟩ :: rest) K env os := AOps.qo hw (q_oslice_lo (ev_of hx) hs (ev_of hy) h0 h1) h'
theorem w_oshi {t e : TypeId} [TSlice P t e] [TCell P e] {x y : Operand} {h : Nat} {e' : TypeId} {xs : List Int} {n : Int} (hw : wantedA l env ⟨some d, .slice t x none (some y) none, ty, pos, af, g⟩ = some true) (hx : evo env x = some (.own h)) (hs : os[h]? = some (.sli e' xs)) (hy : evo env y = some (.i n)) (h0 : 0 ≤ n) (h1 : n ≤ xs.length) (h' : AOps P q l rest K (env.up d (.osub h 0 n.toNat)) os) : AOps P q l (⟨some d, .slice t x none (some y) none, ty, pos, af, g⟩ :: rest) K env os := AOps.qo hw (q_oslice_hi (ev_of hx) hs (ev_of hy) h0 h1) h'
theorem w_build0 {t : TypeId} {n : Nat} {zs : List Value} [TBuild P t n zs] (hw : wantedA l env ⟨some d, .build t #[], ty, pos, af, g⟩ = some true) (h1 : zs.all (·.oneCell') = true) (h' : AOps P q l rest K (env.up d (.agg (zs.map AV.val))) os) : AOps P q l (⟨some d, .build t #[], ty, pos, af, g⟩ :: rest) K env os := AOps.qo hw (q_build0 h1) h'
theorem w_build1 {t : TypeId} {zs : List Value} [TBuild P t 1 zs] {x : Operand} {a : AV} (hw : wantedA l env ⟨some d, .build t #[(0, x)], ty, pos, af, g⟩ = some true) (hx : evo env x = some a) (h1 : OneC env os a) (h' : AOps P q l rest K (env.up d (.agg [a])) os) : AOps P q l (⟨some d, .build t #[(0, x)], ty, pos, af, g⟩ :: rest) K env os := AOps.qo hw (q_build1 (ev_of hx) h1) h'
theorem w_build2 {t : TypeId} {zs : List Value} [TBuild P t 2 zs] {x y : Operand} {a b : AV} (hw : wantedA l env ⟨some d, .build t #[(0, x), (1, y)], ty, pos, af, g⟩ = some true) (hx : evo env x = some a) (hy : evo env y = some b) (h1 : OneC env os a) (h2 : OneC env os b) (h' : AOps P q l rest K (env.up d (.agg [a, b])) os) : AOps P q l (⟨some d, .build t #[(0, x), (1, y)], ty, pos, af, g⟩ :: rest) K env os := AOps.qo hw (q_build2 (ev_of hx) (ev_of hy) h1 h2) h'
theorem w_skip {op : Op} (hw : wantedA l env ⟨some d, op, ty, pos, af, g⟩ = some false) (h' : AOps P q l rest K (env.up d (.val undef)) os) : AOps P q l (⟨some d, op, ty, pos, af, g⟩ :: rest) K env os := AOps.skip hw h'
theorem w_bs0 {t e : TypeId} {bytes : Nat} [TSlice P t e] [TElem P e (.int .i64 0) bytes] {m : Nat} (hm : os.length = m) (h' : AOps P .seq l rest K (env.up d (.own m)) (os ++ [.sli e []])) : AOps P .seq l (⟨some d, .buildSlice t 0 #[], ty, pos, af, none⟩ :: rest) K env os := AOps.lo (hm ▸ l_bs0) h'
theorem w_bs1 {t e : TypeId} {bytes : Nat} [TSlice P t e] [TElem P e (.int .i64 0) bytes] {x : Operand} {a : Int} {m : Nat} (hx : evo env x = some (.i a)) (hm : os.length = m) (ha : inI a) (h' : AOps P .seq l rest K (env.up d (.own m)) (os ++ [.sli e [a]])) : AOps P .seq l (⟨some d, .buildSlice t 1 #[(0, x)], ty, pos, af, none⟩ :: rest) K env os := AOps.lo (hm ▸ l_bs1 (ev_of hx) ha) h'
theorem w_bs2 {t e : TypeId} {bytes : Nat} [TSlice P t e] [TElem P e (.int .i64 0) bytes] {x y : Operand} {a b : Int} {m : Nat} (hx : evo env x = some (.i a)) (hy : evo env y = some (.i b)) (hm : os.length = m) (ha : inI a) (hb : inI b) (h' : AOps P .seq l rest K (env.up d (.own m)) (os ++ [.sli e [a, b]])) : AOps P .seq l (⟨some d, .buildSlice t 2 #[(0, x), (1, y)], ty, pos, af, none⟩ :: rest) K env os := AOps.lo (hm ▸ l_bs2 (ev_of hx) (ev_of hy) ha hb) h'
theorem w_appn {t e : TypeId} {bytes : Nat} [TSlice P t e] [TElem P e (.int .i64 0) bytes] {x y : Operand} {a : AV} {ys : List Int} {m : Nat} (hx : evo env x = some (.val (.slice none 0 0))) (hy : evo env y = some a) (hi : Imm os a (.ints ys)) (hm : os.length = m) (hb : ys.length * bytes ≤ 140737488355328) (h' : AOps P .seq l rest K (env.up d (.own m)) (os ++ [.sli e ys])) : AOps P .seq l (⟨some d, .call { callee := .builtin .append, args := #[x, y], argTypes := #[t, t] }, ty, pos, af, none⟩ :: rest) K env os := AOps.lo (hm ▸ l_append_nil (ev_of hx) (ev_of hy ▸ hi) hb) h'
theorem w_boxa {T : TypeId} {x : Operand} {avs : List AV} {m : Nat} (hx : evo env x = some (.agg avs)) (hm : os.length = m) (h' : AOps P .seq l rest K (env.up d (.optr m 0)) (os ++ [.bx T avs])) : AOps P .seq l (⟨some d, .box T x, ty, pos, af, none⟩ :: rest) K env os := AOps.lo (hm ▸ l_box_agg (ev_of hx)) h'
theorem w_alst {T : TypeId} {n : Nat} {zs : List Value} [TStruct P T n zs] {m : Nat} (h1 : zs.all (·.oneCell') = true) (hm : os.length = m) (h' : AOps P .seq l rest K (env.up d (.optr m 0)) (os ++ [.bx T (zs.map AV.val)])) : AOps P .seq l (⟨some d, .alloc T, ty, pos, af, none⟩ :: rest) K env os := AOps.lo (hm ▸ l_alloc_str (List.all_eq_true.1 h1)) h'
theorem w_alone {T : TypeId} {z : Value} {bytes : Nat} [TElem P T z bytes] {m : Nat} (h1 : z.oneCell' = true) (hc : z.cells = #[z]) (hm : os.length = m) (h' : AOps P .seq l rest K (env.up d (.optr m 0)) (os ++ [.bx T [.val z]])) : AOps P .seq l (⟨some d, .alloc T, ty, pos, af, none⟩ :: rest) K env os := AOps.lo (hm ▸ l_alloc_one h1 hc) h'
theorem w_mkr {t e e2 : TypeId} {bytes : Nat} [TSlice P t e] [TSlice P e e2] [TElem P e (.slice none 0 0) bytes] {x y : Operand} {n : Int} {m : Nat} (hx : evo env x = some (.i n)) (hy : evo env y = some (.i n)) (h0 : 0 ≤ n) (hb : (bytes : Int) * n ≤ 281474976710656) (h63 : n ≤ 9223372036854775807) (hm : os.length = m) (h' : AOps P .seq l rest K (env.up d (.own m)) (os ++ [.sls e e2 (List.replicate n.toNat [])])) : AOps P .seq l (⟨some d, .makeSlice t x y, ty, pos, af, none⟩ :: rest) K env os := AOps.lo (hm ▸ l_make_rows e2 (ev_of hx) (ev_of hy) h0 hb h63) h'
theorem w_mki {t e : TypeId} {bytes : Nat} [TSlice P t e] [TElem P e (.int .i64 0) bytes] {x y : Operand} {n : Int} {m : Nat} (hx : evo env x = some (.i n)) (hy : evo env y = some (.i n)) (h0 : 0 ≤ n) (hb : (bytes : Int) * n ≤ 281474976710656) (h63 : n ≤ 9223372036854775807) (hm : os.length = m) (h' : AOps P .seq l rest K (env.up d (.own m)) (os ++ [.sli e (List.replicate n.toNat 0)])) : AOps P .seq l (⟨some d, .makeSlice t x y, ty, pos, af, none⟩ :: rest) K env os := AOps.lo (hm ▸ l_make_int (ev_of hx) (ev_of hy) h0 hb h63) h'
theorem w_copy {t e : TypeId} {bytes : Nat} [TSlice P t e] [TElem P e (.int .i64 0) bytes] {x y : Operand} {h off len : Nat} {e' : TypeId} {xs ys : List Int} {a b : AV} (hx : evo env x = some a) (hd : Dst os h off len a) (hs : os[h]? = some (.sli e' xs)) (hle : off + len ≤ xs.length) (hy : evo env y = some b) (hi : Imm os b (.ints ys)) (h' : AOps P .seq l rest K (env.up d (.i (min len ys.length : Nat))) (os.set h (.sli e' (over xs off len ys)))) : AOps P .seq l (⟨some d, .call { callee := .builtin .copy, args := #[x, y], argTypes := #[t, t] }, ty, pos, af, none⟩ :: rest) K env os := AOps.lo (l_copy (ev_of hx) hd hs hle (ev_of hy ▸ hi)) h'
theorem w_app {t e : TypeId} {bytes : Nat} [TSlice P t e] [TElem P e (.int .i64 0) bytes] {x y : Operand} {h : Nat} {e' : TypeId} {xs ys : List Int} {a : AV} (hx : evo env x = some (.own h)) (hs : os[h]? = some (.sli e' xs)) (hee : e' = e) (hy : evo env y = some a) (hi : Imm os a (.ints ys)) (hb : (xs.length + ys.length) * bytes ≤ 140737488355328) (h' : AOps P .seq l rest K (Env.up (env.mp (AV.kill h)) d (.own h)) ((os.map (AO.kill h)).set h (.sli e (xs ++ ys)))) : AOps P .seq l (⟨some d, .call { callee := .builtin .append, args := #[x, y], argTypes := #[t, t] }, ty, pos, af, none⟩ :: rest) K env os := AOps.lo (l_append (ev_of hx) hs hee (ev_of hy ▸ hi) hb) h'
theorem w_strow {t : TypeId} [TCell P t] {x y : Operand} {h i k : Nat} {e e2 e3 : TypeId} {xss : List (List Int)} {ys : List Int} (hx : evo env x = some (.optr h i)) (hs : os[h]? = some (.sls e e2 xss)) (hi : i < xss.length) (hy : evo env y = some (.own k)) (hk : os[k]? = some (.sli e3 ys)) (he : e3 = e2) (hhk : (h == k) = false) (h' : AOps P .seq l rest K (env.mp (AV.noRow h)) (((os.map (AO.via (AV.noRow h) h)).set h (.sls e e2 (xss.set i ys))).set k .dead)) : AOps P .seq l (⟨none, .store t x y, ty, pos, af, none⟩ :: rest) K env os := AOps.so (l_store_row (ev_of hx) hs hi (ev_of hy) hk he hhk) h'
theorem w_sti {t : TypeId} [TCell P t] {x y : Operand} {h i : Nat} {e : TypeId} {xs : List Int} {n : Int} (hx : evo env x = some (.optr h i)) (hs : os[h]? = some (.sli e xs)) (hi : i < xs.length) (hy : evo env y = some (.i n)) (hn : inI n) (h' : AOps P .seq l rest K env (os.set h (.sli e (xs.set i n)))) : AOps P .seq l (⟨none, .store t x y, ty, pos, af, none⟩ :: rest) K env os := AOps.so (l_store_sli (ev_of hx) hs hi (ev_of hy) hn) h'
theorem w_stst {t : TypeId} {n : Nat} {zs : List Value} [TStruct P t n zs] {x y : Operand} {h : Nat} {T : TypeId} {avs l' : List AV} (hx : evo env x = some (.optr h 0)) (hs : os[h]? = some (.bx T avs)) (hn : avs.length = n) (hy : evo env y = some (.agg l')) (hl : l'.length = n) (h' : AOps P .seq l rest K env (os.set h (.bx T l'))) : AOps P .seq l (⟨none, .store t x y, ty, pos, af, none⟩ :: rest) K env os := AOps.so (l_store_str (ev_of hx) hs hn (ev_of hy) hl) h'
theorem w_stbv {t : TypeId} [TCell P t] {x y : Operand} {h i : Nat} {T : TypeId} {avs : List AV} {a0 : AV} {v : Value} (hx : evo env x = some (.optr h i)) (hs : os[h]? = some (.bx T avs)) (hi : avs[i]? = some a0) (hy : evo env y = some (.val v)) (h1 : v.oneCell' = true) (h2 : v.cells = #[v]) (h' : AOps P .seq l rest K env (os.set h (.bx T (avs.set i (.val v))))) : AOps P .seq l (⟨none, .store t x y, ty, pos, af, none⟩ :: rest) K env os := AOps.so (l_store_bx (ev_of hx) hs (lt_of_get hi) (ev_of hy) (one_val h1 h2)) h'
theorem w_stbi {t : TypeId} [TCell P t] {x y : Operand} {h i : Nat} {T : TypeId} {avs : List AV} {a0 : AV} {xs : List Int} (hx : evo env x = some (.optr h i)) (hs : os[h]? = some (.bx T avs)) (hi : avs[i]? = some a0) (hy : evo env y = some (.ints xs)) (h' : AOps P .seq l rest K env (os.set h (.bx T (avs.set i (.ints xs))))) : AOps P .seq l (⟨none, .store t x y, ty, pos, af, none⟩ :: rest) K env os := AOps.so (l_store_bx (ev_of hx) hs (lt_of_get hi) (ev_of hy) one_ints) h'
theorem w_stbii {t : TypeId} [TCell P t] {x y : Operand} {h i : Nat} {T : TypeId} {avs : List AV} {a0 : AV} {xs : List (List Int)} (hx : evo env x = some (.optr h i)) (hs : os[h]? = some (.bx T avs)) (hi : avs[i]? = some a0) (hy : evo env y = some (.intss xs)) (h' : AOps P .seq l rest K env (os.set h (.bx T (avs.set i (.intss xs))))) : AOps P .seq l (⟨none, .store t x y, ty, pos, af, none⟩ :: rest) K env os := AOps.so (l_store_bx (ev_of hx) hs (lt_of_get hi) (ev_of hy) one_intss) h'
theorem w_stbo {t : TypeId} [TCell P t] {x y : Operand} {h i k : Nat} {T : TypeId} {avs : List AV} {a0 : AV} {o : AO} (hx : evo env x = some (.optr h i)) (hs : os[h]? = some (.bx T avs)) (hi : avs[i]? = some a0) (hy : evo env y = some (.own k)) (ho : os[k]? = some o) (hn : o.live) (h' : AOps P .seq l rest K env (os.set h (.bx T (avs.set i (.own k))))) : AOps P .seq l (⟨none, .store t x y, ty, pos, af, none⟩ :: rest) K env os := AOps.so (l_store_bx (ev_of hx) hs (lt_of_get hi) (ev_of hy) (one_own ho hn)) h'
theorem w_call {f : FuncId} {args : List AV} {v : Value} {xs : List Operand} {ats : Array TypeId} (hc : AFnV P f args v) (hw : wantedA l env ⟨some d, .call { callee := .value (.func f), args := xs.toArray, argTypes := ats }, ty, pos, af, g⟩ = some true)
    (hq : q.wl = false) (hi : Imms os (xs.map (AV.ev env)) args) (h' : AOps P q l rest K (env.up d (.val v)) os) : AOps P q l (⟨some d, .call { callee := .value (.func f), args := xs.toArray, argTypes := ats }, ty, pos, af, g⟩ :: rest) K env os := AOps.qo hw (by rw [hq]; exact q_call hc hi) h'
theorem w_callm {f : FuncId} {args : List AV} {Q : AV → List AO → Prop} {xs : List Operand} {ats : Array TypeId} (hc : AFn P f args Q) (hi : Imms os (xs.map (AV.ev env)) args)
    (h' : ∀ r os0, Q r os0 → AOps P .seq l rest K (env.up d (r.sh os.length)) (os ++ os0.map (AO.sh os.length))) :
    AOps P .seq l (⟨some d, .call { callee := .value (.func f), args := xs.toArray, argTypes := ats }, ty, pos, af, none⟩ :: rest) K env os :=
  AOps.ca (c_call hc hi) fun r e o ⟨r0, os0, hq, h1, h2, h3⟩ => by subst h1; subst h2; subst h3; exact h' r0 os0 hq
theorem w_callu {f : FuncId} {args : List AV} {objs : List AO} {Q : Value → List AO → Prop} {xs : List Operand} {ats : Array TypeId} (H : List Nat) (hc : AFnU P f args objs Q) (hh : Handed os H objs) (hi : ImmUs os H (xs.map (AV.ev env)) args)
    (h' : ∀ v os', Q v os' → AOps P .seq l rest K (env.up d (.val v)) (setAll os H os')) :
    AOps P .seq l (⟨some d, .call { callee := .value (.func f), args := xs.toArray, argTypes := ats }, ty, pos, af, none⟩ :: rest) K env os :=
  AOps.ca (c_callu hc hh hi) fun r e o ⟨v, os', hq, h1, h2, h3⟩ => by subst h1; subst h2; subst h3; exact h' v os' hq
end
end Go.Proofs.Ytlkhcelodcneiaa
/-
  Contracts of the small functions that all seats share. No condition.
-/
namespace Go.Proofs.Ytlkhcelodcneiaa
open Go Go.RowKit
attribute [local irreducible] AWp AOps ResIs Ret1 QOp LOp COp AFnV AFn Imms LeE LeO
set_option maxHeartbeats 1000000
set_option linter.unusedSimpArgs false
set_option linter.unusedVariables false

theorem inRange_c (n a b : Int) : AFnV Try.prog 47 [.i n, .i a, .i b] (.bool (decide (a ≤ n ∧ n ≤ b))) := by
  (refine AFnV.start Try.func47 Try.ntmps47 rfl (by kernel_rfl) fun hk => ?_; simp only [Env.start, enumF, List.length_cons, List.length_nil, Nat.reduceAdd, Nat.reduceSub, List.cons_append, List.nil_append])
  repeat' (first
  | (apply AOps.nil; try simp only [List.nil_append, List.cons_append, List.set_cons_zero, List.set_cons_succ, List.length_cons, List.length_nil, Nat.reduceAdd, AV.sh, AV.sh1, AV.sh0, AO.sh, List.map_cons, List.map_nil, Nat.zero_add, Nat.add_zero, setAll])
  | ((apply AOps.splitP; exact rfl; exact rfl) <;> intro h)
  | ((apply AOps.splitN; exact rfl; exact rfl) <;> intro h)
  | (apply w_move; exact rfl; exact rfl)
  | (apply w_assign; exact rfl; exact rfl)
  | apply AWp.seq
  | apply AWp.region
  | ((apply AWp.condP; exact rfl) <;> intro h)
  | ((apply AWp.condN; exact rfl) <;> intro h)
  | (apply AWp.condT; exact rfl)
  | (apply AWp.condF; exact rfl)
  | ((apply AWp.condB; exact rfl) <;> intro h)
  | apply AWp.block
  | apply AWp.ret
  | apply AWp.exit
  | apply AWp.skip
  | (apply AWp.regionQ; kernel_rfl; kernel_rfl)
  | (apply if_pos'; exact rfl)
  | (apply if_neg'; decide)
  | (apply w_skip; exact rfl)
  | (apply w_pickT; exact rfl; exact rfl; exact rfl)
  | (apply w_pickF; exact rfl; exact rfl; exact rfl)
  | (apply w_len; exact rfl; exact rfl; first | exact .ints _ | exact .intss _ | exact .sli rfl | exact .sls rfl | exact .slr rfl | exact .orow rfl | exact .nil)
  | ((first | apply w_lss | apply w_leq | apply w_gtr | apply w_geq | apply w_eql | apply w_neq | apply w_add | apply w_sub | apply w_mul | apply w_idx | apply w_ld | apply w_fld | apply w_fa | apply w_extv | apply w_min | apply w_max | apply w_slhi | apply w_sllo | apply w_bs2); iterate 3 exact rfl)
  | ((first | apply w_eqlb | apply w_neqb | apply w_idxs | apply w_lds | apply w_ext); iterate 3 exact rfl)
  | (apply w_rem; exact rfl; exact rfl; exact rfl; (focus (omega; done)); (focus (omega; done)))
  | (apply w_quo; exact rfl; exact rfl; exact rfl; (focus (omega; done)); (focus (omega; done)))
  | (apply w_remT; exact rfl; exact rfl; exact rfl)
  | (apply w_quoT; exact rfl; exact rfl; exact rfl)
  | ((first | apply w_not | apply w_neg | apply w_conv | apply w_build0 | apply w_bs1 | apply w_boxa); iterate 2 exact rfl)
  | (apply w_idxo; exact rfl; exact rfl; (first | exact .sli rfl | exact .sls rfl | exact .slr rfl); exact rfl)
  | ((first | apply w_idxr | apply w_ldr); iterate 4 exact rfl)
  | (apply w_ldo; iterate 4 exact rfl)
  | (apply w_ldls; iterate 4 exact rfl)
  | (apply w_ldrp; iterate 4 exact rfl)
  | (apply w_ldb; iterate 5 exact rfl)
  | (apply w_ldst; iterate 5 exact rfl)
  | ((first | apply w_sllh | apply w_stbi); iterate 4 exact rfl)
  | ((first | apply w_oslo | apply w_oshi | apply w_stbii); iterate 4 exact rfl)
  | (apply w_copy; exact rfl; (first | exact .own rfl rfl rfl | exact .osub); exact rfl; rotate_left 1; exact rfl; (first | exact .ints _ | exact .sli rfl | exact .orow rfl | exact .nil | exact .osub rfl (by simp; omega)))
  | (apply w_build1; exact rfl; exact rfl; (first | exact one_val rfl rfl | exact one_ints | exact one_intss | exact one_own rfl True.intro))
  | (apply w_build2; exact rfl; exact rfl; exact rfl; (first | exact one_val rfl rfl | exact one_ints | exact one_intss | exact one_own rfl True.intro); (first | exact one_val rfl rfl | exact one_ints | exact one_intss | exact one_own rfl True.intro))
  | (apply w_bs0; iterate 1 exact rfl)
  | (apply w_appn; exact rfl; exact rfl; (first | exact .ints _ | exact .sli rfl | exact .orow rfl | exact .nil | exact .osub rfl (by simp; omega)); exact rfl)
  | (apply w_app; exact rfl; exact rfl; exact rfl; exact rfl; (first | exact .ints _ | exact .sli rfl | exact .orow rfl | exact .nil | exact .osub rfl (by simp; omega)); rotate_left 1; simp only [Env.mp, List.map_cons, List.map_nil, List.set_cons_zero, List.set_cons_succ, AV.kill, AV.kill1, AO.kill, AV.noRow, AV.noRow1, AO.via, reduceIte, Nat.reduceEqDiff, Nat.reduceLT, Env.up, Nat.zero_ne_one, Nat.one_ne_zero, Nat.reduceAdd, List.cons_append, List.nil_append]; rotate_left 1)
  | (apply w_alst; iterate 2 exact rfl)
  | (apply w_alone; iterate 3 exact rfl)
  | (apply w_mki; exact rfl; exact rfl; rotate_left 3; exact rfl; rotate_left 1)
  | (apply w_mkr; exact rfl; exact rfl; rotate_left 3; exact rfl; rotate_left 1)
  | (apply w_strow; exact rfl; exact rfl; rotate_left 1; exact rfl; exact rfl; exact rfl; exact rfl; simp only [Env.mp, List.map_cons, List.map_nil, List.set_cons_zero, List.set_cons_succ, AV.kill, AV.kill1, AO.kill, AV.noRow, AV.noRow1, AO.via, reduceIte, Nat.reduceEqDiff, Nat.reduceLT, Env.up, Nat.zero_ne_one, Nat.one_ne_zero, Nat.reduceAdd, List.cons_append, List.nil_append]; rotate_left 1)
  | (apply w_sti; exact rfl; exact rfl; rotate_left 1; exact rfl; rotate_left 2)
  | (apply w_stst; iterate 5 exact rfl)
  | (apply w_stbv; iterate 6 exact rfl)
  | (apply w_stbo; exact rfl; exact rfl; exact rfl; exact rfl; exact rfl; exact True.intro)
  | ((apply AOps.splitB; exact rfl; exact rfl) <;> intro h)
  | apply AllOf.nil
  | (apply AllOf.cons; exact rfl)
  | (apply AAny.take; exact rfl; exact rfl; kernel_rfl; kernel_rfl)
  | (apply AAny.all; exact rfl)
  | (apply AAny.done; exact rfl)
  | (apply inI_of <;> omega)
  | omega
  | (simp <;> omega))
  · exact .bool Try.results47 rfl (by simp [*])
  · exact .bool Try.results47 rfl (by simp [*])

theorem l01In_c (n a b : Int) : AFnV Try.prog 39 [.i n, .i a, .i b] (.bool (decide (a ≤ n ∧ n ≤ b))) := by
  (refine AFnV.start Try.func39 Try.ntmps39 rfl (by kernel_rfl) fun hk => ?_; simp only [Env.start, enumF, List.length_cons, List.length_nil, Nat.reduceAdd, Nat.reduceSub, List.cons_append, List.nil_append])
  repeat' (first
  | (apply AOps.nil; try simp only [List.nil_append, List.cons_append, List.set_cons_zero, List.set_cons_succ, List.length_cons, List.length_nil, Nat.reduceAdd, AV.sh, AV.sh1, AV.sh0, AO.sh, List.map_cons, List.map_nil, Nat.zero_add, Nat.add_zero, setAll])
  | ((apply AOps.splitP; exact rfl; exact rfl) <;> intro h)
  | ((apply AOps.splitN; exact rfl; exact rfl) <;> intro h)
  | (apply w_move; exact rfl; exact rfl)
  | (apply w_assign; exact rfl; exact rfl)
  | apply AWp.seq
  | apply AWp.region
  | ((apply AWp.condP; exact rfl) <;> intro h)
  | ((apply AWp.condN; exact rfl) <;> intro h)
  | (apply AWp.condT; exact rfl)
  | (apply AWp.condF; exact rfl)
  | ((apply AWp.condB; exact rfl) <;> intro h)
  | apply AWp.block
  | apply AWp.ret
  | apply AWp.exit
  | apply AWp.skip
  | (apply AWp.regionQ; kernel_rfl; kernel_rfl)
  | (apply if_pos'; exact rfl)
  | (apply if_neg'; decide)
  | (apply w_skip; exact rfl)
  | (apply w_pickT; exact rfl; exact rfl; exact rfl)
  | (apply w_pickF; exact rfl; exact rfl; exact rfl)
  | (apply w_len; exact rfl; exact rfl; first | exact .ints _ | exact .intss _ | exact .sli rfl | exact .sls rfl | exact .slr rfl | exact .orow rfl | exact .nil)
  | ((first | apply w_lss | apply w_leq | apply w_gtr | apply w_geq | apply w_eql | apply w_neq | apply w_add | apply w_sub | apply w_mul | apply w_idx | apply w_ld | apply w_fld | apply w_fa | apply w_extv | apply w_min | apply w_max | apply w_slhi | apply w_sllo | apply w_bs2); iterate 3 exact rfl)
  | ((first | apply w_eqlb | apply w_neqb | apply w_idxs | apply w_lds | apply w_ext); iterate 3 exact rfl)
  | (apply w_rem; exact rfl; exact rfl; exact rfl; (focus (omega; done)); (focus (omega; done)))
  | (apply w_quo; exact rfl; exact rfl; exact rfl; (focus (omega; done)); (focus (omega; done)))
  | (apply w_remT; exact rfl; exact rfl; exact rfl)
  | (apply w_quoT; exact rfl; exact rfl; exact rfl)
  | ((first | apply w_not | apply w_neg | apply w_conv | apply w_build0 | apply w_bs1 | apply w_boxa); iterate 2 exact rfl)
  | (apply w_idxo; exact rfl; exact rfl; (first | exact .sli rfl | exact .sls rfl | exact .slr rfl); exact rfl)
  | ((first | apply w_idxr | apply w_ldr); iterate 4 exact rfl)
  | (apply w_ldo; iterate 4 exact rfl)
  | (apply w_ldls; iterate 4 exact rfl)
  | (apply w_ldrp; iterate 4 exact rfl)
  | (apply w_ldb; iterate 5 exact rfl)
  | (apply w_ldst; iterate 5 exact rfl)
  | ((first | apply w_sllh | apply w_stbi); iterate 4 exact rfl)
  | ((first | apply w_oslo | apply w_oshi | apply w_stbii); iterate 4 exact rfl)
  | (apply w_copy; exact rfl; (first | exact .own rfl rfl rfl | exact .osub); exact rfl; rotate_left 1; exact rfl; (first | exact .ints _ | exact .sli rfl | exact .orow rfl | exact .nil | exact .osub rfl (by simp; omega)))
  | (apply w_build1; exact rfl; exact rfl; (first | exact one_val rfl rfl | exact one_ints | exact one_intss | exact one_own rfl True.intro))
  | (apply w_build2; exact rfl; exact rfl; exact rfl; (first | exact one_val rfl rfl | exact one_ints | exact one_intss | exact one_own rfl True.intro); (first | exact one_val rfl rfl | exact one_ints | exact one_intss | exact one_own rfl True.intro))
  | (apply w_bs0; iterate 1 exact rfl)
  | (apply w_appn; exact rfl; exact rfl; (first | exact .ints _ | exact .sli rfl | exact .orow rfl | exact .nil | exact .osub rfl (by simp; omega)); exact rfl)
  | (apply w_app; exact rfl; exact rfl; exact rfl; exact rfl; (first | exact .ints _ | exact .sli rfl | exact .orow rfl | exact .nil | exact .osub rfl (by simp; omega)); rotate_left 1; simp only [Env.mp, List.map_cons, List.map_nil, List.set_cons_zero, List.set_cons_succ, AV.kill, AV.kill1, AO.kill, AV.noRow, AV.noRow1, AO.via, reduceIte, Nat.reduceEqDiff, Nat.reduceLT, Env.up, Nat.zero_ne_one, Nat.one_ne_zero, Nat.reduceAdd, List.cons_append, List.nil_append]; rotate_left 1)
  | (apply w_alst; iterate 2 exact rfl)
  | (apply w_alone; iterate 3 exact rfl)
  | (apply w_mki; exact rfl; exact rfl; rotate_left 3; exact rfl; rotate_left 1)
  | (apply w_mkr; exact rfl; exact rfl; rotate_left 3; exact rfl; rotate_left 1)
  | (apply w_strow; exact rfl; exact rfl; rotate_left 1; exact rfl; exact rfl; exact rfl; exact rfl; simp only [Env.mp, List.map_cons, List.map_nil, List.set_cons_zero, List.set_cons_succ, AV.kill, AV.kill1, AO.kill, AV.noRow, AV.noRow1, AO.via, reduceIte, Nat.reduceEqDiff, Nat.reduceLT, Env.up, Nat.zero_ne_one, Nat.one_ne_zero, Nat.reduceAdd, List.cons_append, List.nil_append]; rotate_left 1)
  | (apply w_sti; exact rfl; exact rfl; rotate_left 1; exact rfl; rotate_left 2)
  | (apply w_stst; iterate 5 exact rfl)
  | (apply w_stbv; iterate 6 exact rfl)
  | (apply w_stbo; exact rfl; exact rfl; exact rfl; exact rfl; exact rfl; exact True.intro)
  | ((apply AOps.splitB; exact rfl; exact rfl) <;> intro h)
  | apply AllOf.nil
  | (apply AllOf.cons; exact rfl)
  | (apply AAny.take; exact rfl; exact rfl; kernel_rfl; kernel_rfl)
  | (apply AAny.all; exact rfl)
  | (apply AAny.done; exact rfl)
  | (apply inI_of <;> omega)
  | omega
  | (simp <;> omega))
  · exact .bool Try.results39 rfl (by simp [*])
  · exact .bool Try.results39 rfl (by simp [*])

def withinL (xs : List Int) (a b : Int) : Bool := xs.all fun x => decide (a ≤ x ∧ x ≤ b)

theorem withinL_snoc (xs : List Int) (a b : Int) (i : Int) (h0 : 0 ≤ i) (h1 : i < xs.length) : withinL (xs.take (i + 1).toNat) a b = (withinL (xs.take i.toNat) a b && decide (a ≤ geti xs i ∧ geti xs i ≤ b)) := by
  have e : (i + 1).toNat = i.toNat + 1 := by omega
  have hi : i.toNat < xs.length := by omega
  rw [e, List.take_succ_eq_append_getElem hi]
  rw [withinL, List.all_append]
  simp [withinL, geti, hi]
theorem withinL_false (xs : List Int) (a b : Int) (i : Int) (h0 : 0 ≤ i) (h1 : i < xs.length) (h : ¬ (a ≤ geti xs i ∧ geti xs i ≤ b)) : withinL xs a b = false := by
  unfold withinL
  rw [List.all_eq_false]
  exact ⟨geti xs i, geti_mem h0 h1, by simpa using h⟩

theorem within_c (xs : List Int) (a b : Int) : AFnV Try.prog 43 [.ints xs, .i a, .i b] (.bool (withinL xs a b)) := by
  (refine AFnV.start Try.func43 Try.ntmps43 rfl (by kernel_rfl) fun hk => ?_; simp only [Env.start, enumF, List.length_cons, List.length_nil, Nat.reduceAdd, Nat.reduceSub, List.cons_append, List.nil_append])
  obtain ⟨hk, hl⟩ : ArgOk (.ints xs) := hk _ (by simp)
  repeat' (first
  | (apply AOps.nil; try simp only [List.nil_append, List.cons_append, List.set_cons_zero, List.set_cons_succ, List.length_cons, List.length_nil, Nat.reduceAdd, AV.sh, AV.sh1, AV.sh0, AO.sh, List.map_cons, List.map_nil, Nat.zero_add, Nat.add_zero, setAll])
  | ((apply AOps.splitP; exact rfl; exact rfl) <;> intro h)
  | ((apply AOps.splitN; exact rfl; exact rfl) <;> intro h)
  | (apply w_move; exact rfl; exact rfl)
  | (apply w_assign; exact rfl; exact rfl)
  | apply AWp.seq
  | apply AWp.region
  | ((apply AWp.condP; exact rfl) <;> intro h)
  | ((apply AWp.condN; exact rfl) <;> intro h)
  | (apply AWp.condT; exact rfl)
  | (apply AWp.condF; exact rfl)
  | ((apply AWp.condB; exact rfl) <;> intro h)
  | apply AWp.block
  | apply AWp.ret
  | apply AWp.exit
  | apply AWp.skip
  | (apply AWp.regionQ; kernel_rfl; kernel_rfl)
  | (apply if_pos'; exact rfl)
  | (apply if_neg'; decide)
  | (apply w_skip; exact rfl)
  | (apply w_pickT; exact rfl; exact rfl; exact rfl)
  | (apply w_pickF; exact rfl; exact rfl; exact rfl)
  | (apply w_len; exact rfl; exact rfl; first | exact .ints _ | exact .intss _ | exact .sli rfl | exact .sls rfl | exact .slr rfl | exact .orow rfl | exact .nil)
  | (apply w_call (inRange_c _ _ _); exact rfl; exact rfl; focus ((repeat (first | exact im_nil | refine im_cons rfl (.val _) ?_ | refine im_cons rfl (.ints _) ?_ | refine im_cons rfl (.intss _) ?_ | refine im_cons rfl (.sli rfl) ?_ | refine im_cons rfl (.sls rfl) ?_ | refine im_cons rfl (.orow rfl) ?_ | refine im_cons rfl (.osub rfl (by simp; omega)) ?_ | refine im_cons rfl (.nil) ?_ | refine im_cons rfl (.nils) ?_ | refine im_cons rfl (im_agg2 (.val _) (.ints _)) ?_ | refine im_cons rfl (im_agg2 (.val _) (.sli rfl)) ?_ | refine im_cons rfl (im_agg2 (.val _) (.nil)) ?_ | refine im_cons rfl (im_agg2 (.ints _) (.intss _)) ?_ | refine im_cons rfl (im_agg2 (.ints _) (.sls rfl)) ?_ | refine im_cons rfl (im_agg2 (.sli rfl) (.intss _)) ?_ | refine im_cons rfl (im_agg2 (.sli rfl) (.sls rfl)) ?_ | refine im_cons rfl (im_agg1 (.ints _)) ?_ | refine im_cons rfl (im_agg1 (.sli rfl)) ?_ | refine im_cons rfl (im_agg1 (.intss _)) ?_ | refine im_cons rfl (im_agg1 (.sls rfl)) ?_ | refine im_cons rfl (im_agg1 (.nil)) ?_ | refine im_cons rfl (im_agg1 (.nils)) ?_)); done))
  | ((first | apply w_lss | apply w_leq | apply w_gtr | apply w_geq | apply w_eql | apply w_neq | apply w_add | apply w_sub | apply w_mul | apply w_idx | apply w_ld | apply w_fld | apply w_fa | apply w_extv | apply w_min | apply w_max | apply w_slhi | apply w_sllo | apply w_bs2); iterate 3 exact rfl)
  | ((first | apply w_eqlb | apply w_neqb | apply w_idxs | apply w_lds | apply w_ext); iterate 3 exact rfl)
  | (apply w_rem; exact rfl; exact rfl; exact rfl; (focus (omega; done)); (focus (omega; done)))
  | (apply w_quo; exact rfl; exact rfl; exact rfl; (focus (omega; done)); (focus (omega; done)))
  | (apply w_remT; exact rfl; exact rfl; exact rfl)
  | (apply w_quoT; exact rfl; exact rfl; exact rfl)
  | ((first | apply w_not | apply w_neg | apply w_conv | apply w_build0 | apply w_bs1 | apply w_boxa); iterate 2 exact rfl)
  | (apply w_idxo; exact rfl; exact rfl; (first | exact .sli rfl | exact .sls rfl | exact .slr rfl); exact rfl)
  | ((first | apply w_idxr | apply w_ldr); iterate 4 exact rfl)
  | (apply w_ldo; iterate 4 exact rfl)
  | (apply w_ldls; iterate 4 exact rfl)
  | (apply w_ldrp; iterate 4 exact rfl)
  | (apply w_ldb; iterate 5 exact rfl)
  | (apply w_ldst; iterate 5 exact rfl)
  | ((first | apply w_sllh | apply w_stbi); iterate 4 exact rfl)
  | ((first | apply w_oslo | apply w_oshi | apply w_stbii); iterate 4 exact rfl)
  | (apply w_copy; exact rfl; (first | exact .own rfl rfl rfl | exact .osub); exact rfl; rotate_left 1; exact rfl; (first | exact .ints _ | exact .sli rfl | exact .orow rfl | exact .nil | exact .osub rfl (by simp; omega)))
  | (apply w_build1; exact rfl; exact rfl; (first | exact one_val rfl rfl | exact one_ints | exact one_intss | exact one_own rfl True.intro))
  | (apply w_build2; exact rfl; exact rfl; exact rfl; (first | exact one_val rfl rfl | exact one_ints | exact one_intss | exact one_own rfl True.intro); (first | exact one_val rfl rfl | exact one_ints | exact one_intss | exact one_own rfl True.intro))
  | (apply w_bs0; iterate 1 exact rfl)
  | (apply w_appn; exact rfl; exact rfl; (first | exact .ints _ | exact .sli rfl | exact .orow rfl | exact .nil | exact .osub rfl (by simp; omega)); exact rfl)
  | (apply w_app; exact rfl; exact rfl; exact rfl; exact rfl; (first | exact .ints _ | exact .sli rfl | exact .orow rfl | exact .nil | exact .osub rfl (by simp; omega)); rotate_left 1; simp only [Env.mp, List.map_cons, List.map_nil, List.set_cons_zero, List.set_cons_succ, AV.kill, AV.kill1, AO.kill, AV.noRow, AV.noRow1, AO.via, reduceIte, Nat.reduceEqDiff, Nat.reduceLT, Env.up, Nat.zero_ne_one, Nat.one_ne_zero, Nat.reduceAdd, List.cons_append, List.nil_append]; rotate_left 1)
  | (apply w_alst; iterate 2 exact rfl)
  | (apply w_alone; iterate 3 exact rfl)
  | (apply w_mki; exact rfl; exact rfl; rotate_left 3; exact rfl; rotate_left 1)
  | (apply w_mkr; exact rfl; exact rfl; rotate_left 3; exact rfl; rotate_left 1)
  | (apply w_strow; exact rfl; exact rfl; rotate_left 1; exact rfl; exact rfl; exact rfl; exact rfl; simp only [Env.mp, List.map_cons, List.map_nil, List.set_cons_zero, List.set_cons_succ, AV.kill, AV.kill1, AO.kill, AV.noRow, AV.noRow1, AO.via, reduceIte, Nat.reduceEqDiff, Nat.reduceLT, Env.up, Nat.zero_ne_one, Nat.one_ne_zero, Nat.reduceAdd, List.cons_append, List.nil_append]; rotate_left 1)
  | (apply w_sti; exact rfl; exact rfl; rotate_left 1; exact rfl; rotate_left 2)
  | (apply w_stst; iterate 5 exact rfl)
  | (apply w_stbv; iterate 6 exact rfl)
  | (apply w_stbo; exact rfl; exact rfl; exact rfl; exact rfl; exact rfl; exact True.intro)
  | ((apply AOps.splitB; exact rfl; exact rfl) <;> intro h)
  | apply AllOf.nil
  | (apply AllOf.cons; exact rfl)
  | (apply AAny.take; exact rfl; exact rfl; kernel_rfl; kernel_rfl)
  | (apply AAny.all; exact rfl)
  | (apply AAny.done; exact rfl)
  | (apply inI_of <;> omega)
  | omega
  | (simp <;> omega))
  refine AWp.loop (ι := Int) (fun i => ⟨21, [(0, .ints xs), (1, .i a), (2, .i b), (9, .ints xs), (10, .i xs.length), (11, .i i)]⟩) (fun _ => []) (fun i => 0 ≤ i ∧ i ≤ xs.length ∧ withinL (xs.take i.toNat) a b = true) (fun i => (xs.length - i).toNat) 0 ⟨by omega, by omega, rfl⟩ ⟨lee rfl (by (repeat (first | exact le_nil | refine le_eq rfl rfl ?_ | refine le_eq rfl (congrArg AV.i (by omega)) ?_))), by (repeat (first | exact lo_nil | refine lo_dead ?_ | refine lo_eq rfl ?_)), rfl, rfl⟩ ?_
  rintro i ⟨h0, h1, h2⟩
  repeat' (first
  | (apply AOps.nil; try simp only [List.nil_append, List.cons_append, List.set_cons_zero, List.set_cons_succ, List.length_cons, List.length_nil, Nat.reduceAdd, AV.sh, AV.sh1, AV.sh0, AO.sh, List.map_cons, List.map_nil, Nat.zero_add, Nat.add_zero, setAll])
  | ((apply AOps.splitP; exact rfl; exact rfl) <;> intro h)
  | ((apply AOps.splitN; exact rfl; exact rfl) <;> intro h)
  | (apply w_move; exact rfl; exact rfl)
  | (apply w_assign; exact rfl; exact rfl)
  | apply AWp.seq
  | apply AWp.region
  | ((apply AWp.condP; exact rfl) <;> intro h)
  | ((apply AWp.condN; exact rfl) <;> intro h)
  | (apply AWp.condT; exact rfl)
  | (apply AWp.condF; exact rfl)
  | ((apply AWp.condB; exact rfl) <;> intro h)
  | apply AWp.block
  | apply AWp.ret
  | apply AWp.exit
  | apply AWp.skip
  | (apply AWp.regionQ; kernel_rfl; kernel_rfl)
  | (apply if_pos'; exact rfl)
  | (apply if_neg'; decide)
  | (apply w_skip; exact rfl)
  | (apply w_pickT; exact rfl; exact rfl; exact rfl)
  | (apply w_pickF; exact rfl; exact rfl; exact rfl)
  | (apply w_len; exact rfl; exact rfl; first | exact .ints _ | exact .intss _ | exact .sli rfl | exact .sls rfl | exact .slr rfl | exact .orow rfl | exact .nil)
  | (apply w_call (inRange_c _ _ _); exact rfl; exact rfl; focus ((repeat (first | exact im_nil | refine im_cons rfl (.val _) ?_ | refine im_cons rfl (.ints _) ?_ | refine im_cons rfl (.intss _) ?_ | refine im_cons rfl (.sli rfl) ?_ | refine im_cons rfl (.sls rfl) ?_ | refine im_cons rfl (.orow rfl) ?_ | refine im_cons rfl (.osub rfl (by simp; omega)) ?_ | refine im_cons rfl (.nil) ?_ | refine im_cons rfl (.nils) ?_ | refine im_cons rfl (im_agg2 (.val _) (.ints _)) ?_ | refine im_cons rfl (im_agg2 (.val _) (.sli rfl)) ?_ | refine im_cons rfl (im_agg2 (.val _) (.nil)) ?_ | refine im_cons rfl (im_agg2 (.ints _) (.intss _)) ?_ | refine im_cons rfl (im_agg2 (.ints _) (.sls rfl)) ?_ | refine im_cons rfl (im_agg2 (.sli rfl) (.intss _)) ?_ | refine im_cons rfl (im_agg2 (.sli rfl) (.sls rfl)) ?_ | refine im_cons rfl (im_agg1 (.ints _)) ?_ | refine im_cons rfl (im_agg1 (.sli rfl)) ?_ | refine im_cons rfl (im_agg1 (.intss _)) ?_ | refine im_cons rfl (im_agg1 (.sls rfl)) ?_ | refine im_cons rfl (im_agg1 (.nil)) ?_ | refine im_cons rfl (im_agg1 (.nils)) ?_)); done))
  | ((first | apply w_lss | apply w_leq | apply w_gtr | apply w_geq | apply w_eql | apply w_neq | apply w_add | apply w_sub | apply w_mul | apply w_idx | apply w_ld | apply w_fld | apply w_fa | apply w_extv | apply w_min | apply w_max | apply w_slhi | apply w_sllo | apply w_bs2); iterate 3 exact rfl)
  | ((first | apply w_eqlb | apply w_neqb | apply w_idxs | apply w_lds | apply w_ext); iterate 3 exact rfl)
  | (apply w_rem; exact rfl; exact rfl; exact rfl; (focus (omega; done)); (focus (omega; done)))
  | (apply w_quo; exact rfl; exact rfl; exact rfl; (focus (omega; done)); (focus (omega; done)))
  | (apply w_remT; exact rfl; exact rfl; exact rfl)
  | (apply w_quoT; exact rfl; exact rfl; exact rfl)
  | ((first | apply w_not | apply w_neg | apply w_conv | apply w_build0 | apply w_bs1 | apply w_boxa); iterate 2 exact rfl)
  | (apply w_idxo; exact rfl; exact rfl; (first | exact .sli rfl | exact .sls rfl | exact .slr rfl); exact rfl)
  | ((first | apply w_idxr | apply w_ldr); iterate 4 exact rfl)
  | (apply w_ldo; iterate 4 exact rfl)
  | (apply w_ldls; iterate 4 exact rfl)
  | (apply w_ldrp; iterate 4 exact rfl)
  | (apply w_ldb; iterate 5 exact rfl)
  | (apply w_ldst; iterate 5 exact rfl)
  | ((first | apply w_sllh | apply w_stbi); iterate 4 exact rfl)
  | ((first | apply w_oslo | apply w_oshi | apply w_stbii); iterate 4 exact rfl)
  | (apply w_copy; exact rfl; (first | exact .own rfl rfl rfl | exact .osub); exact rfl; rotate_left 1; exact rfl; (first | exact .ints _ | exact .sli rfl | exact .orow rfl | exact .nil | exact .osub rfl (by simp; omega)))
  | (apply w_build1; exact rfl; exact rfl; (first | exact one_val rfl rfl | exact one_ints | exact one_intss | exact one_own rfl True.intro))
  | (apply w_build2; exact rfl; exact rfl; exact rfl; (first | exact one_val rfl rfl | exact one_ints | exact one_intss | exact one_own rfl True.intro); (first | exact one_val rfl rfl | exact one_ints | exact one_intss | exact one_own rfl True.intro))
  | (apply w_bs0; iterate 1 exact rfl)
  | (apply w_appn; exact rfl; exact rfl; (first | exact .ints _ | exact .sli rfl | exact .orow rfl | exact .nil | exact .osub rfl (by simp; omega)); exact rfl)
  | (apply w_app; exact rfl; exact rfl; exact rfl; exact rfl; (first | exact .ints _ | exact .sli rfl | exact .orow rfl | exact .nil | exact .osub rfl (by simp; omega)); rotate_left 1; simp only [Env.mp, List.map_cons, List.map_nil, List.set_cons_zero, List.set_cons_succ, AV.kill, AV.kill1, AO.kill, AV.noRow, AV.noRow1, AO.via, reduceIte, Nat.reduceEqDiff, Nat.reduceLT, Env.up, Nat.zero_ne_one, Nat.one_ne_zero, Nat.reduceAdd, List.cons_append, List.nil_append]; rotate_left 1)
  | (apply w_alst; iterate 2 exact rfl)
  | (apply w_alone; iterate 3 exact rfl)
  | (apply w_mki; exact rfl; exact rfl; rotate_left 3; exact rfl; rotate_left 1)
  | (apply w_mkr; exact rfl; exact rfl; rotate_left 3; exact rfl; rotate_left 1)
  | (apply w_strow; exact rfl; exact rfl; rotate_left 1; exact rfl; exact rfl; exact rfl; exact rfl; simp only [Env.mp, List.map_cons, List.map_nil, List.set_cons_zero, List.set_cons_succ, AV.kill, AV.kill1, AO.kill, AV.noRow, AV.noRow1, AO.via, reduceIte, Nat.reduceEqDiff, Nat.reduceLT, Env.up, Nat.zero_ne_one, Nat.one_ne_zero, Nat.reduceAdd, List.cons_append, List.nil_append]; rotate_left 1)
  | (apply w_sti; exact rfl; exact rfl; rotate_left 1; exact rfl; rotate_left 2)
  | (apply w_stst; iterate 5 exact rfl)
  | (apply w_stbv; iterate 6 exact rfl)
  | (apply w_stbo; exact rfl; exact rfl; exact rfl; exact rfl; exact rfl; exact True.intro)
  | ((apply AOps.splitB; exact rfl; exact rfl) <;> intro h)
  | apply AllOf.nil
  | (apply AllOf.cons; exact rfl)
  | (apply AAny.take; exact rfl; exact rfl; kernel_rfl; kernel_rfl)
  | (apply AAny.all; exact rfl)
  | (apply AAny.done; exact rfl)
  | (apply inI_of <;> omega)
  | omega
  | (simp <;> omega))
  · exact .bool Try.results43 rfl (withinL_false xs a b i h0 (by omega) h).symm
  · exact ⟨i + 1, ⟨by omega, by omega, by rw [withinL_snoc xs a b i h0 (by omega)]; simp [*]⟩, by omega, ⟨lee rfl (by (repeat (first | exact le_nil | refine le_eq rfl rfl ?_ | refine le_eq rfl (congrArg AV.i (by omega)) ?_))), by (repeat (first | exact lo_nil | refine lo_dead ?_ | refine lo_eq rfl ?_)), rfl, rfl⟩⟩
  · rw [List.take_of_length_le (by omega)] at h2
    exact .bool Try.results43 rfl h2.symm
end Go.Proofs.Ytlkhcelodcneiaa
/-
  Regions that draw their order and make memory: every order is walked. No condition.
-/
namespace Go.Proofs.Ytlkhcelodcneiaa
open Go Go.RowKit

theorem Oper.wp_mono2 {P : Program} {o : Oper} {a : Act} {w : World} {K K' : Act → World → Prop} {Q Q' : Exit → Act → World → Prop} (hK : ∀ a w, K a w → K' a w) (hp : ∀ c a w, Q (.panic c) a w → Q' (.panic c) a w)
    (hl : LetsOut Q → LetsOut Q') (h : Oper.wp P o a w K Q) : Oper.wp P o a w K' Q' := by
  unfold Oper.wp at *
  generalize (execOp a.eval o).run P w = r at *
  cases r with
  | ok n w' =>
    cases n <;> simp only [Oper.upon] at h ⊢
    case value u => exact hK _ _ h
    case skip => exact hK _ _ h
    case defer d => exact hK _ _ h
    case enter f args =>
      refine Calls.mono h fun e w'' he => ?_
      cases e with
      | returned u => exact hK _ _ he
      | panicked c => exact hp _ _ _ he
      | outgrown => exact hl he
    case row row args => exact Rows.mono h fun u w'' he => hK _ _ he
  | halt x w' =>
    cases x <;> simp only [Oper.upon] at h ⊢
    case panic u => exact hp _ _ _ h

/-- What may come up now. -/
def rdyGo (listed : List Bool) : Nat → List Oper → List Nat
  | _, [] => []
  | k, o :: os => cond (!(listed.getD k true) && o.after.toList.all fun e => !Region.binds .any e || listed.getD e.on false) (k :: rdyGo listed (k + 1) os) (rdyGo listed (k + 1) os)

theorem mem_rdyGo {listed : List Bool} {j : Nat} : ∀ {k : Nat} {l : List Oper}, j ∈ rdyGo listed k l ↔ k ≤ j ∧ listed.getD j true = false ∧ ∃ o, l[j - k]? = some o ∧ ∀ e ∈ o.after, Region.binds .any e = true → listed.getD e.on false = true
  | k, [] => by simp [rdyGo]
  | k, o :: os => by
    have ih := mem_rdyGo (listed := listed) (j := j) (k := k + 1) (l := os)
    have step : (k + 1 ≤ j ∧ listed.getD j true = false ∧ ∃ o', os[j - (k + 1)]? = some o' ∧ ∀ e ∈ o'.after, Region.binds .any e = true → listed.getD e.on false = true) ↔
        (k ≤ j ∧ j ≠ k ∧ listed.getD j true = false ∧ ∃ o', (o :: os)[j - k]? = some o' ∧ ∀ e ∈ o'.after, Region.binds .any e = true → listed.getD e.on false = true) := by
      constructor
      · rintro ⟨h1, h2, o', h3, h4⟩
        exact ⟨by omega, by omega, h2, o', by rw [show j - k = (j - (k + 1)) + 1 by omega]; exact h3, h4⟩
      · rintro ⟨h1, h0, h2, o', h3, h4⟩
        exact ⟨by omega, h2, o', by rw [show j - k = (j - (k + 1)) + 1 by omega] at h3; exact h3, h4⟩
    have here : (!(listed.getD k true) && o.after.toList.all fun e => !Region.binds .any e || listed.getD e.on false) = true ↔ (listed.getD k true = false ∧ ∀ e ∈ o.after, Region.binds .any e = true → listed.getD e.on false = true) := by
      rw [Bool.and_eq_true, List.all_eq_true]
      constructor
      · rintro ⟨h1, h2⟩
        refine ⟨by simpa using h1, fun e he hb => ?_⟩
        have := h2 e (by simpa using he)
        simpa [hb] using this
      · rintro ⟨h1, h2⟩
        refine ⟨by simpa using h1, fun e he => ?_⟩
        by_cases hb : Region.binds .any e = true
        · rw [h2 e (by simpa using he) hb]; simp
        · simp [hb]
    unfold rdyGo
    cases hc : (!(listed.getD k true) && o.after.toList.all fun e => !Region.binds .any e || listed.getD e.on false) with
    | true =>
      rw [cond_true, List.mem_cons, ih, step]
      have hh := here.1 hc
      constructor
      · rintro (rfl | ⟨h1, _, h2, h3⟩)
        · exact ⟨Nat.le_refl _, hh.1, o, by simp, hh.2⟩
        · exact ⟨h1, h2, h3⟩
      · rintro ⟨h1, h2, h3⟩
        by_cases e : j = k
        · exact .inl e
        · exact .inr ⟨h1, e, h2, h3⟩
    | false =>
      rw [cond_false, ih, step]
      constructor
      · rintro ⟨h1, _, h2, h3⟩; exact ⟨h1, h2, h3⟩
      · rintro ⟨h1, h2, o', h3, h4⟩
        refine ⟨h1, ?_, h2, o', h3, h4⟩
        intro e
        subst e
        simp at h3
        subst h3
        have := here.2 ⟨h2, h4⟩
        rw [hc] at this
        cases this

theorem mem_rdy {l : List Oper} {listed : List Bool} {j : Nat} : j ∈ Region.ready .any l.toArray listed.toArray ↔ j ∈ rdyGo listed 0 l := by
  rw [mem_ready, mem_rdyGo]
  simp [Array.getD_eq_getD_getElem?, List.getD_eq_getElem?_getD]

/-- Whatever order is picked from here on. -/
def AAny (P : Program) (l : List Oper) (fuel : Nat) (listed : List Bool) (K : APost) (env : Env) (os : List AO) : Prop :=
  ∀ base w0 w gs tm, Rel base w gs env os tm → Below base w0 w → ∀ X Rt, wpAny P .any l.toArray (Post base w0 K X Rt) fuel listed.toArray ⟨tm, []⟩ w

/-- Each of these comes up next. -/
def AllOf (P : Program) (l : List Oper) (fuel : Nat) (listed : List Bool) (K : APost) (env : Env) (os : List AO) : List Nat → Prop
  | [] => True
  | i :: is => (∃ o, l[i]? = some o ∧ AOps P .seq l [o] (fun env os => AAny P l fuel (listed.set i true) K env os) env os) ∧ AllOf P l fuel listed K env os is

section
variable {P : Program} {N : APost} {X : Nat → APost} {Rt : APost} {env : Env} {os : List AO} {l : List Oper} {K : APost} {fuel : Nat} {listed : List Bool}

theorem AllOf.get : ∀ {rs : List Nat}, AllOf P l fuel listed K env os rs → ∀ i ∈ rs, ∃ o, l[i]? = some o ∧ AOps P .seq l [o] (fun env os => AAny P l fuel (listed.set i true) K env os) env os
  | [], _, i, h => by cases h
  | j :: rs, h, i, hi => by
    rcases List.mem_cons.1 hi with rfl | hi
    · exact h.1
    · exact AllOf.get h.2 i hi

theorem AllOf.nil : AllOf P l fuel listed K env os [] := trivial
theorem AllOf.cons {i : Nat} {o : Oper} {is : List Nat} (ho : l[i]? = some o) (h : AOps P .seq l [o] (fun env os => AAny P l fuel (listed.set i true) K env os) env os) (hs : AllOf P l fuel listed K env os is) :
    AllOf P l fuel listed K env os (i :: is) := ⟨⟨o, ho, h⟩, hs⟩

theorem AAny.all {i : Nat} {is : List Nat} (hr : rdyGo listed 0 l = i :: is) (h : AllOf P l fuel listed K env os (i :: is)) : AAny P l (fuel + 1) listed K env os := by
  intro base w0 w gs tm hrel hb X Rt
  refine ⟨fun h0 => ?_, fun j hj => ?_⟩
  · have : i ∈ Region.ready .any l.toArray listed.toArray := mem_rdy.2 (by rw [hr]; simp)
    rw [h0] at this; cases this
  · have hj' := mem_rdy.1 hj
    rw [hr] at hj'
    obtain ⟨o, ho, hop⟩ := h.get j hj'
    have := hop base w0 w gs tm hrel hb X Rt
    unfold wpOp
    have ho' : l.toArray[j]? = some o := by simpa using ho
    rw [ho']
    have kk : ∀ a w', Post base w0 (fun env os => AAny P l fuel (listed.set j true) K env os) X Rt .normal a w' → wpAny P .any l.toArray (Post base w0 K X Rt) fuel (listed.toArray.setIfInBounds j true) a w' := by
      rintro a w' ⟨env', os', gs', h1, h2, h3, h4⟩
      have ea : a = ⟨a.tmps, []⟩ := by cases a; simp_all
      rw [ea]
      have := h4 base w0 w' gs' a.tmps h1 h3 X Rt
      rwa [show listed.toArray.setIfInBounds j true = (listed.set j true).toArray from by simp]
    unfold wpList at this
    simp only
    split
    · rename_i hw
      rw [if_pos hw] at this
      rcases this with this | ⟨h1, ⟨a, w', h2⟩⟩
      · exact .inl (Oper.wp_mono2 kk (fun _ _ _ h => (h : False).elim) (fun ⟨_, _, h⟩ => (h : False).elim) this)
      · exact (h2 : False).elim
    · rename_i hw
      rw [if_neg hw] at this
      exact kk _ _ this

theorem AAny.done (hr : rdyGo listed 0 l = []) (h : K env os) : AAny P l fuel listed K env os := by
  intro base w0 w gs tm hrel hb X Rt
  have hr' : Region.ready .any l.toArray listed.toArray = [] := by
    apply List.eq_nil_iff_forall_not_mem.2
    intro j hj
    have := mem_rdy.1 hj
    rw [hr] at this; cases this
  cases fuel with
  | zero => exact ⟨hr', env, os, gs, hrel, rfl, hb, h⟩
  | succ n => exact ⟨fun _ => ⟨env, os, gs, hrel, rfl, hb, h⟩, by rw [hr']; intro j hj; cases hj⟩

/-- What needs no world. -/
def wlessB (o : Oper) : Bool :=
  match o.op with
  | .move _ => true
  | .assign _ => true
  | .pick _ _ _ => true
  | .build _ _ => true
  | .binOp _ _ _ _ _ => true
  | .unOp _ _ _ => true
  | .convert _ _ _ => true
  | .fieldAddr _ _ _ => true
  | .field _ _ _ => true
  | .indexAddr _ _ _ => true
  | .extract _ _ => true
  | .call c => match c.callee with
    | .builtin .len => true
    | .builtin .min => true
    | .builtin .max => true
    | _ => false
  | _ => false
def findW (l : List Oper) : List Nat → Option Nat
  | [] => none
  | i :: is => cond (match l[i]? with | some o => wlessB o | none => false) (some i) (findW l is)

theorem findW_mem {l : List Oper} : ∀ {is : List Nat} {i : Nat}, findW l is = some i → i ∈ is
  | [], _, h => by cases h
  | j :: is, i, h => by
    simp only [findW] at h
    cases hb : (match l[j]? with | some o => wlessB o | none => false) with
    | true => rw [hb] at h; simp at h; simp [h]
    | false => rw [hb] at h; exact List.mem_cons_of_mem _ (findW_mem h)

/-- An operation that needs no world is taken first. -/
theorem AAny.take {i : Nat} {o : Oper} (hi : findW l (rdyGo listed 0 l) = some i) (ho : l[i]? = some o) (hs : Region.noSelect l.toArray = true) (hf : Region.free .any l.toArray listed.toArray i = true)
    (h : AOps P .wless l [o] (fun env os => AAny P l fuel (listed.set i true) K env os) env os) : AAny P l (fuel + 1) listed K env os := by
  intro base w0 w gs tm hrel hb X Rt
  obtain ⟨v, hy, env', os', gs', hk, hd, hr'⟩ := h base w gs tm hrel
  refine wpAny_take (oi := o) (v := v) (by simpa using ho) hs hf ?_ (fun _ _ _ h => h.elim) hy ?_
  · have : i ∈ Region.ready .any l.toArray listed.toArray := mem_rdy.2 (findW_mem hi)
    simpa using this
  · have := hk base w0 w gs' _ hr' hb X Rt
    rw [show listed.toArray.setIfInBounds i true = (listed.set i true).toArray from by simp]
    have e : (⟨(Act.put ⟨tm, []⟩ o.dst v).tmps, []⟩ : Act) = Act.put ⟨tm, []⟩ o.dst v := by
      have : (Act.put ⟨tm, []⟩ o.dst v).defers = [] := hd
      generalize Act.put ⟨tm, []⟩ o.dst v = a at this
      cases a; simp_all
    rw [e] at this
    exact this

/-- A region that draws its order: every order comes to a state that may be seen as (envC, osC). -/
theorem AWp.regionA {id : Nat} (hm : P.follows .mixedOrders = true) {envC : Env} {osC : List AO} {n : Nat} (hn : l.length = n) {listed : List Bool} (hl : List.replicate n false = listed)
    (h : AAny P l n listed (fun e o => Fit e o envC osC ∨ ∃ σ, FitS σ e o envC osC) env os) (hk : N envC osC) : AWp P (.region id l.toArray true) N X Rt env os := by
  intro base w0 w gs tm hr hb
  have hbel : Below w.heap.size w { w with drawn := w.drawn + 1 } := (Below.refl _ _).drew
  refine wp_region_any hm ?_
  have := h base w0 _ gs tm (hr.below hbel) (hb.trans (hbel.mono hr.hb)) X Rt
  rw [← hl] at this
  have e1 : (List.replicate n false).toArray = Array.replicate l.toArray.size false := by simp [hn]
  rw [e1] at this
  have e2 : l.toArray.size = n := by simpa using hn
  rw [e2] at this ⊢
  refine wpAny_monoQ ?_ this
  intro e a w' hq
  cases e with
  | normal =>
    obtain ⟨env', os', gs', r1, r2, r3, hf⟩ := hq
    rcases hf with hf | ⟨σ, hf⟩
    · obtain ⟨gs2, r4⟩ := r1.fit hf
      exact ⟨envC, osC, gs2, r4, r2, r3, hk⟩
    · obtain ⟨gs2, r4⟩ := r1.fits hf
      exact ⟨envC, osC, gs2, r4, r2, r3, hk⟩
  | exit j => exact hq
  | ret => exact hq
  | goto l => exact hq
  | panic ch => exact hq
  | outgrown => exact hq
where
  wpAny_monoQ {P : Program} {ops : Array Oper} {Q Q' : Exit → Act → World → Prop} (hq : ∀ e a w, Q e a w → Q' e a w) : ∀ {fuel : Nat} {listed : Array Bool} {a : Act} {w : World}, wpAny P .any ops Q fuel listed a w → wpAny P .any ops Q' fuel listed a w
    | 0, _, _, _, h => ⟨h.1, hq _ _ _ h.2⟩
    | fuel + 1, _, _, _, h => by
      refine ⟨fun h0 => hq _ _ _ (h.1 h0), fun i hi => ?_⟩
      have := h.2 i hi
      unfold wpOp at this ⊢
      split
      · rename_i ho; rw [ho] at this; exact wpAny_monoQ hq this
      · rename_i o ho
        rw [ho] at this
        simp only at this
        split
        · rename_i hw
          rw [if_pos hw] at this
          rcases this with h1 | ⟨h1, a, w, h2⟩
          · exact .inl (Oper.wp_mono2 (fun _ _ h' => wpAny_monoQ hq h') (fun _ _ _ => hq _ _ _) (fun ⟨a, w, h⟩ => ⟨a, w, hq _ _ _ h⟩) h1)
          · exact .inr ⟨h1, a, w, hq _ _ _ h2⟩
        · rename_i hw
          rw [if_neg hw] at this
          exact wpAny_monoQ hq this

end
end Go.Proofs.Ytlkhcelodcneiaa
/-
  More rules: parts of own slices as sources, a slice compared with nil, functions that hand back a part of what they are handed. No condition.
-/
namespace Go.Proofs.Ytlkhcelodcneiaa
open Go Go.RowKit
section
variable {P : Program} {env : Env} {os : List AO} {d : Option Tmp} {ty : TypeId} {pos : String} {af : Array Edge} {g : Option (Nat × Bool)} {wl : Bool}

end

section
variable {P : Program} {env : Env} {os : List AO} {d : Tmp} {ty : TypeId} {pos : String} {af : Array Edge} {g : Option (Nat × Bool)} {l rest : List Oper} {K : APost} {q : Md}
end

/-! ### Functions that hand back a part of what they are handed -/
/-- The function leaves the object 'os' behind the handle 0 as it is, and hands back a part of it: what lies off on, len long. -/
def AFnR (P : Program) (f : FuncId) (args : List AV) (T : TypeId) (xs : List Int) (off len : Nat) : Prop :=
  HasBody P f ∧ ∀ base w gs vs, base ≤ w.heap.size → Objs base w gs [.sli T xs] → vs.size = args.length → (∀ i : Nat, RV w (okOf gs [.sli T xs]) gs (vs.getD i undef) (args.getD i .any)) →
    Calls P f vs w fun e w' => ∃ v, e = .returned v ∧ RV w' (fun _ => True) gs v (.osub 0 off len) ∧ Objs base w' gs [.sli T xs] ∧ Below base w w' ∧ ∀ b, b < w.heap.size → (∀ (h : Nat) g, gs[h]? = some g → b ∉ g.bl) → w'.heap[b]? = w.heap[b]?
theorem AFnR.of {P : Program} {f : FuncId} {fn : Func} {c : Code} {args : List AV} {T : TypeId} {xs : List Int} {off len : Nat} {n : Nat} (hf : P.funcs[f]? = some fn) (hb : fn.body = some c) (hnm : (fn.name == "runtime.NumGoroutine") = false) (hn : fn.ntmps - args.length = n)
    (h : ∀ K, AWp P c (fun _ _ => False) (fun _ _ _ => False) (fun env os1 => ResIs P fn env os1 (.osub 0 off len) ∧ os1.take 1 = [.sli T xs] ∧ os1[1]? = some (.keep 2 K)) (Env.start args n) [.sli T xs, .keep 2 K]) :
    AFnR P f args T xs off len := by
  obtain ⟨os, hos⟩ : ∃ os : List AO, os = [.sli T xs] := ⟨_, rfl⟩
  have h' : ∀ K, AWp P c (fun _ _ => False) (fun _ _ _ => False) (fun env os1 => ResIs P fn env os1 (.osub 0 off len) ∧ os1.take os.length = os ∧ os1[os.length]? = some (.keep (os.length + 1) K) ∧ ∀ o ∈ os, o.plain) (Env.start args n) (os ++ [.keep (os.length + 1) K]) := by
    subst hos
    exact fun K => (h K).mono (fun _ _ e => e) (fun _ _ _ e => e) fun _ _ ⟨e1, e2, e3⟩ => ⟨e1, e2, e3, by intro o ho; simp at ho; subst ho; trivial⟩
  unfold AFnR
  rw [← hos]
  refine ⟨⟨fn, c, hf, hnm, hb⟩, fun base w gs vs hbase hO hsz hvs => calls_of_wp hf hb ?_⟩
  rw [show fn.ntmps - vs.size = n by rw [hsz]; exact hn]
  let bl : List Nat := (List.range w.heap.size).filter fun b => decide (base ≤ b) && gs.all fun g => !g.bl.contains b
  let gk : Gh := ⟨undef, 0, bl, []⟩
  let K : Kp := ⟨fun b => w.heap[b]?, gs ++ [gk]⟩
  have hbl : ∀ b, b ∈ bl ↔ b < w.heap.size ∧ base ≤ b ∧ ∀ (h : Nat) g, gs[h]? = some g → b ∉ g.bl := by
    intro b
    simp only [bl, List.mem_filter, List.mem_range, Bool.and_eq_true, decide_eq_true_eq, List.all_eq_true, Bool.not_eq_true', List.contains_eq_mem, decide_eq_false_iff_not]
    constructor
    · rintro ⟨h1, h2, h3⟩
      exact ⟨h1, h2, fun h g hg => h3 g (List.mem_of_getElem? hg)⟩
    · rintro ⟨h1, h2, h3⟩
      exact ⟨h1, h2, fun g hg => by obtain ⟨i, hi⟩ := List.getElem?_of_mem hg; exact h3 i g hi⟩
  have hl := hO.hl
  have part : ∀ {i : Nat} {x : Gh} {y : AO}, (gs ++ [gk])[i]? = some x → (os ++ [.keep (os.length + 1) K])[i]? = some y → (gs[i]? = some x ∧ os[i]? = some y) ∨ (i = os.length ∧ x = gk ∧ y = .keep (os.length + 1) K) := by
    intro i x y hx hy
    rcases append_one hx with ⟨h1, h2⟩ | ⟨h1, rfl⟩
    · rcases append_one hy with ⟨h3, h4⟩ | ⟨h3, rfl⟩
      · exact .inl ⟨h2, h4⟩
      · omega
    · rcases append_one hy with ⟨h3, h4⟩ | ⟨h3, rfl⟩
      · omega
      · exact .inr ⟨h3, rfl, rfl⟩
  have gl : ∀ (i : Nat) x, gs[i]? = some x → (gs ++ [gk])[i]? = some x := fun i x e => by
    rw [List.getElem?_append_left (List.getElem?_eq_some_iff.1 e).1]; exact e
  have kp : Keeps (okOf gs os) (okOf (gs ++ [gk]) (os ++ [.keep (os.length + 1) K])) w w := by
    intro b hbk _
    refine ⟨fun i x y hx hy hny hm => ?_, rfl⟩
    rcases part hx hy with ⟨h1, h2⟩ | ⟨_, _, rfl⟩
    · exact hbk i x y h1 h2 hny hm
    · exact hny.elim
  have hrel : Rel base w (gs ++ [gk]) (Env.start args n) (os ++ [.keep (os.length + 1) K]) (vs ++ Array.replicate n undef) := by
    refine ⟨hbase, by simp [hl], by simp [Env.start, hsz], fun i => ?_, ?_, ?_, ?_⟩
    · exact start_rv args n vs (fun i => (hvs i).mono kp gl) i
    · intro i x y hx hy
      rcases part hx hy with ⟨h1, h2⟩ | ⟨_, rfl, rfl⟩
      · exact (hO.hp y (List.mem_of_getElem? h2)).ro (hO.ho i x y h1 h2)
      · exact ⟨fun b _ => rfl, by simp [K, hl], fun i x h => h⟩
    · intro i j g1 g2 o1 o2 hij hg1 hg2 ho1 ho2 _ _ b hb1 hb2
      rcases part hg1 ho1 with ⟨a1, a2⟩ | ⟨a1, rfl, _⟩
      · rcases part hg2 ho2 with ⟨b1, b2⟩ | ⟨_, rfl, _⟩
        · exact hO.hd i j g1 g2 hij a1 b1 b hb1 hb2
        · exact ((hbl b).1 hb2).2.2 i g1 a1 hb1
      · rcases part hg2 ho2 with ⟨b1, b2⟩ | ⟨b1, _, _⟩
        · exact ((hbl b).1 hb1).2.2 j g2 b1 hb2
        · omega
    · intro i x y hx hy _ b hb
      rcases part hx hy with ⟨h1, h2⟩ | ⟨_, rfl, _⟩
      · exact hO.hn i x h1 b hb
      · exact ⟨((hbl b).1 hb).2.1, ((hbl b).1 hb).1⟩
  refine wp_mono (h' K base w w _ _ hrel (Below.refl _ _)) ?_
  intro e a w' hq
  cases e with
  | normal => obtain ⟨_, _, _, _, _, _, hx⟩ := hq; exact hx.elim
  | exit j => obtain ⟨_, _, _, _, _, _, hx⟩ := hq; exact hx.elim
  | ret =>
    obtain ⟨env, os1, gs1, hr, hd, hbel, h1, h3, h4, h5⟩ := hq
    obtain ⟨v, hu, hv⟩ := h1 _ _ _ _ hr
    have hlt : os.length < os1.length := (List.getElem?_eq_some_iff.1 h4).1
    have hltg : os.length < gs1.length := by have := hr.hl; omega
    obtain ⟨g1, hg1⟩ : ∃ g1, gs1[os.length]? = some g1 := ⟨_, List.getElem?_eq_getElem hltg⟩
    obtain ⟨r1, r2, r3⟩ := hr.ho _ _ _ hg1 h4
    have pin : ∀ (i : Nat) x, gs[i]? = some x → gs1[i]? = some x := fun i x e => r3 i x (gl i x e)
    have egk : g1 = gk := by
      have := r3 os.length gk (by show (gs ++ [gk])[os.length]? = some gk; rw [← hl]; simp)
      rw [hg1] at this
      exact Option.some.inj this
    rw [egk] at r1
    have get' : ∀ {i : Nat} {y : AO}, os[i]? = some y → os1[i]? = some y ∧ i < os.length := by
      intro i y hy
      rw [← h3, List.getElem?_take] at hy
      split at hy
      · exact ⟨hy, ‹_›⟩
      · cases hy
    refine ⟨hd, v, hu, v, rfl, ?_, ⟨hO.hl, h5, ?_, hO.hd, ?_⟩, hbel, ?_⟩
    · cases hv with
      | @osub _ _ _ cap p g0 hg hp hc hm =>
        have hlt0 : 0 < gs.length := by rw [hl, hos]; simp
        have e0 := pin 0 _ (List.getElem?_eq_getElem hlt0)
        rw [hg] at e0
        cases e0
        exact .osub (List.getElem?_eq_getElem hlt0) hp hc hm
    · intro i x y hx hy
      obtain ⟨h6, h7⟩ := get' hy
      exact (h5 y (List.mem_of_getElem? hy)).ro (hr.ho i x y (pin i x hx) h6)
    · intro i x hx b hb
      have := hO.hn i x hx b hb
      exact ⟨this.1, Nat.lt_of_lt_of_le this.2 hbel.size⟩
    · intro b hb hnot
      rcases Nat.lt_or_ge b base with h6 | h6
      · exact hbel.block b h6
      · exact r1 b ((hbl b).2 ⟨hb, h6, hnot⟩)
  | goto l => exact (hq : False).elim
  | panic ch => exact (hq : False).elim
  | outgrown => exact (hq : False).elim


theorem AFnR.start {P : Program} {f : FuncId} {fn : Func} {nt : Nat} {args : List AV} {T : TypeId} {xs : List Int} {off len : Nat} (hf : P.funcs[f]? = some fn) (hnt : fn.ntmps = nt) {c : Code} (hb : fn.body = some c) (hnm : (fn.name == "runtime.NumGoroutine") = false)
    (h : ∀ K, AWp P c (fun _ _ => False) (fun _ _ _ => False) (fun env os1 => ResIs P fn env os1 (.osub 0 off len) ∧ os1.take 1 = [.sli T xs] ∧ os1[1]? = some (.keep 2 K)) (Env.start args (nt - args.length)) [.sli T xs, .keep 2 K]) :
    AFnR P f args T xs off len := AFnR.of hf hb hnm (by rw [hnt]) h

section
variable {P : Program} {env : Env} {os : List AO} {d : Tmp} {ty : TypeId} {pos : String} {af : Array Edge} {l rest : List Oper} {K : APost}
end
end Go.Proofs.Ytlkhcelodcneiaa
/-
  Rows that go into own slices by append; literal slices of rows. No condition.
-/
namespace Go.Proofs.Ytlkhcelodcneiaa
open Go Go.RowKit

/-- The slice 'k' is now the row j of 'p'; what names p's own value or block is lost. -/
def AV.rin1 (k p j : Nat) : AV → AV
  | .own i => if i = k then .orow p j else if i = p then .any else .own i
  | .optr i n => if i = p then .any else .optr i n
  | .osub i a b => if i = p then .any else .osub i a b
  | .agg _ => .any
  | .tup _ => .any
  | a => a
def AV.rin (k p j : Nat) : AV → AV
  | .own i => if i = k then .orow p j else if i = p then .any else .own i
  | .optr i n => if i = p then .any else .optr i n
  | .osub i a b => if i = p then .any else .osub i a b
  | .agg l => .agg (l.map (AV.rin1 k p j))
  | .tup l => .tup (l.map (AV.rin1 k p j))
  | a => a

section
variable {w w' : World} {ok ok' : Nat → Prop} {gs gs' : List Gh} {p k j : Nat} {gk g' : Gh}

structure RowIn (p k j : Nat) (gs gs' : List Gh) : Prop where
  other : ∀ (i : Nat) g, i ≠ p → gs[i]? = some g → gs'[i]? = some g
  rows : ∀ g, gs[p]? = some g → ∃ g', gs'[p]? = some g' ∧ ∀ (i : Nat) v, g.rows[i]? = some v → g'.rows[i]? = some v
  row : ∀ gk, gs[k]? = some gk → ∃ g', gs'[p]? = some g' ∧ g'.rows[j]? = some gk.v

theorem RV.rin1 (kp : Keeps ok ok' w w') (s : RowIn p k j gs gs') {v : Value} {a : AV} (hv : RV w ok gs v a) : RV w' ok' gs' v (a.rin1 k p j) := by
  cases hv with
  | any v => exact .any v
  | val v => exact .val v
  | ints h => exact .ints (h.mono kp)
  | intss h => exact .intss (h.mono kp)
  | @ro v r h => exact .ro (r.up kp h)
  | iptr h h1 h2 => exact .iptr (h.mono kp) h1 h2
  | iiptr h h1 h2 => exact .iiptr (h.mono kp) h1 h2
  | @own i g h1 =>
    simp only [AV.rin1]; split
    · subst_vars
      obtain ⟨g', a1, a2⟩ := s.row _ h1
      exact .orow a1 a2
    · split
      · exact .any _
      · exact .own (s.other _ _ ‹_› h1)
  | optr h1 =>
    simp only [AV.rin1]; split
    · exact .any _
    · exact .optr (s.other _ _ ‹_› h1)
  | osub h1 h2 h3 h4 =>
    simp only [AV.rin1]; split
    · exact .any _
    · exact .osub (s.other _ _ ‹_› h1) h2 h3 h4
  | @orow h i g v h1 h2 =>
    by_cases e : h = p
    · subst e
      obtain ⟨g', a1, a2⟩ := s.rows _ h1
      exact .orow a1 (a2 _ _ h2)
    · exact .orow (s.other _ _ e h1) h2
  | @orptr h i n blk m c g h1 h2 =>
    by_cases e : h = p
    · subst e
      obtain ⟨g', a1, a2⟩ := s.rows _ h1
      exact .orptr a1 (a2 _ _ h2)
    · exact .orptr (s.other _ _ e h1) h2
  | agg _ _ _ => exact .any _
  | tup _ _ => exact .any _

theorem RV.rin (kp : Keeps ok ok' w w') (s : RowIn p k j gs gs') {v : Value} {a : AV} (hv : RV w ok gs v a) : RV w' ok' gs' v (a.rin k p j) := by
  cases hv with
  | any v => exact .any v
  | val v => exact .val v
  | ints h => exact .ints (h.mono kp)
  | intss h => exact .intss (h.mono kp)
  | @ro v r h => exact .ro (r.up kp h)
  | iptr h h1 h2 => exact .iptr (h.mono kp) h1 h2
  | iiptr h h1 h2 => exact .iiptr (h.mono kp) h1 h2
  | @own i g h1 => exact RV.rin1 kp s (.own h1)
  | optr h1 => exact RV.rin1 kp s (.optr h1)
  | osub h1 h2 h3 h4 => exact RV.rin1 kp s (.osub h1 h2 h3 h4)
  | orow h1 h2 => exact RV.rin1 kp s (.orow h1 h2)
  | orptr h1 h2 => exact RV.rin1 kp s (.orptr h1 h2)
  | agg h1 h3 h2 => exact .agg (by simpa using h1) h3 fun i => by rw [getD_map_f _ rfl]; exact (h2 i).rin1 kp s
  | tup h1 h2 => exact .tup (by simpa using h1) fun i => by rw [getD_map_f _ rfl]; exact (h2 i).rin1 kp s
end

section
variable {P : Program} {env : Env} {os : List AO} {d : Option Tmp} {ty : TypeId} {pos : String} {af : Array Edge} {g : Option (Nat × Bool)}

/-- An empty slice of rows. -/
theorem l_bsr0 {t e e2 : TypeId} {bytes : Nat} [ht : TSlice P t e] [he : TElem P e (.slice none 0 0) bytes] [TSlice P e e2] : LOp P ⟨d, .buildSlice t 0 #[], ty, pos, af, g⟩ env os (.own os.length) env (os ++ [.sls e e2 []]) := by
  refine l_new fun base w gs tm hr => ?_
  obtain ⟨ii, hi, hs, hz, hby⟩ := he.info
  refine ⟨w.alloc (.cells #[] e), ⟨.slice (some ⟨w.heap.size, 0, none⟩) 0 0, w.heap.size, [w.heap.size], []⟩, ?_, below_alloc w _, fun b hb => by simp at hb; simp [hb], fun ok gs' => ?_⟩
  · simp [execOp, Instr.buildSlice, run_underlying ht.und, sizeOf, typeInfo, hi, Instr.fill, newRow, ar0]
  · refine ⟨[], [], [w.heap.size], ⟨by simp, .inr ⟨w.heap.size, 0, _, rfl, hr.hb, heap_alloc_new w _, Nat.le_refl _, by simp [maxLen], by simp, by simp⟩⟩, rfl, rfl, rfl, fun i u hu => (by cases hu), .inr ⟨rfl, rfl⟩, by simp, by simp⟩

/-- A literal slice of one row: a block whose cell names the row. -/
theorem l_bsr1 {t e : TypeId} {bytes : Nat} [ht : TSlice P t e] [he : TElem P e (.slice none 0 0) bytes] {x : Operand} {k : Nat} {e3 : TypeId} {ys : List Int} (hx : AV.ev env x = .own k) (hk : os[k]? = some (.sli e3 ys)) :
    LOp P ⟨d, .buildSlice t 1 #[(0, x)], ty, pos, af, g⟩ env os (.osub os.length 0 1) env (os ++ [.bx e [.own k]]) := by
  intro base w gs tm hr
  have hxv := hr.ev x
  rw [hx] at hxv
  generalize hv : Act.eval ⟨tm, []⟩ x = v at hxv
  cases hxv with
  | @own _ gk hgk =>
    obtain ⟨b1, b2, b3⟩ := hr.ho _ _ _ hgk hk
    obtain ⟨ua, uc, eu⟩ := ownsRow_slice b1
    obtain ⟨ii, hi, hs, hz, hby⟩ := he.info
    have hbel := below_alloc w (.cells [gk.v].toArray e)
    have hlt : w.heap.size < (w.alloc (.cells [gk.v].toArray e)).heap.size := by simp
    have hno : AO.bx e [.own k] ≠ .dead → ∀ b, b ∈ [w.heap.size] → w.heap.size ≤ b ∧ b < (w.alloc (.cells [gk.v].toArray e)).heap.size := fun _ b hb => by simp at hb; omega
    let gn : Gh := ⟨.pointer (some ⟨w.heap.size, 0, none⟩), w.heap.size, [w.heap.size], []⟩
    have hgs : ∀ (i : Nat) g', gs[i]? = some g' → (gs ++ [gn])[i]? = some g' := fun i g' e => by
      rw [List.getElem?_append_left (List.getElem?_eq_some_iff.1 e).1]; exact e
    refine ⟨.slice (some ⟨w.heap.size, 0, none⟩) 1 1, _, gs ++ [gn], .inl ?_, hr.new hbel _ _ hno ?_, ?_, hbel.mono hr.hb⟩
    · simp [execOp, Instr.buildSlice, run_underlying ht.und, sizeOf, typeInfo, zeroValue, hi, hs, hz, Instr.fill, newRow, hv, eu, Value.cells, ar1]
    · refine ⟨[gk.v], heap_alloc_new w _, hr.hb, rfl, rfl, rfl, ?_, fun i => ?_⟩
      · intro c hc; simp at hc; subst hc; rw [eu]; rfl
      · match i with
        | 0 => exact .own (hgs _ _ hgk)
        | i + 1 => exact .any _
    · have := RV.osub (w := w.alloc (.cells [gk.v].toArray e)) (ok := okOf (gs ++ [gn]) (os ++ [.bx e [.own k]])) (off := 0) (len := 1) (cap := 1) (p := some ⟨w.heap.size, 0, none⟩) (len_new (gs := gs) (g := gn)) (fun _ => rfl) (Nat.le_refl _) (by simp [maxLen])
      rw [hr.hl] at this
      exact this

theorem nodup_rows {m m' fl c : List Nat} (h : (m ++ fl).Nodup) (hm : m'.Nodup) (hmm : ∀ b, b ∈ m' → b ∉ fl ∧ b ∉ c) (hc : c.Nodup) (hd : ∀ b, b ∈ c → b ∉ m ++ fl) : (m' ++ (fl ++ c)).Nodup := by
  simp only [List.nodup_append, List.mem_append] at *
  obtain ⟨h1, h2, h3⟩ := h
  refine ⟨hm, ⟨h2, hc, ?_⟩, ?_⟩
  · intro a ha b hb e
    subst e
    exact hd a hb (.inr ha)
  · intro a ha b hb e
    subst e
    rcases hb with hb | hb
    · exact (hmm a ha).1 hb
    · exact (hmm a ha).2 hb

set_option maxHeartbeats 1000000 in
/-- One row is appended. -/
theorem l_append_row {t e e3 : TypeId} {bytes : Nat} [ht : TSlice P t e] [he : TElem P e (.slice none 0 0) bytes] {x y : Operand} {h m k : Nat} {e' e2 T : TypeId} {xss : List (List Int)} {ys : List Int}
    (hx : AV.ev env x = .own h) (hs : os[h]? = some (.sls e' e2 xss)) (hee : e' = e) (hy : AV.ev env y = .osub m 0 1) (hm : os[m]? = some (.bx T [.own k])) (hk : os[k]? = some (.sli e3 ys)) (he3 : e3 = e2)
    (hb : (xss.length + 1) * bytes ≤ 140737488355328) :
    LOp P ⟨d, .call { callee := .builtin .append, args := #[x, y], argTypes := #[t, t] }, ty, pos, af, g⟩ env os (.own h) (env.mp (AV.rin k h xss.length)) (((os.map (AO.via (AV.rin k h xss.length) h)).set h (.sls e e2 (xss ++ [ys]))).set k .dead) := by
  subst hee
  subst he3
  intro base w gs tm hr
  have hxv := hr.ev x
  rw [hx] at hxv
  have hyv := hr.ev y
  rw [hy] at hyv
  generalize hv : Act.eval ⟨tm, []⟩ x = v at hxv
  generalize hu : Act.eval ⟨tm, []⟩ y = u at hyv
  have hne : h ≠ k := fun e => by subst e; rw [hs] at hk; cases hk
  cases hxv with
  | @own _ gh hg =>
  cases hyv with
  | @osub _ _ _ cap pa gm hgm hp hc hcm =>
    have epa := hp (by omega)
    subst epa
    obtain ⟨cs, m1, m2, m3, m4, m5, m6, m7⟩ := hr.ho _ _ _ hgm hm
    have hcs := m7 0
    simp only [List.getD_cons_zero] at hcs
    obtain ⟨c0, rfl⟩ : ∃ c0, cs = [c0] := by
      match cs, m5 with
      | [c0], _ => exact ⟨c0, rfl⟩
    simp only [List.getD_cons_zero] at hcs
    cases hcs with
    | @own _ gk hgk =>
    obtain ⟨vs, bs, mb, a1, a2, a3, a4, a5, a6, a7, a8⟩ := hr.ho _ _ _ hg hs
    obtain ⟨b1, b2, b3⟩ := hr.ho _ _ _ hgk hk
    obtain ⟨ua, uc, eu⟩ := ownsRow_slice b1
    obtain ⟨ii, hi, hsz, hz, hby⟩ := he.info
    have h64 : vs.length + 1 ≤ maxLen := by
      have := he.pos
      have : xss.length + 1 ≤ (xss.length + 1) * bytes := Nat.le_mul_of_pos_right _ this
      simp only [maxLen]; omega
    obtain ⟨v', w', r1, r2, r3, r4, r5⟩ := run_append_own_at (P := P) w base t ty e' ii _ 1 bytes ht.und hi hz hsz hby rfl (by omega) gh.v vs.length vs a1 ⟨gm.b, 0, none⟩ 1 cap [gk.v] (by simp)
      (fun j u hj => by
        have hj0 : j = 0 := by have := (List.getElem?_eq_some_iff.1 hj).1; simp at this; exact this
        subst hj0
        rw [add_none, cell_of_row w _ _ _ _ (0, 0) m1]
        simpa using hj)
      (fun u hu => by simp at hu; subst hu; rw [eu]; rfl) h64 (by rw [a2]; exact hb) hr.hb
    have emb : gh.v.ownBlock.toList = mb := by
      rcases a6 with ⟨c1, c2⟩ | ⟨c1, c2⟩
      · rw [c1, c2]; rfl
      · rw [c1, c2]; rfl
    have hgb : ∀ b, b ∉ gh.bl → some b ≠ gh.v.ownBlock := fun b hb e => hb (by rw [a7, ← emb, ← e]; simp)
    have hnotmb : ∀ b, b ∉ mb → some b ≠ gh.v.ownBlock := fun b hb e => hb (by rw [← emb, ← e]; simp)
    have hdis : ∀ c, c ∈ gk.bl → c ∉ gh.bl := hr.hd k h gk gh _ _ (fun e => hne e.symm) hgk hg hk hs (by simp) (by simp)
    have hlt : ∀ b, v'.ownBlock = some b → b < w'.heap.size := by
      intro b hb
      rcases r2.2 with ⟨e1, _⟩ | ⟨gg, cc, cur, e1, _, hgg, _⟩
      · rw [e1] at hb; cases hb
      · rw [e1] at hb; cases hb; exact (Array.getElem?_eq_some_iff.1 hgg).1
    have hhg : h < gs.length := (List.getElem?_eq_some_iff.1 hg).1
    have hbl0 : ∀ b, b ∈ gh.bl → b < w.heap.size := fun b hb => (hr.hn _ _ _ hg hs (by simp) b hb).2
    have hblk : ∀ b, b ∈ gk.bl → b < w.heap.size := fun b hb => (hr.hn _ _ _ hgk hk (by simp) b hb).2
    let g' : Gh := ⟨v', v'.ownBlock.getD 0, v'.ownBlock.toList ++ (bs ++ [gk.bl]).flatten, vs ++ [gk.v]⟩
    have efl : (bs ++ [gk.bl]).flatten = bs.flatten ++ gk.bl := by simp
    have hv'b : ∀ b, b ∈ v'.ownBlock.toList → v'.ownBlock = some b := fun b hb => by
      cases hvb : v'.ownBlock with
      | none => rw [hvb] at hb; simp at hb
      | some c => rw [hvb] at hb; simp at hb; rw [hb]
    have sv : RowIn h k xss.length gs (gs.set h g') := by
      refine ⟨fun j z hj hz => ?_, fun z hz => ⟨g', by simp [hhg], fun i u hiu => ?_⟩, fun z hz => ⟨g', by simp [hhg], ?_⟩⟩
      · rw [List.getElem?_set, if_neg (fun e => hj e.symm)]; exact hz
      · rw [hg] at hz; cases hz
        rw [a4] at hiu
        show (vs ++ [gk.v])[i]? = some u
        rw [List.getElem?_append_left (List.getElem?_eq_some_iff.1 hiu).1]; exact hiu
      · rw [hgk] at hz; cases hz
        show (vs ++ [gk.v])[xss.length]? = some gk.v
        rw [← a2]; simp
    -- a row's block is none of the outer one's
    have rowblk : ∀ (j : Nat) u, vs[j]? = some u → ∀ c, u.ownBlock = some c → c ∈ bs.flatten := by
      intro j u hj c hc
      have hjb : j < bs.length := by
        have := (List.getElem?_eq_some_iff.1 hj).1
        omega
      exact List.mem_flatten.2 ⟨bs.getD j [], by rw [List.getD_eq_getElem?_getD, List.getElem?_eq_getElem hjb]; simp, by rw [← (a5 j u hj).2.2, hc]; simp⟩
    have a8' : (mb ++ bs.flatten).Nodup := by rw [← a7]; exact a8
    have mbfl : ∀ b, b ∈ mb → b ∉ bs.flatten := fun b hb hb2 => (List.nodup_append.1 a8').2.2 b hb b hb2 rfl
    have keep : ∀ c, c < w.heap.size → c ∉ mb → w'.heap[c]? = w.heap[c]? := fun c hc hcm => r3.block c hc (hnotmb c hcm)
    refine ⟨v', w', gs.set h g', .inl ?_, hr.absorb hg hs trivial hgk hk trivial hne g' _ (AV.rin k h xss.length) rfl (fun b hb hn => r3.block b hb (hgb b hn)) r3.size ?_ (fun kp hv => hv.rin kp sv) ?_, ?_, ?_⟩
    · have r1' := r1
      simp only [execOp, resolve, invoke, builtin, Sem.run_bind, Sem.run_pure, Result.andThen_ok, List.map_toArray, List.map_cons, List.map_nil, hv, hu, r1']
    · intro b hb
      rcases List.mem_append.1 hb with hb | hb
      · have hb' := hv'b b hb
        refine ⟨?_, hlt b hb'⟩
        rcases r5 with r5 | r5
        · left
          rw [hb'] at r5
          exact Classical.byContradiction fun hn => hgb b hn r5
        · right; right
          rw [hb'] at r5; cases r5; exact Nat.le_refl _
      · rw [efl] at hb
        rcases List.mem_append.1 hb with hb | hb
        · have : b ∈ gh.bl := by rw [a7]; exact List.mem_append.2 (.inr hb)
          exact ⟨.inl this, Nat.lt_of_lt_of_le (hbl0 b this) r3.size⟩
        · exact ⟨.inr (.inl hb), Nat.lt_of_lt_of_le (hblk b hb) r3.size⟩
    · intro kp
      refine ⟨vs ++ [gk.v], bs ++ [gk.bl], v'.ownBlock.toList, ?_, by simp [a2], by simp [a3], rfl, fun j u hj => ?_, ?_, rfl, ?_⟩
      · simpa using r2
      · rw [List.getElem?_append] at hj
        split at hj
        · rename_i hjl
          obtain ⟨q1, q2, q3⟩ := a5 j u hj
          have g1 : (xss ++ [ys]).getD j [] = xss.getD j [] := by
            simp only [List.getD_eq_getElem?_getD]; rw [List.getElem?_append_left (by omega)]
          have g2 : (bs ++ [gk.bl]).getD j [] = bs.getD j [] := by
            simp only [List.getD_eq_getElem?_getD]; rw [List.getElem?_append_left (by omega)]
          rw [g1, g2]
          refine ⟨ownsRow_of_block q1 fun c hc => ?_, q2, q3⟩
          have hcf := rowblk j u hj c hc
          exact keep c (hbl0 c (by rw [a7]; exact List.mem_append.2 (.inr hcf))) fun hm => mbfl c hm hcf
        · rename_i hjl
          have hj0 : j = vs.length := by
            have := (List.getElem?_eq_some_iff.1 hj).1
            simp at this; omega
          subst hj0
          simp at hj
          subst hj
          have g1 : (xss ++ [ys]).getD vs.length [] = ys := by rw [a2]; simp [List.getD_eq_getElem?_getD]
          have g2 : (bs ++ [gk.bl]).getD vs.length [] = gk.bl := by rw [a2, ← a3]; simp [List.getD_eq_getElem?_getD]
          rw [g1, g2]
          refine ⟨ownsRow_of_block b1 fun c hc => ?_, b2, b3.list⟩
          have hcm := b3.mem hc
          exact keep c (hblk c hcm) fun hm => hdis c hcm (by rw [a7]; exact List.mem_append.2 (.inl hm))
      · show (v'.ownBlock = none ∧ v'.ownBlock.toList = []) ∨ (v'.ownBlock = some (v'.ownBlock.getD 0) ∧ v'.ownBlock.toList = [v'.ownBlock.getD 0])
        cases v'.ownBlock with
        | none => exact .inl ⟨rfl, rfl⟩
        | some b => exact .inr ⟨rfl, rfl⟩
      · show (v'.ownBlock.toList ++ (bs ++ [gk.bl]).flatten).Nodup
        rw [efl]
        refine nodup_rows a8' ?_ ?_ b3.nodup (fun b hb => by rw [← a7]; exact hdis b hb)
        · cases v'.ownBlock <;> simp
        · intro b hb
          have hb' := hv'b b hb
          rcases r5 with r5 | r5
          · rw [hb'] at r5
            have hm : b ∈ mb := by rw [← emb, ← r5]; simp
            exact ⟨mbfl b hm, fun hc => hdis b hc (by rw [a7]; exact List.mem_append.2 (.inl hm))⟩
          · rw [hb'] at r5
            cases r5
            refine ⟨fun hc => ?_, fun hc => ?_⟩
            · have := hbl0 w.heap.size (by rw [a7]; exact List.mem_append.2 (.inr hc)); omega
            · have := hblk w.heap.size hc; omega
    · exact RV.own (g := g') (by simp [hhg])
    · refine ⟨r3.os, r3.tape, r3.output, r3.size, fun b hb => r3.block b (by have := hr.hb; omega) (hgb b fun hm => ?_)⟩
      have := (hr.hn _ _ _ hg hs (by simp) b hm).1
      omega
end

section
variable {P : Program} {env : Env} {os : List AO} {d : Tmp} {ty : TypeId} {pos : String} {af : Array Edge} {l rest : List Oper} {K : APost}
theorem w_bsr0 {t e e2 : TypeId} {bytes : Nat} [TSlice P t e] [TElem P e (.slice none 0 0) bytes] [TSlice P e e2] {m : Nat} (hm : os.length = m) (h' : AOps P .seq l rest K (env.up d (.own m)) (os ++ [.sls e e2 []])) :
    AOps P .seq l (⟨some d, .buildSlice t 0 #[], ty, pos, af, none⟩ :: rest) K env os := AOps.lo (hm ▸ l_bsr0) h'
theorem w_bsr1 {t e e3 : TypeId} {bytes : Nat} [TSlice P t e] [TElem P e (.slice none 0 0) bytes] {x : Operand} {k m : Nat} {ys : List Int} (hx : evo env x = some (.own k)) (hk : os[k]? = some (.sli e3 ys)) (hm : os.length = m)
    (h' : AOps P .seq l rest K (env.up d (.osub m 0 1)) (os ++ [.bx e [.own k]])) :
    AOps P .seq l (⟨some d, .buildSlice t 1 #[(0, x)], ty, pos, af, none⟩ :: rest) K env os := AOps.lo (hm ▸ l_bsr1 (ev_of hx) hk) h'
theorem w_appr {t e e3 : TypeId} {bytes : Nat} [TSlice P t e] [TElem P e (.slice none 0 0) bytes] {x y : Operand} {h m k : Nat} {e' e2 T : TypeId} {xss : List (List Int)} {ys : List Int}
    (hx : evo env x = some (.own h)) (hs : os[h]? = some (.sls e' e2 xss)) (hee : e' = e) (hy : evo env y = some (.osub m 0 1)) (hm : os[m]? = some (.bx T [.own k])) (hk : os[k]? = some (.sli e3 ys)) (he3 : e3 = e2)
    (hb : (xss.length + 1) * bytes ≤ 140737488355328) (h' : AOps P .seq l rest K (Env.up (env.mp (AV.rin k h xss.length)) d (.own h)) (((os.map (AO.via (AV.rin k h xss.length) h)).set h (.sls e e2 (xss ++ [ys]))).set k .dead)) :
    AOps P .seq l (⟨some d, .call { callee := .builtin .append, args := #[x, y], argTypes := #[t, t] }, ty, pos, af, none⟩ :: rest) K env os :=
  AOps.lo (l_append_row (ev_of hx) hs hee (ev_of hy) hm hk he3 hb) h'
end
end Go.Proofs.Ytlkhcelodcneiaa
/-
  Own slices whose cells are rows of another own slice: literal ones, appends, cuts; the two made one. No condition.
-/
namespace Go.Proofs.Ytlkhcelodcneiaa
open Go Go.RowKit

section
variable {P : Program} {env : Env} {os : List AO} {d : Option Tmp} {ty : TypeId} {pos : String} {af : Array Edge} {g : Option (Nat × Bool)}

end

theorem nodup_sel {bs : List (List Nat)} {idx : List Nat} (h : bs.flatten.Nodup) (hi : idx.Nodup) (hlt : ∀ i ∈ idx, i < bs.length) : ((idx.map fun i => bs.getD i []).flatten).Nodup := by
  unfold List.Nodup at h ⊢
  rw [List.pairwise_flatten] at h ⊢
  obtain ⟨h1, h2⟩ := h
  refine ⟨?_, ?_⟩
  · intro l hl
    obtain ⟨i, hi', rfl⟩ := List.mem_map.1 hl
    have := hlt i hi'
    rw [List.getD_eq_getElem?_getD, List.getElem?_eq_getElem this]
    exact h1 _ (List.getElem_mem this)
  · rw [List.pairwise_map]
    refine List.Pairwise.imp_of_mem ?_ hi
    intro a b ha hb hab
    have la := hlt a ha
    have lb := hlt b hb
    rw [List.getD_eq_getElem?_getD, List.getElem?_eq_getElem la, List.getD_eq_getElem?_getD, List.getElem?_eq_getElem lb]
    rw [List.pairwise_iff_getElem] at h2
    rcases Nat.lt_or_gt_of_ne hab with hl | hl
    · exact h2 a b la lb hl
    · exact fun x hx y hy e => h2 b a lb la hl y hy x hx e.symm

set_option maxHeartbeats 1000000 in
/-- The slice 'p' of rows of 'k' takes these rows; the rest of 'k' is no more. -/
theorem Rel.merge {base : Nat} {w : World} {gs : List Gh} {env : Env} {os : List AO} {tm : Array Value} (h : Rel base w gs env os tm) {p k : Nat} {e e2 e3 : TypeId} {xss : List (List Int)} {idx : List Nat} (hs : os[p]? = some (.slr e (idx.map (AV.orow k)))) (hk : os[k]? = some (.sls e3 e2 xss)) (hnd : idx.Nodup) :
    ∃ gs', Rel base w gs' (env.mp (AV.noRow p)) (((os.map (AO.via (AV.noRow p) p)).set p (.sls e e2 (idx.map fun i => xss.getD i []))).set k .dead) tm := by
  have hne : p ≠ k := fun e => by subst e; rw [hs] at hk; cases hk
  have hpo : p < os.length := (List.getElem?_eq_some_iff.1 hs).1
  have hko : k < os.length := (List.getElem?_eq_some_iff.1 hk).1
  obtain ⟨gp, hgp⟩ : ∃ x, gs[p]? = some x := ⟨_, List.getElem?_eq_getElem (by rw [h.hl]; exact hpo)⟩
  obtain ⟨gk, hgk⟩ : ∃ x, gs[k]? = some x := ⟨_, List.getElem?_eq_getElem (by rw [h.hl]; exact hko)⟩
  obtain ⟨vs, a1, a2, a3, a4⟩ := h.ho _ _ _ hgp hs
  obtain ⟨us, bs, mb, b1, b2, b3, b4, b5, b6, b7, b8⟩ := h.ho _ _ _ hgk hk
  have a2' : vs.length = idx.length := by simpa using a2
  have row : ∀ (j : Nat) u, vs[j]? = some u → ∃ i, idx[j]? = some i ∧ us[i]? = some u := by
    intro j u hj
    have hjl := (List.getElem?_eq_some_iff.1 hj).1
    have hrv := a3 j
    obtain ⟨i, hi⟩ : ∃ i, idx[j]? = some i := ⟨_, List.getElem?_eq_getElem (by omega)⟩
    rw [List.getD_eq_getElem?_getD, hj, List.getD_eq_getElem?_getD, List.getElem?_map, hi] at hrv
    simp only [Option.getD_some, Option.map_some] at hrv
    cases hrv with
    | @orow _ _ g0 _ q1 q2 =>
      rw [hgk] at q1
      cases q1
      rw [b4] at q2
      exact ⟨i, hi, q2⟩
  have hidx : ∀ i ∈ idx, i < bs.length := by
    intro i hi
    obtain ⟨j, hj⟩ := List.getElem?_of_mem hi
    have hjl := (List.getElem?_eq_some_iff.1 hj).1
    obtain ⟨i', q1, q2⟩ := row j _ (List.getElem?_eq_getElem (by omega))
    rw [hj] at q1
    cases q1
    have := (List.getElem?_eq_some_iff.1 q2).1
    omega
  let cs : List (List Nat) := idx.map fun i => bs.getD i []
  let g' : Gh := ⟨gp.v, gp.b, gp.bl ++ cs.flatten, vs⟩
  have hcs : ∀ b, b ∈ cs.flatten → b ∈ bs.flatten := by
    intro b hb
    obtain ⟨l, hl, hbl⟩ := List.mem_flatten.1 hb
    obtain ⟨i, hi, rfl⟩ := List.mem_map.1 hl
    have hil := hidx i hi
    rw [List.getD_eq_getElem?_getD, List.getElem?_eq_getElem hil] at hbl
    exact List.mem_flatten.2 ⟨_, List.getElem_mem hil, hbl⟩
  have hsk : ∀ b, b ∈ cs.flatten → b ∈ gk.bl := fun b hb => by rw [b7]; exact List.mem_append.2 (.inr (hcs b hb))
  have hgl : p < gs.length := by rw [h.hl]; exact hpo
  have sv : SameV p gs (gs.set p g') := by
    refine ⟨fun j z hj hz => ?_, fun z hz => ⟨g', by simp [hgl], ?_, ?_⟩⟩
    · rw [List.getElem?_set, if_neg (fun e => hj e.symm)]; exact hz
    · rw [hgp] at hz; cases hz; rfl
    · rw [hgp] at hz; cases hz; rfl
  refine ⟨gs.set p g', h.absorb hgp hs trivial hgk hk trivial hne g' _ (AV.noRow p) rfl (fun _ _ _ => rfl) (Nat.le_refl _) ?_ (fun kp hv => hv.noRow kp sv) ?_⟩
  · intro b hb
    rcases List.mem_append.1 hb with hb | hb
    · exact ⟨.inl hb, (h.hn _ _ _ hgp hs (by simp) b hb).2⟩
    · exact ⟨.inr (.inl (hsk b hb)), (h.hn _ _ _ hgk hk (by simp) b (hsk b hb)).2⟩
  · intro kp
    refine ⟨vs, cs, gp.bl, a1, by simp [a2'], by simp [cs], rfl, fun j u hj => ?_, a4, rfl, ?_⟩
    · obtain ⟨i, q1, q2⟩ := row j u hj
      have g1 : (idx.map fun i => xss.getD i []).getD j [] = xss.getD i [] := by
        rw [List.getD_eq_getElem?_getD, List.getElem?_map, q1]; rfl
      have g2 : cs.getD j [] = bs.getD i [] := by
        show (idx.map fun i => bs.getD i []).getD j [] = _
        rw [List.getD_eq_getElem?_getD, List.getElem?_map, q1]; rfl
      rw [g1, g2]
      exact b5 i u q2
    · show (gp.bl ++ cs.flatten).Nodup
      rw [List.nodup_append]
      refine ⟨a4.nodup, nodup_sel ?_ hnd hidx, ?_⟩
      · rw [b7] at b8
        exact (List.nodup_append.1 b8).2.1
      · intro a ha b hb e
        subst e
        exact h.hd p k gp gk _ _ hne hgp hgk hs hk (by simp) (by simp) a ha (hsk a hb)

theorem AWp.merge {P : Program} {c : Code} {N : APost} {X : Nat → APost} {Rt : APost} {env : Env} {os : List AO} {p k : Nat} {e e2 e3 : TypeId} {xss : List (List Int)} {idx : List Nat} (hs : os[p]? = some (.slr e (idx.map (AV.orow k)))) (hk : os[k]? = some (.sls e3 e2 xss)) (hnd : idx.Nodup)
    (h : AWp P c N X Rt (env.mp (AV.noRow p)) (((os.map (AO.via (AV.noRow p) p)).set p (.sls e e2 (idx.map fun i => xss.getD i []))).set k .dead)) : AWp P c N X Rt env os := by
  intro base w0 w gs tm hr hb
  obtain ⟨gs', hr'⟩ := hr.merge hs hk hnd
  exact h base w0 w gs' tm hr' hb

section
variable {P : Program} {env : Env} {os : List AO} {d : Tmp} {ty : TypeId} {pos : String} {af : Array Edge} {l rest : List Oper} {K : APost}
end
end Go.Proofs.Ytlkhcelodcneiaa
/-
  Own slices put together out of rows of another one and of one more row; functions that are handed an own slice of rows and hand one back in its place. No condition.
-/
namespace Go.Proofs.Ytlkhcelodcneiaa
open Go Go.RowKit

/-- A state may be seen as another one. -/
def Turns (env : Env) (os : List AO) (env' : Env) (os' : List AO) : Prop := ∀ base w gs tm, Rel base w gs env os tm → ∃ gs', Rel base w gs' env' os' tm
theorem Turns.refl {env : Env} {os : List AO} : Turns env os env os := fun _ _ gs _ h => ⟨gs, h⟩
theorem Turns.merge {env : Env} {os : List AO} {p k : Nat} {e e2 e3 : TypeId} {xss : List (List Int)} {idx : List Nat} (hs : os[p]? = some (.slr e (idx.map (AV.orow k)))) (hk : os[k]? = some (.sls e3 e2 xss)) (hnd : idx.Nodup) :
    Turns env os (env.mp (AV.noRow p)) (((os.map (AO.via (AV.noRow p) p)).set p (.sls e e2 (idx.map fun i => xss.getD i []))).set k .dead) := fun _ _ _ _ h => h.merge hs hk hnd
end Go.Proofs.Ytlkhcelodcneiaa
/-
  Own slices of rows put together: parts of own slices of rows, appends of them; a cell of a row is written; functions that are handed an own slice of rows and hand one back in its place. No condition.
-/
namespace Go.Proofs.Ytlkhcelodcneiaa
open Go Go.RowKit

section
variable {P : Program} {env : Env} {os : List AO} {d : Option Tmp} {ty : TypeId} {pos : String} {af : Array Edge} {g : Option (Nat × Bool)} {wl : Bool}

/-! ### Sources of appends -/
end

/-! ### Functions that hand back an own slice of rows in the place of the one that they were handed -/
/-- The function is handed the own slice of rows 'xss' (handle 0) and hands back one made of its memory and new memory. All else is as it was. -/
def AFnT (P : Program) (f : FuncId) (args : List AV) (T T2 : TypeId) (xss : List (List Int)) (Q : List (List Int) → Prop) : Prop :=
  HasBody P f ∧ ∀ base w g vs, base ≤ w.heap.size → Objs base w [g] [.sls T T2 xss] → vs.size = args.length → (∀ i : Nat, RV w (okOf [g] [.sls T T2 xss]) [g] (vs.getD i undef) (args.getD i .any)) →
    Calls P f vs w fun e w' => ∃ g' xss', e = .returned g'.v ∧ Q xss' ∧ RO base w' (fun _ => True) [g'] g' (.sls T T2 xss') ∧ (∀ b, b ∈ g'.bl → (b ∈ g.bl ∨ w.heap.size ≤ b) ∧ b < w'.heap.size) ∧ Below base w w' ∧ ∀ b, b < w.heap.size → b ∉ g.bl → w'.heap[b]? = w.heap[b]?

theorem AFnT.of {P : Program} {f : FuncId} {fn : Func} {c : Code} {args args' : List AV} {T T2 : TypeId} {xss : List (List Int)} {Q : List (List Int) → Prop} {n : Nat} (hf : P.funcs[f]? = some fn) (hb : fn.body = some c) (hnm : (fn.name == "runtime.NumGoroutine") = false) (hn : fn.ntmps - args.length = n) (ha : args' = args.map (AV.sh 1))
    (h : ∀ K, AWp P c (fun _ _ => False) (fun _ _ _ => False) (fun env os => ∃ env2 os2 k xss', Turns env os env2 os2 ∧ ResIs P fn env2 os2 (.own k) ∧ os2[k]? = some (.sls T T2 xss') ∧ Q xss' ∧ os2[0]? = some (.keep 1 K)) (Env.start args' n) [.keep 1 K, .sls T T2 xss]) :
    AFnT P f args T T2 xss Q := by
  refine ⟨⟨fn, c, hf, hnm, hb⟩, fun base w g vs hbase hO hsz hvs => calls_of_wp hf hb ?_⟩
  rw [show fn.ntmps - vs.size = n by rw [hsz]; exact hn]
  let bl : List Nat := (List.range w.heap.size).filter fun b => decide (base ≤ b) && !g.bl.contains b
  let gk : Gh := ⟨undef, 0, bl, []⟩
  let K : Kp := ⟨fun b => w.heap[b]?, [gk]⟩
  have hbl : ∀ b, b ∈ bl ↔ b < w.heap.size ∧ base ≤ b ∧ b ∉ g.bl := by
    intro b
    simp only [bl, List.mem_filter, List.mem_range, Bool.and_eq_true, decide_eq_true_eq, Bool.not_eq_true', List.contains_eq_mem, decide_eq_false_iff_not]
  have gg : ∀ {i : Nat} {x : Gh}, [gk, g][i]? = some x → (i = 0 ∧ x = gk) ∨ (i = 1 ∧ x = g) := by
    intro i x hx
    match i with
    | 0 => simp at hx; exact .inl ⟨rfl, hx.symm⟩
    | 1 => simp at hx; exact .inr ⟨rfl, hx.symm⟩
    | i + 2 => simp at hx
  have go : ∀ {i : Nat} {x : AO}, [AO.keep 1 K, AO.sls T T2 xss][i]? = some x → (i = 0 ∧ x = .keep 1 K) ∨ (i = 1 ∧ x = .sls T T2 xss) := by
    intro i x hx
    match i with
    | 0 => simp at hx; exact .inl ⟨rfl, hx.symm⟩
    | 1 => simp at hx; exact .inr ⟨rfl, hx.symm⟩
    | i + 2 => simp at hx
  have hkeep : Keeps (okOf [g] [.sls T T2 xss]) (okOf [gk, g] [.keep 1 K, .sls T T2 xss]) w w := by
    intro b hbk _
    refine ⟨fun i x y hx hy hny hm => ?_, rfl⟩
    rcases gg hx with ⟨rfl, rfl⟩ | ⟨rfl, rfl⟩
    · rcases go hy with ⟨_, rfl⟩ | ⟨h0, _⟩
      · exact hny.elim
      · omega
    · rcases go hy with ⟨h0, _⟩ | ⟨_, rfl⟩
      · omega
      · exact hbk 0 _ _ rfl rfl hny hm
  have hro0 := hO.ho 0 g _ rfl rfl
  have hn0 := hO.hn 0 g rfl
  have hrel : Rel base w [gk, g] (Env.start args' n) [.keep 1 K, .sls T T2 xss] (vs ++ Array.replicate n undef) := by
    refine ⟨hbase, rfl, by simp [Env.start, hsz, ha], fun i => start_rv args' n vs (fun i => ?_) i, ?_, ?_, ?_⟩
    · rw [ha, getD_map_any _ rfl]
      have := (hvs i).sh (gs0 := [gk]) hkeep
      exact this
    · intro i x y hx hy
      rcases gg hx with ⟨rfl, rfl⟩ | ⟨rfl, rfl⟩
      · rcases go hy with ⟨_, rfl⟩ | ⟨h0, _⟩
        · exact ⟨fun b _ => rfl, rfl, fun i x h => by
            match i with
            | 0 => exact h
            | i + 1 => simp [K] at h⟩
        · omega
      · rcases go hy with ⟨h0, _⟩ | ⟨_, rfl⟩
        · omega
        · exact AO.plain.ro trivial hro0
    · intro i j g1 g2 o1 o2 hij hg1 hg2 ho1 ho2 _ _ b hb1 hb2
      rcases gg hg1 with ⟨rfl, rfl⟩ | ⟨rfl, rfl⟩
      · rcases gg hg2 with ⟨rfl, rfl⟩ | ⟨rfl, rfl⟩
        · exact hij rfl
        · exact ((hbl b).1 hb1).2.2 hb2
      · rcases gg hg2 with ⟨rfl, rfl⟩ | ⟨rfl, rfl⟩
        · exact ((hbl b).1 hb2).2.2 hb1
        · exact hij rfl
    · intro i x y hx hy _ b hb
      rcases gg hx with ⟨rfl, rfl⟩ | ⟨rfl, rfl⟩
      · exact ⟨((hbl b).1 hb).2.1, ((hbl b).1 hb).1⟩
      · exact hn0 b hb
  refine wp_mono (h K base w w _ _ hrel (Below.refl _ _)) ?_
  intro e a w' hq
  cases e with
  | normal => obtain ⟨_, _, _, _, _, _, hx⟩ := hq; exact hx.elim
  | exit j => obtain ⟨_, _, _, _, _, _, hx⟩ := hq; exact hx.elim
  | ret =>
    obtain ⟨env, os1, gs1, hr1, hd, hbel, env2, os2, k, xss', ht, hres, hok, hQ, hkp⟩ := hq
    obtain ⟨gs2, hr⟩ := ht base w' gs1 _ hr1
    obtain ⟨v, hu, hv⟩ := hres _ _ _ _ hr
    cases hv with
    | @own _ g' hg' =>
      have hlt0 : 0 < gs2.length := by rw [hr.hl]; exact (List.getElem?_eq_some_iff.1 hkp).1
      obtain ⟨g0, hg0⟩ : ∃ g0, gs2[0]? = some g0 := ⟨_, List.getElem?_eq_getElem hlt0⟩
      obtain ⟨r1, r2, r3⟩ := hr.ho _ _ _ hg0 hkp
      have egk : g0 = gk := by
        have := r3 0 gk rfl
        rw [hg0] at this
        exact Option.some.inj this
      subst egk
      have hk0 : k ≠ 0 := fun e => by subst e; rw [hkp] at hok; cases hok
      refine ⟨hd, g'.v, hu, g', xss', rfl, hQ, AO.plain.ro trivial (hr.ho _ _ _ hg' hok), fun b hb => ?_, hbel, fun b hb hnot => ?_⟩
      · have hbn := hr.hn _ _ _ hg' hok (by simp) b hb
        refine ⟨?_, hbn.2⟩
        by_cases hbw : b < w.heap.size
        · left
          apply Classical.byContradiction
          intro hnb
          exact hr.hd k 0 g' _ _ _ hk0 hg' hg0 hok hkp (by simp) (by simp) b hb ((hbl b).2 ⟨hbw, hbn.1, hnb⟩)
        · right; omega
      · rcases Nat.lt_or_ge b base with h6 | h6
        · exact hbel.block b h6
        · exact r1 b ((hbl b).2 ⟨hb, h6, hnot⟩)
  | goto l => exact (hq : False).elim
  | panic ch => exact (hq : False).elim
  | outgrown => exact (hq : False).elim
theorem AFnT.start {P : Program} {f : FuncId} {fn : Func} {nt : Nat} {args : List AV} {T T2 : TypeId} {xss : List (List Int)} {Q : List (List Int) → Prop} (hf : P.funcs[f]? = some fn) (hnt : fn.ntmps = nt) {c : Code} (hb : fn.body = some c) (hnm : (fn.name == "runtime.NumGoroutine") = false)
    (h : ∀ K, AWp P c (fun _ _ => False) (fun _ _ _ => False) (fun env os => ∃ env2 os2 k xss', Turns env os env2 os2 ∧ ResIs P fn env2 os2 (.own k) ∧ os2[k]? = some (.sls T T2 xss') ∧ Q xss' ∧ os2[0]? = some (.keep 1 K)) (Env.start (args.map (AV.sh 1)) (nt - args.length)) [.keep 1 K, .sls T T2 xss]) :
    AFnT P f args T T2 xss Q := AFnT.of hf hb hnm (by rw [hnt]) rfl h

section
variable {w w' : World} {ok ok' : Nat → Prop} {gs : List Gh} {h : Nat} {g' : Gh}
end

section
variable {P : Program} {env : Env} {os : List AO} {d : Option Tmp} {ty : TypeId} {pos : String} {af : Array Edge} {g : Option (Nat × Bool)}
end

section
variable {P : Program} {env : Env} {os : List AO} {d : Tmp} {ty : TypeId} {pos : String} {af : Array Edge} {g : Option (Nat × Bool)} {l rest : List Oper} {K : APost} {q : Md}
end
end Go.Proofs.Ytlkhcelodcneiaa
/-
  Own slices of truth values; own rows that are only read from here on. No condition.
-/
namespace Go.Proofs.Ytlkhcelodcneiaa
open Go Go.RowKit

/-- Cells that are truth values. -/
def bL (bs : List Bool) : List AV := bs.map AV.b
theorem bL_len (bs : List Bool) : (bL bs).length = bs.length := List.length_map _
theorem bL_set (bs : List Bool) (i : Nat) (b : Bool) : bL (bs.set i b) = (bL bs).set i (.b b) := by unfold bL; rw [List.map_set]
theorem bL_kill (h : Nat) (bs : List Bool) : (bL bs).map (AV.kill h) = bL bs := by unfold bL; rw [List.map_map]; rfl
theorem bL_lim (n : Nat) (bs : List Bool) : (bL bs).map (AV.lim n) = bL bs := by unfold bL; rw [List.map_map]; rfl
theorem bL_ren (s : List Nat) (bs : List Bool) : (bL bs).map (AV.ren s) = bL bs := by unfold bL; rw [List.map_map]; rfl
theorem bL_get {bs : List Bool} {i : Nat} (h : i < bs.length) : (bL bs)[i]? = some (.b (bs.getD i false)) := by
  unfold bL; rw [List.getElem?_map, List.getD_eq_getElem?_getD, List.getElem?_eq_getElem h]; rfl

section
variable {P : Program} {env : Env} {os : List AO} {d : Option Tmp} {ty : TypeId} {pos : String} {af : Array Edge} {g : Option (Nat × Bool)}
theorem l_make_bool {t e : TypeId} {bytes : Nat} [ht : TSlice P t e] [he : TElem P e (.bool false) bytes] {x y : Operand} {n : Int} (hx : AV.ev env x = .i n) (hy : AV.ev env y = .i n) (h0 : 0 ≤ n) (hb : (bytes : Int) * n ≤ 281474976710656) (hm : n ≤ 9223372036854775807) :
    LOp P ⟨d, .makeSlice t x y, ty, pos, af, g⟩ env os (.own os.length) env (os ++ [.slr e (bL (List.replicate n.toNat false))]) := by
  refine l_new fun base w gs tm hr => ?_
  obtain ⟨ii, hi, hs, hz, hby⟩ := he.info
  obtain ⟨m, rfl⟩ := Int.eq_ofNat_of_zero_le h0
  have hb' : ii.bytes * m ≤ 281474976710656 := by
    have : ((bytes * m : Nat) : Int) ≤ 281474976710656 := by rw [Int.natCast_mul]; exact hb
    rw [hby]; omega
  obtain ⟨w', h1, h2, h3⟩ := run_make_full (P := P) w base t e ii _ 1 ht.und hi hz hs .i64 .i64 m hb' (by simp [maxLen]; omega) hr.hb
  have hbel : Below w.heap.size w w' := (Below.refl _ _).grown h3 (Nat.le_refl _) (fun k hk => by cases hk)
  have hlt := h2.lt w.heap.size rfl
  refine ⟨w', ⟨.slice (some ⟨w.heap.size, 0, none⟩) m m, w.heap.size, [w.heap.size], []⟩, by simp only [execOp, hr.evv hx, hr.evv hy, Sem.run_bind, h1, Result.andThen_ok, Sem.run_pure], hbel,
    fun b hb => by simp at hb; omega, fun ok gs' => ⟨List.replicate m (.bool false), ?_, by simp [bL_len], fun i => ?_, .inr ⟨rfl, rfl⟩⟩⟩
  · rw [show (Value.bool false).cells = #[.bool false] from rfl, toList_madeCells_one] at h2
    simpa using h2
  · rw [Int.toNat_natCast]
    by_cases hi : i < m
    · have e1 : (List.replicate m (Value.bool false)).getD i undef = .bool false := by simp [List.getD_eq_getElem?_getD, hi]
      have e2 : (bL (List.replicate m false)).getD i .any = .b false := by
        rw [List.getD_eq_getElem?_getD, bL_get (by simpa using hi)]; simp [List.getD_eq_getElem?_getD, hi]
      rw [e1, e2]; exact .val _
    · have e2 : (bL (List.replicate m false)).getD i .any = .any := by
        rw [List.getD_eq_getElem?_getD, List.getElem?_eq_none (by rw [bL_len]; simp; omega)]; rfl
      rw [e2]; exact .any _

/-- A truth value goes into its place. -/
theorem l_store_bool {t : TypeId} [ht : TCell P t] {x y : Operand} {h i : Nat} {e : TypeId} {bs : List Bool} {b : Bool} (hx : AV.ev env x = .optr h i) (hs : os[h]? = some (.slr e (bL bs))) (hi : i < bs.length) (hy : AV.ev env y = .b b) :
    LOp P ⟨d, .store t x y, ty, pos, af, g⟩ env os .any env (os.set h (.slr e (bL (bs.set i b)))) := by
  intro base w gs tm hr
  have hh := hr.ev x
  rw [hx] at hh
  generalize hv : Act.eval ⟨tm, []⟩ x = v at hh
  cases hh with
  | @optr _ _ gh hg =>
    obtain ⟨vs, a1, a2, a3, a4⟩ := hr.ho _ _ _ hg hs
    rw [bL_len] at a2
    obtain ⟨bk, cap, e1, e2, e3, e4⟩ := own_slice a1 (i := i) (by omega)
    have eb := a4.eq e2
    rw [e1] at a1
    have hst := a1.stored i (.bool b)
    have hcell : w.cell? ⟨gh.b, i, none⟩ = some (vs[i]'(by omega)) := by rw [eb, e3]; exact List.getElem?_eq_getElem (by omega)
    have hbl : gh.bl = [gh.b] := by
      rcases a4 with ⟨h1, _⟩ | ⟨_, h2⟩
      · rw [h1] at e2; cases e2
      · exact h2
    have hother : ∀ c, c < w.heap.size → c ∉ gh.bl → (w.setCell ⟨bk, i, none⟩ (.bool b)).heap[c]? = w.heap[c]? := fun c hc hcb => hst.2.block c hc (fun e' => hcb (by rw [hbl, eb]; simpa using e'))
    refine ⟨undef, w.setCell ⟨bk, i, none⟩ (.bool b), gs, .inr ⟨?_, rfl⟩, hr.upd hg hs trivial _ trivial hother hst.2.size fun kp => ?_, .any _, ?_⟩
    · have := run_store_cell (P := P) (t := t) (a := ⟨gh.b, i, none⟩) hcell (by rw [eb]; exact e4) (v := .bool b) rfl rfl
      rw [eb] at this hv
      simp only [execOp, hv, hr.evv hy, Sem.run_bind, this, Result.andThen_ok, Sem.run_pure]
    · refine ⟨vs.set i (.bool b), ?_, by rw [bL_len]; simpa using a2, fun j => ?_, a4⟩
      · rw [e1, List.length_set]
        exact hst.1
      · by_cases hj : i = j
        · subst hj
          have q1 : (vs.set i (.bool b)).getD i undef = .bool b := by rw [List.getD_eq_getElem?_getD, List.getElem?_set, if_pos rfl, if_pos (by omega)]; rfl
          have q2 : (bL (bs.set i b)).getD i .any = .b b := by
            rw [List.getD_eq_getElem?_getD, bL_get (by simpa using hi), List.getD_eq_getElem?_getD, List.getElem?_set, if_pos rfl, if_pos hi]; rfl
          rw [q1, q2]; exact .val _
        · have q1 : (vs.set i (.bool b)).getD j undef = vs.getD j undef := by rw [List.getD_eq_getElem?_getD, List.getElem?_set, if_neg hj, List.getD_eq_getElem?_getD]
          have q2 : (bL (bs.set i b)).getD j .any = (bL bs).getD j .any := by rw [bL_set, List.getD_eq_getElem?_getD, List.getElem?_set, if_neg hj, List.getD_eq_getElem?_getD]
          rw [q1, q2]
          exact (a3 j).mono kp (fun _ _ h => h)
    · have hbb : base ≤ bk := by rw [← eb]; exact (hr.hn _ _ _ hg hs (by simp) gh.b (by simp [hbl])).1
      exact (Below.refl _ _).setCell (p := ⟨bk, i, none⟩) hbb _
end

section
variable {P : Program} {env : Env} {os : List AO} {d : Tmp} {ty : TypeId} {pos : String} {af : Array Edge} {g : Option (Nat × Bool)} {l rest : List Oper} {K : APost} {q : Md}
theorem w_mkb {t e : TypeId} {bytes : Nat} [TSlice P t e] [TElem P e (.bool false) bytes] {x y : Operand} {n : Int} {m : Nat} (hx : evo env x = some (.i n)) (hy : evo env y = some (.i n)) (h0 : 0 ≤ n) (hb : (bytes : Int) * n ≤ 281474976710656) (h63 : n ≤ 9223372036854775807) (hm : os.length = m)
    (h' : AOps P .seq l rest K (env.up d (.own m)) (os ++ [.slr e (bL (List.replicate n.toNat false))])) : AOps P .seq l (⟨some d, .makeSlice t x y, ty, pos, af, none⟩ :: rest) K env os := AOps.lo (hm ▸ l_make_bool (ev_of hx) (ev_of hy) h0 hb h63) h'
theorem w_stb {t : TypeId} [TCell P t] {x y : Operand} {h i : Nat} {e : TypeId} {bs : List Bool} {b : Bool} (hx : evo env x = some (.optr h i)) (hs : os[h]? = some (.slr e (bL bs))) (hi : i < bs.length) (hy : evo env y = some (.b b))
    (h' : AOps P .seq l rest K env (os.set h (.slr e (bL (bs.set i b))))) : AOps P .seq l (⟨none, .store t x y, ty, pos, af, none⟩ :: rest) K env os := AOps.so (l_store_bool (ev_of hx) hs hi (ev_of hy)) h'
theorem w_ldbl {t : TypeId} [TCell P t] {x : Operand} {h i : Nat} {e : TypeId} {bs : List Bool} (hw : wantedA l env ⟨some d, .load t x, ty, pos, af, g⟩ = some true) (hq : q.wl = false) (hx : evo env x = some (.optr h i)) (hs : os[h]? = some (.slr e (bL bs))) (hi : i < bs.length)
    (h' : AOps P q l rest K (env.up d (.b (bs.getD i false))) os) : AOps P q l (⟨some d, .load t x, ty, pos, af, g⟩ :: rest) K env os := AOps.qo hw (by rw [hq]; exact q_load_slr (ev_of hx) hs (bL_get hi)) h'
theorem w_idxb {t e : TypeId} [TSlice P t e] [TCell P e] {x y : Operand} {h : Nat} {e' : TypeId} {bs : List Bool} {i : Int} (hw : wantedA l env ⟨some d, .indexAddr t x y, ty, pos, af, g⟩ = some true) (hx : evo env x = some (.own h)) (hs : os[h]? = some (.slr e' (bL bs))) (hy : evo env y = some (.i i)) (h0 : 0 ≤ i) (h1 : i < bs.length)
    (h' : AOps P q l rest K (env.up d (.optr h i.toNat)) os) : AOps P q l (⟨some d, .indexAddr t x y, ty, pos, af, g⟩ :: rest) K env os := w_idxo hw hx (.slr hs) hy h0 (by rw [bL_len]; exact h1) h'
end

/-! ### Rows that are only read from here on -/
def AV.frz1 (k : Nat) (xss : List (List Int)) : AV → AV
  | .own h => if h = k then .intss xss else .own h
  | .optr h i => if h = k then .any else .optr h i
  | .osub h a b => if h = k then .any else .osub h a b
  | .orow h i => if h = k then .ints (xss.getD i []) else .orow h i
  | .orptr h i j => if h = k then .any else .orptr h i j
  | .agg _ => .any
  | .tup _ => .any
  | a => a
def AV.frz (k : Nat) (xss : List (List Int)) : AV → AV
  | .own h => if h = k then .intss xss else .own h
  | .optr h i => if h = k then .any else .optr h i
  | .osub h a b => if h = k then .any else .osub h a b
  | .orow h i => if h = k then .ints (xss.getD i []) else .orow h i
  | .orptr h i j => if h = k then .any else .orptr h i j
  | .agg l => .agg (l.map (AV.frz1 k xss))
  | .tup l => .tup (l.map (AV.frz1 k xss))
  | a => a
theorem bL_frz (k : Nat) (xss : List (List Int)) (bs : List Bool) : (bL bs).map (AV.frz k xss) = bL bs := by unfold bL; rw [List.map_map]; rfl
def AO.frz (k : Nat) (xss : List (List Int)) : AO → AO
  | .bx T avs => .bx T (avs.map (AV.frz k xss))
  | .slr e avs => .slr e (avs.map (AV.frz k xss))
  | o => o
theorem AO.frz_dead {k : Nat} {xss : List (List Int)} {o : AO} : o.frz k xss = .dead ↔ o = .dead := by cases o <;> simp [AO.frz]
theorem AO.frz_live {k : Nat} {xss : List (List Int)} {o : AO} : (o.frz k xss).live ↔ o.live := by cases o <;> exact Iff.rfl
/-- Own rows read as rows. -/
theorem sls_at {base : Nat} {w : World} {ok ok' : Nat → Prop} {gs : List Gh} {g : Gh} {e e2 : TypeId} {xss : List (List Int)} (h : RO base w ok gs g (.sls e e2 xss)) (hb : ∀ b, b ∈ g.bl → ok' b) :
    IntssAt w ok' g.v xss ∧ ∀ (i : Nat) u, g.rows[i]? = some u → IntsAt w ok' u (xss.getD i []) := by
  obtain ⟨vs, bs, mb, a1, a2, a3, a4, a5, a6, a7, a8⟩ := h
  have hrow : ∀ (i : Nat) u, vs[i]? = some u → IntsAt w ok' u (xss.getD i []) := by
    intro i u hu
    obtain ⟨r1, r2, r3⟩ := a5 i u hu
    refine ⟨RowAt.of_owns' (by rw [← List.length_map (f := Value.int .i64)] at r1; exact r1) fun b hbk => hb b ?_, r2⟩
    rw [a7]
    refine List.mem_append.2 (.inr (List.mem_flatten.2 ⟨bs.getD i [], ?_, ?_⟩))
    · have hi := (List.getElem?_eq_some_iff.1 hu).1
      rw [List.getD_eq_getElem?_getD, List.getElem?_eq_getElem (by omega)]
      exact List.getElem_mem _
    · rw [← r3, hbk]; simp
  refine ⟨⟨vs, RowAt.of_owns' a1 fun b hbk => hb b ?_, a2, hrow⟩, fun i u hu => hrow i u (by rw [← a4]; exact hu)⟩
  rw [a7]
  refine List.mem_append.2 (.inl ?_)
  rcases a6 with ⟨s1, _⟩ | ⟨s1, s2⟩
  · rw [s1] at hbk; cases hbk
  · rw [s1] at hbk; cases hbk; rw [s2]; simp

section
variable {w : World} {ok ok' : Nat → Prop} {gs : List Gh} {k : Nat} {xss : List (List Int)}
/-- What the frozen rows look like to their readers. -/
def FrzAt (w : World) (ok' : Nat → Prop) (gs : List Gh) (k : Nat) (xss : List (List Int)) : Prop := ∀ g, gs[k]? = some g → IntssAt w ok' g.v xss ∧ ∀ (i : Nat) u, g.rows[i]? = some u → IntsAt w ok' u (xss.getD i [])
theorem RV.frz1 (kp : Keeps ok ok' w w) (hf : FrzAt w ok' gs k xss) {v : Value} {a : AV} (hv : RV w ok gs v a) : RV w ok' gs v (a.frz1 k xss) := by
  cases hv with
  | any v => exact .any v
  | val v => exact .val v
  | ints h => exact .ints (h.mono kp)
  | intss h => exact .intss (h.mono kp)
  | @ro v r h => exact .ro (r.up kp h)
  | iptr h h1 h2 => exact .iptr (h.mono kp) h1 h2
  | iiptr h h1 h2 => exact .iiptr (h.mono kp) h1 h2
  | own h1 =>
    simp only [AV.frz1]; split
    · subst_vars; exact .intss (hf _ h1).1
    · exact .own h1
  | optr h1 =>
    simp only [AV.frz1]; split
    · exact .any _
    · exact .optr h1
  | osub h1 h2 h3 h4 =>
    simp only [AV.frz1]; split
    · exact .any _
    · exact .osub h1 h2 h3 h4
  | orow h1 h2 =>
    simp only [AV.frz1]; split
    · subst_vars; exact .ints ((hf _ h1).2 _ _ h2)
    · exact .orow h1 h2
  | orptr h1 h2 =>
    simp only [AV.frz1]; split
    · exact .any _
    · exact .orptr h1 h2
  | agg _ _ _ => exact .any _
  | tup _ _ => exact .any _
theorem getD_map_frz1 (l : List AV) (i : Nat) : (l.map (AV.frz1 k xss)).getD i .any = (l.getD i .any).frz1 k xss := getD_map_f _ rfl l i
theorem getD_map_frz (l : List AV) (i : Nat) : (l.map (AV.frz k xss)).getD i .any = (l.getD i .any).frz k xss := getD_map_f _ rfl l i
theorem RV.frz (kp : Keeps ok ok' w w) (hf : FrzAt w ok' gs k xss) {v : Value} {a : AV} (hv : RV w ok gs v a) : RV w ok' gs v (a.frz k xss) := by
  cases hv with
  | any v => exact .any v
  | val v => exact .val v
  | ints h => exact .ints (h.mono kp)
  | intss h => exact .intss (h.mono kp)
  | @ro v r h => exact .ro (r.up kp h)
  | iptr h h1 h2 => exact .iptr (h.mono kp) h1 h2
  | iiptr h h1 h2 => exact .iiptr (h.mono kp) h1 h2
  | own h1 =>
    simp only [AV.frz]; split
    · subst_vars; exact .intss (hf _ h1).1
    · exact .own h1
  | optr h1 =>
    simp only [AV.frz]; split
    · exact .any _
    · exact .optr h1
  | osub h1 h2 h3 h4 =>
    simp only [AV.frz]; split
    · exact .any _
    · exact .osub h1 h2 h3 h4
  | orow h1 h2 =>
    simp only [AV.frz]; split
    · subst_vars; exact .ints ((hf _ h1).2 _ _ h2)
    · exact .orow h1 h2
  | orptr h1 h2 =>
    simp only [AV.frz]; split
    · exact .any _
    · exact .orptr h1 h2
  | agg h1 h3 h2 => exact .agg (by simpa using h1) h3 fun i => by rw [getD_map_frz1]; exact (h2 i).frz1 kp hf
  | tup h1 h2 => exact .tup (by simpa using h1) fun i => by rw [getD_map_frz1]; exact (h2 i).frz1 kp hf
end
theorem Rel.freeze {base : Nat} {w : World} {gs : List Gh} {env : Env} {os : List AO} {tm : Array Value} (h : Rel base w gs env os tm) {k : Nat} {e e2 : TypeId} {xss : List (List Int)} (hs : os[k]? = some (.sls e e2 xss)) :
    Rel base w gs (env.mp (AV.frz k xss)) ((os.map (AO.frz k xss)).set k .dead) tm := by
  have hk : k < os.length := (List.getElem?_eq_some_iff.1 hs).1
  have oset : ∀ {i : Nat} {x : AO}, ((os.map (AO.frz k xss)).set k .dead)[i]? = some x → (i = k ∧ x = .dead) ∨ (i ≠ k ∧ ∃ y, os[i]? = some y ∧ x = y.frz k xss) := by
    intro i x hx
    rw [List.getElem?_set] at hx
    by_cases e : k = i
    · subst e
      rw [if_pos rfl, if_pos (by simpa using hk)] at hx
      cases hx; exact .inl ⟨rfl, rfl⟩
    · rw [if_neg e, List.getElem?_map] at hx
      cases hy : os[i]? with
      | none => rw [hy] at hx; cases hx
      | some y => rw [hy] at hx; cases hx; exact .inr ⟨fun e' => e e'.symm, y, rfl, rfl⟩
  have kp : Keeps (okOf gs os) (okOf gs ((os.map (AO.frz k xss)).set k .dead)) w w := by
    intro b hb _
    refine ⟨fun i x o' hx ho' hl => ?_, rfl⟩
    rcases oset ho' with ⟨_, rfl⟩ | ⟨_, y, hy, rfl⟩
    · exact hl.elim
    · exact hb i x y hx hy (AO.frz_live.1 hl)
  have hf : FrzAt w (okOf gs ((os.map (AO.frz k xss)).set k .dead)) gs k xss := by
    intro g hg
    refine sls_at (h.ho k g _ hg hs) fun b hb i x o' hx ho' hl hm => ?_
    rcases oset ho' with ⟨_, rfl⟩ | ⟨hik, y, hy, rfl⟩
    · exact hl.elim
    · exact h.hd k i g x _ _ (fun e => hik e.symm) hg hx hs hy (by simp) (AO.frz_live.1 hl).ne b hb hm
  refine ⟨h.hb, by simpa using h.hl, h.hs, fun i => ?_, ?_, ?_, ?_⟩
  · rw [Env.lk_mp _ rfl]
    exact (h.he i).frz kp hf
  · intro i g o' hg ho'
    rcases oset ho' with ⟨_, rfl⟩ | ⟨_, y, hy, rfl⟩
    · trivial
    · have hro := h.ho i g y hg hy
      cases y with
      | dead => trivial
      | sli e xs => exact hro
      | sls e e2 xs => exact hro
      | ob q => exact hro
      | keep n K => exact hro
      | slr e avs =>
        obtain ⟨vs, a1, a2, a3, a4⟩ := hro
        exact ⟨vs, a1, by simpa using a2, fun j => by rw [getD_map_frz]; exact (a3 j).frz kp hf, a4⟩
      | bx T avs =>
        obtain ⟨cs, c1, c2, c3, c4, c5, c6, c7⟩ := hro
        exact ⟨cs, c1, c2, c3, c4, by simpa using c5, c6, fun j => by rw [getD_map_frz]; exact (c7 j).frz kp hf⟩
  · intro i j g1 g2 o1 o2 hij hg1 hg2 ho1 ho2 hn1 hn2
    rcases oset ho1 with ⟨_, rfl⟩ | ⟨_, y, hy, rfl⟩
    · exact absurd rfl hn1
    · rcases oset ho2 with ⟨_, rfl⟩ | ⟨_, z, hz, rfl⟩
      · exact absurd rfl hn2
      · exact h.hd i j g1 g2 y z hij hg1 hg2 hy hz (fun e => hn1 (AO.frz_dead.2 e)) (fun e => hn2 (AO.frz_dead.2 e))
  · intro i g o' hg ho' hn
    rcases oset ho' with ⟨_, rfl⟩ | ⟨_, y, hy, rfl⟩
    · exact absurd rfl hn
    · exact h.hn i g y hg hy fun e => hn (AO.frz_dead.2 e)
theorem Turns.freeze {env : Env} {os : List AO} {k : Nat} {e e2 : TypeId} {xss : List (List Int)} (hs : os[k]? = some (.sls e e2 xss)) : Turns env os (env.mp (AV.frz k xss)) ((os.map (AO.frz k xss)).set k .dead) :=
  fun _ _ gs _ h => ⟨gs, h.freeze hs⟩
theorem handed0 {os : List AO} : Handed os [] [] := ⟨List.nodup_nil, fun _ _ hk => (by cases hk), rfl, fun _ ho => (by cases ho)⟩
end Go.Proofs.Ytlkhcelodcneiaa
