/-
  The facts on this seat's table of types, by program. No condition.
-/
import Derived.Test.YtifkgmbghcmdeaaAmGrow
import Derived.Test.YtifkgmbghcmdeaaProg
import Derived.KernelRfl
namespace Go.Proofs.Ytifkgmbghcmdeaa
open Go Go.RowKit
theorem info1 : (Try.prog.info? 1).map (fun i => (i.zero, i.size, i.bytes)) = some (some (.nilFunc), 1, 8) := by kernel_rfl
instance : TCell Try.prog 1 := ⟨⟨_, Try.underlying1, rfl⟩, let ⟨i, h, _, h2, _⟩ := info_parts info1; ⟨i, h, h2⟩⟩
instance : TElem Try.prog 1 (.nilFunc) 8 := ⟨let ⟨i, h, h1, h2, h3⟩ := info_parts info1; ⟨i, h, h2, h1, h3⟩, by decide⟩
instance : TKind Try.prog 2 .i64 := ⟨Try.underlying2⟩
theorem info2 : (Try.prog.info? 2).map (fun i => (i.zero, i.size, i.bytes)) = some (some (.int .i64 0), 1, 8) := by kernel_rfl
instance : TCell Try.prog 2 := ⟨⟨_, Try.underlying2, rfl⟩, let ⟨i, h, _, h2, _⟩ := info_parts info2; ⟨i, h, h2⟩⟩
instance : TElem Try.prog 2 (.int .i64 0) 8 := ⟨let ⟨i, h, h1, h2, h3⟩ := info_parts info2; ⟨i, h, h2, h1, h3⟩, by decide⟩
instance : TKind Try.prog 3 .i64 := ⟨Try.underlying3⟩
theorem info3 : (Try.prog.info? 3).map (fun i => (i.zero, i.size, i.bytes)) = some (some (.int .i64 0), 1, 8) := by kernel_rfl
instance : TCell Try.prog 3 := ⟨⟨_, Try.underlying3, rfl⟩, let ⟨i, h, _, h2, _⟩ := info_parts info3; ⟨i, h, h2⟩⟩
instance : TElem Try.prog 3 (.int .i64 0) 8 := ⟨let ⟨i, h, h1, h2, h3⟩ := info_parts info3; ⟨i, h, h2, h1, h3⟩, by decide⟩
instance : TBool Try.prog 4 := ⟨Try.underlying4⟩
theorem info4 : (Try.prog.info? 4).map (fun i => (i.zero, i.size, i.bytes)) = some (some (.bool false), 1, 1) := by kernel_rfl
instance : TCell Try.prog 4 := ⟨⟨_, Try.underlying4, rfl⟩, let ⟨i, h, _, h2, _⟩ := info_parts info4; ⟨i, h, h2⟩⟩
instance : TElem Try.prog 4 (.bool false) 1 := ⟨let ⟨i, h, h1, h2, h3⟩ := info_parts info4; ⟨i, h, h2, h1, h3⟩, by decide⟩
instance : TKind Try.prog 5 .u8 := ⟨Try.underlying5⟩
theorem info5 : (Try.prog.info? 5).map (fun i => (i.zero, i.size, i.bytes)) = some (some (.int .u8 0), 1, 1) := by kernel_rfl
instance : TCell Try.prog 5 := ⟨⟨_, Try.underlying5, rfl⟩, let ⟨i, h, _, h2, _⟩ := info_parts info5; ⟨i, h, h2⟩⟩
instance : TElem Try.prog 5 (.int .u8 0) 1 := ⟨let ⟨i, h, h1, h2, h3⟩ := info_parts info5; ⟨i, h, h2, h1, h3⟩, by decide⟩
instance : TKind Try.prog 6 .u8 := ⟨Try.underlying6⟩
theorem info6 : (Try.prog.info? 6).map (fun i => (i.zero, i.size, i.bytes)) = some (some (.int .u8 0), 1, 1) := by kernel_rfl
instance : TCell Try.prog 6 := ⟨⟨_, Try.underlying6, rfl⟩, let ⟨i, h, _, h2, _⟩ := info_parts info6; ⟨i, h, h2⟩⟩
instance : TElem Try.prog 6 (.int .u8 0) 1 := ⟨let ⟨i, h, h1, h2, h3⟩ := info_parts info6; ⟨i, h, h2, h1, h3⟩, by decide⟩
instance : TStr Try.prog 9 := ⟨Try.underlying9⟩
theorem info9 : (Try.prog.info? 9).map (fun i => (i.zero, i.size, i.bytes)) = some (some (.string ⟨#[]⟩), 1, 16) := by kernel_rfl
instance : TCell Try.prog 9 := ⟨⟨_, Try.underlying9, rfl⟩, let ⟨i, h, _, h2, _⟩ := info_parts info9; ⟨i, h, h2⟩⟩
instance : TElem Try.prog 9 (.string ⟨#[]⟩) 16 := ⟨let ⟨i, h, h1, h2, h3⟩ := info_parts info9; ⟨i, h, h2, h1, h3⟩, by decide⟩
instance : TStr Try.prog 10 := ⟨Try.underlying10⟩
theorem info10 : (Try.prog.info? 10).map (fun i => (i.zero, i.size, i.bytes)) = some (some (.string ⟨#[]⟩), 1, 16) := by kernel_rfl
instance : TCell Try.prog 10 := ⟨⟨_, Try.underlying10, rfl⟩, let ⟨i, h, _, h2, _⟩ := info_parts info10; ⟨i, h, h2⟩⟩
instance : TElem Try.prog 10 (.string ⟨#[]⟩) 16 := ⟨let ⟨i, h, h1, h2, h3⟩ := info_parts info10; ⟨i, h, h2, h1, h3⟩, by decide⟩
instance : TStr Try.prog 11 := ⟨Try.underlying11⟩
theorem info11 : (Try.prog.info? 11).map (fun i => (i.zero, i.size, i.bytes)) = some (some (.string ⟨#[]⟩), 1, 16) := by kernel_rfl
instance : TCell Try.prog 11 := ⟨⟨_, Try.underlying11, rfl⟩, let ⟨i, h, _, h2, _⟩ := info_parts info11; ⟨i, h, h2⟩⟩
instance : TElem Try.prog 11 (.string ⟨#[]⟩) 16 := ⟨let ⟨i, h, h1, h2, h3⟩ := info_parts info11; ⟨i, h, h2, h1, h3⟩, by decide⟩
instance : TKind Try.prog 12 .u64 := ⟨Try.underlying12⟩
theorem info12 : (Try.prog.info? 12).map (fun i => (i.zero, i.size, i.bytes)) = some (some (.int .u64 0), 1, 8) := by kernel_rfl
instance : TCell Try.prog 12 := ⟨⟨_, Try.underlying12, rfl⟩, let ⟨i, h, _, h2, _⟩ := info_parts info12; ⟨i, h, h2⟩⟩
instance : TElem Try.prog 12 (.int .u64 0) 8 := ⟨let ⟨i, h, h1, h2, h3⟩ := info_parts info12; ⟨i, h, h2, h1, h3⟩, by decide⟩
theorem info15 : (Try.prog.info? 15).map (fun i => (i.zero, i.size, i.bytes)) = some (some (.pointer none), 1, 8) := by kernel_rfl
instance : TCell Try.prog 15 := ⟨⟨_, Try.underlying15, rfl⟩, let ⟨i, h, _, h2, _⟩ := info_parts info15; ⟨i, h, h2⟩⟩
instance : TElem Try.prog 15 (.pointer none) 8 := ⟨let ⟨i, h, h1, h2, h3⟩ := info_parts info15; ⟨i, h, h2, h1, h3⟩, by decide⟩
theorem info16 : (Try.prog.info? 16).map (fun i => (i.zero, i.size, i.bytes)) = some (some (.pointer none), 1, 8) := by kernel_rfl
instance : TCell Try.prog 16 := ⟨⟨_, Try.underlying16, rfl⟩, let ⟨i, h, _, h2, _⟩ := info_parts info16; ⟨i, h, h2⟩⟩
instance : TElem Try.prog 16 (.pointer none) 8 := ⟨let ⟨i, h, h1, h2, h3⟩ := info_parts info16; ⟨i, h, h2, h1, h3⟩, by decide⟩
theorem info17 : (Try.prog.info? 17).map (fun i => (i.zero, i.size, i.bytes)) = some (some (.pointer none), 1, 8) := by kernel_rfl
instance : TCell Try.prog 17 := ⟨⟨_, Try.underlying17, rfl⟩, let ⟨i, h, _, h2, _⟩ := info_parts info17; ⟨i, h, h2⟩⟩
instance : TElem Try.prog 17 (.pointer none) 8 := ⟨let ⟨i, h, h1, h2, h3⟩ := info_parts info17; ⟨i, h, h2, h1, h3⟩, by decide⟩
instance : TKind Try.prog 21 .i32 := ⟨Try.underlying21⟩
theorem info21 : (Try.prog.info? 21).map (fun i => (i.zero, i.size, i.bytes)) = some (some (.int .i32 0), 1, 4) := by kernel_rfl
instance : TCell Try.prog 21 := ⟨⟨_, Try.underlying21, rfl⟩, let ⟨i, h, _, h2, _⟩ := info_parts info21; ⟨i, h, h2⟩⟩
instance : TElem Try.prog 21 (.int .i32 0) 4 := ⟨let ⟨i, h, h1, h2, h3⟩ := info_parts info21; ⟨i, h, h2, h1, h3⟩, by decide⟩
instance : TSlice Try.prog 22 2 := ⟨Try.underlying22⟩
theorem info22 : (Try.prog.info? 22).map (fun i => (i.zero, i.size, i.bytes)) = some (some (.slice none 0 0), 1, 24) := by kernel_rfl
instance : TCell Try.prog 22 := ⟨⟨_, Try.underlying22, rfl⟩, let ⟨i, h, _, h2, _⟩ := info_parts info22; ⟨i, h, h2⟩⟩
instance : TElem Try.prog 22 (.slice none 0 0) 24 := ⟨let ⟨i, h, h1, h2, h3⟩ := info_parts info22; ⟨i, h, h2, h1, h3⟩, by decide⟩
theorem info23 : (Try.prog.info? 23).map (fun i => (i.zero, i.size, i.bytes)) = some (some (.agg [.int .i64 0, .slice none 0 0].toArray), 2, 32) := by kernel_rfl
instance : TStruct Try.prog 23 2 [.int .i64 0, .slice none 0 0] := ⟨⟨_, Try.underlying23, rfl⟩, let ⟨i, h, h1, h2, _⟩ := info_parts info23; ⟨i, h, h2, h1, rfl⟩⟩
instance : TBuild Try.prog 23 2 [.int .i64 0, .slice none 0 0] := .str (let ⟨i, h, h1, _, _⟩ := info_parts info23; ⟨i, h, h1, rfl⟩) ⟨_, Try.underlying23, by kernel_rfl⟩
instance : TField Try.prog 23 0 0 := ⟨let ⟨i, h, _, h2, _⟩ := info_parts info2; ⟨_, _, i, Try.underlying23, rfl, rfl, h, h2, _, Try.underlying2, rfl⟩⟩
instance : TField Try.prog 23 1 1 := ⟨let ⟨i, h, _, h2, _⟩ := info_parts info22; ⟨_, _, i, Try.underlying23, rfl, rfl, h, h2, _, Try.underlying22, rfl⟩⟩
theorem info24 : (Try.prog.info? 24).map (fun i => (i.zero, i.size, i.bytes)) = some (some (.agg [.int .i64 0, .slice none 0 0].toArray), 2, 32) := by kernel_rfl
instance : TStruct Try.prog 24 2 [.int .i64 0, .slice none 0 0] := ⟨⟨_, Try.underlying24, rfl⟩, let ⟨i, h, h1, h2, _⟩ := info_parts info24; ⟨i, h, h2, h1, rfl⟩⟩
instance : TBuild Try.prog 24 2 [.int .i64 0, .slice none 0 0] := .str (let ⟨i, h, h1, _, _⟩ := info_parts info24; ⟨i, h, h1, rfl⟩) ⟨_, Try.underlying24, by kernel_rfl⟩
instance : TField Try.prog 24 0 0 := ⟨let ⟨i, h, _, h2, _⟩ := info_parts info2; ⟨_, _, i, Try.underlying24, rfl, rfl, h, h2, _, Try.underlying2, rfl⟩⟩
instance : TField Try.prog 24 1 1 := ⟨let ⟨i, h, _, h2, _⟩ := info_parts info22; ⟨_, _, i, Try.underlying24, rfl, rfl, h, h2, _, Try.underlying22, rfl⟩⟩
theorem info25 : (Try.prog.info? 25).map (fun i => (i.zero, i.size, i.bytes)) = some (some (.nilFunc), 1, 8) := by kernel_rfl
instance : TCell Try.prog 25 := ⟨⟨_, Try.underlying25, rfl⟩, let ⟨i, h, _, h2, _⟩ := info_parts info25; ⟨i, h, h2⟩⟩
instance : TElem Try.prog 25 (.nilFunc) 8 := ⟨let ⟨i, h, h1, h2, h3⟩ := info_parts info25; ⟨i, h, h2, h1, h3⟩, by decide⟩
theorem info27 : (Try.prog.info? 27).map (fun i => (i.zero, i.size, i.bytes)) = some (some (.nilFunc), 1, 8) := by kernel_rfl
instance : TCell Try.prog 27 := ⟨⟨_, Try.underlying27, rfl⟩, let ⟨i, h, _, h2, _⟩ := info_parts info27; ⟨i, h, h2⟩⟩
instance : TElem Try.prog 27 (.nilFunc) 8 := ⟨let ⟨i, h, h1, h2, h3⟩ := info_parts info27; ⟨i, h, h2, h1, h3⟩, by decide⟩
theorem info28 : (Try.prog.info? 28).map (fun i => (i.zero, i.size, i.bytes)) = some (some (.agg [.int .i64 0, .slice none 0 0].toArray), 2, 32) := by kernel_rfl
instance : TStruct Try.prog 28 2 [.int .i64 0, .slice none 0 0] := ⟨⟨_, Try.underlying28, rfl⟩, let ⟨i, h, h1, h2, _⟩ := info_parts info28; ⟨i, h, h2, h1, rfl⟩⟩
instance : TBuild Try.prog 28 2 [.int .i64 0, .slice none 0 0] := .str (let ⟨i, h, h1, _, _⟩ := info_parts info28; ⟨i, h, h1, rfl⟩) ⟨_, Try.underlying28, by kernel_rfl⟩
instance : TField Try.prog 28 0 0 := ⟨let ⟨i, h, _, h2, _⟩ := info_parts info2; ⟨_, _, i, Try.underlying28, rfl, rfl, h, h2, _, Try.underlying2, rfl⟩⟩
instance : TField Try.prog 28 1 1 := ⟨let ⟨i, h, _, h2, _⟩ := info_parts info22; ⟨_, _, i, Try.underlying28, rfl, rfl, h, h2, _, Try.underlying22, rfl⟩⟩
theorem info29 : (Try.prog.info? 29).map (fun i => (i.zero, i.size, i.bytes)) = some (some (.nilFunc), 1, 8) := by kernel_rfl
instance : TCell Try.prog 29 := ⟨⟨_, Try.underlying29, rfl⟩, let ⟨i, h, _, h2, _⟩ := info_parts info29; ⟨i, h, h2⟩⟩
instance : TElem Try.prog 29 (.nilFunc) 8 := ⟨let ⟨i, h, h1, h2, h3⟩ := info_parts info29; ⟨i, h, h2, h1, h3⟩, by decide⟩
theorem info30 : (Try.prog.info? 30).map (fun i => (i.zero, i.size, i.bytes)) = some (some (.nilFunc), 1, 8) := by kernel_rfl
instance : TCell Try.prog 30 := ⟨⟨_, Try.underlying30, rfl⟩, let ⟨i, h, _, h2, _⟩ := info_parts info30; ⟨i, h, h2⟩⟩
instance : TElem Try.prog 30 (.nilFunc) 8 := ⟨let ⟨i, h, h1, h2, h3⟩ := info_parts info30; ⟨i, h, h2, h1, h3⟩, by decide⟩
theorem info31 : (Try.prog.info? 31).map (fun i => (i.zero, i.size, i.bytes)) = some (some (.nilFunc), 1, 8) := by kernel_rfl
instance : TCell Try.prog 31 := ⟨⟨_, Try.underlying31, rfl⟩, let ⟨i, h, _, h2, _⟩ := info_parts info31; ⟨i, h, h2⟩⟩
instance : TElem Try.prog 31 (.nilFunc) 8 := ⟨let ⟨i, h, h1, h2, h3⟩ := info_parts info31; ⟨i, h, h2, h1, h3⟩, by decide⟩
theorem info32 : (Try.prog.info? 32).map (fun i => (i.zero, i.size, i.bytes)) = some (some (.nilFunc), 1, 8) := by kernel_rfl
instance : TCell Try.prog 32 := ⟨⟨_, Try.underlying32, rfl⟩, let ⟨i, h, _, h2, _⟩ := info_parts info32; ⟨i, h, h2⟩⟩
instance : TElem Try.prog 32 (.nilFunc) 8 := ⟨let ⟨i, h, h1, h2, h3⟩ := info_parts info32; ⟨i, h, h2, h1, h3⟩, by decide⟩
theorem info33 : (Try.prog.info? 33).map (fun i => (i.zero, i.size, i.bytes)) = some (some (.nilFunc), 1, 8) := by kernel_rfl
instance : TCell Try.prog 33 := ⟨⟨_, Try.underlying33, rfl⟩, let ⟨i, h, _, h2, _⟩ := info_parts info33; ⟨i, h, h2⟩⟩
instance : TElem Try.prog 33 (.nilFunc) 8 := ⟨let ⟨i, h, h1, h2, h3⟩ := info_parts info33; ⟨i, h, h2, h1, h3⟩, by decide⟩
theorem info34 : (Try.prog.info? 34).map (fun i => (i.zero, i.size, i.bytes)) = some (some (.nilFunc), 1, 8) := by kernel_rfl
instance : TCell Try.prog 34 := ⟨⟨_, Try.underlying34, rfl⟩, let ⟨i, h, _, h2, _⟩ := info_parts info34; ⟨i, h, h2⟩⟩
instance : TElem Try.prog 34 (.nilFunc) 8 := ⟨let ⟨i, h, h1, h2, h3⟩ := info_parts info34; ⟨i, h, h2, h1, h3⟩, by decide⟩
instance : TSlice Try.prog 35 47 := ⟨Try.underlying35⟩
theorem info35 : (Try.prog.info? 35).map (fun i => (i.zero, i.size, i.bytes)) = some (some (.slice none 0 0), 1, 24) := by kernel_rfl
instance : TCell Try.prog 35 := ⟨⟨_, Try.underlying35, rfl⟩, let ⟨i, h, _, h2, _⟩ := info_parts info35; ⟨i, h, h2⟩⟩
instance : TElem Try.prog 35 (.slice none 0 0) 24 := ⟨let ⟨i, h, h1, h2, h3⟩ := info_parts info35; ⟨i, h, h2, h1, h3⟩, by decide⟩
theorem info36 : (Try.prog.info? 36).map (fun i => (i.zero, i.size, i.bytes)) = some (some (.nilFunc), 1, 8) := by kernel_rfl
instance : TCell Try.prog 36 := ⟨⟨_, Try.underlying36, rfl⟩, let ⟨i, h, _, h2, _⟩ := info_parts info36; ⟨i, h, h2⟩⟩
instance : TElem Try.prog 36 (.nilFunc) 8 := ⟨let ⟨i, h, h1, h2, h3⟩ := info_parts info36; ⟨i, h, h2, h1, h3⟩, by decide⟩
theorem info37 : (Try.prog.info? 37).map (fun i => (i.zero, i.size, i.bytes)) = some (some (.nilFunc), 1, 8) := by kernel_rfl
instance : TCell Try.prog 37 := ⟨⟨_, Try.underlying37, rfl⟩, let ⟨i, h, _, h2, _⟩ := info_parts info37; ⟨i, h, h2⟩⟩
instance : TElem Try.prog 37 (.nilFunc) 8 := ⟨let ⟨i, h, h1, h2, h3⟩ := info_parts info37; ⟨i, h, h2, h1, h3⟩, by decide⟩
instance : TSlice Try.prog 38 50 := ⟨Try.underlying38⟩
theorem info38 : (Try.prog.info? 38).map (fun i => (i.zero, i.size, i.bytes)) = some (some (.slice none 0 0), 1, 24) := by kernel_rfl
instance : TCell Try.prog 38 := ⟨⟨_, Try.underlying38, rfl⟩, let ⟨i, h, _, h2, _⟩ := info_parts info38; ⟨i, h, h2⟩⟩
instance : TElem Try.prog 38 (.slice none 0 0) 24 := ⟨let ⟨i, h, h1, h2, h3⟩ := info_parts info38; ⟨i, h, h2, h1, h3⟩, by decide⟩
theorem info39 : (Try.prog.info? 39).map (fun i => (i.zero, i.size, i.bytes)) = some (some (.nilFunc), 1, 8) := by kernel_rfl
instance : TCell Try.prog 39 := ⟨⟨_, Try.underlying39, rfl⟩, let ⟨i, h, _, h2, _⟩ := info_parts info39; ⟨i, h, h2⟩⟩
instance : TElem Try.prog 39 (.nilFunc) 8 := ⟨let ⟨i, h, h1, h2, h3⟩ := info_parts info39; ⟨i, h, h2, h1, h3⟩, by decide⟩
theorem info40 : (Try.prog.info? 40).map (fun i => (i.zero, i.size, i.bytes)) = some (some (.nilFunc), 1, 8) := by kernel_rfl
instance : TCell Try.prog 40 := ⟨⟨_, Try.underlying40, rfl⟩, let ⟨i, h, _, h2, _⟩ := info_parts info40; ⟨i, h, h2⟩⟩
instance : TElem Try.prog 40 (.nilFunc) 8 := ⟨let ⟨i, h, h1, h2, h3⟩ := info_parts info40; ⟨i, h, h2, h1, h3⟩, by decide⟩
theorem info41 : (Try.prog.info? 41).map (fun i => (i.zero, i.size, i.bytes)) = some (some (.nilFunc), 1, 8) := by kernel_rfl
instance : TCell Try.prog 41 := ⟨⟨_, Try.underlying41, rfl⟩, let ⟨i, h, _, h2, _⟩ := info_parts info41; ⟨i, h, h2⟩⟩
instance : TElem Try.prog 41 (.nilFunc) 8 := ⟨let ⟨i, h, h1, h2, h3⟩ := info_parts info41; ⟨i, h, h2, h1, h3⟩, by decide⟩
theorem info42 : (Try.prog.info? 42).map (fun i => (i.zero, i.size, i.bytes)) = some (some (.nilFunc), 1, 8) := by kernel_rfl
instance : TCell Try.prog 42 := ⟨⟨_, Try.underlying42, rfl⟩, let ⟨i, h, _, h2, _⟩ := info_parts info42; ⟨i, h, h2⟩⟩
instance : TElem Try.prog 42 (.nilFunc) 8 := ⟨let ⟨i, h, h1, h2, h3⟩ := info_parts info42; ⟨i, h, h2, h1, h3⟩, by decide⟩
theorem info44 : (Try.prog.info? 44).map (fun i => (i.zero, i.size, i.bytes)) = some (some (.nilFunc), 1, 8) := by kernel_rfl
instance : TCell Try.prog 44 := ⟨⟨_, Try.underlying44, rfl⟩, let ⟨i, h, _, h2, _⟩ := info_parts info44; ⟨i, h, h2⟩⟩
instance : TElem Try.prog 44 (.nilFunc) 8 := ⟨let ⟨i, h, h1, h2, h3⟩ := info_parts info44; ⟨i, h, h2, h1, h3⟩, by decide⟩
instance : TSlice Try.prog 45 22 := ⟨Try.underlying45⟩
theorem info45 : (Try.prog.info? 45).map (fun i => (i.zero, i.size, i.bytes)) = some (some (.slice none 0 0), 1, 24) := by kernel_rfl
instance : TCell Try.prog 45 := ⟨⟨_, Try.underlying45, rfl⟩, let ⟨i, h, _, h2, _⟩ := info_parts info45; ⟨i, h, h2⟩⟩
instance : TElem Try.prog 45 (.slice none 0 0) 24 := ⟨let ⟨i, h, h1, h2, h3⟩ := info_parts info45; ⟨i, h, h2, h1, h3⟩, by decide⟩
theorem info46 : (Try.prog.info? 46).map (fun i => (i.zero, i.size, i.bytes)) = some (some (.agg [.slice none 0 0].toArray), 1, 24) := by kernel_rfl
instance : TStruct Try.prog 46 1 [.slice none 0 0] := ⟨⟨_, Try.underlying46, rfl⟩, let ⟨i, h, h1, h2, _⟩ := info_parts info46; ⟨i, h, h2, h1, rfl⟩⟩
instance : TBuild Try.prog 46 1 [.slice none 0 0] := .str (let ⟨i, h, h1, _, _⟩ := info_parts info46; ⟨i, h, h1, rfl⟩) ⟨_, Try.underlying46, by kernel_rfl⟩
instance : TField Try.prog 46 0 0 := ⟨let ⟨i, h, _, h2, _⟩ := info_parts info45; ⟨_, _, i, Try.underlying46, rfl, rfl, h, h2, _, Try.underlying45, rfl⟩⟩
theorem info47 : (Try.prog.info? 47).map (fun i => (i.zero, i.size, i.bytes)) = some (some (.agg [.slice none 0 0].toArray), 1, 24) := by kernel_rfl
instance : TStruct Try.prog 47 1 [.slice none 0 0] := ⟨⟨_, Try.underlying47, rfl⟩, let ⟨i, h, h1, h2, _⟩ := info_parts info47; ⟨i, h, h2, h1, rfl⟩⟩
instance : TBuild Try.prog 47 1 [.slice none 0 0] := .str (let ⟨i, h, h1, _, _⟩ := info_parts info47; ⟨i, h, h1, rfl⟩) ⟨_, Try.underlying47, by kernel_rfl⟩
instance : TField Try.prog 47 0 0 := ⟨let ⟨i, h, _, h2, _⟩ := info_parts info45; ⟨_, _, i, Try.underlying47, rfl, rfl, h, h2, _, Try.underlying45, rfl⟩⟩
theorem info48 : (Try.prog.info? 48).map (fun i => (i.zero, i.size, i.bytes)) = some (some (.nilFunc), 1, 8) := by kernel_rfl
instance : TCell Try.prog 48 := ⟨⟨_, Try.underlying48, rfl⟩, let ⟨i, h, _, h2, _⟩ := info_parts info48; ⟨i, h, h2⟩⟩
instance : TElem Try.prog 48 (.nilFunc) 8 := ⟨let ⟨i, h, h1, h2, h3⟩ := info_parts info48; ⟨i, h, h2, h1, h3⟩, by decide⟩
theorem info49 : (Try.prog.info? 49).map (fun i => (i.zero, i.size, i.bytes)) = some (some (.nilFunc), 1, 8) := by kernel_rfl
instance : TCell Try.prog 49 := ⟨⟨_, Try.underlying49, rfl⟩, let ⟨i, h, _, h2, _⟩ := info_parts info49; ⟨i, h, h2⟩⟩
instance : TElem Try.prog 49 (.nilFunc) 8 := ⟨let ⟨i, h, h1, h2, h3⟩ := info_parts info49; ⟨i, h, h2, h1, h3⟩, by decide⟩
theorem info50 : (Try.prog.info? 50).map (fun i => (i.zero, i.size, i.bytes)) = some (some (.agg [.slice none 0 0].toArray), 1, 24) := by kernel_rfl
instance : TStruct Try.prog 50 1 [.slice none 0 0] := ⟨⟨_, Try.underlying50, rfl⟩, let ⟨i, h, h1, h2, _⟩ := info_parts info50; ⟨i, h, h2, h1, rfl⟩⟩
instance : TBuild Try.prog 50 1 [.slice none 0 0] := .str (let ⟨i, h, h1, _, _⟩ := info_parts info50; ⟨i, h, h1, rfl⟩) ⟨_, Try.underlying50, by kernel_rfl⟩
instance : TField Try.prog 50 0 0 := ⟨let ⟨i, h, _, h2, _⟩ := info_parts info45; ⟨_, _, i, Try.underlying50, rfl, rfl, h, h2, _, Try.underlying45, rfl⟩⟩
theorem info51 : (Try.prog.info? 51).map (fun i => (i.zero, i.size, i.bytes)) = some (some (.nilFunc), 1, 8) := by kernel_rfl
instance : TCell Try.prog 51 := ⟨⟨_, Try.underlying51, rfl⟩, let ⟨i, h, _, h2, _⟩ := info_parts info51; ⟨i, h, h2⟩⟩
instance : TElem Try.prog 51 (.nilFunc) 8 := ⟨let ⟨i, h, h1, h2, h3⟩ := info_parts info51; ⟨i, h, h2, h1, h3⟩, by decide⟩
theorem info52 : (Try.prog.info? 52).map (fun i => (i.zero, i.size, i.bytes)) = some (some (.nilFunc), 1, 8) := by kernel_rfl
instance : TCell Try.prog 52 := ⟨⟨_, Try.underlying52, rfl⟩, let ⟨i, h, _, h2, _⟩ := info_parts info52; ⟨i, h, h2⟩⟩
instance : TElem Try.prog 52 (.nilFunc) 8 := ⟨let ⟨i, h, h1, h2, h3⟩ := info_parts info52; ⟨i, h, h2, h1, h3⟩, by decide⟩
theorem info53 : (Try.prog.info? 53).map (fun i => (i.zero, i.size, i.bytes)) = some (some (.nilFunc), 1, 8) := by kernel_rfl
instance : TCell Try.prog 53 := ⟨⟨_, Try.underlying53, rfl⟩, let ⟨i, h, _, h2, _⟩ := info_parts info53; ⟨i, h, h2⟩⟩
instance : TElem Try.prog 53 (.nilFunc) 8 := ⟨let ⟨i, h, h1, h2, h3⟩ := info_parts info53; ⟨i, h, h2, h1, h3⟩, by decide⟩
theorem info55 : (Try.prog.info? 55).map (fun i => (i.zero, i.size, i.bytes)) = some (some (.nilFunc), 1, 8) := by kernel_rfl
instance : TCell Try.prog 55 := ⟨⟨_, Try.underlying55, rfl⟩, let ⟨i, h, _, h2, _⟩ := info_parts info55; ⟨i, h, h2⟩⟩
instance : TElem Try.prog 55 (.nilFunc) 8 := ⟨let ⟨i, h, h1, h2, h3⟩ := info_parts info55; ⟨i, h, h2, h1, h3⟩, by decide⟩
theorem info56 : (Try.prog.info? 56).map (fun i => (i.zero, i.size, i.bytes)) = some (some (.nilFunc), 1, 8) := by kernel_rfl
instance : TCell Try.prog 56 := ⟨⟨_, Try.underlying56, rfl⟩, let ⟨i, h, _, h2, _⟩ := info_parts info56; ⟨i, h, h2⟩⟩
instance : TElem Try.prog 56 (.nilFunc) 8 := ⟨let ⟨i, h, h1, h2, h3⟩ := info_parts info56; ⟨i, h, h2, h1, h3⟩, by decide⟩
theorem info57 : (Try.prog.info? 57).map (fun i => (i.zero, i.size, i.bytes)) = some (some (.nilFunc), 1, 8) := by kernel_rfl
instance : TCell Try.prog 57 := ⟨⟨_, Try.underlying57, rfl⟩, let ⟨i, h, _, h2, _⟩ := info_parts info57; ⟨i, h, h2⟩⟩
instance : TElem Try.prog 57 (.nilFunc) 8 := ⟨let ⟨i, h, h1, h2, h3⟩ := info_parts info57; ⟨i, h, h2, h1, h3⟩, by decide⟩
theorem info58 : (Try.prog.info? 58).map (fun i => (i.zero, i.size, i.bytes)) = some (some (.nilFunc), 1, 8) := by kernel_rfl
instance : TCell Try.prog 58 := ⟨⟨_, Try.underlying58, rfl⟩, let ⟨i, h, _, h2, _⟩ := info_parts info58; ⟨i, h, h2⟩⟩
instance : TElem Try.prog 58 (.nilFunc) 8 := ⟨let ⟨i, h, h1, h2, h3⟩ := info_parts info58; ⟨i, h, h2, h1, h3⟩, by decide⟩
theorem info59 : (Try.prog.info? 59).map (fun i => (i.zero, i.size, i.bytes)) = some (some (.nilFunc), 1, 8) := by kernel_rfl
instance : TCell Try.prog 59 := ⟨⟨_, Try.underlying59, rfl⟩, let ⟨i, h, _, h2, _⟩ := info_parts info59; ⟨i, h, h2⟩⟩
instance : TElem Try.prog 59 (.nilFunc) 8 := ⟨let ⟨i, h, h1, h2, h3⟩ := info_parts info59; ⟨i, h, h2, h1, h3⟩, by decide⟩
theorem info60 : (Try.prog.info? 60).map (fun i => (i.zero, i.size, i.bytes)) = some (some (.nilFunc), 1, 8) := by kernel_rfl
instance : TCell Try.prog 60 := ⟨⟨_, Try.underlying60, rfl⟩, let ⟨i, h, _, h2, _⟩ := info_parts info60; ⟨i, h, h2⟩⟩
instance : TElem Try.prog 60 (.nilFunc) 8 := ⟨let ⟨i, h, h1, h2, h3⟩ := info_parts info60; ⟨i, h, h2, h1, h3⟩, by decide⟩
theorem info61 : (Try.prog.info? 61).map (fun i => (i.zero, i.size, i.bytes)) = some (some (.map none), 1, 8) := by kernel_rfl
instance : TCell Try.prog 61 := ⟨⟨_, Try.underlying61, rfl⟩, let ⟨i, h, _, h2, _⟩ := info_parts info61; ⟨i, h, h2⟩⟩
instance : TElem Try.prog 61 (.map none) 8 := ⟨let ⟨i, h, h1, h2, h3⟩ := info_parts info61; ⟨i, h, h2, h1, h3⟩, by decide⟩
instance : TMap Try.prog 61 3 22 := ⟨Try.underlying61⟩
theorem info62 : (Try.prog.info? 62).map (fun i => (i.zero, i.size, i.bytes)) = some (some (.agg [.map none].toArray), 1, 8) := by kernel_rfl
instance : TStruct Try.prog 62 1 [.map none] := ⟨⟨_, Try.underlying62, rfl⟩, let ⟨i, h, h1, h2, _⟩ := info_parts info62; ⟨i, h, h2, h1, rfl⟩⟩
instance : TBuild Try.prog 62 1 [.map none] := .str (let ⟨i, h, h1, _, _⟩ := info_parts info62; ⟨i, h, h1, rfl⟩) ⟨_, Try.underlying62, by kernel_rfl⟩
instance : TField Try.prog 62 0 0 := ⟨let ⟨i, h, _, h2, _⟩ := info_parts info61; ⟨_, _, i, Try.underlying62, rfl, rfl, h, h2, _, Try.underlying61, rfl⟩⟩
theorem info63 : (Try.prog.info? 63).map (fun i => (i.zero, i.size, i.bytes)) = some (some (.agg [.map none].toArray), 1, 8) := by kernel_rfl
instance : TStruct Try.prog 63 1 [.map none] := ⟨⟨_, Try.underlying63, rfl⟩, let ⟨i, h, h1, h2, _⟩ := info_parts info63; ⟨i, h, h2, h1, rfl⟩⟩
instance : TBuild Try.prog 63 1 [.map none] := .str (let ⟨i, h, h1, _, _⟩ := info_parts info63; ⟨i, h, h1, rfl⟩) ⟨_, Try.underlying63, by kernel_rfl⟩
instance : TField Try.prog 63 0 0 := ⟨let ⟨i, h, _, h2, _⟩ := info_parts info61; ⟨_, _, i, Try.underlying63, rfl, rfl, h, h2, _, Try.underlying61, rfl⟩⟩
theorem info64 : (Try.prog.info? 64).map (fun i => (i.zero, i.size, i.bytes)) = some (some (.nilFunc), 1, 8) := by kernel_rfl
instance : TCell Try.prog 64 := ⟨⟨_, Try.underlying64, rfl⟩, let ⟨i, h, _, h2, _⟩ := info_parts info64; ⟨i, h, h2⟩⟩
instance : TElem Try.prog 64 (.nilFunc) 8 := ⟨let ⟨i, h, h1, h2, h3⟩ := info_parts info64; ⟨i, h, h2, h1, h3⟩, by decide⟩
theorem info65 : (Try.prog.info? 65).map (fun i => (i.zero, i.size, i.bytes)) = some (some (.nilFunc), 1, 8) := by kernel_rfl
instance : TCell Try.prog 65 := ⟨⟨_, Try.underlying65, rfl⟩, let ⟨i, h, _, h2, _⟩ := info_parts info65; ⟨i, h, h2⟩⟩
instance : TElem Try.prog 65 (.nilFunc) 8 := ⟨let ⟨i, h, h1, h2, h3⟩ := info_parts info65; ⟨i, h, h2, h1, h3⟩, by decide⟩
theorem info66 : (Try.prog.info? 66).map (fun i => (i.zero, i.size, i.bytes)) = some (some (.nilFunc), 1, 8) := by kernel_rfl
instance : TCell Try.prog 66 := ⟨⟨_, Try.underlying66, rfl⟩, let ⟨i, h, _, h2, _⟩ := info_parts info66; ⟨i, h, h2⟩⟩
instance : TElem Try.prog 66 (.nilFunc) 8 := ⟨let ⟨i, h, h1, h2, h3⟩ := info_parts info66; ⟨i, h, h2, h1, h3⟩, by decide⟩
theorem info68 : (Try.prog.info? 68).map (fun i => (i.zero, i.size, i.bytes)) = some (some (.nilFunc), 1, 8) := by kernel_rfl
instance : TCell Try.prog 68 := ⟨⟨_, Try.underlying68, rfl⟩, let ⟨i, h, _, h2, _⟩ := info_parts info68; ⟨i, h, h2⟩⟩
instance : TElem Try.prog 68 (.nilFunc) 8 := ⟨let ⟨i, h, h1, h2, h3⟩ := info_parts info68; ⟨i, h, h2, h1, h3⟩, by decide⟩
theorem info69 : (Try.prog.info? 69).map (fun i => (i.zero, i.size, i.bytes)) = some (some (.nilFunc), 1, 8) := by kernel_rfl
instance : TCell Try.prog 69 := ⟨⟨_, Try.underlying69, rfl⟩, let ⟨i, h, _, h2, _⟩ := info_parts info69; ⟨i, h, h2⟩⟩
instance : TElem Try.prog 69 (.nilFunc) 8 := ⟨let ⟨i, h, h1, h2, h3⟩ := info_parts info69; ⟨i, h, h2, h1, h3⟩, by decide⟩
theorem info70 : (Try.prog.info? 70).map (fun i => (i.zero, i.size, i.bytes)) = some (some (.nilFunc), 1, 8) := by kernel_rfl
instance : TCell Try.prog 70 := ⟨⟨_, Try.underlying70, rfl⟩, let ⟨i, h, _, h2, _⟩ := info_parts info70; ⟨i, h, h2⟩⟩
instance : TElem Try.prog 70 (.nilFunc) 8 := ⟨let ⟨i, h, h1, h2, h3⟩ := info_parts info70; ⟨i, h, h2, h1, h3⟩, by decide⟩
theorem info71 : (Try.prog.info? 71).map (fun i => (i.zero, i.size, i.bytes)) = some (some (.nilFunc), 1, 8) := by kernel_rfl
instance : TCell Try.prog 71 := ⟨⟨_, Try.underlying71, rfl⟩, let ⟨i, h, _, h2, _⟩ := info_parts info71; ⟨i, h, h2⟩⟩
instance : TElem Try.prog 71 (.nilFunc) 8 := ⟨let ⟨i, h, h1, h2, h3⟩ := info_parts info71; ⟨i, h, h2, h1, h3⟩, by decide⟩
theorem info72 : (Try.prog.info? 72).map (fun i => (i.zero, i.size, i.bytes)) = some (some (.nilFunc), 1, 8) := by kernel_rfl
instance : TCell Try.prog 72 := ⟨⟨_, Try.underlying72, rfl⟩, let ⟨i, h, _, h2, _⟩ := info_parts info72; ⟨i, h, h2⟩⟩
instance : TElem Try.prog 72 (.nilFunc) 8 := ⟨let ⟨i, h, h1, h2, h3⟩ := info_parts info72; ⟨i, h, h2, h1, h3⟩, by decide⟩
theorem info73 : (Try.prog.info? 73).map (fun i => (i.zero, i.size, i.bytes)) = some (some (.nilFunc), 1, 8) := by kernel_rfl
instance : TCell Try.prog 73 := ⟨⟨_, Try.underlying73, rfl⟩, let ⟨i, h, _, h2, _⟩ := info_parts info73; ⟨i, h, h2⟩⟩
instance : TElem Try.prog 73 (.nilFunc) 8 := ⟨let ⟨i, h, h1, h2, h3⟩ := info_parts info73; ⟨i, h, h2, h1, h3⟩, by decide⟩
theorem info74 : (Try.prog.info? 74).map (fun i => (i.zero, i.size, i.bytes)) = some (some (.nilFunc), 1, 8) := by kernel_rfl
instance : TCell Try.prog 74 := ⟨⟨_, Try.underlying74, rfl⟩, let ⟨i, h, _, h2, _⟩ := info_parts info74; ⟨i, h, h2⟩⟩
instance : TElem Try.prog 74 (.nilFunc) 8 := ⟨let ⟨i, h, h1, h2, h3⟩ := info_parts info74; ⟨i, h, h2, h1, h3⟩, by decide⟩
theorem info75 : (Try.prog.info? 75).map (fun i => (i.zero, i.size, i.bytes)) = some (some (.nilFunc), 1, 8) := by kernel_rfl
instance : TCell Try.prog 75 := ⟨⟨_, Try.underlying75, rfl⟩, let ⟨i, h, _, h2, _⟩ := info_parts info75; ⟨i, h, h2⟩⟩
instance : TElem Try.prog 75 (.nilFunc) 8 := ⟨let ⟨i, h, h1, h2, h3⟩ := info_parts info75; ⟨i, h, h2, h1, h3⟩, by decide⟩
theorem info76 : (Try.prog.info? 76).map (fun i => (i.zero, i.size, i.bytes)) = some (some (.nilFunc), 1, 8) := by kernel_rfl
instance : TCell Try.prog 76 := ⟨⟨_, Try.underlying76, rfl⟩, let ⟨i, h, _, h2, _⟩ := info_parts info76; ⟨i, h, h2⟩⟩
instance : TElem Try.prog 76 (.nilFunc) 8 := ⟨let ⟨i, h, h1, h2, h3⟩ := info_parts info76; ⟨i, h, h2, h1, h3⟩, by decide⟩
theorem info77 : (Try.prog.info? 77).map (fun i => (i.zero, i.size, i.bytes)) = some (some (.nilFunc), 1, 8) := by kernel_rfl
instance : TCell Try.prog 77 := ⟨⟨_, Try.underlying77, rfl⟩, let ⟨i, h, _, h2, _⟩ := info_parts info77; ⟨i, h, h2⟩⟩
instance : TElem Try.prog 77 (.nilFunc) 8 := ⟨let ⟨i, h, h1, h2, h3⟩ := info_parts info77; ⟨i, h, h2, h1, h3⟩, by decide⟩
theorem info78 : (Try.prog.info? 78).map (fun i => (i.zero, i.size, i.bytes)) = some (some (.nilFunc), 1, 8) := by kernel_rfl
instance : TCell Try.prog 78 := ⟨⟨_, Try.underlying78, rfl⟩, let ⟨i, h, _, h2, _⟩ := info_parts info78; ⟨i, h, h2⟩⟩
instance : TElem Try.prog 78 (.nilFunc) 8 := ⟨let ⟨i, h, h1, h2, h3⟩ := info_parts info78; ⟨i, h, h2, h1, h3⟩, by decide⟩
theorem info79 : (Try.prog.info? 79).map (fun i => (i.zero, i.size, i.bytes)) = some (some (.nilFunc), 1, 8) := by kernel_rfl
instance : TCell Try.prog 79 := ⟨⟨_, Try.underlying79, rfl⟩, let ⟨i, h, _, h2, _⟩ := info_parts info79; ⟨i, h, h2⟩⟩
instance : TElem Try.prog 79 (.nilFunc) 8 := ⟨let ⟨i, h, h1, h2, h3⟩ := info_parts info79; ⟨i, h, h2, h1, h3⟩, by decide⟩
theorem info80 : (Try.prog.info? 80).map (fun i => (i.zero, i.size, i.bytes)) = some (some (.nilFunc), 1, 8) := by kernel_rfl
instance : TCell Try.prog 80 := ⟨⟨_, Try.underlying80, rfl⟩, let ⟨i, h, _, h2, _⟩ := info_parts info80; ⟨i, h, h2⟩⟩
instance : TElem Try.prog 80 (.nilFunc) 8 := ⟨let ⟨i, h, h1, h2, h3⟩ := info_parts info80; ⟨i, h, h2, h1, h3⟩, by decide⟩
theorem info81 : (Try.prog.info? 81).map (fun i => (i.zero, i.size, i.bytes)) = some (some (.nilFunc), 1, 8) := by kernel_rfl
instance : TCell Try.prog 81 := ⟨⟨_, Try.underlying81, rfl⟩, let ⟨i, h, _, h2, _⟩ := info_parts info81; ⟨i, h, h2⟩⟩
instance : TElem Try.prog 81 (.nilFunc) 8 := ⟨let ⟨i, h, h1, h2, h3⟩ := info_parts info81; ⟨i, h, h2, h1, h3⟩, by decide⟩
theorem info82 : (Try.prog.info? 82).map (fun i => (i.zero, i.size, i.bytes)) = some (some (.map none), 1, 8) := by kernel_rfl
instance : TCell Try.prog 82 := ⟨⟨_, Try.underlying82, rfl⟩, let ⟨i, h, _, h2, _⟩ := info_parts info82; ⟨i, h, h2⟩⟩
instance : TElem Try.prog 82 (.map none) 8 := ⟨let ⟨i, h, h1, h2, h3⟩ := info_parts info82; ⟨i, h, h2, h1, h3⟩, by decide⟩
instance : TMap Try.prog 82 86 2 := ⟨Try.underlying82⟩
theorem info83 : (Try.prog.info? 83).map (fun i => (i.zero, i.size, i.bytes)) = some (some (.map none), 1, 8) := by kernel_rfl
instance : TCell Try.prog 83 := ⟨⟨_, Try.underlying83, rfl⟩, let ⟨i, h, _, h2, _⟩ := info_parts info83; ⟨i, h, h2⟩⟩
instance : TElem Try.prog 83 (.map none) 8 := ⟨let ⟨i, h, h1, h2, h3⟩ := info_parts info83; ⟨i, h, h2, h1, h3⟩, by decide⟩
instance : TMap Try.prog 83 86 2 := ⟨Try.underlying83⟩
theorem info84 : (Try.prog.info? 84).map (fun i => (i.zero, i.size, i.bytes)) = some (some (.nilFunc), 1, 8) := by kernel_rfl
instance : TCell Try.prog 84 := ⟨⟨_, Try.underlying84, rfl⟩, let ⟨i, h, _, h2, _⟩ := info_parts info84; ⟨i, h, h2⟩⟩
instance : TElem Try.prog 84 (.nilFunc) 8 := ⟨let ⟨i, h, h1, h2, h3⟩ := info_parts info84; ⟨i, h, h2, h1, h3⟩, by decide⟩
theorem info85 : (Try.prog.info? 85).map (fun i => (i.zero, i.size, i.bytes)) = some (some (.agg [.int .i64 0, .int .i64 0].toArray), 2, 16) := by kernel_rfl
instance : TStruct Try.prog 85 2 [.int .i64 0, .int .i64 0] := ⟨⟨_, Try.underlying85, rfl⟩, let ⟨i, h, h1, h2, _⟩ := info_parts info85; ⟨i, h, h2, h1, rfl⟩⟩
instance : TArr Try.prog 85 2 2 := ⟨Try.underlying85, let ⟨i, h, _, h2, _⟩ := info_parts info2; ⟨i, h, h2⟩⟩
instance : TBuild Try.prog 85 2 [.int .i64 0, .int .i64 0] := .arr (let ⟨i, h, h1, _, _⟩ := info_parts info85; ⟨i, h, h1, rfl⟩) (let ⟨i, h, _, h2, _⟩ := info_parts info2; ⟨_, i, Try.underlying85, h, h2⟩)
theorem info86 : (Try.prog.info? 86).map (fun i => (i.zero, i.size, i.bytes)) = some (some (.agg [.int .i64 0, .int .i64 0].toArray), 2, 16) := by kernel_rfl
instance : TStruct Try.prog 86 2 [.int .i64 0, .int .i64 0] := ⟨⟨_, Try.underlying86, rfl⟩, let ⟨i, h, h1, h2, _⟩ := info_parts info86; ⟨i, h, h2, h1, rfl⟩⟩
instance : TArr Try.prog 86 2 2 := ⟨Try.underlying86, let ⟨i, h, _, h2, _⟩ := info_parts info2; ⟨i, h, h2⟩⟩
instance : TBuild Try.prog 86 2 [.int .i64 0, .int .i64 0] := .arr (let ⟨i, h, h1, _, _⟩ := info_parts info86; ⟨i, h, h1, rfl⟩) (let ⟨i, h, _, h2, _⟩ := info_parts info2; ⟨_, i, Try.underlying86, h, h2⟩)
theorem info87 : (Try.prog.info? 87).map (fun i => (i.zero, i.size, i.bytes)) = some (some (.nilFunc), 1, 8) := by kernel_rfl
instance : TCell Try.prog 87 := ⟨⟨_, Try.underlying87, rfl⟩, let ⟨i, h, _, h2, _⟩ := info_parts info87; ⟨i, h, h2⟩⟩
instance : TElem Try.prog 87 (.nilFunc) 8 := ⟨let ⟨i, h, h1, h2, h3⟩ := info_parts info87; ⟨i, h, h2, h1, h3⟩, by decide⟩
theorem info89 : (Try.prog.info? 89).map (fun i => (i.zero, i.size, i.bytes)) = some (some (.nilFunc), 1, 8) := by kernel_rfl
instance : TCell Try.prog 89 := ⟨⟨_, Try.underlying89, rfl⟩, let ⟨i, h, _, h2, _⟩ := info_parts info89; ⟨i, h, h2⟩⟩
instance : TElem Try.prog 89 (.nilFunc) 8 := ⟨let ⟨i, h, h1, h2, h3⟩ := info_parts info89; ⟨i, h, h2, h1, h3⟩, by decide⟩
theorem info90 : (Try.prog.info? 90).map (fun i => (i.zero, i.size, i.bytes)) = some (some (.nilFunc), 1, 8) := by kernel_rfl
instance : TCell Try.prog 90 := ⟨⟨_, Try.underlying90, rfl⟩, let ⟨i, h, _, h2, _⟩ := info_parts info90; ⟨i, h, h2⟩⟩
instance : TElem Try.prog 90 (.nilFunc) 8 := ⟨let ⟨i, h, h1, h2, h3⟩ := info_parts info90; ⟨i, h, h2, h1, h3⟩, by decide⟩
theorem info91 : (Try.prog.info? 91).map (fun i => (i.zero, i.size, i.bytes)) = some (some (.nilFunc), 1, 8) := by kernel_rfl
instance : TCell Try.prog 91 := ⟨⟨_, Try.underlying91, rfl⟩, let ⟨i, h, _, h2, _⟩ := info_parts info91; ⟨i, h, h2⟩⟩
instance : TElem Try.prog 91 (.nilFunc) 8 := ⟨let ⟨i, h, h1, h2, h3⟩ := info_parts info91; ⟨i, h, h2, h1, h3⟩, by decide⟩
theorem info92 : (Try.prog.info? 92).map (fun i => (i.zero, i.size, i.bytes)) = some (some (.nilFunc), 1, 8) := by kernel_rfl
instance : TCell Try.prog 92 := ⟨⟨_, Try.underlying92, rfl⟩, let ⟨i, h, _, h2, _⟩ := info_parts info92; ⟨i, h, h2⟩⟩
instance : TElem Try.prog 92 (.nilFunc) 8 := ⟨let ⟨i, h, h1, h2, h3⟩ := info_parts info92; ⟨i, h, h2, h1, h3⟩, by decide⟩
theorem info93 : (Try.prog.info? 93).map (fun i => (i.zero, i.size, i.bytes)) = some (some (.nilFunc), 1, 8) := by kernel_rfl
instance : TCell Try.prog 93 := ⟨⟨_, Try.underlying93, rfl⟩, let ⟨i, h, _, h2, _⟩ := info_parts info93; ⟨i, h, h2⟩⟩
instance : TElem Try.prog 93 (.nilFunc) 8 := ⟨let ⟨i, h, h1, h2, h3⟩ := info_parts info93; ⟨i, h, h2, h1, h3⟩, by decide⟩
theorem info94 : (Try.prog.info? 94).map (fun i => (i.zero, i.size, i.bytes)) = some (some (.nilFunc), 1, 8) := by kernel_rfl
instance : TCell Try.prog 94 := ⟨⟨_, Try.underlying94, rfl⟩, let ⟨i, h, _, h2, _⟩ := info_parts info94; ⟨i, h, h2⟩⟩
instance : TElem Try.prog 94 (.nilFunc) 8 := ⟨let ⟨i, h, h1, h2, h3⟩ := info_parts info94; ⟨i, h, h2, h1, h3⟩, by decide⟩
theorem info95 : (Try.prog.info? 95).map (fun i => (i.zero, i.size, i.bytes)) = some (some (.nilFunc), 1, 8) := by kernel_rfl
instance : TCell Try.prog 95 := ⟨⟨_, Try.underlying95, rfl⟩, let ⟨i, h, _, h2, _⟩ := info_parts info95; ⟨i, h, h2⟩⟩
instance : TElem Try.prog 95 (.nilFunc) 8 := ⟨let ⟨i, h, h1, h2, h3⟩ := info_parts info95; ⟨i, h, h2, h1, h3⟩, by decide⟩
theorem info96 : (Try.prog.info? 96).map (fun i => (i.zero, i.size, i.bytes)) = some (some (.nilFunc), 1, 8) := by kernel_rfl
instance : TCell Try.prog 96 := ⟨⟨_, Try.underlying96, rfl⟩, let ⟨i, h, _, h2, _⟩ := info_parts info96; ⟨i, h, h2⟩⟩
instance : TElem Try.prog 96 (.nilFunc) 8 := ⟨let ⟨i, h, h1, h2, h3⟩ := info_parts info96; ⟨i, h, h2, h1, h3⟩, by decide⟩
theorem info97 : (Try.prog.info? 97).map (fun i => (i.zero, i.size, i.bytes)) = some (some (.nilFunc), 1, 8) := by kernel_rfl
instance : TCell Try.prog 97 := ⟨⟨_, Try.underlying97, rfl⟩, let ⟨i, h, _, h2, _⟩ := info_parts info97; ⟨i, h, h2⟩⟩
instance : TElem Try.prog 97 (.nilFunc) 8 := ⟨let ⟨i, h, h1, h2, h3⟩ := info_parts info97; ⟨i, h, h2, h1, h3⟩, by decide⟩
theorem info98 : (Try.prog.info? 98).map (fun i => (i.zero, i.size, i.bytes)) = some (some (.nilFunc), 1, 8) := by kernel_rfl
instance : TCell Try.prog 98 := ⟨⟨_, Try.underlying98, rfl⟩, let ⟨i, h, _, h2, _⟩ := info_parts info98; ⟨i, h, h2⟩⟩
instance : TElem Try.prog 98 (.nilFunc) 8 := ⟨let ⟨i, h, h1, h2, h3⟩ := info_parts info98; ⟨i, h, h2, h1, h3⟩, by decide⟩
theorem info99 : (Try.prog.info? 99).map (fun i => (i.zero, i.size, i.bytes)) = some (some (.nilFunc), 1, 8) := by kernel_rfl
instance : TCell Try.prog 99 := ⟨⟨_, Try.underlying99, rfl⟩, let ⟨i, h, _, h2, _⟩ := info_parts info99; ⟨i, h, h2⟩⟩
instance : TElem Try.prog 99 (.nilFunc) 8 := ⟨let ⟨i, h, h1, h2, h3⟩ := info_parts info99; ⟨i, h, h2, h1, h3⟩, by decide⟩
theorem info100 : (Try.prog.info? 100).map (fun i => (i.zero, i.size, i.bytes)) = some (some (.nilFunc), 1, 8) := by kernel_rfl
instance : TCell Try.prog 100 := ⟨⟨_, Try.underlying100, rfl⟩, let ⟨i, h, _, h2, _⟩ := info_parts info100; ⟨i, h, h2⟩⟩
instance : TElem Try.prog 100 (.nilFunc) 8 := ⟨let ⟨i, h, h1, h2, h3⟩ := info_parts info100; ⟨i, h, h2, h1, h3⟩, by decide⟩
theorem info101 : (Try.prog.info? 101).map (fun i => (i.zero, i.size, i.bytes)) = some (some (.nilFunc), 1, 8) := by kernel_rfl
instance : TCell Try.prog 101 := ⟨⟨_, Try.underlying101, rfl⟩, let ⟨i, h, _, h2, _⟩ := info_parts info101; ⟨i, h, h2⟩⟩
instance : TElem Try.prog 101 (.nilFunc) 8 := ⟨let ⟨i, h, h1, h2, h3⟩ := info_parts info101; ⟨i, h, h2, h1, h3⟩, by decide⟩
theorem info102 : (Try.prog.info? 102).map (fun i => (i.zero, i.size, i.bytes)) = some (some (.nilFunc), 1, 8) := by kernel_rfl
instance : TCell Try.prog 102 := ⟨⟨_, Try.underlying102, rfl⟩, let ⟨i, h, _, h2, _⟩ := info_parts info102; ⟨i, h, h2⟩⟩
instance : TElem Try.prog 102 (.nilFunc) 8 := ⟨let ⟨i, h, h1, h2, h3⟩ := info_parts info102; ⟨i, h, h2, h1, h3⟩, by decide⟩
theorem info103 : (Try.prog.info? 103).map (fun i => (i.zero, i.size, i.bytes)) = some (some (.nilFunc), 1, 8) := by kernel_rfl
instance : TCell Try.prog 103 := ⟨⟨_, Try.underlying103, rfl⟩, let ⟨i, h, _, h2, _⟩ := info_parts info103; ⟨i, h, h2⟩⟩
instance : TElem Try.prog 103 (.nilFunc) 8 := ⟨let ⟨i, h, h1, h2, h3⟩ := info_parts info103; ⟨i, h, h2, h1, h3⟩, by decide⟩
theorem info104 : (Try.prog.info? 104).map (fun i => (i.zero, i.size, i.bytes)) = some (some (.nilFunc), 1, 8) := by kernel_rfl
instance : TCell Try.prog 104 := ⟨⟨_, Try.underlying104, rfl⟩, let ⟨i, h, _, h2, _⟩ := info_parts info104; ⟨i, h, h2⟩⟩
instance : TElem Try.prog 104 (.nilFunc) 8 := ⟨let ⟨i, h, h1, h2, h3⟩ := info_parts info104; ⟨i, h, h2, h1, h3⟩, by decide⟩
theorem info105 : (Try.prog.info? 105).map (fun i => (i.zero, i.size, i.bytes)) = some (some (.nilFunc), 1, 8) := by kernel_rfl
instance : TCell Try.prog 105 := ⟨⟨_, Try.underlying105, rfl⟩, let ⟨i, h, _, h2, _⟩ := info_parts info105; ⟨i, h, h2⟩⟩
instance : TElem Try.prog 105 (.nilFunc) 8 := ⟨let ⟨i, h, h1, h2, h3⟩ := info_parts info105; ⟨i, h, h2, h1, h3⟩, by decide⟩
theorem info106 : (Try.prog.info? 106).map (fun i => (i.zero, i.size, i.bytes)) = some (some (.nilFunc), 1, 8) := by kernel_rfl
instance : TCell Try.prog 106 := ⟨⟨_, Try.underlying106, rfl⟩, let ⟨i, h, _, h2, _⟩ := info_parts info106; ⟨i, h, h2⟩⟩
instance : TElem Try.prog 106 (.nilFunc) 8 := ⟨let ⟨i, h, h1, h2, h3⟩ := info_parts info106; ⟨i, h, h2, h1, h3⟩, by decide⟩
instance : TKind Try.prog 107 .u64 := ⟨Try.underlying107⟩
theorem info107 : (Try.prog.info? 107).map (fun i => (i.zero, i.size, i.bytes)) = some (some (.int .u64 0), 1, 8) := by kernel_rfl
instance : TCell Try.prog 107 := ⟨⟨_, Try.underlying107, rfl⟩, let ⟨i, h, _, h2, _⟩ := info_parts info107; ⟨i, h, h2⟩⟩
instance : TElem Try.prog 107 (.int .u64 0) 8 := ⟨let ⟨i, h, h1, h2, h3⟩ := info_parts info107; ⟨i, h, h2, h1, h3⟩, by decide⟩
theorem info108 : (Try.prog.info? 108).map (fun i => (i.zero, i.size, i.bytes)) = some (some (.nilFunc), 1, 8) := by kernel_rfl
instance : TCell Try.prog 108 := ⟨⟨_, Try.underlying108, rfl⟩, let ⟨i, h, _, h2, _⟩ := info_parts info108; ⟨i, h, h2⟩⟩
instance : TElem Try.prog 108 (.nilFunc) 8 := ⟨let ⟨i, h, h1, h2, h3⟩ := info_parts info108; ⟨i, h, h2, h1, h3⟩, by decide⟩
theorem info109 : (Try.prog.info? 109).map (fun i => (i.zero, i.size, i.bytes)) = some (some (.nilFunc), 1, 8) := by kernel_rfl
instance : TCell Try.prog 109 := ⟨⟨_, Try.underlying109, rfl⟩, let ⟨i, h, _, h2, _⟩ := info_parts info109; ⟨i, h, h2⟩⟩
instance : TElem Try.prog 109 (.nilFunc) 8 := ⟨let ⟨i, h, h1, h2, h3⟩ := info_parts info109; ⟨i, h, h2, h1, h3⟩, by decide⟩
instance : TKind Try.prog 110 .i64 := ⟨Try.underlying110⟩
theorem info110 : (Try.prog.info? 110).map (fun i => (i.zero, i.size, i.bytes)) = some (some (.int .i64 0), 1, 8) := by kernel_rfl
instance : TCell Try.prog 110 := ⟨⟨_, Try.underlying110, rfl⟩, let ⟨i, h, _, h2, _⟩ := info_parts info110; ⟨i, h, h2⟩⟩
instance : TElem Try.prog 110 (.int .i64 0) 8 := ⟨let ⟨i, h, h1, h2, h3⟩ := info_parts info110; ⟨i, h, h2, h1, h3⟩, by decide⟩
theorem info112 : (Try.prog.info? 112).map (fun i => (i.zero, i.size, i.bytes)) = some (some (.nilFunc), 1, 8) := by kernel_rfl
instance : TCell Try.prog 112 := ⟨⟨_, Try.underlying112, rfl⟩, let ⟨i, h, _, h2, _⟩ := info_parts info112; ⟨i, h, h2⟩⟩
instance : TElem Try.prog 112 (.nilFunc) 8 := ⟨let ⟨i, h, h1, h2, h3⟩ := info_parts info112; ⟨i, h, h2, h1, h3⟩, by decide⟩
theorem info113 : (Try.prog.info? 113).map (fun i => (i.zero, i.size, i.bytes)) = some (some (.nilFunc), 1, 8) := by kernel_rfl
instance : TCell Try.prog 113 := ⟨⟨_, Try.underlying113, rfl⟩, let ⟨i, h, _, h2, _⟩ := info_parts info113; ⟨i, h, h2⟩⟩
instance : TElem Try.prog 113 (.nilFunc) 8 := ⟨let ⟨i, h, h1, h2, h3⟩ := info_parts info113; ⟨i, h, h2, h1, h3⟩, by decide⟩
theorem info114 : (Try.prog.info? 114).map (fun i => (i.zero, i.size, i.bytes)) = some (some (.nilFunc), 1, 8) := by kernel_rfl
instance : TCell Try.prog 114 := ⟨⟨_, Try.underlying114, rfl⟩, let ⟨i, h, _, h2, _⟩ := info_parts info114; ⟨i, h, h2⟩⟩
instance : TElem Try.prog 114 (.nilFunc) 8 := ⟨let ⟨i, h, h1, h2, h3⟩ := info_parts info114; ⟨i, h, h2, h1, h3⟩, by decide⟩
theorem info116 : (Try.prog.info? 116).map (fun i => (i.zero, i.size, i.bytes)) = some (some (.nilFunc), 1, 8) := by kernel_rfl
instance : TCell Try.prog 116 := ⟨⟨_, Try.underlying116, rfl⟩, let ⟨i, h, _, h2, _⟩ := info_parts info116; ⟨i, h, h2⟩⟩
instance : TElem Try.prog 116 (.nilFunc) 8 := ⟨let ⟨i, h, h1, h2, h3⟩ := info_parts info116; ⟨i, h, h2, h1, h3⟩, by decide⟩
theorem info117 : (Try.prog.info? 117).map (fun i => (i.zero, i.size, i.bytes)) = some (some (.nilFunc), 1, 8) := by kernel_rfl
instance : TCell Try.prog 117 := ⟨⟨_, Try.underlying117, rfl⟩, let ⟨i, h, _, h2, _⟩ := info_parts info117; ⟨i, h, h2⟩⟩
instance : TElem Try.prog 117 (.nilFunc) 8 := ⟨let ⟨i, h, h1, h2, h3⟩ := info_parts info117; ⟨i, h, h2, h1, h3⟩, by decide⟩
instance : TKind Try.prog 118 .u32 := ⟨Try.underlying118⟩
theorem info118 : (Try.prog.info? 118).map (fun i => (i.zero, i.size, i.bytes)) = some (some (.int .u32 0), 1, 4) := by kernel_rfl
instance : TCell Try.prog 118 := ⟨⟨_, Try.underlying118, rfl⟩, let ⟨i, h, _, h2, _⟩ := info_parts info118; ⟨i, h, h2⟩⟩
instance : TElem Try.prog 118 (.int .u32 0) 4 := ⟨let ⟨i, h, h1, h2, h3⟩ := info_parts info118; ⟨i, h, h2, h1, h3⟩, by decide⟩
theorem info119 : (Try.prog.info? 119).map (fun i => (i.zero, i.size, i.bytes)) = some (some (.nilFunc), 1, 8) := by kernel_rfl
instance : TCell Try.prog 119 := ⟨⟨_, Try.underlying119, rfl⟩, let ⟨i, h, _, h2, _⟩ := info_parts info119; ⟨i, h, h2⟩⟩
instance : TElem Try.prog 119 (.nilFunc) 8 := ⟨let ⟨i, h, h1, h2, h3⟩ := info_parts info119; ⟨i, h, h2, h1, h3⟩, by decide⟩
instance : TKind Try.prog 120 .u64 := ⟨Try.underlying120⟩
theorem info120 : (Try.prog.info? 120).map (fun i => (i.zero, i.size, i.bytes)) = some (some (.int .u64 0), 1, 8) := by kernel_rfl
instance : TCell Try.prog 120 := ⟨⟨_, Try.underlying120, rfl⟩, let ⟨i, h, _, h2, _⟩ := info_parts info120; ⟨i, h, h2⟩⟩
instance : TElem Try.prog 120 (.int .u64 0) 8 := ⟨let ⟨i, h, h1, h2, h3⟩ := info_parts info120; ⟨i, h, h2, h1, h3⟩, by decide⟩
instance : TKind Try.prog 121 .u64 := ⟨Try.underlying121⟩
theorem info121 : (Try.prog.info? 121).map (fun i => (i.zero, i.size, i.bytes)) = some (some (.int .u64 0), 1, 8) := by kernel_rfl
instance : TCell Try.prog 121 := ⟨⟨_, Try.underlying121, rfl⟩, let ⟨i, h, _, h2, _⟩ := info_parts info121; ⟨i, h, h2⟩⟩
instance : TElem Try.prog 121 (.int .u64 0) 8 := ⟨let ⟨i, h, h1, h2, h3⟩ := info_parts info121; ⟨i, h, h2, h1, h3⟩, by decide⟩
theorem info122 : (Try.prog.info? 122).map (fun i => (i.zero, i.size, i.bytes)) = some (some (.nilFunc), 1, 8) := by kernel_rfl
instance : TCell Try.prog 122 := ⟨⟨_, Try.underlying122, rfl⟩, let ⟨i, h, _, h2, _⟩ := info_parts info122; ⟨i, h, h2⟩⟩
instance : TElem Try.prog 122 (.nilFunc) 8 := ⟨let ⟨i, h, h1, h2, h3⟩ := info_parts info122; ⟨i, h, h2, h1, h3⟩, by decide⟩
theorem info123 : (Try.prog.info? 123).map (fun i => (i.zero, i.size, i.bytes)) = some (some (.nilFunc), 1, 8) := by kernel_rfl
instance : TCell Try.prog 123 := ⟨⟨_, Try.underlying123, rfl⟩, let ⟨i, h, _, h2, _⟩ := info_parts info123; ⟨i, h, h2⟩⟩
instance : TElem Try.prog 123 (.nilFunc) 8 := ⟨let ⟨i, h, h1, h2, h3⟩ := info_parts info123; ⟨i, h, h2, h1, h3⟩, by decide⟩
theorem info124 : (Try.prog.info? 124).map (fun i => (i.zero, i.size, i.bytes)) = some (some (.nilFunc), 1, 8) := by kernel_rfl
instance : TCell Try.prog 124 := ⟨⟨_, Try.underlying124, rfl⟩, let ⟨i, h, _, h2, _⟩ := info_parts info124; ⟨i, h, h2⟩⟩
instance : TElem Try.prog 124 (.nilFunc) 8 := ⟨let ⟨i, h, h1, h2, h3⟩ := info_parts info124; ⟨i, h, h2, h1, h3⟩, by decide⟩
theorem info125 : (Try.prog.info? 125).map (fun i => (i.zero, i.size, i.bytes)) = some (some (.pointer none), 1, 8) := by kernel_rfl
instance : TCell Try.prog 125 := ⟨⟨_, Try.underlying125, rfl⟩, let ⟨i, h, _, h2, _⟩ := info_parts info125; ⟨i, h, h2⟩⟩
instance : TElem Try.prog 125 (.pointer none) 8 := ⟨let ⟨i, h, h1, h2, h3⟩ := info_parts info125; ⟨i, h, h2, h1, h3⟩, by decide⟩
theorem info126 : (Try.prog.info? 126).map (fun i => (i.zero, i.size, i.bytes)) = some (some (.nilFunc), 1, 8) := by kernel_rfl
instance : TCell Try.prog 126 := ⟨⟨_, Try.underlying126, rfl⟩, let ⟨i, h, _, h2, _⟩ := info_parts info126; ⟨i, h, h2⟩⟩
instance : TElem Try.prog 126 (.nilFunc) 8 := ⟨let ⟨i, h, h1, h2, h3⟩ := info_parts info126; ⟨i, h, h2, h1, h3⟩, by decide⟩
theorem info127 : (Try.prog.info? 127).map (fun i => (i.zero, i.size, i.bytes)) = some (some (.pointer none), 1, 8) := by kernel_rfl
instance : TCell Try.prog 127 := ⟨⟨_, Try.underlying127, rfl⟩, let ⟨i, h, _, h2, _⟩ := info_parts info127; ⟨i, h, h2⟩⟩
instance : TElem Try.prog 127 (.pointer none) 8 := ⟨let ⟨i, h, h1, h2, h3⟩ := info_parts info127; ⟨i, h, h2, h1, h3⟩, by decide⟩
theorem info129 : (Try.prog.info? 129).map (fun i => (i.zero, i.size, i.bytes)) = some (some (.nilFunc), 1, 8) := by kernel_rfl
instance : TCell Try.prog 129 := ⟨⟨_, Try.underlying129, rfl⟩, let ⟨i, h, _, h2, _⟩ := info_parts info129; ⟨i, h, h2⟩⟩
instance : TElem Try.prog 129 (.nilFunc) 8 := ⟨let ⟨i, h, h1, h2, h3⟩ := info_parts info129; ⟨i, h, h2, h1, h3⟩, by decide⟩
theorem info130 : (Try.prog.info? 130).map (fun i => (i.zero, i.size, i.bytes)) = some (some (.nilFunc), 1, 8) := by kernel_rfl
instance : TCell Try.prog 130 := ⟨⟨_, Try.underlying130, rfl⟩, let ⟨i, h, _, h2, _⟩ := info_parts info130; ⟨i, h, h2⟩⟩
instance : TElem Try.prog 130 (.nilFunc) 8 := ⟨let ⟨i, h, h1, h2, h3⟩ := info_parts info130; ⟨i, h, h2, h1, h3⟩, by decide⟩
theorem info136 : (Try.prog.info? 136).map (fun i => (i.zero, i.size, i.bytes)) = some (some (.nilFunc), 1, 8) := by kernel_rfl
instance : TCell Try.prog 136 := ⟨⟨_, Try.underlying136, rfl⟩, let ⟨i, h, _, h2, _⟩ := info_parts info136; ⟨i, h, h2⟩⟩
instance : TElem Try.prog 136 (.nilFunc) 8 := ⟨let ⟨i, h, h1, h2, h3⟩ := info_parts info136; ⟨i, h, h2, h1, h3⟩, by decide⟩
instance : TKind Try.prog 137 .u8 := ⟨Try.underlying137⟩
theorem info137 : (Try.prog.info? 137).map (fun i => (i.zero, i.size, i.bytes)) = some (some (.int .u8 0), 1, 1) := by kernel_rfl
instance : TCell Try.prog 137 := ⟨⟨_, Try.underlying137, rfl⟩, let ⟨i, h, _, h2, _⟩ := info_parts info137; ⟨i, h, h2⟩⟩
instance : TElem Try.prog 137 (.int .u8 0) 1 := ⟨let ⟨i, h, h1, h2, h3⟩ := info_parts info137; ⟨i, h, h2, h1, h3⟩, by decide⟩
instance : TKind Try.prog 138 .u8 := ⟨Try.underlying138⟩
theorem info138 : (Try.prog.info? 138).map (fun i => (i.zero, i.size, i.bytes)) = some (some (.int .u8 0), 1, 1) := by kernel_rfl
instance : TCell Try.prog 138 := ⟨⟨_, Try.underlying138, rfl⟩, let ⟨i, h, _, h2, _⟩ := info_parts info138; ⟨i, h, h2⟩⟩
instance : TElem Try.prog 138 (.int .u8 0) 1 := ⟨let ⟨i, h, h1, h2, h3⟩ := info_parts info138; ⟨i, h, h2, h1, h3⟩, by decide⟩
theorem info139 : (Try.prog.info? 139).map (fun i => (i.zero, i.size, i.bytes)) = some (some (.nilFunc), 1, 8) := by kernel_rfl
instance : TCell Try.prog 139 := ⟨⟨_, Try.underlying139, rfl⟩, let ⟨i, h, _, h2, _⟩ := info_parts info139; ⟨i, h, h2⟩⟩
instance : TElem Try.prog 139 (.nilFunc) 8 := ⟨let ⟨i, h, h1, h2, h3⟩ := info_parts info139; ⟨i, h, h2, h1, h3⟩, by decide⟩
theorem info140 : (Try.prog.info? 140).map (fun i => (i.zero, i.size, i.bytes)) = some (some (.pointer none), 1, 8) := by kernel_rfl
instance : TCell Try.prog 140 := ⟨⟨_, Try.underlying140, rfl⟩, let ⟨i, h, _, h2, _⟩ := info_parts info140; ⟨i, h, h2⟩⟩
instance : TElem Try.prog 140 (.pointer none) 8 := ⟨let ⟨i, h, h1, h2, h3⟩ := info_parts info140; ⟨i, h, h2, h1, h3⟩, by decide⟩
instance : TKind Try.prog 141 .i32 := ⟨Try.underlying141⟩
theorem info141 : (Try.prog.info? 141).map (fun i => (i.zero, i.size, i.bytes)) = some (some (.int .i32 0), 1, 4) := by kernel_rfl
instance : TCell Try.prog 141 := ⟨⟨_, Try.underlying141, rfl⟩, let ⟨i, h, _, h2, _⟩ := info_parts info141; ⟨i, h, h2⟩⟩
instance : TElem Try.prog 141 (.int .i32 0) 4 := ⟨let ⟨i, h, h1, h2, h3⟩ := info_parts info141; ⟨i, h, h2, h1, h3⟩, by decide⟩
instance : TKind Try.prog 142 .i32 := ⟨Try.underlying142⟩
theorem info142 : (Try.prog.info? 142).map (fun i => (i.zero, i.size, i.bytes)) = some (some (.int .i32 0), 1, 4) := by kernel_rfl
instance : TCell Try.prog 142 := ⟨⟨_, Try.underlying142, rfl⟩, let ⟨i, h, _, h2, _⟩ := info_parts info142; ⟨i, h, h2⟩⟩
instance : TElem Try.prog 142 (.int .i32 0) 4 := ⟨let ⟨i, h, h1, h2, h3⟩ := info_parts info142; ⟨i, h, h2, h1, h3⟩, by decide⟩
end Go.Proofs.Ytifkgmbghcmdeaa
