/-
  The facts on this seat's table of types, by program. No condition.
-/
import Derived.Test.YtpllbdjobmgikaaAmGrow
import Derived.Test.YtpllbdjobmgikaaProg
import Derived.KernelRfl
namespace Go.Proofs.Ytpllbdjobmgikaa
open Go Go.RowKit
theorem info1 : (Try.prog.info? 1).map (fun i => (i.zero, i.size, i.bytes)) = some (some (.nilFunc), 1, 8) := by kernel_rfl
instance : TCell Try.prog 1 := ⟨⟨_, Try.underlying1, rfl⟩, let ⟨i, h, _, h2, _⟩ := info_parts info1; ⟨i, h, h2⟩⟩
instance : TElem Try.prog 1 (.nilFunc) 8 := ⟨let ⟨i, h, h1, h2, h3⟩ := info_parts info1; ⟨i, h, h2, h1, h3⟩, by decide⟩
instance : TKind Try.prog 2 .i64 := ⟨Try.underlying2⟩
theorem info2 : (Try.prog.info? 2).map (fun i => (i.zero, i.size, i.bytes)) = some (some (.int .i64 0), 1, 8) := by kernel_rfl
instance : TCell Try.prog 2 := ⟨⟨_, Try.underlying2, rfl⟩, let ⟨i, h, _, h2, _⟩ := info_parts info2; ⟨i, h, h2⟩⟩
instance : TElem Try.prog 2 (.int .i64 0) 8 := ⟨let ⟨i, h, h1, h2, h3⟩ := info_parts info2; ⟨i, h, h2, h1, h3⟩, by decide⟩
instance : TKind Try.prog 3 .i64 := ⟨Try.underlying3⟩
theorem info3 : (Try.prog.info? 3).map (fun i => (i.zero, i.size, i.bytes)) = some (some (.int .i64 0), 1, 8) := by kernel_rfl
instance : TCell Try.prog 3 := ⟨⟨_, Try.underlying3, rfl⟩, let ⟨i, h, _, h2, _⟩ := info_parts info3; ⟨i, h, h2⟩⟩
instance : TElem Try.prog 3 (.int .i64 0) 8 := ⟨let ⟨i, h, h1, h2, h3⟩ := info_parts info3; ⟨i, h, h2, h1, h3⟩, by decide⟩
instance : TBool Try.prog 4 := ⟨Try.underlying4⟩
theorem info4 : (Try.prog.info? 4).map (fun i => (i.zero, i.size, i.bytes)) = some (some (.bool false), 1, 1) := by kernel_rfl
instance : TCell Try.prog 4 := ⟨⟨_, Try.underlying4, rfl⟩, let ⟨i, h, _, h2, _⟩ := info_parts info4; ⟨i, h, h2⟩⟩
instance : TElem Try.prog 4 (.bool false) 1 := ⟨let ⟨i, h, h1, h2, h3⟩ := info_parts info4; ⟨i, h, h2, h1, h3⟩, by decide⟩
instance : TKind Try.prog 5 .u8 := ⟨Try.underlying5⟩
theorem info5 : (Try.prog.info? 5).map (fun i => (i.zero, i.size, i.bytes)) = some (some (.int .u8 0), 1, 1) := by kernel_rfl
instance : TCell Try.prog 5 := ⟨⟨_, Try.underlying5, rfl⟩, let ⟨i, h, _, h2, _⟩ := info_parts info5; ⟨i, h, h2⟩⟩
instance : TElem Try.prog 5 (.int .u8 0) 1 := ⟨let ⟨i, h, h1, h2, h3⟩ := info_parts info5; ⟨i, h, h2, h1, h3⟩, by decide⟩
instance : TKind Try.prog 6 .u8 := ⟨Try.underlying6⟩
theorem info6 : (Try.prog.info? 6).map (fun i => (i.zero, i.size, i.bytes)) = some (some (.int .u8 0), 1, 1) := by kernel_rfl
instance : TCell Try.prog 6 := ⟨⟨_, Try.underlying6, rfl⟩, let ⟨i, h, _, h2, _⟩ := info_parts info6; ⟨i, h, h2⟩⟩
instance : TElem Try.prog 6 (.int .u8 0) 1 := ⟨let ⟨i, h, h1, h2, h3⟩ := info_parts info6; ⟨i, h, h2, h1, h3⟩, by decide⟩
instance : TStr Try.prog 9 := ⟨Try.underlying9⟩
theorem info9 : (Try.prog.info? 9).map (fun i => (i.zero, i.size, i.bytes)) = some (some (.string ⟨#[]⟩), 1, 16) := by kernel_rfl
instance : TCell Try.prog 9 := ⟨⟨_, Try.underlying9, rfl⟩, let ⟨i, h, _, h2, _⟩ := info_parts info9; ⟨i, h, h2⟩⟩
instance : TElem Try.prog 9 (.string ⟨#[]⟩) 16 := ⟨let ⟨i, h, h1, h2, h3⟩ := info_parts info9; ⟨i, h, h2, h1, h3⟩, by decide⟩
instance : TStr Try.prog 10 := ⟨Try.underlying10⟩
theorem info10 : (Try.prog.info? 10).map (fun i => (i.zero, i.size, i.bytes)) = some (some (.string ⟨#[]⟩), 1, 16) := by kernel_rfl
instance : TCell Try.prog 10 := ⟨⟨_, Try.underlying10, rfl⟩, let ⟨i, h, _, h2, _⟩ := info_parts info10; ⟨i, h, h2⟩⟩
instance : TElem Try.prog 10 (.string ⟨#[]⟩) 16 := ⟨let ⟨i, h, h1, h2, h3⟩ := info_parts info10; ⟨i, h, h2, h1, h3⟩, by decide⟩
instance : TStr Try.prog 11 := ⟨Try.underlying11⟩
theorem info11 : (Try.prog.info? 11).map (fun i => (i.zero, i.size, i.bytes)) = some (some (.string ⟨#[]⟩), 1, 16) := by kernel_rfl
instance : TCell Try.prog 11 := ⟨⟨_, Try.underlying11, rfl⟩, let ⟨i, h, _, h2, _⟩ := info_parts info11; ⟨i, h, h2⟩⟩
instance : TElem Try.prog 11 (.string ⟨#[]⟩) 16 := ⟨let ⟨i, h, h1, h2, h3⟩ := info_parts info11; ⟨i, h, h2, h1, h3⟩, by decide⟩
instance : TKind Try.prog 12 .u64 := ⟨Try.underlying12⟩
theorem info12 : (Try.prog.info? 12).map (fun i => (i.zero, i.size, i.bytes)) = some (some (.int .u64 0), 1, 8) := by kernel_rfl
instance : TCell Try.prog 12 := ⟨⟨_, Try.underlying12, rfl⟩, let ⟨i, h, _, h2, _⟩ := info_parts info12; ⟨i, h, h2⟩⟩
instance : TElem Try.prog 12 (.int .u64 0) 8 := ⟨let ⟨i, h, h1, h2, h3⟩ := info_parts info12; ⟨i, h, h2, h1, h3⟩, by decide⟩
theorem info15 : (Try.prog.info? 15).map (fun i => (i.zero, i.size, i.bytes)) = some (some (.pointer none), 1, 8) := by kernel_rfl
instance : TCell Try.prog 15 := ⟨⟨_, Try.underlying15, rfl⟩, let ⟨i, h, _, h2, _⟩ := info_parts info15; ⟨i, h, h2⟩⟩
instance : TElem Try.prog 15 (.pointer none) 8 := ⟨let ⟨i, h, h1, h2, h3⟩ := info_parts info15; ⟨i, h, h2, h1, h3⟩, by decide⟩
theorem info16 : (Try.prog.info? 16).map (fun i => (i.zero, i.size, i.bytes)) = some (some (.pointer none), 1, 8) := by kernel_rfl
instance : TCell Try.prog 16 := ⟨⟨_, Try.underlying16, rfl⟩, let ⟨i, h, _, h2, _⟩ := info_parts info16; ⟨i, h, h2⟩⟩
instance : TElem Try.prog 16 (.pointer none) 8 := ⟨let ⟨i, h, h1, h2, h3⟩ := info_parts info16; ⟨i, h, h2, h1, h3⟩, by decide⟩
theorem info17 : (Try.prog.info? 17).map (fun i => (i.zero, i.size, i.bytes)) = some (some (.pointer none), 1, 8) := by kernel_rfl
instance : TCell Try.prog 17 := ⟨⟨_, Try.underlying17, rfl⟩, let ⟨i, h, _, h2, _⟩ := info_parts info17; ⟨i, h, h2⟩⟩
instance : TElem Try.prog 17 (.pointer none) 8 := ⟨let ⟨i, h, h1, h2, h3⟩ := info_parts info17; ⟨i, h, h2, h1, h3⟩, by decide⟩
instance : TKind Try.prog 21 .i32 := ⟨Try.underlying21⟩
theorem info21 : (Try.prog.info? 21).map (fun i => (i.zero, i.size, i.bytes)) = some (some (.int .i32 0), 1, 4) := by kernel_rfl
instance : TCell Try.prog 21 := ⟨⟨_, Try.underlying21, rfl⟩, let ⟨i, h, _, h2, _⟩ := info_parts info21; ⟨i, h, h2⟩⟩
instance : TElem Try.prog 21 (.int .i32 0) 4 := ⟨let ⟨i, h, h1, h2, h3⟩ := info_parts info21; ⟨i, h, h2, h1, h3⟩, by decide⟩
instance : TSlice Try.prog 22 31 := ⟨Try.underlying22⟩
theorem info22 : (Try.prog.info? 22).map (fun i => (i.zero, i.size, i.bytes)) = some (some (.slice none 0 0), 1, 24) := by kernel_rfl
instance : TCell Try.prog 22 := ⟨⟨_, Try.underlying22, rfl⟩, let ⟨i, h, _, h2, _⟩ := info_parts info22; ⟨i, h, h2⟩⟩
instance : TElem Try.prog 22 (.slice none 0 0) 24 := ⟨let ⟨i, h, h1, h2, h3⟩ := info_parts info22; ⟨i, h, h2, h1, h3⟩, by decide⟩
theorem info23 : (Try.prog.info? 23).map (fun i => (i.zero, i.size, i.bytes)) = some (some (.nilFunc), 1, 8) := by kernel_rfl
instance : TCell Try.prog 23 := ⟨⟨_, Try.underlying23, rfl⟩, let ⟨i, h, _, h2, _⟩ := info_parts info23; ⟨i, h, h2⟩⟩
instance : TElem Try.prog 23 (.nilFunc) 8 := ⟨let ⟨i, h, h1, h2, h3⟩ := info_parts info23; ⟨i, h, h2, h1, h3⟩, by decide⟩
theorem info25 : (Try.prog.info? 25).map (fun i => (i.zero, i.size, i.bytes)) = some (some (.nilFunc), 1, 8) := by kernel_rfl
instance : TCell Try.prog 25 := ⟨⟨_, Try.underlying25, rfl⟩, let ⟨i, h, _, h2, _⟩ := info_parts info25; ⟨i, h, h2⟩⟩
instance : TElem Try.prog 25 (.nilFunc) 8 := ⟨let ⟨i, h, h1, h2, h3⟩ := info_parts info25; ⟨i, h, h2, h1, h3⟩, by decide⟩
theorem info26 : (Try.prog.info? 26).map (fun i => (i.zero, i.size, i.bytes)) = some (some (.nilFunc), 1, 8) := by kernel_rfl
instance : TCell Try.prog 26 := ⟨⟨_, Try.underlying26, rfl⟩, let ⟨i, h, _, h2, _⟩ := info_parts info26; ⟨i, h, h2⟩⟩
instance : TElem Try.prog 26 (.nilFunc) 8 := ⟨let ⟨i, h, h1, h2, h3⟩ := info_parts info26; ⟨i, h, h2, h1, h3⟩, by decide⟩
theorem info27 : (Try.prog.info? 27).map (fun i => (i.zero, i.size, i.bytes)) = some (some (.nilFunc), 1, 8) := by kernel_rfl
instance : TCell Try.prog 27 := ⟨⟨_, Try.underlying27, rfl⟩, let ⟨i, h, _, h2, _⟩ := info_parts info27; ⟨i, h, h2⟩⟩
instance : TElem Try.prog 27 (.nilFunc) 8 := ⟨let ⟨i, h, h1, h2, h3⟩ := info_parts info27; ⟨i, h, h2, h1, h3⟩, by decide⟩
theorem info28 : (Try.prog.info? 28).map (fun i => (i.zero, i.size, i.bytes)) = some (some (.nilFunc), 1, 8) := by kernel_rfl
instance : TCell Try.prog 28 := ⟨⟨_, Try.underlying28, rfl⟩, let ⟨i, h, _, h2, _⟩ := info_parts info28; ⟨i, h, h2⟩⟩
instance : TElem Try.prog 28 (.nilFunc) 8 := ⟨let ⟨i, h, h1, h2, h3⟩ := info_parts info28; ⟨i, h, h2, h1, h3⟩, by decide⟩
theorem info30 : (Try.prog.info? 30).map (fun i => (i.zero, i.size, i.bytes)) = some (some (.nilFunc), 1, 8) := by kernel_rfl
instance : TCell Try.prog 30 := ⟨⟨_, Try.underlying30, rfl⟩, let ⟨i, h, _, h2, _⟩ := info_parts info30; ⟨i, h, h2⟩⟩
instance : TElem Try.prog 30 (.nilFunc) 8 := ⟨let ⟨i, h, h1, h2, h3⟩ := info_parts info30; ⟨i, h, h2, h1, h3⟩, by decide⟩
instance : TSlice Try.prog 31 2 := ⟨Try.underlying31⟩
theorem info31 : (Try.prog.info? 31).map (fun i => (i.zero, i.size, i.bytes)) = some (some (.slice none 0 0), 1, 24) := by kernel_rfl
instance : TCell Try.prog 31 := ⟨⟨_, Try.underlying31, rfl⟩, let ⟨i, h, _, h2, _⟩ := info_parts info31; ⟨i, h, h2⟩⟩
instance : TElem Try.prog 31 (.slice none 0 0) 24 := ⟨let ⟨i, h, h1, h2, h3⟩ := info_parts info31; ⟨i, h, h2, h1, h3⟩, by decide⟩
theorem info32 : (Try.prog.info? 32).map (fun i => (i.zero, i.size, i.bytes)) = some (some (.agg [.slice none 0 0].toArray), 1, 24) := by kernel_rfl
instance : TStruct Try.prog 32 1 [.slice none 0 0] := ⟨⟨_, Try.underlying32, rfl⟩, let ⟨i, h, h1, h2, _⟩ := info_parts info32; ⟨i, h, h2, h1, rfl⟩⟩
instance : TElem Try.prog 32 (.agg [.slice none 0 0].toArray) 24 := ⟨let ⟨i, h, h1, h2, h3⟩ := info_parts info32; ⟨i, h, h2, h1, h3⟩, by decide⟩
instance : TBuild Try.prog 32 1 [.slice none 0 0] := .str (let ⟨i, h, h1, _, _⟩ := info_parts info32; ⟨i, h, h1, rfl⟩) ⟨_, Try.underlying32, by kernel_rfl⟩
instance : TField Try.prog 32 0 0 := ⟨let ⟨i, h, _, h2, _⟩ := info_parts info31; ⟨_, _, i, Try.underlying32, rfl, rfl, h, h2, _, Try.underlying31, rfl⟩⟩
theorem info33 : (Try.prog.info? 33).map (fun i => (i.zero, i.size, i.bytes)) = some (some (.agg [.slice none 0 0].toArray), 1, 24) := by kernel_rfl
instance : TStruct Try.prog 33 1 [.slice none 0 0] := ⟨⟨_, Try.underlying33, rfl⟩, let ⟨i, h, h1, h2, _⟩ := info_parts info33; ⟨i, h, h2, h1, rfl⟩⟩
instance : TElem Try.prog 33 (.agg [.slice none 0 0].toArray) 24 := ⟨let ⟨i, h, h1, h2, h3⟩ := info_parts info33; ⟨i, h, h2, h1, h3⟩, by decide⟩
instance : TBuild Try.prog 33 1 [.slice none 0 0] := .str (let ⟨i, h, h1, _, _⟩ := info_parts info33; ⟨i, h, h1, rfl⟩) ⟨_, Try.underlying33, by kernel_rfl⟩
instance : TField Try.prog 33 0 0 := ⟨let ⟨i, h, _, h2, _⟩ := info_parts info31; ⟨_, _, i, Try.underlying33, rfl, rfl, h, h2, _, Try.underlying31, rfl⟩⟩
theorem info34 : (Try.prog.info? 34).map (fun i => (i.zero, i.size, i.bytes)) = some (some (.nilFunc), 1, 8) := by kernel_rfl
instance : TCell Try.prog 34 := ⟨⟨_, Try.underlying34, rfl⟩, let ⟨i, h, _, h2, _⟩ := info_parts info34; ⟨i, h, h2⟩⟩
instance : TElem Try.prog 34 (.nilFunc) 8 := ⟨let ⟨i, h, h1, h2, h3⟩ := info_parts info34; ⟨i, h, h2, h1, h3⟩, by decide⟩
theorem info35 : (Try.prog.info? 35).map (fun i => (i.zero, i.size, i.bytes)) = some (some (.nilFunc), 1, 8) := by kernel_rfl
instance : TCell Try.prog 35 := ⟨⟨_, Try.underlying35, rfl⟩, let ⟨i, h, _, h2, _⟩ := info_parts info35; ⟨i, h, h2⟩⟩
instance : TElem Try.prog 35 (.nilFunc) 8 := ⟨let ⟨i, h, h1, h2, h3⟩ := info_parts info35; ⟨i, h, h2, h1, h3⟩, by decide⟩
theorem info36 : (Try.prog.info? 36).map (fun i => (i.zero, i.size, i.bytes)) = some (some (.agg [.slice none 0 0].toArray), 1, 24) := by kernel_rfl
instance : TStruct Try.prog 36 1 [.slice none 0 0] := ⟨⟨_, Try.underlying36, rfl⟩, let ⟨i, h, h1, h2, _⟩ := info_parts info36; ⟨i, h, h2, h1, rfl⟩⟩
instance : TElem Try.prog 36 (.agg [.slice none 0 0].toArray) 24 := ⟨let ⟨i, h, h1, h2, h3⟩ := info_parts info36; ⟨i, h, h2, h1, h3⟩, by decide⟩
instance : TBuild Try.prog 36 1 [.slice none 0 0] := .str (let ⟨i, h, h1, _, _⟩ := info_parts info36; ⟨i, h, h1, rfl⟩) ⟨_, Try.underlying36, by kernel_rfl⟩
instance : TField Try.prog 36 0 0 := ⟨let ⟨i, h, _, h2, _⟩ := info_parts info31; ⟨_, _, i, Try.underlying36, rfl, rfl, h, h2, _, Try.underlying31, rfl⟩⟩
theorem info37 : (Try.prog.info? 37).map (fun i => (i.zero, i.size, i.bytes)) = some (some (.nilFunc), 1, 8) := by kernel_rfl
instance : TCell Try.prog 37 := ⟨⟨_, Try.underlying37, rfl⟩, let ⟨i, h, _, h2, _⟩ := info_parts info37; ⟨i, h, h2⟩⟩
instance : TElem Try.prog 37 (.nilFunc) 8 := ⟨let ⟨i, h, h1, h2, h3⟩ := info_parts info37; ⟨i, h, h2, h1, h3⟩, by decide⟩
theorem info38 : (Try.prog.info? 38).map (fun i => (i.zero, i.size, i.bytes)) = some (some (.nilFunc), 1, 8) := by kernel_rfl
instance : TCell Try.prog 38 := ⟨⟨_, Try.underlying38, rfl⟩, let ⟨i, h, _, h2, _⟩ := info_parts info38; ⟨i, h, h2⟩⟩
instance : TElem Try.prog 38 (.nilFunc) 8 := ⟨let ⟨i, h, h1, h2, h3⟩ := info_parts info38; ⟨i, h, h2, h1, h3⟩, by decide⟩
theorem info39 : (Try.prog.info? 39).map (fun i => (i.zero, i.size, i.bytes)) = some (some (.nilFunc), 1, 8) := by kernel_rfl
instance : TCell Try.prog 39 := ⟨⟨_, Try.underlying39, rfl⟩, let ⟨i, h, _, h2, _⟩ := info_parts info39; ⟨i, h, h2⟩⟩
instance : TElem Try.prog 39 (.nilFunc) 8 := ⟨let ⟨i, h, h1, h2, h3⟩ := info_parts info39; ⟨i, h, h2, h1, h3⟩, by decide⟩
theorem info40 : (Try.prog.info? 40).map (fun i => (i.zero, i.size, i.bytes)) = some (some (.nilFunc), 1, 8) := by kernel_rfl
instance : TCell Try.prog 40 := ⟨⟨_, Try.underlying40, rfl⟩, let ⟨i, h, _, h2, _⟩ := info_parts info40; ⟨i, h, h2⟩⟩
instance : TElem Try.prog 40 (.nilFunc) 8 := ⟨let ⟨i, h, h1, h2, h3⟩ := info_parts info40; ⟨i, h, h2, h1, h3⟩, by decide⟩
theorem info41 : (Try.prog.info? 41).map (fun i => (i.zero, i.size, i.bytes)) = some (some (.nilFunc), 1, 8) := by kernel_rfl
instance : TCell Try.prog 41 := ⟨⟨_, Try.underlying41, rfl⟩, let ⟨i, h, _, h2, _⟩ := info_parts info41; ⟨i, h, h2⟩⟩
instance : TElem Try.prog 41 (.nilFunc) 8 := ⟨let ⟨i, h, h1, h2, h3⟩ := info_parts info41; ⟨i, h, h2, h1, h3⟩, by decide⟩
theorem info42 : (Try.prog.info? 42).map (fun i => (i.zero, i.size, i.bytes)) = some (some (.nilFunc), 1, 8) := by kernel_rfl
instance : TCell Try.prog 42 := ⟨⟨_, Try.underlying42, rfl⟩, let ⟨i, h, _, h2, _⟩ := info_parts info42; ⟨i, h, h2⟩⟩
instance : TElem Try.prog 42 (.nilFunc) 8 := ⟨let ⟨i, h, h1, h2, h3⟩ := info_parts info42; ⟨i, h, h2, h1, h3⟩, by decide⟩
theorem info43 : (Try.prog.info? 43).map (fun i => (i.zero, i.size, i.bytes)) = some (some (.nilFunc), 1, 8) := by kernel_rfl
instance : TCell Try.prog 43 := ⟨⟨_, Try.underlying43, rfl⟩, let ⟨i, h, _, h2, _⟩ := info_parts info43; ⟨i, h, h2⟩⟩
instance : TElem Try.prog 43 (.nilFunc) 8 := ⟨let ⟨i, h, h1, h2, h3⟩ := info_parts info43; ⟨i, h, h2, h1, h3⟩, by decide⟩
theorem info44 : (Try.prog.info? 44).map (fun i => (i.zero, i.size, i.bytes)) = some (some (.nilFunc), 1, 8) := by kernel_rfl
instance : TCell Try.prog 44 := ⟨⟨_, Try.underlying44, rfl⟩, let ⟨i, h, _, h2, _⟩ := info_parts info44; ⟨i, h, h2⟩⟩
instance : TElem Try.prog 44 (.nilFunc) 8 := ⟨let ⟨i, h, h1, h2, h3⟩ := info_parts info44; ⟨i, h, h2, h1, h3⟩, by decide⟩
theorem info46 : (Try.prog.info? 46).map (fun i => (i.zero, i.size, i.bytes)) = some (some (.nilFunc), 1, 8) := by kernel_rfl
instance : TCell Try.prog 46 := ⟨⟨_, Try.underlying46, rfl⟩, let ⟨i, h, _, h2, _⟩ := info_parts info46; ⟨i, h, h2⟩⟩
instance : TElem Try.prog 46 (.nilFunc) 8 := ⟨let ⟨i, h, h1, h2, h3⟩ := info_parts info46; ⟨i, h, h2, h1, h3⟩, by decide⟩
theorem info47 : (Try.prog.info? 47).map (fun i => (i.zero, i.size, i.bytes)) = some (some (.nilFunc), 1, 8) := by kernel_rfl
instance : TCell Try.prog 47 := ⟨⟨_, Try.underlying47, rfl⟩, let ⟨i, h, _, h2, _⟩ := info_parts info47; ⟨i, h, h2⟩⟩
instance : TElem Try.prog 47 (.nilFunc) 8 := ⟨let ⟨i, h, h1, h2, h3⟩ := info_parts info47; ⟨i, h, h2, h1, h3⟩, by decide⟩
theorem info48 : (Try.prog.info? 48).map (fun i => (i.zero, i.size, i.bytes)) = some (some (.nilFunc), 1, 8) := by kernel_rfl
instance : TCell Try.prog 48 := ⟨⟨_, Try.underlying48, rfl⟩, let ⟨i, h, _, h2, _⟩ := info_parts info48; ⟨i, h, h2⟩⟩
instance : TElem Try.prog 48 (.nilFunc) 8 := ⟨let ⟨i, h, h1, h2, h3⟩ := info_parts info48; ⟨i, h, h2, h1, h3⟩, by decide⟩
theorem info49 : (Try.prog.info? 49).map (fun i => (i.zero, i.size, i.bytes)) = some (some (.nilFunc), 1, 8) := by kernel_rfl
instance : TCell Try.prog 49 := ⟨⟨_, Try.underlying49, rfl⟩, let ⟨i, h, _, h2, _⟩ := info_parts info49; ⟨i, h, h2⟩⟩
instance : TElem Try.prog 49 (.nilFunc) 8 := ⟨let ⟨i, h, h1, h2, h3⟩ := info_parts info49; ⟨i, h, h2, h1, h3⟩, by decide⟩
theorem info50 : (Try.prog.info? 50).map (fun i => (i.zero, i.size, i.bytes)) = some (some (.nilFunc), 1, 8) := by kernel_rfl
instance : TCell Try.prog 50 := ⟨⟨_, Try.underlying50, rfl⟩, let ⟨i, h, _, h2, _⟩ := info_parts info50; ⟨i, h, h2⟩⟩
instance : TElem Try.prog 50 (.nilFunc) 8 := ⟨let ⟨i, h, h1, h2, h3⟩ := info_parts info50; ⟨i, h, h2, h1, h3⟩, by decide⟩
theorem info51 : (Try.prog.info? 51).map (fun i => (i.zero, i.size, i.bytes)) = some (some (.agg [.slice none 0 0].toArray), 1, 24) := by kernel_rfl
instance : TStruct Try.prog 51 1 [.slice none 0 0] := ⟨⟨_, Try.underlying51, rfl⟩, let ⟨i, h, h1, h2, _⟩ := info_parts info51; ⟨i, h, h2, h1, rfl⟩⟩
instance : TElem Try.prog 51 (.agg [.slice none 0 0].toArray) 24 := ⟨let ⟨i, h, h1, h2, h3⟩ := info_parts info51; ⟨i, h, h2, h1, h3⟩, by decide⟩
instance : TBuild Try.prog 51 1 [.slice none 0 0] := .str (let ⟨i, h, h1, _, _⟩ := info_parts info51; ⟨i, h, h1, rfl⟩) ⟨_, Try.underlying51, by kernel_rfl⟩
instance : TField Try.prog 51 0 0 := ⟨let ⟨i, h, _, h2, _⟩ := info_parts info22; ⟨_, _, i, Try.underlying51, rfl, rfl, h, h2, _, Try.underlying22, rfl⟩⟩
theorem info52 : (Try.prog.info? 52).map (fun i => (i.zero, i.size, i.bytes)) = some (some (.agg [.slice none 0 0].toArray), 1, 24) := by kernel_rfl
instance : TStruct Try.prog 52 1 [.slice none 0 0] := ⟨⟨_, Try.underlying52, rfl⟩, let ⟨i, h, h1, h2, _⟩ := info_parts info52; ⟨i, h, h2, h1, rfl⟩⟩
instance : TElem Try.prog 52 (.agg [.slice none 0 0].toArray) 24 := ⟨let ⟨i, h, h1, h2, h3⟩ := info_parts info52; ⟨i, h, h2, h1, h3⟩, by decide⟩
instance : TBuild Try.prog 52 1 [.slice none 0 0] := .str (let ⟨i, h, h1, _, _⟩ := info_parts info52; ⟨i, h, h1, rfl⟩) ⟨_, Try.underlying52, by kernel_rfl⟩
instance : TField Try.prog 52 0 0 := ⟨let ⟨i, h, _, h2, _⟩ := info_parts info22; ⟨_, _, i, Try.underlying52, rfl, rfl, h, h2, _, Try.underlying22, rfl⟩⟩
theorem info53 : (Try.prog.info? 53).map (fun i => (i.zero, i.size, i.bytes)) = some (some (.nilFunc), 1, 8) := by kernel_rfl
instance : TCell Try.prog 53 := ⟨⟨_, Try.underlying53, rfl⟩, let ⟨i, h, _, h2, _⟩ := info_parts info53; ⟨i, h, h2⟩⟩
instance : TElem Try.prog 53 (.nilFunc) 8 := ⟨let ⟨i, h, h1, h2, h3⟩ := info_parts info53; ⟨i, h, h2, h1, h3⟩, by decide⟩
theorem info54 : (Try.prog.info? 54).map (fun i => (i.zero, i.size, i.bytes)) = some (some (.nilFunc), 1, 8) := by kernel_rfl
instance : TCell Try.prog 54 := ⟨⟨_, Try.underlying54, rfl⟩, let ⟨i, h, _, h2, _⟩ := info_parts info54; ⟨i, h, h2⟩⟩
instance : TElem Try.prog 54 (.nilFunc) 8 := ⟨let ⟨i, h, h1, h2, h3⟩ := info_parts info54; ⟨i, h, h2, h1, h3⟩, by decide⟩
theorem info55 : (Try.prog.info? 55).map (fun i => (i.zero, i.size, i.bytes)) = some (some (.nilFunc), 1, 8) := by kernel_rfl
instance : TCell Try.prog 55 := ⟨⟨_, Try.underlying55, rfl⟩, let ⟨i, h, _, h2, _⟩ := info_parts info55; ⟨i, h, h2⟩⟩
instance : TElem Try.prog 55 (.nilFunc) 8 := ⟨let ⟨i, h, h1, h2, h3⟩ := info_parts info55; ⟨i, h, h2, h1, h3⟩, by decide⟩
theorem info56 : (Try.prog.info? 56).map (fun i => (i.zero, i.size, i.bytes)) = some (some (.nilFunc), 1, 8) := by kernel_rfl
instance : TCell Try.prog 56 := ⟨⟨_, Try.underlying56, rfl⟩, let ⟨i, h, _, h2, _⟩ := info_parts info56; ⟨i, h, h2⟩⟩
instance : TElem Try.prog 56 (.nilFunc) 8 := ⟨let ⟨i, h, h1, h2, h3⟩ := info_parts info56; ⟨i, h, h2, h1, h3⟩, by decide⟩
theorem info57 : (Try.prog.info? 57).map (fun i => (i.zero, i.size, i.bytes)) = some (some (.nilFunc), 1, 8) := by kernel_rfl
instance : TCell Try.prog 57 := ⟨⟨_, Try.underlying57, rfl⟩, let ⟨i, h, _, h2, _⟩ := info_parts info57; ⟨i, h, h2⟩⟩
instance : TElem Try.prog 57 (.nilFunc) 8 := ⟨let ⟨i, h, h1, h2, h3⟩ := info_parts info57; ⟨i, h, h2, h1, h3⟩, by decide⟩
theorem info58 : (Try.prog.info? 58).map (fun i => (i.zero, i.size, i.bytes)) = some (some (.nilFunc), 1, 8) := by kernel_rfl
instance : TCell Try.prog 58 := ⟨⟨_, Try.underlying58, rfl⟩, let ⟨i, h, _, h2, _⟩ := info_parts info58; ⟨i, h, h2⟩⟩
instance : TElem Try.prog 58 (.nilFunc) 8 := ⟨let ⟨i, h, h1, h2, h3⟩ := info_parts info58; ⟨i, h, h2, h1, h3⟩, by decide⟩
theorem info59 : (Try.prog.info? 59).map (fun i => (i.zero, i.size, i.bytes)) = some (some (.nilFunc), 1, 8) := by kernel_rfl
instance : TCell Try.prog 59 := ⟨⟨_, Try.underlying59, rfl⟩, let ⟨i, h, _, h2, _⟩ := info_parts info59; ⟨i, h, h2⟩⟩
instance : TElem Try.prog 59 (.nilFunc) 8 := ⟨let ⟨i, h, h1, h2, h3⟩ := info_parts info59; ⟨i, h, h2, h1, h3⟩, by decide⟩
theorem info60 : (Try.prog.info? 60).map (fun i => (i.zero, i.size, i.bytes)) = some (some (.nilFunc), 1, 8) := by kernel_rfl
instance : TCell Try.prog 60 := ⟨⟨_, Try.underlying60, rfl⟩, let ⟨i, h, _, h2, _⟩ := info_parts info60; ⟨i, h, h2⟩⟩
instance : TElem Try.prog 60 (.nilFunc) 8 := ⟨let ⟨i, h, h1, h2, h3⟩ := info_parts info60; ⟨i, h, h2, h1, h3⟩, by decide⟩
theorem info61 : (Try.prog.info? 61).map (fun i => (i.zero, i.size, i.bytes)) = some (some (.pointer none), 1, 8) := by kernel_rfl
instance : TCell Try.prog 61 := ⟨⟨_, Try.underlying61, rfl⟩, let ⟨i, h, _, h2, _⟩ := info_parts info61; ⟨i, h, h2⟩⟩
instance : TElem Try.prog 61 (.pointer none) 8 := ⟨let ⟨i, h, h1, h2, h3⟩ := info_parts info61; ⟨i, h, h2, h1, h3⟩, by decide⟩
theorem info63 : (Try.prog.info? 63).map (fun i => (i.zero, i.size, i.bytes)) = some (some (.nilFunc), 1, 8) := by kernel_rfl
instance : TCell Try.prog 63 := ⟨⟨_, Try.underlying63, rfl⟩, let ⟨i, h, _, h2, _⟩ := info_parts info63; ⟨i, h, h2⟩⟩
instance : TElem Try.prog 63 (.nilFunc) 8 := ⟨let ⟨i, h, h1, h2, h3⟩ := info_parts info63; ⟨i, h, h2, h1, h3⟩, by decide⟩
theorem info64 : (Try.prog.info? 64).map (fun i => (i.zero, i.size, i.bytes)) = some (some (.nilFunc), 1, 8) := by kernel_rfl
instance : TCell Try.prog 64 := ⟨⟨_, Try.underlying64, rfl⟩, let ⟨i, h, _, h2, _⟩ := info_parts info64; ⟨i, h, h2⟩⟩
instance : TElem Try.prog 64 (.nilFunc) 8 := ⟨let ⟨i, h, h1, h2, h3⟩ := info_parts info64; ⟨i, h, h2, h1, h3⟩, by decide⟩
theorem info65 : (Try.prog.info? 65).map (fun i => (i.zero, i.size, i.bytes)) = some (some (.nilFunc), 1, 8) := by kernel_rfl
instance : TCell Try.prog 65 := ⟨⟨_, Try.underlying65, rfl⟩, let ⟨i, h, _, h2, _⟩ := info_parts info65; ⟨i, h, h2⟩⟩
instance : TElem Try.prog 65 (.nilFunc) 8 := ⟨let ⟨i, h, h1, h2, h3⟩ := info_parts info65; ⟨i, h, h2, h1, h3⟩, by decide⟩
instance : TKind Try.prog 66 .u64 := ⟨Try.underlying66⟩
theorem info66 : (Try.prog.info? 66).map (fun i => (i.zero, i.size, i.bytes)) = some (some (.int .u64 0), 1, 8) := by kernel_rfl
instance : TCell Try.prog 66 := ⟨⟨_, Try.underlying66, rfl⟩, let ⟨i, h, _, h2, _⟩ := info_parts info66; ⟨i, h, h2⟩⟩
instance : TElem Try.prog 66 (.int .u64 0) 8 := ⟨let ⟨i, h, h1, h2, h3⟩ := info_parts info66; ⟨i, h, h2, h1, h3⟩, by decide⟩
theorem info67 : (Try.prog.info? 67).map (fun i => (i.zero, i.size, i.bytes)) = some (some (.nilFunc), 1, 8) := by kernel_rfl
instance : TCell Try.prog 67 := ⟨⟨_, Try.underlying67, rfl⟩, let ⟨i, h, _, h2, _⟩ := info_parts info67; ⟨i, h, h2⟩⟩
instance : TElem Try.prog 67 (.nilFunc) 8 := ⟨let ⟨i, h, h1, h2, h3⟩ := info_parts info67; ⟨i, h, h2, h1, h3⟩, by decide⟩
theorem info68 : (Try.prog.info? 68).map (fun i => (i.zero, i.size, i.bytes)) = some (some (.nilFunc), 1, 8) := by kernel_rfl
instance : TCell Try.prog 68 := ⟨⟨_, Try.underlying68, rfl⟩, let ⟨i, h, _, h2, _⟩ := info_parts info68; ⟨i, h, h2⟩⟩
instance : TElem Try.prog 68 (.nilFunc) 8 := ⟨let ⟨i, h, h1, h2, h3⟩ := info_parts info68; ⟨i, h, h2, h1, h3⟩, by decide⟩
theorem info69 : (Try.prog.info? 69).map (fun i => (i.zero, i.size, i.bytes)) = some (some (.nilFunc), 1, 8) := by kernel_rfl
instance : TCell Try.prog 69 := ⟨⟨_, Try.underlying69, rfl⟩, let ⟨i, h, _, h2, _⟩ := info_parts info69; ⟨i, h, h2⟩⟩
instance : TElem Try.prog 69 (.nilFunc) 8 := ⟨let ⟨i, h, h1, h2, h3⟩ := info_parts info69; ⟨i, h, h2, h1, h3⟩, by decide⟩
theorem info75 : (Try.prog.info? 75).map (fun i => (i.zero, i.size, i.bytes)) = some (some (.nilFunc), 1, 8) := by kernel_rfl
instance : TCell Try.prog 75 := ⟨⟨_, Try.underlying75, rfl⟩, let ⟨i, h, _, h2, _⟩ := info_parts info75; ⟨i, h, h2⟩⟩
instance : TElem Try.prog 75 (.nilFunc) 8 := ⟨let ⟨i, h, h1, h2, h3⟩ := info_parts info75; ⟨i, h, h2, h1, h3⟩, by decide⟩
instance : TKind Try.prog 76 .u32 := ⟨Try.underlying76⟩
theorem info76 : (Try.prog.info? 76).map (fun i => (i.zero, i.size, i.bytes)) = some (some (.int .u32 0), 1, 4) := by kernel_rfl
instance : TCell Try.prog 76 := ⟨⟨_, Try.underlying76, rfl⟩, let ⟨i, h, _, h2, _⟩ := info_parts info76; ⟨i, h, h2⟩⟩
instance : TElem Try.prog 76 (.int .u32 0) 4 := ⟨let ⟨i, h, h1, h2, h3⟩ := info_parts info76; ⟨i, h, h2, h1, h3⟩, by decide⟩
instance : TKind Try.prog 77 .u8 := ⟨Try.underlying77⟩
theorem info77 : (Try.prog.info? 77).map (fun i => (i.zero, i.size, i.bytes)) = some (some (.int .u8 0), 1, 1) := by kernel_rfl
instance : TCell Try.prog 77 := ⟨⟨_, Try.underlying77, rfl⟩, let ⟨i, h, _, h2, _⟩ := info_parts info77; ⟨i, h, h2⟩⟩
instance : TElem Try.prog 77 (.int .u8 0) 1 := ⟨let ⟨i, h, h1, h2, h3⟩ := info_parts info77; ⟨i, h, h2, h1, h3⟩, by decide⟩
instance : TKind Try.prog 78 .u8 := ⟨Try.underlying78⟩
theorem info78 : (Try.prog.info? 78).map (fun i => (i.zero, i.size, i.bytes)) = some (some (.int .u8 0), 1, 1) := by kernel_rfl
instance : TCell Try.prog 78 := ⟨⟨_, Try.underlying78, rfl⟩, let ⟨i, h, _, h2, _⟩ := info_parts info78; ⟨i, h, h2⟩⟩
instance : TElem Try.prog 78 (.int .u8 0) 1 := ⟨let ⟨i, h, h1, h2, h3⟩ := info_parts info78; ⟨i, h, h2, h1, h3⟩, by decide⟩
theorem info79 : (Try.prog.info? 79).map (fun i => (i.zero, i.size, i.bytes)) = some (some (.nilFunc), 1, 8) := by kernel_rfl
instance : TCell Try.prog 79 := ⟨⟨_, Try.underlying79, rfl⟩, let ⟨i, h, _, h2, _⟩ := info_parts info79; ⟨i, h, h2⟩⟩
instance : TElem Try.prog 79 (.nilFunc) 8 := ⟨let ⟨i, h, h1, h2, h3⟩ := info_parts info79; ⟨i, h, h2, h1, h3⟩, by decide⟩
theorem info80 : (Try.prog.info? 80).map (fun i => (i.zero, i.size, i.bytes)) = some (some (.pointer none), 1, 8) := by kernel_rfl
instance : TCell Try.prog 80 := ⟨⟨_, Try.underlying80, rfl⟩, let ⟨i, h, _, h2, _⟩ := info_parts info80; ⟨i, h, h2⟩⟩
instance : TElem Try.prog 80 (.pointer none) 8 := ⟨let ⟨i, h, h1, h2, h3⟩ := info_parts info80; ⟨i, h, h2, h1, h3⟩, by decide⟩
instance : TKind Try.prog 81 .i32 := ⟨Try.underlying81⟩
theorem info81 : (Try.prog.info? 81).map (fun i => (i.zero, i.size, i.bytes)) = some (some (.int .i32 0), 1, 4) := by kernel_rfl
instance : TCell Try.prog 81 := ⟨⟨_, Try.underlying81, rfl⟩, let ⟨i, h, _, h2, _⟩ := info_parts info81; ⟨i, h, h2⟩⟩
instance : TElem Try.prog 81 (.int .i32 0) 4 := ⟨let ⟨i, h, h1, h2, h3⟩ := info_parts info81; ⟨i, h, h2, h1, h3⟩, by decide⟩
instance : TKind Try.prog 82 .i32 := ⟨Try.underlying82⟩
theorem info82 : (Try.prog.info? 82).map (fun i => (i.zero, i.size, i.bytes)) = some (some (.int .i32 0), 1, 4) := by kernel_rfl
instance : TCell Try.prog 82 := ⟨⟨_, Try.underlying82, rfl⟩, let ⟨i, h, _, h2, _⟩ := info_parts info82; ⟨i, h, h2⟩⟩
instance : TElem Try.prog 82 (.int .i32 0) 4 := ⟨let ⟨i, h, h1, h2, h3⟩ := info_parts info82; ⟨i, h, h2, h1, h3⟩, by decide⟩
end Go.Proofs.Ytpllbdjobmgikaa
