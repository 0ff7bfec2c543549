/-
  The facts on this seat's table of types, by program. No condition.
-/
import Derived.Test.YtfgnccoaebkckaaDoorAmGrow
import Derived.Test.YtfgnccoaebkckaaDoorProg
import Derived.KernelRfl
namespace Go.Proofs.YtfgnccoaebkckaaDoor
open Go Go.RowKit
theorem info1 : (Tryd.prog.info? 1).map (fun i => (i.zero, i.size, i.bytes)) = some (some (.nilFunc), 1, 8) := by kernel_rfl
instance : TCell Tryd.prog 1 := ⟨⟨_, Tryd.underlying1, rfl⟩, let ⟨i, h, _, h2, _⟩ := info_parts info1; ⟨i, h, h2⟩⟩
instance : TElem Tryd.prog 1 (.nilFunc) 8 := ⟨let ⟨i, h, h1, h2, h3⟩ := info_parts info1; ⟨i, h, h2, h1, h3⟩, by decide⟩
instance : TKind Tryd.prog 2 .i64 := ⟨Tryd.underlying2⟩
theorem info2 : (Tryd.prog.info? 2).map (fun i => (i.zero, i.size, i.bytes)) = some (some (.int .i64 0), 1, 8) := by kernel_rfl
instance : TCell Tryd.prog 2 := ⟨⟨_, Tryd.underlying2, rfl⟩, let ⟨i, h, _, h2, _⟩ := info_parts info2; ⟨i, h, h2⟩⟩
instance : TElem Tryd.prog 2 (.int .i64 0) 8 := ⟨let ⟨i, h, h1, h2, h3⟩ := info_parts info2; ⟨i, h, h2, h1, h3⟩, by decide⟩
instance : TKind Tryd.prog 3 .i64 := ⟨Tryd.underlying3⟩
theorem info3 : (Tryd.prog.info? 3).map (fun i => (i.zero, i.size, i.bytes)) = some (some (.int .i64 0), 1, 8) := by kernel_rfl
instance : TCell Tryd.prog 3 := ⟨⟨_, Tryd.underlying3, rfl⟩, let ⟨i, h, _, h2, _⟩ := info_parts info3; ⟨i, h, h2⟩⟩
instance : TElem Tryd.prog 3 (.int .i64 0) 8 := ⟨let ⟨i, h, h1, h2, h3⟩ := info_parts info3; ⟨i, h, h2, h1, h3⟩, by decide⟩
instance : TBool Tryd.prog 4 := ⟨Tryd.underlying4⟩
theorem info4 : (Tryd.prog.info? 4).map (fun i => (i.zero, i.size, i.bytes)) = some (some (.bool false), 1, 1) := by kernel_rfl
instance : TCell Tryd.prog 4 := ⟨⟨_, Tryd.underlying4, rfl⟩, let ⟨i, h, _, h2, _⟩ := info_parts info4; ⟨i, h, h2⟩⟩
instance : TElem Tryd.prog 4 (.bool false) 1 := ⟨let ⟨i, h, h1, h2, h3⟩ := info_parts info4; ⟨i, h, h2, h1, h3⟩, by decide⟩
instance : TKind Tryd.prog 5 .u8 := ⟨Tryd.underlying5⟩
theorem info5 : (Tryd.prog.info? 5).map (fun i => (i.zero, i.size, i.bytes)) = some (some (.int .u8 0), 1, 1) := by kernel_rfl
instance : TCell Tryd.prog 5 := ⟨⟨_, Tryd.underlying5, rfl⟩, let ⟨i, h, _, h2, _⟩ := info_parts info5; ⟨i, h, h2⟩⟩
instance : TElem Tryd.prog 5 (.int .u8 0) 1 := ⟨let ⟨i, h, h1, h2, h3⟩ := info_parts info5; ⟨i, h, h2, h1, h3⟩, by decide⟩
instance : TKind Tryd.prog 6 .u8 := ⟨Tryd.underlying6⟩
theorem info6 : (Tryd.prog.info? 6).map (fun i => (i.zero, i.size, i.bytes)) = some (some (.int .u8 0), 1, 1) := by kernel_rfl
instance : TCell Tryd.prog 6 := ⟨⟨_, Tryd.underlying6, rfl⟩, let ⟨i, h, _, h2, _⟩ := info_parts info6; ⟨i, h, h2⟩⟩
instance : TElem Tryd.prog 6 (.int .u8 0) 1 := ⟨let ⟨i, h, h1, h2, h3⟩ := info_parts info6; ⟨i, h, h2, h1, h3⟩, by decide⟩
instance : TStr Tryd.prog 9 := ⟨Tryd.underlying9⟩
theorem info9 : (Tryd.prog.info? 9).map (fun i => (i.zero, i.size, i.bytes)) = some (some (.string ⟨#[]⟩), 1, 16) := by kernel_rfl
instance : TCell Tryd.prog 9 := ⟨⟨_, Tryd.underlying9, rfl⟩, let ⟨i, h, _, h2, _⟩ := info_parts info9; ⟨i, h, h2⟩⟩
instance : TElem Tryd.prog 9 (.string ⟨#[]⟩) 16 := ⟨let ⟨i, h, h1, h2, h3⟩ := info_parts info9; ⟨i, h, h2, h1, h3⟩, by decide⟩
instance : TStr Tryd.prog 10 := ⟨Tryd.underlying10⟩
theorem info10 : (Tryd.prog.info? 10).map (fun i => (i.zero, i.size, i.bytes)) = some (some (.string ⟨#[]⟩), 1, 16) := by kernel_rfl
instance : TCell Tryd.prog 10 := ⟨⟨_, Tryd.underlying10, rfl⟩, let ⟨i, h, _, h2, _⟩ := info_parts info10; ⟨i, h, h2⟩⟩
instance : TElem Tryd.prog 10 (.string ⟨#[]⟩) 16 := ⟨let ⟨i, h, h1, h2, h3⟩ := info_parts info10; ⟨i, h, h2, h1, h3⟩, by decide⟩
instance : TStr Tryd.prog 11 := ⟨Tryd.underlying11⟩
theorem info11 : (Tryd.prog.info? 11).map (fun i => (i.zero, i.size, i.bytes)) = some (some (.string ⟨#[]⟩), 1, 16) := by kernel_rfl
instance : TCell Tryd.prog 11 := ⟨⟨_, Tryd.underlying11, rfl⟩, let ⟨i, h, _, h2, _⟩ := info_parts info11; ⟨i, h, h2⟩⟩
instance : TElem Tryd.prog 11 (.string ⟨#[]⟩) 16 := ⟨let ⟨i, h, h1, h2, h3⟩ := info_parts info11; ⟨i, h, h2, h1, h3⟩, by decide⟩
instance : TKind Tryd.prog 12 .u64 := ⟨Tryd.underlying12⟩
theorem info12 : (Tryd.prog.info? 12).map (fun i => (i.zero, i.size, i.bytes)) = some (some (.int .u64 0), 1, 8) := by kernel_rfl
instance : TCell Tryd.prog 12 := ⟨⟨_, Tryd.underlying12, rfl⟩, let ⟨i, h, _, h2, _⟩ := info_parts info12; ⟨i, h, h2⟩⟩
instance : TElem Tryd.prog 12 (.int .u64 0) 8 := ⟨let ⟨i, h, h1, h2, h3⟩ := info_parts info12; ⟨i, h, h2, h1, h3⟩, by decide⟩
theorem info15 : (Tryd.prog.info? 15).map (fun i => (i.zero, i.size, i.bytes)) = some (some (.pointer none), 1, 8) := by kernel_rfl
instance : TCell Tryd.prog 15 := ⟨⟨_, Tryd.underlying15, rfl⟩, let ⟨i, h, _, h2, _⟩ := info_parts info15; ⟨i, h, h2⟩⟩
instance : TElem Tryd.prog 15 (.pointer none) 8 := ⟨let ⟨i, h, h1, h2, h3⟩ := info_parts info15; ⟨i, h, h2, h1, h3⟩, by decide⟩
theorem info16 : (Tryd.prog.info? 16).map (fun i => (i.zero, i.size, i.bytes)) = some (some (.pointer none), 1, 8) := by kernel_rfl
instance : TCell Tryd.prog 16 := ⟨⟨_, Tryd.underlying16, rfl⟩, let ⟨i, h, _, h2, _⟩ := info_parts info16; ⟨i, h, h2⟩⟩
instance : TElem Tryd.prog 16 (.pointer none) 8 := ⟨let ⟨i, h, h1, h2, h3⟩ := info_parts info16; ⟨i, h, h2, h1, h3⟩, by decide⟩
theorem info17 : (Tryd.prog.info? 17).map (fun i => (i.zero, i.size, i.bytes)) = some (some (.pointer none), 1, 8) := by kernel_rfl
instance : TCell Tryd.prog 17 := ⟨⟨_, Tryd.underlying17, rfl⟩, let ⟨i, h, _, h2, _⟩ := info_parts info17; ⟨i, h, h2⟩⟩
instance : TElem Tryd.prog 17 (.pointer none) 8 := ⟨let ⟨i, h, h1, h2, h3⟩ := info_parts info17; ⟨i, h, h2, h1, h3⟩, by decide⟩
instance : TKind Tryd.prog 21 .i32 := ⟨Tryd.underlying21⟩
theorem info21 : (Tryd.prog.info? 21).map (fun i => (i.zero, i.size, i.bytes)) = some (some (.int .i32 0), 1, 4) := by kernel_rfl
instance : TCell Tryd.prog 21 := ⟨⟨_, Tryd.underlying21, rfl⟩, let ⟨i, h, _, h2, _⟩ := info_parts info21; ⟨i, h, h2⟩⟩
instance : TElem Tryd.prog 21 (.int .i32 0) 4 := ⟨let ⟨i, h, h1, h2, h3⟩ := info_parts info21; ⟨i, h, h2, h1, h3⟩, by decide⟩
instance : TSlice Tryd.prog 22 47 := ⟨Tryd.underlying22⟩
theorem info22 : (Tryd.prog.info? 22).map (fun i => (i.zero, i.size, i.bytes)) = some (some (.slice none 0 0), 1, 24) := by kernel_rfl
instance : TCell Tryd.prog 22 := ⟨⟨_, Tryd.underlying22, rfl⟩, let ⟨i, h, _, h2, _⟩ := info_parts info22; ⟨i, h, h2⟩⟩
instance : TElem Tryd.prog 22 (.slice none 0 0) 24 := ⟨let ⟨i, h, h1, h2, h3⟩ := info_parts info22; ⟨i, h, h2, h1, h3⟩, by decide⟩
theorem info23 : (Tryd.prog.info? 23).map (fun i => (i.zero, i.size, i.bytes)) = some (some (.agg [.slice none 0 0].toArray), 1, 24) := by kernel_rfl
instance : TStruct Tryd.prog 23 1 [.slice none 0 0] := ⟨⟨_, Tryd.underlying23, rfl⟩, let ⟨i, h, h1, h2, _⟩ := info_parts info23; ⟨i, h, h2, h1, rfl⟩⟩
instance : TElem Tryd.prog 23 (.agg [.slice none 0 0].toArray) 24 := ⟨let ⟨i, h, h1, h2, h3⟩ := info_parts info23; ⟨i, h, h2, h1, h3⟩, by decide⟩
instance : TBuild Tryd.prog 23 1 [.slice none 0 0] := .str (let ⟨i, h, h1, _, _⟩ := info_parts info23; ⟨i, h, h1, rfl⟩) ⟨_, Tryd.underlying23, by kernel_rfl⟩
instance : TField Tryd.prog 23 0 0 := ⟨let ⟨i, h, _, h2, _⟩ := info_parts info22; ⟨_, _, i, Tryd.underlying23, rfl, rfl, h, h2, _, Tryd.underlying22, rfl⟩⟩
theorem info24 : (Tryd.prog.info? 24).map (fun i => (i.zero, i.size, i.bytes)) = some (some (.agg [.slice none 0 0].toArray), 1, 24) := by kernel_rfl
instance : TStruct Tryd.prog 24 1 [.slice none 0 0] := ⟨⟨_, Tryd.underlying24, rfl⟩, let ⟨i, h, h1, h2, _⟩ := info_parts info24; ⟨i, h, h2, h1, rfl⟩⟩
instance : TElem Tryd.prog 24 (.agg [.slice none 0 0].toArray) 24 := ⟨let ⟨i, h, h1, h2, h3⟩ := info_parts info24; ⟨i, h, h2, h1, h3⟩, by decide⟩
instance : TBuild Tryd.prog 24 1 [.slice none 0 0] := .str (let ⟨i, h, h1, _, _⟩ := info_parts info24; ⟨i, h, h1, rfl⟩) ⟨_, Tryd.underlying24, by kernel_rfl⟩
instance : TField Tryd.prog 24 0 0 := ⟨let ⟨i, h, _, h2, _⟩ := info_parts info22; ⟨_, _, i, Tryd.underlying24, rfl, rfl, h, h2, _, Tryd.underlying22, rfl⟩⟩
theorem info25 : (Tryd.prog.info? 25).map (fun i => (i.zero, i.size, i.bytes)) = some (some (.nilFunc), 1, 8) := by kernel_rfl
instance : TCell Tryd.prog 25 := ⟨⟨_, Tryd.underlying25, rfl⟩, let ⟨i, h, _, h2, _⟩ := info_parts info25; ⟨i, h, h2⟩⟩
instance : TElem Tryd.prog 25 (.nilFunc) 8 := ⟨let ⟨i, h, h1, h2, h3⟩ := info_parts info25; ⟨i, h, h2, h1, h3⟩, by decide⟩
theorem info27 : (Tryd.prog.info? 27).map (fun i => (i.zero, i.size, i.bytes)) = some (some (.nilFunc), 1, 8) := by kernel_rfl
instance : TCell Tryd.prog 27 := ⟨⟨_, Tryd.underlying27, rfl⟩, let ⟨i, h, _, h2, _⟩ := info_parts info27; ⟨i, h, h2⟩⟩
instance : TElem Tryd.prog 27 (.nilFunc) 8 := ⟨let ⟨i, h, h1, h2, h3⟩ := info_parts info27; ⟨i, h, h2, h1, h3⟩, by decide⟩
theorem info28 : (Tryd.prog.info? 28).map (fun i => (i.zero, i.size, i.bytes)) = some (some (.agg [.slice none 0 0].toArray), 1, 24) := by kernel_rfl
instance : TStruct Tryd.prog 28 1 [.slice none 0 0] := ⟨⟨_, Tryd.underlying28, rfl⟩, let ⟨i, h, h1, h2, _⟩ := info_parts info28; ⟨i, h, h2, h1, rfl⟩⟩
instance : TElem Tryd.prog 28 (.agg [.slice none 0 0].toArray) 24 := ⟨let ⟨i, h, h1, h2, h3⟩ := info_parts info28; ⟨i, h, h2, h1, h3⟩, by decide⟩
instance : TBuild Tryd.prog 28 1 [.slice none 0 0] := .str (let ⟨i, h, h1, _, _⟩ := info_parts info28; ⟨i, h, h1, rfl⟩) ⟨_, Tryd.underlying28, by kernel_rfl⟩
instance : TField Tryd.prog 28 0 0 := ⟨let ⟨i, h, _, h2, _⟩ := info_parts info22; ⟨_, _, i, Tryd.underlying28, rfl, rfl, h, h2, _, Tryd.underlying22, rfl⟩⟩
theorem info29 : (Tryd.prog.info? 29).map (fun i => (i.zero, i.size, i.bytes)) = some (some (.nilFunc), 1, 8) := by kernel_rfl
instance : TCell Tryd.prog 29 := ⟨⟨_, Tryd.underlying29, rfl⟩, let ⟨i, h, _, h2, _⟩ := info_parts info29; ⟨i, h, h2⟩⟩
instance : TElem Tryd.prog 29 (.nilFunc) 8 := ⟨let ⟨i, h, h1, h2, h3⟩ := info_parts info29; ⟨i, h, h2, h1, h3⟩, by decide⟩
theorem info30 : (Tryd.prog.info? 30).map (fun i => (i.zero, i.size, i.bytes)) = some (some (.nilFunc), 1, 8) := by kernel_rfl
instance : TCell Tryd.prog 30 := ⟨⟨_, Tryd.underlying30, rfl⟩, let ⟨i, h, _, h2, _⟩ := info_parts info30; ⟨i, h, h2⟩⟩
instance : TElem Tryd.prog 30 (.nilFunc) 8 := ⟨let ⟨i, h, h1, h2, h3⟩ := info_parts info30; ⟨i, h, h2, h1, h3⟩, by decide⟩
theorem info31 : (Tryd.prog.info? 31).map (fun i => (i.zero, i.size, i.bytes)) = some (some (.nilFunc), 1, 8) := by kernel_rfl
instance : TCell Tryd.prog 31 := ⟨⟨_, Tryd.underlying31, rfl⟩, let ⟨i, h, _, h2, _⟩ := info_parts info31; ⟨i, h, h2⟩⟩
instance : TElem Tryd.prog 31 (.nilFunc) 8 := ⟨let ⟨i, h, h1, h2, h3⟩ := info_parts info31; ⟨i, h, h2, h1, h3⟩, by decide⟩
theorem info33 : (Tryd.prog.info? 33).map (fun i => (i.zero, i.size, i.bytes)) = some (some (.nilFunc), 1, 8) := by kernel_rfl
instance : TCell Tryd.prog 33 := ⟨⟨_, Tryd.underlying33, rfl⟩, let ⟨i, h, _, h2, _⟩ := info_parts info33; ⟨i, h, h2⟩⟩
instance : TElem Tryd.prog 33 (.nilFunc) 8 := ⟨let ⟨i, h, h1, h2, h3⟩ := info_parts info33; ⟨i, h, h2, h1, h3⟩, by decide⟩
theorem info34 : (Tryd.prog.info? 34).map (fun i => (i.zero, i.size, i.bytes)) = some (some (.nilFunc), 1, 8) := by kernel_rfl
instance : TCell Tryd.prog 34 := ⟨⟨_, Tryd.underlying34, rfl⟩, let ⟨i, h, _, h2, _⟩ := info_parts info34; ⟨i, h, h2⟩⟩
instance : TElem Tryd.prog 34 (.nilFunc) 8 := ⟨let ⟨i, h, h1, h2, h3⟩ := info_parts info34; ⟨i, h, h2, h1, h3⟩, by decide⟩
theorem info35 : (Tryd.prog.info? 35).map (fun i => (i.zero, i.size, i.bytes)) = some (some (.nilFunc), 1, 8) := by kernel_rfl
instance : TCell Tryd.prog 35 := ⟨⟨_, Tryd.underlying35, rfl⟩, let ⟨i, h, _, h2, _⟩ := info_parts info35; ⟨i, h, h2⟩⟩
instance : TElem Tryd.prog 35 (.nilFunc) 8 := ⟨let ⟨i, h, h1, h2, h3⟩ := info_parts info35; ⟨i, h, h2, h1, h3⟩, by decide⟩
theorem info36 : (Tryd.prog.info? 36).map (fun i => (i.zero, i.size, i.bytes)) = some (some (.nilFunc), 1, 8) := by kernel_rfl
instance : TCell Tryd.prog 36 := ⟨⟨_, Tryd.underlying36, rfl⟩, let ⟨i, h, _, h2, _⟩ := info_parts info36; ⟨i, h, h2⟩⟩
instance : TElem Tryd.prog 36 (.nilFunc) 8 := ⟨let ⟨i, h, h1, h2, h3⟩ := info_parts info36; ⟨i, h, h2, h1, h3⟩, by decide⟩
theorem info37 : (Tryd.prog.info? 37).map (fun i => (i.zero, i.size, i.bytes)) = some (some (.nilFunc), 1, 8) := by kernel_rfl
instance : TCell Tryd.prog 37 := ⟨⟨_, Tryd.underlying37, rfl⟩, let ⟨i, h, _, h2, _⟩ := info_parts info37; ⟨i, h, h2⟩⟩
instance : TElem Tryd.prog 37 (.nilFunc) 8 := ⟨let ⟨i, h, h1, h2, h3⟩ := info_parts info37; ⟨i, h, h2, h1, h3⟩, by decide⟩
theorem info38 : (Tryd.prog.info? 38).map (fun i => (i.zero, i.size, i.bytes)) = some (some (.nilFunc), 1, 8) := by kernel_rfl
instance : TCell Tryd.prog 38 := ⟨⟨_, Tryd.underlying38, rfl⟩, let ⟨i, h, _, h2, _⟩ := info_parts info38; ⟨i, h, h2⟩⟩
instance : TElem Tryd.prog 38 (.nilFunc) 8 := ⟨let ⟨i, h, h1, h2, h3⟩ := info_parts info38; ⟨i, h, h2, h1, h3⟩, by decide⟩
theorem info39 : (Tryd.prog.info? 39).map (fun i => (i.zero, i.size, i.bytes)) = some (some (.nilFunc), 1, 8) := by kernel_rfl
instance : TCell Tryd.prog 39 := ⟨⟨_, Tryd.underlying39, rfl⟩, let ⟨i, h, _, h2, _⟩ := info_parts info39; ⟨i, h, h2⟩⟩
instance : TElem Tryd.prog 39 (.nilFunc) 8 := ⟨let ⟨i, h, h1, h2, h3⟩ := info_parts info39; ⟨i, h, h2, h1, h3⟩, by decide⟩
theorem info40 : (Tryd.prog.info? 40).map (fun i => (i.zero, i.size, i.bytes)) = some (some (.nilFunc), 1, 8) := by kernel_rfl
instance : TCell Tryd.prog 40 := ⟨⟨_, Tryd.underlying40, rfl⟩, let ⟨i, h, _, h2, _⟩ := info_parts info40; ⟨i, h, h2⟩⟩
instance : TElem Tryd.prog 40 (.nilFunc) 8 := ⟨let ⟨i, h, h1, h2, h3⟩ := info_parts info40; ⟨i, h, h2, h1, h3⟩, by decide⟩
instance : TSlice Tryd.prog 41 9 := ⟨Tryd.underlying41⟩
theorem info41 : (Tryd.prog.info? 41).map (fun i => (i.zero, i.size, i.bytes)) = some (some (.slice none 0 0), 1, 24) := by kernel_rfl
instance : TCell Tryd.prog 41 := ⟨⟨_, Tryd.underlying41, rfl⟩, let ⟨i, h, _, h2, _⟩ := info_parts info41; ⟨i, h, h2⟩⟩
instance : TElem Tryd.prog 41 (.slice none 0 0) 24 := ⟨let ⟨i, h, h1, h2, h3⟩ := info_parts info41; ⟨i, h, h2, h1, h3⟩, by decide⟩
theorem info42 : (Tryd.prog.info? 42).map (fun i => (i.zero, i.size, i.bytes)) = some (some (.nilFunc), 1, 8) := by kernel_rfl
instance : TCell Tryd.prog 42 := ⟨⟨_, Tryd.underlying42, rfl⟩, let ⟨i, h, _, h2, _⟩ := info_parts info42; ⟨i, h, h2⟩⟩
instance : TElem Tryd.prog 42 (.nilFunc) 8 := ⟨let ⟨i, h, h1, h2, h3⟩ := info_parts info42; ⟨i, h, h2, h1, h3⟩, by decide⟩
theorem info43 : (Tryd.prog.info? 43).map (fun i => (i.zero, i.size, i.bytes)) = some (some (.nilFunc), 1, 8) := by kernel_rfl
instance : TCell Tryd.prog 43 := ⟨⟨_, Tryd.underlying43, rfl⟩, let ⟨i, h, _, h2, _⟩ := info_parts info43; ⟨i, h, h2⟩⟩
instance : TElem Tryd.prog 43 (.nilFunc) 8 := ⟨let ⟨i, h, h1, h2, h3⟩ := info_parts info43; ⟨i, h, h2, h1, h3⟩, by decide⟩
theorem info44 : (Tryd.prog.info? 44).map (fun i => (i.zero, i.size, i.bytes)) = some (some (.nilFunc), 1, 8) := by kernel_rfl
instance : TCell Tryd.prog 44 := ⟨⟨_, Tryd.underlying44, rfl⟩, let ⟨i, h, _, h2, _⟩ := info_parts info44; ⟨i, h, h2⟩⟩
instance : TElem Tryd.prog 44 (.nilFunc) 8 := ⟨let ⟨i, h, h1, h2, h3⟩ := info_parts info44; ⟨i, h, h2, h1, h3⟩, by decide⟩
theorem info46 : (Tryd.prog.info? 46).map (fun i => (i.zero, i.size, i.bytes)) = some (some (.nilFunc), 1, 8) := by kernel_rfl
instance : TCell Tryd.prog 46 := ⟨⟨_, Tryd.underlying46, rfl⟩, let ⟨i, h, _, h2, _⟩ := info_parts info46; ⟨i, h, h2⟩⟩
instance : TElem Tryd.prog 46 (.nilFunc) 8 := ⟨let ⟨i, h, h1, h2, h3⟩ := info_parts info46; ⟨i, h, h2, h1, h3⟩, by decide⟩
instance : TSlice Tryd.prog 47 2 := ⟨Tryd.underlying47⟩
theorem info47 : (Tryd.prog.info? 47).map (fun i => (i.zero, i.size, i.bytes)) = some (some (.slice none 0 0), 1, 24) := by kernel_rfl
instance : TCell Tryd.prog 47 := ⟨⟨_, Tryd.underlying47, rfl⟩, let ⟨i, h, _, h2, _⟩ := info_parts info47; ⟨i, h, h2⟩⟩
instance : TElem Tryd.prog 47 (.slice none 0 0) 24 := ⟨let ⟨i, h, h1, h2, h3⟩ := info_parts info47; ⟨i, h, h2, h1, h3⟩, by decide⟩
theorem info49 : (Tryd.prog.info? 49).map (fun i => (i.zero, i.size, i.bytes)) = some (some (.nilFunc), 1, 8) := by kernel_rfl
instance : TCell Tryd.prog 49 := ⟨⟨_, Tryd.underlying49, rfl⟩, let ⟨i, h, _, h2, _⟩ := info_parts info49; ⟨i, h, h2⟩⟩
instance : TElem Tryd.prog 49 (.nilFunc) 8 := ⟨let ⟨i, h, h1, h2, h3⟩ := info_parts info49; ⟨i, h, h2, h1, h3⟩, by decide⟩
theorem info50 : (Tryd.prog.info? 50).map (fun i => (i.zero, i.size, i.bytes)) = some (some (.nilFunc), 1, 8) := by kernel_rfl
instance : TCell Tryd.prog 50 := ⟨⟨_, Tryd.underlying50, rfl⟩, let ⟨i, h, _, h2, _⟩ := info_parts info50; ⟨i, h, h2⟩⟩
instance : TElem Tryd.prog 50 (.nilFunc) 8 := ⟨let ⟨i, h, h1, h2, h3⟩ := info_parts info50; ⟨i, h, h2, h1, h3⟩, by decide⟩
theorem info51 : (Tryd.prog.info? 51).map (fun i => (i.zero, i.size, i.bytes)) = some (some (.nilFunc), 1, 8) := by kernel_rfl
instance : TCell Tryd.prog 51 := ⟨⟨_, Tryd.underlying51, rfl⟩, let ⟨i, h, _, h2, _⟩ := info_parts info51; ⟨i, h, h2⟩⟩
instance : TElem Tryd.prog 51 (.nilFunc) 8 := ⟨let ⟨i, h, h1, h2, h3⟩ := info_parts info51; ⟨i, h, h2, h1, h3⟩, by decide⟩
theorem info52 : (Tryd.prog.info? 52).map (fun i => (i.zero, i.size, i.bytes)) = some (some (.nilFunc), 1, 8) := by kernel_rfl
instance : TCell Tryd.prog 52 := ⟨⟨_, Tryd.underlying52, rfl⟩, let ⟨i, h, _, h2, _⟩ := info_parts info52; ⟨i, h, h2⟩⟩
instance : TElem Tryd.prog 52 (.nilFunc) 8 := ⟨let ⟨i, h, h1, h2, h3⟩ := info_parts info52; ⟨i, h, h2, h1, h3⟩, by decide⟩
theorem info53 : (Tryd.prog.info? 53).map (fun i => (i.zero, i.size, i.bytes)) = some (some (.nilFunc), 1, 8) := by kernel_rfl
instance : TCell Tryd.prog 53 := ⟨⟨_, Tryd.underlying53, rfl⟩, let ⟨i, h, _, h2, _⟩ := info_parts info53; ⟨i, h, h2⟩⟩
instance : TElem Tryd.prog 53 (.nilFunc) 8 := ⟨let ⟨i, h, h1, h2, h3⟩ := info_parts info53; ⟨i, h, h2, h1, h3⟩, by decide⟩
theorem info54 : (Tryd.prog.info? 54).map (fun i => (i.zero, i.size, i.bytes)) = some (some (.nilFunc), 1, 8) := by kernel_rfl
instance : TCell Tryd.prog 54 := ⟨⟨_, Tryd.underlying54, rfl⟩, let ⟨i, h, _, h2, _⟩ := info_parts info54; ⟨i, h, h2⟩⟩
instance : TElem Tryd.prog 54 (.nilFunc) 8 := ⟨let ⟨i, h, h1, h2, h3⟩ := info_parts info54; ⟨i, h, h2, h1, h3⟩, by decide⟩
theorem info55 : (Tryd.prog.info? 55).map (fun i => (i.zero, i.size, i.bytes)) = some (some (.nilFunc), 1, 8) := by kernel_rfl
instance : TCell Tryd.prog 55 := ⟨⟨_, Tryd.underlying55, rfl⟩, let ⟨i, h, _, h2, _⟩ := info_parts info55; ⟨i, h, h2⟩⟩
instance : TElem Tryd.prog 55 (.nilFunc) 8 := ⟨let ⟨i, h, h1, h2, h3⟩ := info_parts info55; ⟨i, h, h2, h1, h3⟩, by decide⟩
theorem info56 : (Tryd.prog.info? 56).map (fun i => (i.zero, i.size, i.bytes)) = some (some (.nilFunc), 1, 8) := by kernel_rfl
instance : TCell Tryd.prog 56 := ⟨⟨_, Tryd.underlying56, rfl⟩, let ⟨i, h, _, h2, _⟩ := info_parts info56; ⟨i, h, h2⟩⟩
instance : TElem Tryd.prog 56 (.nilFunc) 8 := ⟨let ⟨i, h, h1, h2, h3⟩ := info_parts info56; ⟨i, h, h2, h1, h3⟩, by decide⟩
theorem info57 : (Tryd.prog.info? 57).map (fun i => (i.zero, i.size, i.bytes)) = some (some (.nilFunc), 1, 8) := by kernel_rfl
instance : TCell Tryd.prog 57 := ⟨⟨_, Tryd.underlying57, rfl⟩, let ⟨i, h, _, h2, _⟩ := info_parts info57; ⟨i, h, h2⟩⟩
instance : TElem Tryd.prog 57 (.nilFunc) 8 := ⟨let ⟨i, h, h1, h2, h3⟩ := info_parts info57; ⟨i, h, h2, h1, h3⟩, by decide⟩
theorem info58 : (Tryd.prog.info? 58).map (fun i => (i.zero, i.size, i.bytes)) = some (some (.nilFunc), 1, 8) := by kernel_rfl
instance : TCell Tryd.prog 58 := ⟨⟨_, Tryd.underlying58, rfl⟩, let ⟨i, h, _, h2, _⟩ := info_parts info58; ⟨i, h, h2⟩⟩
instance : TElem Tryd.prog 58 (.nilFunc) 8 := ⟨let ⟨i, h, h1, h2, h3⟩ := info_parts info58; ⟨i, h, h2, h1, h3⟩, by decide⟩
theorem info59 : (Tryd.prog.info? 59).map (fun i => (i.zero, i.size, i.bytes)) = some (some (.nilFunc), 1, 8) := by kernel_rfl
instance : TCell Tryd.prog 59 := ⟨⟨_, Tryd.underlying59, rfl⟩, let ⟨i, h, _, h2, _⟩ := info_parts info59; ⟨i, h, h2⟩⟩
instance : TElem Tryd.prog 59 (.nilFunc) 8 := ⟨let ⟨i, h, h1, h2, h3⟩ := info_parts info59; ⟨i, h, h2, h1, h3⟩, by decide⟩
theorem info61 : (Tryd.prog.info? 61).map (fun i => (i.zero, i.size, i.bytes)) = some (some (.nilFunc), 1, 8) := by kernel_rfl
instance : TCell Tryd.prog 61 := ⟨⟨_, Tryd.underlying61, rfl⟩, let ⟨i, h, _, h2, _⟩ := info_parts info61; ⟨i, h, h2⟩⟩
instance : TElem Tryd.prog 61 (.nilFunc) 8 := ⟨let ⟨i, h, h1, h2, h3⟩ := info_parts info61; ⟨i, h, h2, h1, h3⟩, by decide⟩
theorem info63 : (Tryd.prog.info? 63).map (fun i => (i.zero, i.size, i.bytes)) = some (some (.nilFunc), 1, 8) := by kernel_rfl
instance : TCell Tryd.prog 63 := ⟨⟨_, Tryd.underlying63, rfl⟩, let ⟨i, h, _, h2, _⟩ := info_parts info63; ⟨i, h, h2⟩⟩
instance : TElem Tryd.prog 63 (.nilFunc) 8 := ⟨let ⟨i, h, h1, h2, h3⟩ := info_parts info63; ⟨i, h, h2, h1, h3⟩, by decide⟩
theorem info64 : (Tryd.prog.info? 64).map (fun i => (i.zero, i.size, i.bytes)) = some (some (.nilFunc), 1, 8) := by kernel_rfl
instance : TCell Tryd.prog 64 := ⟨⟨_, Tryd.underlying64, rfl⟩, let ⟨i, h, _, h2, _⟩ := info_parts info64; ⟨i, h, h2⟩⟩
instance : TElem Tryd.prog 64 (.nilFunc) 8 := ⟨let ⟨i, h, h1, h2, h3⟩ := info_parts info64; ⟨i, h, h2, h1, h3⟩, by decide⟩
instance : TSlice Tryd.prog 65 5 := ⟨Tryd.underlying65⟩
theorem info65 : (Tryd.prog.info? 65).map (fun i => (i.zero, i.size, i.bytes)) = some (some (.slice none 0 0), 1, 24) := by kernel_rfl
instance : TCell Tryd.prog 65 := ⟨⟨_, Tryd.underlying65, rfl⟩, let ⟨i, h, _, h2, _⟩ := info_parts info65; ⟨i, h, h2⟩⟩
instance : TElem Tryd.prog 65 (.slice none 0 0) 24 := ⟨let ⟨i, h, h1, h2, h3⟩ := info_parts info65; ⟨i, h, h2, h1, h3⟩, by decide⟩
theorem info66 : (Tryd.prog.info? 66).map (fun i => (i.zero, i.size, i.bytes)) = some (some (.nilFunc), 1, 8) := by kernel_rfl
instance : TCell Tryd.prog 66 := ⟨⟨_, Tryd.underlying66, rfl⟩, let ⟨i, h, _, h2, _⟩ := info_parts info66; ⟨i, h, h2⟩⟩
instance : TElem Tryd.prog 66 (.nilFunc) 8 := ⟨let ⟨i, h, h1, h2, h3⟩ := info_parts info66; ⟨i, h, h2, h1, h3⟩, by decide⟩
theorem info67 : (Tryd.prog.info? 67).map (fun i => (i.zero, i.size, i.bytes)) = some (some (.nilFunc), 1, 8) := by kernel_rfl
instance : TCell Tryd.prog 67 := ⟨⟨_, Tryd.underlying67, rfl⟩, let ⟨i, h, _, h2, _⟩ := info_parts info67; ⟨i, h, h2⟩⟩
instance : TElem Tryd.prog 67 (.nilFunc) 8 := ⟨let ⟨i, h, h1, h2, h3⟩ := info_parts info67; ⟨i, h, h2, h1, h3⟩, by decide⟩
theorem info68 : (Tryd.prog.info? 68).map (fun i => (i.zero, i.size, i.bytes)) = some (some (.pointer none), 1, 8) := by kernel_rfl
instance : TCell Tryd.prog 68 := ⟨⟨_, Tryd.underlying68, rfl⟩, let ⟨i, h, _, h2, _⟩ := info_parts info68; ⟨i, h, h2⟩⟩
instance : TElem Tryd.prog 68 (.pointer none) 8 := ⟨let ⟨i, h, h1, h2, h3⟩ := info_parts info68; ⟨i, h, h2, h1, h3⟩, by decide⟩
theorem info69 : (Tryd.prog.info? 69).map (fun i => (i.zero, i.size, i.bytes)) = some (some (.agg [.pointer none, .slice none 0 0].toArray), 2, 32) := by kernel_rfl
instance : TStruct Tryd.prog 69 2 [.pointer none, .slice none 0 0] := ⟨⟨_, Tryd.underlying69, rfl⟩, let ⟨i, h, h1, h2, _⟩ := info_parts info69; ⟨i, h, h2, h1, rfl⟩⟩
instance : TBuild Tryd.prog 69 2 [.pointer none, .slice none 0 0] := .str (let ⟨i, h, h1, _, _⟩ := info_parts info69; ⟨i, h, h1, rfl⟩) ⟨_, Tryd.underlying69, by kernel_rfl⟩
instance : TField Tryd.prog 69 0 0 := ⟨let ⟨i, h, _, h2, _⟩ := info_parts info68; ⟨_, _, i, Tryd.underlying69, rfl, rfl, h, h2, _, Tryd.underlying68, rfl⟩⟩
instance : TField Tryd.prog 69 1 1 := ⟨let ⟨i, h, _, h2, _⟩ := info_parts info65; ⟨_, _, i, Tryd.underlying69, rfl, rfl, h, h2, _, Tryd.underlying65, rfl⟩⟩
theorem info70 : (Tryd.prog.info? 70).map (fun i => (i.zero, i.size, i.bytes)) = some (some (.agg [.pointer none, .slice none 0 0].toArray), 2, 32) := by kernel_rfl
instance : TStruct Tryd.prog 70 2 [.pointer none, .slice none 0 0] := ⟨⟨_, Tryd.underlying70, rfl⟩, let ⟨i, h, h1, h2, _⟩ := info_parts info70; ⟨i, h, h2, h1, rfl⟩⟩
instance : TBuild Tryd.prog 70 2 [.pointer none, .slice none 0 0] := .str (let ⟨i, h, h1, _, _⟩ := info_parts info70; ⟨i, h, h1, rfl⟩) ⟨_, Tryd.underlying70, by kernel_rfl⟩
instance : TField Tryd.prog 70 0 0 := ⟨let ⟨i, h, _, h2, _⟩ := info_parts info68; ⟨_, _, i, Tryd.underlying70, rfl, rfl, h, h2, _, Tryd.underlying68, rfl⟩⟩
instance : TField Tryd.prog 70 1 1 := ⟨let ⟨i, h, _, h2, _⟩ := info_parts info65; ⟨_, _, i, Tryd.underlying70, rfl, rfl, h, h2, _, Tryd.underlying65, rfl⟩⟩
theorem info71 : (Tryd.prog.info? 71).map (fun i => (i.zero, i.size, i.bytes)) = some (some (.nilFunc), 1, 8) := by kernel_rfl
instance : TCell Tryd.prog 71 := ⟨⟨_, Tryd.underlying71, rfl⟩, let ⟨i, h, _, h2, _⟩ := info_parts info71; ⟨i, h, h2⟩⟩
instance : TElem Tryd.prog 71 (.nilFunc) 8 := ⟨let ⟨i, h, h1, h2, h3⟩ := info_parts info71; ⟨i, h, h2, h1, h3⟩, by decide⟩
theorem info75 : (Tryd.prog.info? 75).map (fun i => (i.zero, i.size, i.bytes)) = some (some (.nilFunc), 1, 8) := by kernel_rfl
instance : TCell Tryd.prog 75 := ⟨⟨_, Tryd.underlying75, rfl⟩, let ⟨i, h, _, h2, _⟩ := info_parts info75; ⟨i, h, h2⟩⟩
instance : TElem Tryd.prog 75 (.nilFunc) 8 := ⟨let ⟨i, h, h1, h2, h3⟩ := info_parts info75; ⟨i, h, h2, h1, h3⟩, by decide⟩
theorem info76 : (Tryd.prog.info? 76).map (fun i => (i.zero, i.size, i.bytes)) = some (some (.nilFunc), 1, 8) := by kernel_rfl
instance : TCell Tryd.prog 76 := ⟨⟨_, Tryd.underlying76, rfl⟩, let ⟨i, h, _, h2, _⟩ := info_parts info76; ⟨i, h, h2⟩⟩
instance : TElem Tryd.prog 76 (.nilFunc) 8 := ⟨let ⟨i, h, h1, h2, h3⟩ := info_parts info76; ⟨i, h, h2, h1, h3⟩, by decide⟩
theorem info77 : (Tryd.prog.info? 77).map (fun i => (i.zero, i.size, i.bytes)) = some (some (.pointer none), 1, 8) := by kernel_rfl
instance : TCell Tryd.prog 77 := ⟨⟨_, Tryd.underlying77, rfl⟩, let ⟨i, h, _, h2, _⟩ := info_parts info77; ⟨i, h, h2⟩⟩
instance : TElem Tryd.prog 77 (.pointer none) 8 := ⟨let ⟨i, h, h1, h2, h3⟩ := info_parts info77; ⟨i, h, h2, h1, h3⟩, by decide⟩
theorem info78 : (Tryd.prog.info? 78).map (fun i => (i.zero, i.size, i.bytes)) = some (some (.nilFunc), 1, 8) := by kernel_rfl
instance : TCell Tryd.prog 78 := ⟨⟨_, Tryd.underlying78, rfl⟩, let ⟨i, h, _, h2, _⟩ := info_parts info78; ⟨i, h, h2⟩⟩
instance : TElem Tryd.prog 78 (.nilFunc) 8 := ⟨let ⟨i, h, h1, h2, h3⟩ := info_parts info78; ⟨i, h, h2, h1, h3⟩, by decide⟩
theorem info79 : (Tryd.prog.info? 79).map (fun i => (i.zero, i.size, i.bytes)) = some (some (.agg [.int .u8 0, .int .u8 0, .int .u8 0, .int .u8 0, .int .u8 0, .int .u8 0, .int .u8 0, .int .u8 0, .int .u8 0, .int .u8 0, .int .u8 0, .int .u8 0, .int .u8 0, .int .u8 0, .int .u8 0, .int .u8 0, .int .u8 0, .int .u8 0, .int .u8 0, .int .u8 0, .int .u8 0, .int .u8 0, .int .u8 0, .int .u8 0].toArray), 24, 24) := by kernel_rfl
instance : TStruct Tryd.prog 79 24 [.int .u8 0, .int .u8 0, .int .u8 0, .int .u8 0, .int .u8 0, .int .u8 0, .int .u8 0, .int .u8 0, .int .u8 0, .int .u8 0, .int .u8 0, .int .u8 0, .int .u8 0, .int .u8 0, .int .u8 0, .int .u8 0, .int .u8 0, .int .u8 0, .int .u8 0, .int .u8 0, .int .u8 0, .int .u8 0, .int .u8 0, .int .u8 0] := ⟨⟨_, Tryd.underlying79, rfl⟩, let ⟨i, h, h1, h2, _⟩ := info_parts info79; ⟨i, h, h2, h1, rfl⟩⟩
instance : TArr Tryd.prog 79 5 24 := ⟨Tryd.underlying79, let ⟨i, h, _, h2, _⟩ := info_parts info5; ⟨i, h, h2⟩⟩
instance : TBuild Tryd.prog 79 24 [.int .u8 0, .int .u8 0, .int .u8 0, .int .u8 0, .int .u8 0, .int .u8 0, .int .u8 0, .int .u8 0, .int .u8 0, .int .u8 0, .int .u8 0, .int .u8 0, .int .u8 0, .int .u8 0, .int .u8 0, .int .u8 0, .int .u8 0, .int .u8 0, .int .u8 0, .int .u8 0, .int .u8 0, .int .u8 0, .int .u8 0, .int .u8 0] := .arr (let ⟨i, h, h1, _, _⟩ := info_parts info79; ⟨i, h, h1, rfl⟩) (let ⟨i, h, _, h2, _⟩ := info_parts info5; ⟨_, i, Tryd.underlying79, h, h2⟩)
instance : TKind Tryd.prog 80 .u64 := ⟨Tryd.underlying80⟩
theorem info80 : (Tryd.prog.info? 80).map (fun i => (i.zero, i.size, i.bytes)) = some (some (.int .u64 0), 1, 8) := by kernel_rfl
instance : TCell Tryd.prog 80 := ⟨⟨_, Tryd.underlying80, rfl⟩, let ⟨i, h, _, h2, _⟩ := info_parts info80; ⟨i, h, h2⟩⟩
instance : TElem Tryd.prog 80 (.int .u64 0) 8 := ⟨let ⟨i, h, h1, h2, h3⟩ := info_parts info80; ⟨i, h, h2, h1, h3⟩, by decide⟩
theorem info81 : (Tryd.prog.info? 81).map (fun i => (i.zero, i.size, i.bytes)) = some (some (.nilFunc), 1, 8) := by kernel_rfl
instance : TCell Tryd.prog 81 := ⟨⟨_, Tryd.underlying81, rfl⟩, let ⟨i, h, _, h2, _⟩ := info_parts info81; ⟨i, h, h2⟩⟩
instance : TElem Tryd.prog 81 (.nilFunc) 8 := ⟨let ⟨i, h, h1, h2, h3⟩ := info_parts info81; ⟨i, h, h2, h1, h3⟩, by decide⟩
theorem info82 : (Tryd.prog.info? 82).map (fun i => (i.zero, i.size, i.bytes)) = some (some (.nilFunc), 1, 8) := by kernel_rfl
instance : TCell Tryd.prog 82 := ⟨⟨_, Tryd.underlying82, rfl⟩, let ⟨i, h, _, h2, _⟩ := info_parts info82; ⟨i, h, h2⟩⟩
instance : TElem Tryd.prog 82 (.nilFunc) 8 := ⟨let ⟨i, h, h1, h2, h3⟩ := info_parts info82; ⟨i, h, h2, h1, h3⟩, by decide⟩
theorem info84 : (Tryd.prog.info? 84).map (fun i => (i.zero, i.size, i.bytes)) = some (some (.nilFunc), 1, 8) := by kernel_rfl
instance : TCell Tryd.prog 84 := ⟨⟨_, Tryd.underlying84, rfl⟩, let ⟨i, h, _, h2, _⟩ := info_parts info84; ⟨i, h, h2⟩⟩
instance : TElem Tryd.prog 84 (.nilFunc) 8 := ⟨let ⟨i, h, h1, h2, h3⟩ := info_parts info84; ⟨i, h, h2, h1, h3⟩, by decide⟩
theorem info86 : (Tryd.prog.info? 86).map (fun i => (i.zero, i.size, i.bytes)) = some (some (.nilFunc), 1, 8) := by kernel_rfl
instance : TCell Tryd.prog 86 := ⟨⟨_, Tryd.underlying86, rfl⟩, let ⟨i, h, _, h2, _⟩ := info_parts info86; ⟨i, h, h2⟩⟩
instance : TElem Tryd.prog 86 (.nilFunc) 8 := ⟨let ⟨i, h, h1, h2, h3⟩ := info_parts info86; ⟨i, h, h2, h1, h3⟩, by decide⟩
theorem info87 : (Tryd.prog.info? 87).map (fun i => (i.zero, i.size, i.bytes)) = some (some (.nilFunc), 1, 8) := by kernel_rfl
instance : TCell Tryd.prog 87 := ⟨⟨_, Tryd.underlying87, rfl⟩, let ⟨i, h, _, h2, _⟩ := info_parts info87; ⟨i, h, h2⟩⟩
instance : TElem Tryd.prog 87 (.nilFunc) 8 := ⟨let ⟨i, h, h1, h2, h3⟩ := info_parts info87; ⟨i, h, h2, h1, h3⟩, by decide⟩
theorem info88 : (Tryd.prog.info? 88).map (fun i => (i.zero, i.size, i.bytes)) = some (some (.nilFunc), 1, 8) := by kernel_rfl
instance : TCell Tryd.prog 88 := ⟨⟨_, Tryd.underlying88, rfl⟩, let ⟨i, h, _, h2, _⟩ := info_parts info88; ⟨i, h, h2⟩⟩
instance : TElem Tryd.prog 88 (.nilFunc) 8 := ⟨let ⟨i, h, h1, h2, h3⟩ := info_parts info88; ⟨i, h, h2, h1, h3⟩, by decide⟩
theorem info89 : (Tryd.prog.info? 89).map (fun i => (i.zero, i.size, i.bytes)) = some (some (.nilFunc), 1, 8) := by kernel_rfl
instance : TCell Tryd.prog 89 := ⟨⟨_, Tryd.underlying89, rfl⟩, let ⟨i, h, _, h2, _⟩ := info_parts info89; ⟨i, h, h2⟩⟩
instance : TElem Tryd.prog 89 (.nilFunc) 8 := ⟨let ⟨i, h, h1, h2, h3⟩ := info_parts info89; ⟨i, h, h2, h1, h3⟩, by decide⟩
theorem info90 : (Tryd.prog.info? 90).map (fun i => (i.zero, i.size, i.bytes)) = some (some (.agg [.int .u64 0, .int .u64 0, .int .u64 0, .int .u64 0, .int .u64 0, .int .u64 0, .int .u64 0, .int .u64 0, .int .u64 0, .int .u64 0, .int .u64 0, .int .u64 0, .int .u64 0, .int .u64 0, .int .u64 0, .int .u64 0, .int .u64 0, .int .u64 0, .int .u64 0, .int .u64 0].toArray), 20, 160) := by kernel_rfl
instance : TStruct Tryd.prog 90 20 [.int .u64 0, .int .u64 0, .int .u64 0, .int .u64 0, .int .u64 0, .int .u64 0, .int .u64 0, .int .u64 0, .int .u64 0, .int .u64 0, .int .u64 0, .int .u64 0, .int .u64 0, .int .u64 0, .int .u64 0, .int .u64 0, .int .u64 0, .int .u64 0, .int .u64 0, .int .u64 0] := ⟨⟨_, Tryd.underlying90, rfl⟩, let ⟨i, h, h1, h2, _⟩ := info_parts info90; ⟨i, h, h2, h1, rfl⟩⟩
instance : TArr Tryd.prog 90 80 20 := ⟨Tryd.underlying90, let ⟨i, h, _, h2, _⟩ := info_parts info80; ⟨i, h, h2⟩⟩
instance : TBuild Tryd.prog 90 20 [.int .u64 0, .int .u64 0, .int .u64 0, .int .u64 0, .int .u64 0, .int .u64 0, .int .u64 0, .int .u64 0, .int .u64 0, .int .u64 0, .int .u64 0, .int .u64 0, .int .u64 0, .int .u64 0, .int .u64 0, .int .u64 0, .int .u64 0, .int .u64 0, .int .u64 0, .int .u64 0] := .arr (let ⟨i, h, h1, _, _⟩ := info_parts info90; ⟨i, h, h1, rfl⟩) (let ⟨i, h, _, h2, _⟩ := info_parts info80; ⟨_, i, Tryd.underlying90, h, h2⟩)
instance : TKind Tryd.prog 91 .u32 := ⟨Tryd.underlying91⟩
theorem info91 : (Tryd.prog.info? 91).map (fun i => (i.zero, i.size, i.bytes)) = some (some (.int .u32 0), 1, 4) := by kernel_rfl
instance : TCell Tryd.prog 91 := ⟨⟨_, Tryd.underlying91, rfl⟩, let ⟨i, h, _, h2, _⟩ := info_parts info91; ⟨i, h, h2⟩⟩
instance : TElem Tryd.prog 91 (.int .u32 0) 4 := ⟨let ⟨i, h, h1, h2, h3⟩ := info_parts info91; ⟨i, h, h2, h1, h3⟩, by decide⟩
theorem info92 : (Tryd.prog.info? 92).map (fun i => (i.zero, i.size, i.bytes)) = some (some (.agg [.int .u8 0, .int .u8 0, .int .u8 0, .int .u8 0, .int .u8 0, .int .u8 0, .int .u8 0, .int .u8 0, .int .u8 0, .int .u8 0, .int .u8 0, .int .u8 0, .int .u8 0, .int .u8 0, .int .u8 0, .int .u8 0, .int .u8 0, .int .u8 0, .int .u8 0, .int .u8 0, .int .u8 0, .int .u8 0, .int .u8 0, .int .u8 0, .int .u8 0, .int .u8 0, .int .u8 0, .int .u8 0, .int .u8 0, .int .u8 0, .int .u8 0, .int .u8 0, .int .u8 0, .int .u8 0, .int .u8 0, .int .u8 0, .int .u8 0, .int .u8 0, .int .u8 0, .int .u8 0, .int .u8 0, .int .u8 0, .int .u8 0, .int .u8 0, .int .u8 0, .int .u8 0, .int .u8 0, .int .u8 0, .int .u8 0, .int .u8 0, .int .u8 0, .int .u8 0, .int .u8 0, .int .u8 0, .int .u8 0, .int .u8 0, .int .u8 0, .int .u8 0, .int .u8 0, .int .u8 0, .int .u8 0, .int .u8 0, .int .u8 0, .int .u8 0, .int .u8 0].toArray), 65, 65) := by kernel_rfl
instance : TStruct Tryd.prog 92 65 [.int .u8 0, .int .u8 0, .int .u8 0, .int .u8 0, .int .u8 0, .int .u8 0, .int .u8 0, .int .u8 0, .int .u8 0, .int .u8 0, .int .u8 0, .int .u8 0, .int .u8 0, .int .u8 0, .int .u8 0, .int .u8 0, .int .u8 0, .int .u8 0, .int .u8 0, .int .u8 0, .int .u8 0, .int .u8 0, .int .u8 0, .int .u8 0, .int .u8 0, .int .u8 0, .int .u8 0, .int .u8 0, .int .u8 0, .int .u8 0, .int .u8 0, .int .u8 0, .int .u8 0, .int .u8 0, .int .u8 0, .int .u8 0, .int .u8 0, .int .u8 0, .int .u8 0, .int .u8 0, .int .u8 0, .int .u8 0, .int .u8 0, .int .u8 0, .int .u8 0, .int .u8 0, .int .u8 0, .int .u8 0, .int .u8 0, .int .u8 0, .int .u8 0, .int .u8 0, .int .u8 0, .int .u8 0, .int .u8 0, .int .u8 0, .int .u8 0, .int .u8 0, .int .u8 0, .int .u8 0, .int .u8 0, .int .u8 0, .int .u8 0, .int .u8 0, .int .u8 0] := ⟨⟨_, Tryd.underlying92, rfl⟩, let ⟨i, h, h1, h2, _⟩ := info_parts info92; ⟨i, h, h2, h1, rfl⟩⟩
instance : TArr Tryd.prog 92 5 65 := ⟨Tryd.underlying92, let ⟨i, h, _, h2, _⟩ := info_parts info5; ⟨i, h, h2⟩⟩
instance : TBuild Tryd.prog 92 65 [.int .u8 0, .int .u8 0, .int .u8 0, .int .u8 0, .int .u8 0, .int .u8 0, .int .u8 0, .int .u8 0, .int .u8 0, .int .u8 0, .int .u8 0, .int .u8 0, .int .u8 0, .int .u8 0, .int .u8 0, .int .u8 0, .int .u8 0, .int .u8 0, .int .u8 0, .int .u8 0, .int .u8 0, .int .u8 0, .int .u8 0, .int .u8 0, .int .u8 0, .int .u8 0, .int .u8 0, .int .u8 0, .int .u8 0, .int .u8 0, .int .u8 0, .int .u8 0, .int .u8 0, .int .u8 0, .int .u8 0, .int .u8 0, .int .u8 0, .int .u8 0, .int .u8 0, .int .u8 0, .int .u8 0, .int .u8 0, .int .u8 0, .int .u8 0, .int .u8 0, .int .u8 0, .int .u8 0, .int .u8 0, .int .u8 0, .int .u8 0, .int .u8 0, .int .u8 0, .int .u8 0, .int .u8 0, .int .u8 0, .int .u8 0, .int .u8 0, .int .u8 0, .int .u8 0, .int .u8 0, .int .u8 0, .int .u8 0, .int .u8 0, .int .u8 0, .int .u8 0] := .arr (let ⟨i, h, h1, _, _⟩ := info_parts info92; ⟨i, h, h1, rfl⟩) (let ⟨i, h, _, h2, _⟩ := info_parts info5; ⟨_, i, Tryd.underlying92, h, h2⟩)
theorem info93 : (Tryd.prog.info? 93).map (fun i => (i.zero, i.size, i.bytes)) = some (some (.nilFunc), 1, 8) := by kernel_rfl
instance : TCell Tryd.prog 93 := ⟨⟨_, Tryd.underlying93, rfl⟩, let ⟨i, h, _, h2, _⟩ := info_parts info93; ⟨i, h, h2⟩⟩
instance : TElem Tryd.prog 93 (.nilFunc) 8 := ⟨let ⟨i, h, h1, h2, h3⟩ := info_parts info93; ⟨i, h, h2, h1, h3⟩, by decide⟩
instance : TKind Tryd.prog 94 .u64 := ⟨Tryd.underlying94⟩
theorem info94 : (Tryd.prog.info? 94).map (fun i => (i.zero, i.size, i.bytes)) = some (some (.int .u64 0), 1, 8) := by kernel_rfl
instance : TCell Tryd.prog 94 := ⟨⟨_, Tryd.underlying94, rfl⟩, let ⟨i, h, _, h2, _⟩ := info_parts info94; ⟨i, h, h2⟩⟩
instance : TElem Tryd.prog 94 (.int .u64 0) 8 := ⟨let ⟨i, h, h1, h2, h3⟩ := info_parts info94; ⟨i, h, h2, h1, h3⟩, by decide⟩
theorem info95 : (Tryd.prog.info? 95).map (fun i => (i.zero, i.size, i.bytes)) = some (some (.nilFunc), 1, 8) := by kernel_rfl
instance : TCell Tryd.prog 95 := ⟨⟨_, Tryd.underlying95, rfl⟩, let ⟨i, h, _, h2, _⟩ := info_parts info95; ⟨i, h, h2⟩⟩
instance : TElem Tryd.prog 95 (.nilFunc) 8 := ⟨let ⟨i, h, h1, h2, h3⟩ := info_parts info95; ⟨i, h, h2, h1, h3⟩, by decide⟩
theorem info96 : (Tryd.prog.info? 96).map (fun i => (i.zero, i.size, i.bytes)) = some (some (.nilFunc), 1, 8) := by kernel_rfl
instance : TCell Tryd.prog 96 := ⟨⟨_, Tryd.underlying96, rfl⟩, let ⟨i, h, _, h2, _⟩ := info_parts info96; ⟨i, h, h2⟩⟩
instance : TElem Tryd.prog 96 (.nilFunc) 8 := ⟨let ⟨i, h, h1, h2, h3⟩ := info_parts info96; ⟨i, h, h2, h1, h3⟩, by decide⟩
theorem info97 : (Tryd.prog.info? 97).map (fun i => (i.zero, i.size, i.bytes)) = some (some (.agg [.int .u8 0, .int .u8 0, .int .u8 0, .int .u8 0, .int .u8 0, .int .u8 0, .int .u8 0, .int .u8 0, .int .u8 0, .int .u8 0, .int .u8 0, .int .u8 0, .int .u8 0, .int .u8 0, .int .u8 0, .int .u8 0, .int .u8 0, .int .u8 0, .int .u8 0, .int .u8 0, .int .u8 0, .int .u8 0, .int .u8 0, .int .u8 0, .int .u8 0, .int .u8 0, .int .u8 0, .int .u8 0, .int .u8 0, .int .u8 0, .int .u8 0, .int .u8 0].toArray), 32, 32) := by kernel_rfl
instance : TStruct Tryd.prog 97 32 [.int .u8 0, .int .u8 0, .int .u8 0, .int .u8 0, .int .u8 0, .int .u8 0, .int .u8 0, .int .u8 0, .int .u8 0, .int .u8 0, .int .u8 0, .int .u8 0, .int .u8 0, .int .u8 0, .int .u8 0, .int .u8 0, .int .u8 0, .int .u8 0, .int .u8 0, .int .u8 0, .int .u8 0, .int .u8 0, .int .u8 0, .int .u8 0, .int .u8 0, .int .u8 0, .int .u8 0, .int .u8 0, .int .u8 0, .int .u8 0, .int .u8 0, .int .u8 0] := ⟨⟨_, Tryd.underlying97, rfl⟩, let ⟨i, h, h1, h2, _⟩ := info_parts info97; ⟨i, h, h2, h1, rfl⟩⟩
instance : TArr Tryd.prog 97 5 32 := ⟨Tryd.underlying97, let ⟨i, h, _, h2, _⟩ := info_parts info5; ⟨i, h, h2⟩⟩
instance : TBuild Tryd.prog 97 32 [.int .u8 0, .int .u8 0, .int .u8 0, .int .u8 0, .int .u8 0, .int .u8 0, .int .u8 0, .int .u8 0, .int .u8 0, .int .u8 0, .int .u8 0, .int .u8 0, .int .u8 0, .int .u8 0, .int .u8 0, .int .u8 0, .int .u8 0, .int .u8 0, .int .u8 0, .int .u8 0, .int .u8 0, .int .u8 0, .int .u8 0, .int .u8 0, .int .u8 0, .int .u8 0, .int .u8 0, .int .u8 0, .int .u8 0, .int .u8 0, .int .u8 0, .int .u8 0] := .arr (let ⟨i, h, h1, _, _⟩ := info_parts info97; ⟨i, h, h1, rfl⟩) (let ⟨i, h, _, h2, _⟩ := info_parts info5; ⟨_, i, Tryd.underlying97, h, h2⟩)
theorem info98 : (Tryd.prog.info? 98).map (fun i => (i.zero, i.size, i.bytes)) = some (some (.agg [.int .u8 0, .int .u8 0, .int .u8 0, .int .u8 0, .int .u8 0, .int .u8 0, .int .u8 0, .int .u8 0, .int .u8 0, .int .u8 0, .int .u8 0, .int .u8 0, .int .u8 0, .int .u8 0, .int .u8 0, .int .u8 0, .int .u8 0, .int .u8 0, .int .u8 0, .int .u8 0, .int .u8 0, .int .u8 0, .int .u8 0, .int .u8 0, .int .u8 0, .int .u8 0, .int .u8 0, .int .u8 0, .int .u8 0, .int .u8 0, .int .u8 0, .int .u8 0, .int .u8 0, .int .u8 0, .int .u8 0, .int .u8 0, .int .u8 0, .int .u8 0, .int .u8 0, .int .u8 0, .int .u8 0, .int .u8 0, .int .u8 0, .int .u8 0, .int .u8 0, .int .u8 0, .int .u8 0, .int .u8 0, .int .u8 0, .int .u8 0, .int .u8 0, .int .u8 0, .int .u8 0, .int .u8 0, .int .u8 0, .int .u8 0, .int .u8 0, .int .u8 0, .int .u8 0, .int .u8 0, .int .u8 0, .int .u8 0, .int .u8 0, .int .u8 0].toArray), 64, 64) := by kernel_rfl
instance : TStruct Tryd.prog 98 64 [.int .u8 0, .int .u8 0, .int .u8 0, .int .u8 0, .int .u8 0, .int .u8 0, .int .u8 0, .int .u8 0, .int .u8 0, .int .u8 0, .int .u8 0, .int .u8 0, .int .u8 0, .int .u8 0, .int .u8 0, .int .u8 0, .int .u8 0, .int .u8 0, .int .u8 0, .int .u8 0, .int .u8 0, .int .u8 0, .int .u8 0, .int .u8 0, .int .u8 0, .int .u8 0, .int .u8 0, .int .u8 0, .int .u8 0, .int .u8 0, .int .u8 0, .int .u8 0, .int .u8 0, .int .u8 0, .int .u8 0, .int .u8 0, .int .u8 0, .int .u8 0, .int .u8 0, .int .u8 0, .int .u8 0, .int .u8 0, .int .u8 0, .int .u8 0, .int .u8 0, .int .u8 0, .int .u8 0, .int .u8 0, .int .u8 0, .int .u8 0, .int .u8 0, .int .u8 0, .int .u8 0, .int .u8 0, .int .u8 0, .int .u8 0, .int .u8 0, .int .u8 0, .int .u8 0, .int .u8 0, .int .u8 0, .int .u8 0, .int .u8 0, .int .u8 0] := ⟨⟨_, Tryd.underlying98, rfl⟩, let ⟨i, h, h1, h2, _⟩ := info_parts info98; ⟨i, h, h2, h1, rfl⟩⟩
instance : TArr Tryd.prog 98 5 64 := ⟨Tryd.underlying98, let ⟨i, h, _, h2, _⟩ := info_parts info5; ⟨i, h, h2⟩⟩
instance : TBuild Tryd.prog 98 64 [.int .u8 0, .int .u8 0, .int .u8 0, .int .u8 0, .int .u8 0, .int .u8 0, .int .u8 0, .int .u8 0, .int .u8 0, .int .u8 0, .int .u8 0, .int .u8 0, .int .u8 0, .int .u8 0, .int .u8 0, .int .u8 0, .int .u8 0, .int .u8 0, .int .u8 0, .int .u8 0, .int .u8 0, .int .u8 0, .int .u8 0, .int .u8 0, .int .u8 0, .int .u8 0, .int .u8 0, .int .u8 0, .int .u8 0, .int .u8 0, .int .u8 0, .int .u8 0, .int .u8 0, .int .u8 0, .int .u8 0, .int .u8 0, .int .u8 0, .int .u8 0, .int .u8 0, .int .u8 0, .int .u8 0, .int .u8 0, .int .u8 0, .int .u8 0, .int .u8 0, .int .u8 0, .int .u8 0, .int .u8 0, .int .u8 0, .int .u8 0, .int .u8 0, .int .u8 0, .int .u8 0, .int .u8 0, .int .u8 0, .int .u8 0, .int .u8 0, .int .u8 0, .int .u8 0, .int .u8 0, .int .u8 0, .int .u8 0, .int .u8 0, .int .u8 0] := .arr (let ⟨i, h, h1, _, _⟩ := info_parts info98; ⟨i, h, h1, rfl⟩) (let ⟨i, h, _, h2, _⟩ := info_parts info5; ⟨_, i, Tryd.underlying98, h, h2⟩)
theorem info104 : (Tryd.prog.info? 104).map (fun i => (i.zero, i.size, i.bytes)) = some (some (.nilFunc), 1, 8) := by kernel_rfl
instance : TCell Tryd.prog 104 := ⟨⟨_, Tryd.underlying104, rfl⟩, let ⟨i, h, _, h2, _⟩ := info_parts info104; ⟨i, h, h2⟩⟩
instance : TElem Tryd.prog 104 (.nilFunc) 8 := ⟨let ⟨i, h, h1, h2, h3⟩ := info_parts info104; ⟨i, h, h2, h1, h3⟩, by decide⟩
instance : TKind Tryd.prog 105 .u8 := ⟨Tryd.underlying105⟩
theorem info105 : (Tryd.prog.info? 105).map (fun i => (i.zero, i.size, i.bytes)) = some (some (.int .u8 0), 1, 1) := by kernel_rfl
instance : TCell Tryd.prog 105 := ⟨⟨_, Tryd.underlying105, rfl⟩, let ⟨i, h, _, h2, _⟩ := info_parts info105; ⟨i, h, h2⟩⟩
instance : TElem Tryd.prog 105 (.int .u8 0) 1 := ⟨let ⟨i, h, h1, h2, h3⟩ := info_parts info105; ⟨i, h, h2, h1, h3⟩, by decide⟩
instance : TKind Tryd.prog 106 .u8 := ⟨Tryd.underlying106⟩
theorem info106 : (Tryd.prog.info? 106).map (fun i => (i.zero, i.size, i.bytes)) = some (some (.int .u8 0), 1, 1) := by kernel_rfl
instance : TCell Tryd.prog 106 := ⟨⟨_, Tryd.underlying106, rfl⟩, let ⟨i, h, _, h2, _⟩ := info_parts info106; ⟨i, h, h2⟩⟩
instance : TElem Tryd.prog 106 (.int .u8 0) 1 := ⟨let ⟨i, h, h1, h2, h3⟩ := info_parts info106; ⟨i, h, h2, h1, h3⟩, by decide⟩
theorem info107 : (Tryd.prog.info? 107).map (fun i => (i.zero, i.size, i.bytes)) = some (some (.nilFunc), 1, 8) := by kernel_rfl
instance : TCell Tryd.prog 107 := ⟨⟨_, Tryd.underlying107, rfl⟩, let ⟨i, h, _, h2, _⟩ := info_parts info107; ⟨i, h, h2⟩⟩
instance : TElem Tryd.prog 107 (.nilFunc) 8 := ⟨let ⟨i, h, h1, h2, h3⟩ := info_parts info107; ⟨i, h, h2, h1, h3⟩, by decide⟩
instance : TKind Tryd.prog 108 .i32 := ⟨Tryd.underlying108⟩
theorem info108 : (Tryd.prog.info? 108).map (fun i => (i.zero, i.size, i.bytes)) = some (some (.int .i32 0), 1, 4) := by kernel_rfl
instance : TCell Tryd.prog 108 := ⟨⟨_, Tryd.underlying108, rfl⟩, let ⟨i, h, _, h2, _⟩ := info_parts info108; ⟨i, h, h2⟩⟩
instance : TElem Tryd.prog 108 (.int .i32 0) 4 := ⟨let ⟨i, h, h1, h2, h3⟩ := info_parts info108; ⟨i, h, h2, h1, h3⟩, by decide⟩
instance : TKind Tryd.prog 109 .i32 := ⟨Tryd.underlying109⟩
theorem info109 : (Tryd.prog.info? 109).map (fun i => (i.zero, i.size, i.bytes)) = some (some (.int .i32 0), 1, 4) := by kernel_rfl
instance : TCell Tryd.prog 109 := ⟨⟨_, Tryd.underlying109, rfl⟩, let ⟨i, h, _, h2, _⟩ := info_parts info109; ⟨i, h, h2⟩⟩
instance : TElem Tryd.prog 109 (.int .i32 0) 4 := ⟨let ⟨i, h, h1, h2, h3⟩ := info_parts info109; ⟨i, h, h2, h1, h3⟩, by decide⟩
end Go.Proofs.YtfgnccoaebkckaaDoor
