/- Facts on the types, fields and functions of this program: by program (types.py), each by reckoning. -/
import Derived.Test.YtfjihanfiliniaaDoorVD
import Derived.Test.YtfjihanfiliniaaDoorProg
import Derived.KernelRfl
set_option maxRecDepth 100000
namespace Go.Proofs.YtfjihanfiliniaaDoor.VC
open Go Go.RowKit
theorem in2 : (Tryd.prog.info? 2).map (fun i => (i.zero, i.size, i.bytes)) = some (some (.int .i64 0), 1, 8) := by kernel_rfl
theorem sl22 : SlT Tryd.prog 22 2 (.int .i64 0) 1 8 := ⟨Tryd.underlying22, (by obtain ⟨i, h1, h2, h3, h4⟩ := info_parts in2; exact ⟨i, h1, h2, h3, h4⟩), rfl, by decide⟩
theorem in57 : (Tryd.prog.info? 57).map (fun i => (i.zero, i.size, i.bytes)) = some (some (.agg #[(.int .i64 0), (.slice none 0 0)]), 2, 32) := by kernel_rfl
theorem sl23 : SlT Tryd.prog 23 57 (.agg #[(.int .i64 0), (.slice none 0 0)]) 2 32 := ⟨Tryd.underlying23, (by obtain ⟨i, h1, h2, h3, h4⟩ := info_parts in57; exact ⟨i, h1, h2, h3, h4⟩), rfl, by decide⟩
theorem in52 : (Tryd.prog.info? 52).map (fun i => (i.zero, i.size, i.bytes)) = some (some (.agg #[(.int .i64 0), (.slice none 0 0)]), 2, 32) := by kernel_rfl
theorem sl28 : SlT Tryd.prog 28 52 (.agg #[(.int .i64 0), (.slice none 0 0)]) 2 32 := ⟨Tryd.underlying28, (by obtain ⟨i, h1, h2, h3, h4⟩ := info_parts in52; exact ⟨i, h1, h2, h3, h4⟩), rfl, by decide⟩
theorem in5 : (Tryd.prog.info? 5).map (fun i => (i.zero, i.size, i.bytes)) = some (some (.int .u8 0), 1, 1) := by kernel_rfl
theorem sl43 : SlT Tryd.prog 43 5 (.int .u8 0) 1 1 := ⟨Tryd.underlying43, (by obtain ⟨i, h1, h2, h3, h4⟩ := info_parts in5; exact ⟨i, h1, h2, h3, h4⟩), rfl, by decide⟩
theorem in3 : (Tryd.prog.info? 3).map (fun i => (i.zero, i.size, i.bytes)) = some (some (.int .i64 0), 1, 8) := by kernel_rfl
theorem sl73 : SlT Tryd.prog 73 3 (.int .i64 0) 1 8 := ⟨Tryd.underlying73, (by obtain ⟨i, h1, h2, h3, h4⟩ := info_parts in3; exact ⟨i, h1, h2, h3, h4⟩), rfl, by decide⟩
theorem va2 : VarT Tryd.prog 2 false 1 := ⟨⟨_, Tryd.underlying2, rfl⟩, (by obtain ⟨i, h1, h2, h3, h4⟩ := info_parts in2; exact ⟨i, h1, h3⟩)⟩
theorem va3 : VarT Tryd.prog 3 false 1 := ⟨⟨_, Tryd.underlying3, rfl⟩, (by obtain ⟨i, h1, h2, h3, h4⟩ := info_parts in3; exact ⟨i, h1, h3⟩)⟩
theorem va5 : VarT Tryd.prog 5 false 1 := ⟨⟨_, Tryd.underlying5, rfl⟩, (by obtain ⟨i, h1, h2, h3, h4⟩ := info_parts in5; exact ⟨i, h1, h3⟩)⟩
theorem in22 : (Tryd.prog.info? 22).map (fun i => (i.zero, i.size, i.bytes)) = some (some (.slice none 0 0), 1, 24) := by kernel_rfl
theorem va22 : VarT Tryd.prog 22 false 1 := ⟨⟨_, Tryd.underlying22, rfl⟩, (by obtain ⟨i, h1, h2, h3, h4⟩ := info_parts in22; exact ⟨i, h1, h3⟩)⟩
theorem in23 : (Tryd.prog.info? 23).map (fun i => (i.zero, i.size, i.bytes)) = some (some (.slice none 0 0), 1, 24) := by kernel_rfl
theorem va23 : VarT Tryd.prog 23 false 1 := ⟨⟨_, Tryd.underlying23, rfl⟩, (by obtain ⟨i, h1, h2, h3, h4⟩ := info_parts in23; exact ⟨i, h1, h3⟩)⟩
theorem in25 : (Tryd.prog.info? 25).map (fun i => (i.zero, i.size, i.bytes)) = some (some (.agg #[(.int .i64 0), (.slice none 0 0), (.slice none 0 0)]), 3, 56) := by kernel_rfl
theorem va25 : VarT Tryd.prog 25 true 3 := ⟨⟨_, Tryd.underlying25, rfl⟩, (by obtain ⟨i, h1, h2, h3, h4⟩ := info_parts in25; exact ⟨i, h1, h3⟩)⟩
theorem ze25 : ZeroT Tryd.prog 25 (.agg #[(.int .i64 0), (.slice none 0 0), (.slice none 0 0)]) 3 := ⟨(by obtain ⟨i, h1, h2, h3, h4⟩ := info_parts in25; exact ⟨i, h1, h2, h3⟩), rfl⟩
theorem in28 : (Tryd.prog.info? 28).map (fun i => (i.zero, i.size, i.bytes)) = some (some (.slice none 0 0), 1, 24) := by kernel_rfl
theorem va28 : VarT Tryd.prog 28 false 1 := ⟨⟨_, Tryd.underlying28, rfl⟩, (by obtain ⟨i, h1, h2, h3, h4⟩ := info_parts in28; exact ⟨i, h1, h3⟩)⟩
theorem in30 : (Tryd.prog.info? 30).map (fun i => (i.zero, i.size, i.bytes)) = some (some (.agg #[(.int .i64 0), (.slice none 0 0), (.slice none 0 0)]), 3, 56) := by kernel_rfl
theorem va30 : VarT Tryd.prog 30 true 3 := ⟨⟨_, Tryd.underlying30, rfl⟩, (by obtain ⟨i, h1, h2, h3, h4⟩ := info_parts in30; exact ⟨i, h1, h3⟩)⟩
theorem ze30 : ZeroT Tryd.prog 30 (.agg #[(.int .i64 0), (.slice none 0 0), (.slice none 0 0)]) 3 := ⟨(by obtain ⟨i, h1, h2, h3, h4⟩ := info_parts in30; exact ⟨i, h1, h2, h3⟩), rfl⟩
theorem in42 : (Tryd.prog.info? 42).map (fun i => (i.zero, i.size, i.bytes)) = some (some (.pointer none), 1, 8) := by kernel_rfl
theorem va42 : VarT Tryd.prog 42 false 1 := ⟨⟨_, Tryd.underlying42, rfl⟩, (by obtain ⟨i, h1, h2, h3, h4⟩ := info_parts in42; exact ⟨i, h1, h3⟩)⟩
theorem in43 : (Tryd.prog.info? 43).map (fun i => (i.zero, i.size, i.bytes)) = some (some (.slice none 0 0), 1, 24) := by kernel_rfl
theorem va43 : VarT Tryd.prog 43 false 1 := ⟨⟨_, Tryd.underlying43, rfl⟩, (by obtain ⟨i, h1, h2, h3, h4⟩ := info_parts in43; exact ⟨i, h1, h3⟩)⟩
theorem in45 : (Tryd.prog.info? 45).map (fun i => (i.zero, i.size, i.bytes)) = some (some (.agg #[(.pointer none), (.slice none 0 0)]), 2, 32) := by kernel_rfl
theorem va45 : VarT Tryd.prog 45 true 2 := ⟨⟨_, Tryd.underlying45, rfl⟩, (by obtain ⟨i, h1, h2, h3, h4⟩ := info_parts in45; exact ⟨i, h1, h3⟩)⟩
theorem ze45 : ZeroT Tryd.prog 45 (.agg #[(.pointer none), (.slice none 0 0)]) 2 := ⟨(by obtain ⟨i, h1, h2, h3, h4⟩ := info_parts in45; exact ⟨i, h1, h2, h3⟩), rfl⟩
theorem va52 : VarT Tryd.prog 52 true 2 := ⟨⟨_, Tryd.underlying52, rfl⟩, (by obtain ⟨i, h1, h2, h3, h4⟩ := info_parts in52; exact ⟨i, h1, h3⟩)⟩
theorem ze52 : ZeroT Tryd.prog 52 (.agg #[(.int .i64 0), (.slice none 0 0)]) 2 := ⟨(by obtain ⟨i, h1, h2, h3, h4⟩ := info_parts in52; exact ⟨i, h1, h2, h3⟩), rfl⟩
theorem va57 : VarT Tryd.prog 57 true 2 := ⟨⟨_, Tryd.underlying57, rfl⟩, (by obtain ⟨i, h1, h2, h3, h4⟩ := info_parts in57; exact ⟨i, h1, h3⟩)⟩
theorem ze57 : ZeroT Tryd.prog 57 (.agg #[(.int .i64 0), (.slice none 0 0)]) 2 := ⟨(by obtain ⟨i, h1, h2, h3, h4⟩ := info_parts in57; exact ⟨i, h1, h2, h3⟩), rfl⟩
theorem in76 : (Tryd.prog.info? 76).map (fun i => (i.zero, i.size, i.bytes)) = some (some (.agg #[(.int .u8 0), (.int .u8 0), (.int .u8 0), (.int .u8 0), (.int .u8 0), (.int .u8 0), (.int .u8 0), (.int .u8 0), (.int .u8 0), (.int .u8 0), (.int .u8 0), (.int .u8 0), (.int .u8 0), (.int .u8 0), (.int .u8 0), (.int .u8 0), (.int .u8 0), (.int .u8 0), (.int .u8 0), (.int .u8 0), (.int .u8 0), (.int .u8 0), (.int .u8 0), (.int .u8 0)]), 24, 24) := by kernel_rfl
theorem va76 : VarT Tryd.prog 76 true 24 := ⟨⟨_, Tryd.underlying76, rfl⟩, (by obtain ⟨i, h1, h2, h3, h4⟩ := info_parts in76; exact ⟨i, h1, h3⟩)⟩
theorem ze76 : ZeroT Tryd.prog 76 (.agg #[(.int .u8 0), (.int .u8 0), (.int .u8 0), (.int .u8 0), (.int .u8 0), (.int .u8 0), (.int .u8 0), (.int .u8 0), (.int .u8 0), (.int .u8 0), (.int .u8 0), (.int .u8 0), (.int .u8 0), (.int .u8 0), (.int .u8 0), (.int .u8 0), (.int .u8 0), (.int .u8 0), (.int .u8 0), (.int .u8 0), (.int .u8 0), (.int .u8 0), (.int .u8 0), (.int .u8 0)]) 24 := ⟨(by obtain ⟨i, h1, h2, h3, h4⟩ := info_parts in76; exact ⟨i, h1, h2, h3⟩), rfl⟩
theorem in77 : (Tryd.prog.info? 77).map (fun i => (i.zero, i.size, i.bytes)) = some (some (.int .u64 0), 1, 8) := by kernel_rfl
theorem va77 : VarT Tryd.prog 77 false 1 := ⟨⟨_, Tryd.underlying77, rfl⟩, (by obtain ⟨i, h1, h2, h3, h4⟩ := info_parts in77; exact ⟨i, h1, h3⟩)⟩
theorem in84 : (Tryd.prog.info? 84).map (fun i => (i.zero, i.size, i.bytes)) = some (some (.agg #[(.int .u64 0), (.int .u64 0), (.int .u64 0), (.int .u64 0), (.int .u64 0), (.int .u64 0), (.int .u64 0), (.int .u64 0), (.int .u64 0), (.int .u64 0), (.int .u64 0), (.int .u64 0), (.int .u64 0), (.int .u64 0), (.int .u64 0), (.int .u64 0), (.int .u64 0), (.int .u64 0), (.int .u64 0), (.int .u64 0)]), 20, 160) := by kernel_rfl
theorem va84 : VarT Tryd.prog 84 true 20 := ⟨⟨_, Tryd.underlying84, rfl⟩, (by obtain ⟨i, h1, h2, h3, h4⟩ := info_parts in84; exact ⟨i, h1, h3⟩)⟩
theorem in86 : (Tryd.prog.info? 86).map (fun i => (i.zero, i.size, i.bytes)) = some (some (.agg #[(.int .u8 0), (.int .u8 0), (.int .u8 0), (.int .u8 0), (.int .u8 0), (.int .u8 0), (.int .u8 0), (.int .u8 0), (.int .u8 0), (.int .u8 0), (.int .u8 0), (.int .u8 0), (.int .u8 0), (.int .u8 0), (.int .u8 0), (.int .u8 0), (.int .u8 0), (.int .u8 0), (.int .u8 0), (.int .u8 0), (.int .u8 0), (.int .u8 0), (.int .u8 0), (.int .u8 0), (.int .u8 0), (.int .u8 0), (.int .u8 0), (.int .u8 0), (.int .u8 0), (.int .u8 0), (.int .u8 0), (.int .u8 0), (.int .u8 0), (.int .u8 0), (.int .u8 0), (.int .u8 0), (.int .u8 0), (.int .u8 0), (.int .u8 0), (.int .u8 0), (.int .u8 0), (.int .u8 0), (.int .u8 0), (.int .u8 0), (.int .u8 0), (.int .u8 0), (.int .u8 0), (.int .u8 0), (.int .u8 0), (.int .u8 0), (.int .u8 0), (.int .u8 0), (.int .u8 0), (.int .u8 0), (.int .u8 0), (.int .u8 0), (.int .u8 0), (.int .u8 0), (.int .u8 0), (.int .u8 0), (.int .u8 0), (.int .u8 0), (.int .u8 0), (.int .u8 0), (.int .u8 0)]), 65, 65) := by kernel_rfl
theorem va86 : VarT Tryd.prog 86 true 65 := ⟨⟨_, Tryd.underlying86, rfl⟩, (by obtain ⟨i, h1, h2, h3, h4⟩ := info_parts in86; exact ⟨i, h1, h3⟩)⟩
theorem ze86 : ZeroT Tryd.prog 86 (.agg #[(.int .u8 0), (.int .u8 0), (.int .u8 0), (.int .u8 0), (.int .u8 0), (.int .u8 0), (.int .u8 0), (.int .u8 0), (.int .u8 0), (.int .u8 0), (.int .u8 0), (.int .u8 0), (.int .u8 0), (.int .u8 0), (.int .u8 0), (.int .u8 0), (.int .u8 0), (.int .u8 0), (.int .u8 0), (.int .u8 0), (.int .u8 0), (.int .u8 0), (.int .u8 0), (.int .u8 0), (.int .u8 0), (.int .u8 0), (.int .u8 0), (.int .u8 0), (.int .u8 0), (.int .u8 0), (.int .u8 0), (.int .u8 0), (.int .u8 0), (.int .u8 0), (.int .u8 0), (.int .u8 0), (.int .u8 0), (.int .u8 0), (.int .u8 0), (.int .u8 0), (.int .u8 0), (.int .u8 0), (.int .u8 0), (.int .u8 0), (.int .u8 0), (.int .u8 0), (.int .u8 0), (.int .u8 0), (.int .u8 0), (.int .u8 0), (.int .u8 0), (.int .u8 0), (.int .u8 0), (.int .u8 0), (.int .u8 0), (.int .u8 0), (.int .u8 0), (.int .u8 0), (.int .u8 0), (.int .u8 0), (.int .u8 0), (.int .u8 0), (.int .u8 0), (.int .u8 0), (.int .u8 0)]) 65 := ⟨(by obtain ⟨i, h1, h2, h3, h4⟩ := info_parts in86; exact ⟨i, h1, h2, h3⟩), rfl⟩
theorem in91 : (Tryd.prog.info? 91).map (fun i => (i.zero, i.size, i.bytes)) = some (some (.agg #[(.int .u8 0), (.int .u8 0), (.int .u8 0), (.int .u8 0), (.int .u8 0), (.int .u8 0), (.int .u8 0), (.int .u8 0), (.int .u8 0), (.int .u8 0), (.int .u8 0), (.int .u8 0), (.int .u8 0), (.int .u8 0), (.int .u8 0), (.int .u8 0), (.int .u8 0), (.int .u8 0), (.int .u8 0), (.int .u8 0), (.int .u8 0), (.int .u8 0), (.int .u8 0), (.int .u8 0), (.int .u8 0), (.int .u8 0), (.int .u8 0), (.int .u8 0), (.int .u8 0), (.int .u8 0), (.int .u8 0), (.int .u8 0)]), 32, 32) := by kernel_rfl
theorem va91 : VarT Tryd.prog 91 true 32 := ⟨⟨_, Tryd.underlying91, rfl⟩, (by obtain ⟨i, h1, h2, h3, h4⟩ := info_parts in91; exact ⟨i, h1, h3⟩)⟩
theorem in92 : (Tryd.prog.info? 92).map (fun i => (i.zero, i.size, i.bytes)) = some (some (.agg #[(.int .u8 0), (.int .u8 0), (.int .u8 0), (.int .u8 0), (.int .u8 0), (.int .u8 0), (.int .u8 0), (.int .u8 0), (.int .u8 0), (.int .u8 0), (.int .u8 0), (.int .u8 0), (.int .u8 0), (.int .u8 0), (.int .u8 0), (.int .u8 0), (.int .u8 0), (.int .u8 0), (.int .u8 0), (.int .u8 0), (.int .u8 0), (.int .u8 0), (.int .u8 0), (.int .u8 0), (.int .u8 0), (.int .u8 0), (.int .u8 0), (.int .u8 0), (.int .u8 0), (.int .u8 0), (.int .u8 0), (.int .u8 0), (.int .u8 0), (.int .u8 0), (.int .u8 0), (.int .u8 0), (.int .u8 0), (.int .u8 0), (.int .u8 0), (.int .u8 0), (.int .u8 0), (.int .u8 0), (.int .u8 0), (.int .u8 0), (.int .u8 0), (.int .u8 0), (.int .u8 0), (.int .u8 0), (.int .u8 0), (.int .u8 0), (.int .u8 0), (.int .u8 0), (.int .u8 0), (.int .u8 0), (.int .u8 0), (.int .u8 0), (.int .u8 0), (.int .u8 0), (.int .u8 0), (.int .u8 0), (.int .u8 0), (.int .u8 0), (.int .u8 0), (.int .u8 0)]), 64, 64) := by kernel_rfl
theorem va92 : VarT Tryd.prog 92 true 64 := ⟨⟨_, Tryd.underlying92, rfl⟩, (by obtain ⟨i, h1, h2, h3, h4⟩ := info_parts in92; exact ⟨i, h1, h3⟩)⟩
theorem fl25_0 : FldT Tryd.prog 25 0 0 1 := ⟨⟨_, _, Tryd.underlying25, rfl, rfl, (by obtain ⟨i, h1, h2, h3, h4⟩ := info_parts in2; exact ⟨i, h1, h3⟩)⟩, by decide⟩
theorem fl25_1 : FldT Tryd.prog 25 1 1 1 := ⟨⟨_, _, Tryd.underlying25, rfl, rfl, (by obtain ⟨i, h1, h2, h3, h4⟩ := info_parts in22; exact ⟨i, h1, h3⟩)⟩, by decide⟩
theorem fl25_2 : FldT Tryd.prog 25 2 2 1 := ⟨⟨_, _, Tryd.underlying25, rfl, rfl, (by obtain ⟨i, h1, h2, h3, h4⟩ := info_parts in23; exact ⟨i, h1, h3⟩)⟩, by decide⟩
theorem fl30_0 : FldT Tryd.prog 30 0 0 1 := ⟨⟨_, _, Tryd.underlying30, rfl, rfl, (by obtain ⟨i, h1, h2, h3, h4⟩ := info_parts in2; exact ⟨i, h1, h3⟩)⟩, by decide⟩
theorem fl30_1 : FldT Tryd.prog 30 1 1 1 := ⟨⟨_, _, Tryd.underlying30, rfl, rfl, (by obtain ⟨i, h1, h2, h3, h4⟩ := info_parts in22; exact ⟨i, h1, h3⟩)⟩, by decide⟩
theorem fl30_2 : FldT Tryd.prog 30 2 2 1 := ⟨⟨_, _, Tryd.underlying30, rfl, rfl, (by obtain ⟨i, h1, h2, h3, h4⟩ := info_parts in28; exact ⟨i, h1, h3⟩)⟩, by decide⟩
theorem fl45_0 : FldT Tryd.prog 45 0 0 1 := ⟨⟨_, _, Tryd.underlying45, rfl, rfl, (by obtain ⟨i, h1, h2, h3, h4⟩ := info_parts in42; exact ⟨i, h1, h3⟩)⟩, by decide⟩
theorem fl45_1 : FldT Tryd.prog 45 1 1 1 := ⟨⟨_, _, Tryd.underlying45, rfl, rfl, (by obtain ⟨i, h1, h2, h3, h4⟩ := info_parts in43; exact ⟨i, h1, h3⟩)⟩, by decide⟩
theorem fl52_0 : FldT Tryd.prog 52 0 0 1 := ⟨⟨_, _, Tryd.underlying52, rfl, rfl, (by obtain ⟨i, h1, h2, h3, h4⟩ := info_parts in2; exact ⟨i, h1, h3⟩)⟩, by decide⟩
theorem fl52_1 : FldT Tryd.prog 52 1 1 1 := ⟨⟨_, _, Tryd.underlying52, rfl, rfl, (by obtain ⟨i, h1, h2, h3, h4⟩ := info_parts in22; exact ⟨i, h1, h3⟩)⟩, by decide⟩
theorem fl57_0 : FldT Tryd.prog 57 0 0 1 := ⟨⟨_, _, Tryd.underlying57, rfl, rfl, (by obtain ⟨i, h1, h2, h3, h4⟩ := info_parts in2; exact ⟨i, h1, h3⟩)⟩, by decide⟩
theorem fl57_1 : FldT Tryd.prog 57 1 1 1 := ⟨⟨_, _, Tryd.underlying57, rfl, rfl, (by obtain ⟨i, h1, h2, h3, h4⟩ := info_parts in22; exact ⟨i, h1, h3⟩)⟩, by decide⟩
theorem fn2 : FnT Tryd.prog 2 := FnT.of Tryd.func2 (by decide +kernel) rfl
theorem fn3 : FnT Tryd.prog 3 := FnT.of Tryd.func3 (by decide +kernel) rfl
theorem fn4 : FnT Tryd.prog 4 := FnT.of Tryd.func4 (by decide +kernel) rfl
theorem fn5 : FnT Tryd.prog 5 := FnT.of Tryd.func5 (by decide +kernel) rfl
theorem fn6 : FnT Tryd.prog 6 := FnT.of Tryd.func6 (by decide +kernel) rfl
theorem fn7 : FnT Tryd.prog 7 := FnT.of Tryd.func7 (by decide +kernel) rfl
theorem fn8 : FnT Tryd.prog 8 := FnT.of Tryd.func8 (by decide +kernel) rfl
theorem fn9 : FnT Tryd.prog 9 := FnT.of Tryd.func9 (by decide +kernel) rfl
theorem fn10 : FnT Tryd.prog 10 := FnT.of Tryd.func10 (by decide +kernel) rfl
theorem fn11 : FnT Tryd.prog 11 := FnT.of Tryd.func11 (by decide +kernel) rfl
theorem fn12 : FnT Tryd.prog 12 := FnT.of Tryd.func12 (by decide +kernel) rfl
theorem fn13 : FnT Tryd.prog 13 := FnT.of Tryd.func13 (by decide +kernel) rfl
theorem fn14 : FnT Tryd.prog 14 := FnT.of Tryd.func14 (by decide +kernel) rfl
theorem fn15 : FnT Tryd.prog 15 := FnT.of Tryd.func15 (by decide +kernel) rfl
theorem fn16 : FnT Tryd.prog 16 := FnT.of Tryd.func16 (by decide +kernel) rfl
theorem fn17 : FnT Tryd.prog 17 := FnT.of Tryd.func17 (by decide +kernel) rfl
theorem fn18 : FnT Tryd.prog 18 := FnT.of Tryd.func18 (by decide +kernel) rfl
theorem fn19 : FnT Tryd.prog 19 := FnT.of Tryd.func19 (by decide +kernel) rfl
theorem fn20 : FnT Tryd.prog 20 := FnT.of Tryd.func20 (by decide +kernel) rfl
theorem fn21 : FnT Tryd.prog 21 := FnT.of Tryd.func21 (by decide +kernel) rfl
theorem fn22 : FnT Tryd.prog 22 := FnT.of Tryd.func22 (by decide +kernel) rfl
theorem fn23 : FnT Tryd.prog 23 := FnT.of Tryd.func23 (by decide +kernel) rfl
theorem fn24 : FnT Tryd.prog 24 := FnT.of Tryd.func24 (by decide +kernel) rfl
theorem fn25 : FnT Tryd.prog 25 := FnT.of Tryd.func25 (by decide +kernel) rfl
theorem fn26 : FnT Tryd.prog 26 := FnT.of Tryd.func26 (by decide +kernel) rfl
theorem fn27 : FnT Tryd.prog 27 := FnT.of Tryd.func27 (by decide +kernel) rfl
theorem fn28 : FnT Tryd.prog 28 := FnT.of Tryd.func28 (by decide +kernel) rfl
theorem fn29 : FnT Tryd.prog 29 := FnT.of Tryd.func29 (by decide +kernel) rfl
theorem fn30 : FnT Tryd.prog 30 := FnT.of Tryd.func30 (by decide +kernel) rfl
theorem fn31 : FnT Tryd.prog 31 := FnT.of Tryd.func31 (by decide +kernel) rfl
theorem fn32 : FnT Tryd.prog 32 := FnT.of Tryd.func32 (by decide +kernel) rfl
theorem fn33 : FnT Tryd.prog 33 := FnT.of Tryd.func33 (by decide +kernel) rfl
theorem fn34 : FnT Tryd.prog 34 := FnT.of Tryd.func34 (by decide +kernel) rfl
theorem fn35 : FnT Tryd.prog 35 := FnT.of Tryd.func35 (by decide +kernel) rfl
theorem fn36 : FnT Tryd.prog 36 := FnT.of Tryd.func36 (by decide +kernel) rfl
theorem fn37 : FnT Tryd.prog 37 := FnT.of Tryd.func37 (by decide +kernel) rfl
theorem fn39 : FnT Tryd.prog 39 := FnT.of Tryd.func39 (by decide +kernel) rfl
theorem fn40 : FnT Tryd.prog 40 := FnT.of Tryd.func40 (by decide +kernel) rfl
theorem fn41 : FnT Tryd.prog 41 := FnT.of Tryd.func41 (by decide +kernel) rfl
theorem fn42 : FnT Tryd.prog 42 := FnT.of Tryd.func42 (by decide +kernel) rfl
theorem fn43 : FnT Tryd.prog 43 := FnT.of Tryd.func43 (by decide +kernel) rfl
theorem fn44 : FnT Tryd.prog 44 := FnT.of Tryd.func44 (by decide +kernel) rfl
theorem fn45 : FnT Tryd.prog 45 := FnT.of Tryd.func45 (by decide +kernel) rfl
theorem fn46 : FnT Tryd.prog 46 := FnT.of Tryd.func46 (by decide +kernel) rfl
theorem fn47 : FnT Tryd.prog 47 := FnT.of Tryd.func47 (by decide +kernel) rfl
theorem fn48 : FnT Tryd.prog 48 := FnT.of Tryd.func48 (by decide +kernel) rfl
theorem fn49 : FnT Tryd.prog 49 := FnT.of Tryd.func49 (by decide +kernel) rfl
theorem fn50 : FnT Tryd.prog 50 := FnT.of Tryd.func50 (by decide +kernel) rfl
theorem fn51 : FnT Tryd.prog 51 := FnT.of Tryd.func51 (by decide +kernel) rfl
theorem fn52 : FnT Tryd.prog 52 := FnT.of Tryd.func52 (by decide +kernel) rfl
theorem fn76 : FnT Tryd.prog 76 := FnT.of Tryd.func76 (by decide +kernel) rfl
theorem mixed : Tryd.prog.follows .mixedOrders = true := by kernel_rfl
end Go.Proofs.YtfjihanfiliniaaDoor.VC
