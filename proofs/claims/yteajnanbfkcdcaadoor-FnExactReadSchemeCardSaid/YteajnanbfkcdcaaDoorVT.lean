/- Facts on the types, fields and functions of this program: by program (types.py), each by reckoning. -/
import Derived.Test.YteajnanbfkcdcaaDoorVD
import Derived.Test.YteajnanbfkcdcaaDoorProg
import Derived.KernelRfl
set_option maxRecDepth 100000
namespace Go.Proofs.YteajnanbfkcdcaaDoor.VC
open Go Go.RowKit
theorem in2 : (Tryd.prog.info? 2).map (fun i => (i.zero, i.size, i.bytes)) = some (some (.int .i64 0), 1, 8) := by kernel_rfl
theorem sl22 : SlT Tryd.prog 22 2 (.int .i64 0) 1 8 := ⟨Tryd.underlying22, (by obtain ⟨i, h1, h2, h3, h4⟩ := info_parts in2; exact ⟨i, h1, h2, h3, h4⟩), rfl, by decide⟩
theorem in22 : (Tryd.prog.info? 22).map (fun i => (i.zero, i.size, i.bytes)) = some (some (.slice none 0 0), 1, 24) := by kernel_rfl
theorem sl23 : SlT Tryd.prog 23 22 (.slice none 0 0) 1 24 := ⟨Tryd.underlying23, (by obtain ⟨i, h1, h2, h3, h4⟩ := info_parts in22; exact ⟨i, h1, h2, h3, h4⟩), rfl, by decide⟩
theorem in9 : (Tryd.prog.info? 9).map (fun i => (i.zero, i.size, i.bytes)) = some (some (.string ⟨#[]⟩), 1, 16) := by kernel_rfl
theorem sl33 : SlT Tryd.prog 33 9 (.string ⟨#[]⟩) 1 16 := ⟨Tryd.underlying33, (by obtain ⟨i, h1, h2, h3, h4⟩ := info_parts in9; exact ⟨i, h1, h2, h3, h4⟩), rfl, by decide⟩
theorem in5 : (Tryd.prog.info? 5).map (fun i => (i.zero, i.size, i.bytes)) = some (some (.int .u8 0), 1, 1) := by kernel_rfl
theorem sl72 : SlT Tryd.prog 72 5 (.int .u8 0) 1 1 := ⟨Tryd.underlying72, (by obtain ⟨i, h1, h2, h3, h4⟩ := info_parts in5; exact ⟨i, h1, h2, h3, h4⟩), rfl, by decide⟩
theorem bd25_0_1 (x0 : Int) (x1 : Int) : Tryd.prog.built 25 [(0, .int .i64 x0), (1, .int .i64 x1)] = some #[.int .i64 x0, .int .i64 x1, .slice none 0 0] := by kernel_rfl
theorem bd100_0_1 (x0 : Int) (x1 : Int) : Tryd.prog.built 100 [(0, .int .u8 x0), (1, .int .u8 x1)] = some #[.int .u8 x0, .int .u8 x1] := by kernel_rfl
theorem va2 : VarT Tryd.prog 2 false 1 := ⟨⟨_, Tryd.underlying2, rfl⟩, (by obtain ⟨i, h1, h2, h3, h4⟩ := info_parts in2; exact ⟨i, h1, h3⟩)⟩
theorem ze2 : ZeroT Tryd.prog 2 (.int .i64 0) 1 := ⟨(by obtain ⟨i, h1, h2, h3, h4⟩ := info_parts in2; exact ⟨i, h1, h2, h3⟩), rfl⟩
theorem in3 : (Tryd.prog.info? 3).map (fun i => (i.zero, i.size, i.bytes)) = some (some (.int .i64 0), 1, 8) := by kernel_rfl
theorem va3 : VarT Tryd.prog 3 false 1 := ⟨⟨_, Tryd.underlying3, rfl⟩, (by obtain ⟨i, h1, h2, h3, h4⟩ := info_parts in3; exact ⟨i, h1, h3⟩)⟩
theorem va5 : VarT Tryd.prog 5 false 1 := ⟨⟨_, Tryd.underlying5, rfl⟩, (by obtain ⟨i, h1, h2, h3, h4⟩ := info_parts in5; exact ⟨i, h1, h3⟩)⟩
theorem va9 : VarT Tryd.prog 9 false 1 := ⟨⟨_, Tryd.underlying9, rfl⟩, (by obtain ⟨i, h1, h2, h3, h4⟩ := info_parts in9; exact ⟨i, h1, h3⟩)⟩
theorem va22 : VarT Tryd.prog 22 false 1 := ⟨⟨_, Tryd.underlying22, rfl⟩, (by obtain ⟨i, h1, h2, h3, h4⟩ := info_parts in22; exact ⟨i, h1, h3⟩)⟩
theorem in23 : (Tryd.prog.info? 23).map (fun i => (i.zero, i.size, i.bytes)) = some (some (.slice none 0 0), 1, 24) := by kernel_rfl
theorem va23 : VarT Tryd.prog 23 false 1 := ⟨⟨_, Tryd.underlying23, rfl⟩, (by obtain ⟨i, h1, h2, h3, h4⟩ := info_parts in23; exact ⟨i, h1, h3⟩)⟩
theorem in25 : (Tryd.prog.info? 25).map (fun i => (i.zero, i.size, i.bytes)) = some (some (.agg #[(.int .i64 0), (.int .i64 0), (.slice none 0 0)]), 3, 40) := by kernel_rfl
theorem va25 : VarT Tryd.prog 25 true 3 := ⟨⟨_, Tryd.underlying25, rfl⟩, (by obtain ⟨i, h1, h2, h3, h4⟩ := info_parts in25; exact ⟨i, h1, h3⟩)⟩
theorem ze25 : ZeroT Tryd.prog 25 (.agg #[(.int .i64 0), (.int .i64 0), (.slice none 0 0)]) 3 := ⟨(by obtain ⟨i, h1, h2, h3, h4⟩ := info_parts in25; exact ⟨i, h1, h2, h3⟩), rfl⟩
theorem in27 : (Tryd.prog.info? 27).map (fun i => (i.zero, i.size, i.bytes)) = some (some (.agg #[(.int .i64 0), (.slice none 0 0), (.int .i64 0), (.int .i64 0), (.slice none 0 0)]), 5, 72) := by kernel_rfl
theorem va27 : VarT Tryd.prog 27 true 5 := ⟨⟨_, Tryd.underlying27, rfl⟩, (by obtain ⟨i, h1, h2, h3, h4⟩ := info_parts in27; exact ⟨i, h1, h3⟩)⟩
theorem ze27 : ZeroT Tryd.prog 27 (.agg #[(.int .i64 0), (.slice none 0 0), (.int .i64 0), (.int .i64 0), (.slice none 0 0)]) 5 := ⟨(by obtain ⟨i, h1, h2, h3, h4⟩ := info_parts in27; exact ⟨i, h1, h2, h3⟩), rfl⟩
theorem in55 : (Tryd.prog.info? 55).map (fun i => (i.zero, i.size, i.bytes)) = some (some .nilIface, 1, 16) := by kernel_rfl
theorem va55 : VarT Tryd.prog 55 false 1 := ⟨⟨_, Tryd.underlying55, rfl⟩, (by obtain ⟨i, h1, h2, h3, h4⟩ := info_parts in55; exact ⟨i, h1, h3⟩)⟩
theorem in78 : (Tryd.prog.info? 78).map (fun i => (i.zero, i.size, i.bytes)) = some (some (.int .u64 0), 1, 8) := by kernel_rfl
theorem va78 : VarT Tryd.prog 78 false 1 := ⟨⟨_, Tryd.underlying78, rfl⟩, (by obtain ⟨i, h1, h2, h3, h4⟩ := info_parts in78; exact ⟨i, h1, h3⟩)⟩
theorem in94 : (Tryd.prog.info? 94).map (fun i => (i.zero, i.size, i.bytes)) = some (some (.agg #[(.string ⟨#[]⟩), (.string ⟨#[]⟩), .nilIface]), 3, 48) := by kernel_rfl
theorem va94 : VarT Tryd.prog 94 true 3 := ⟨⟨_, Tryd.underlying94, rfl⟩, (by obtain ⟨i, h1, h2, h3, h4⟩ := info_parts in94; exact ⟨i, h1, h3⟩)⟩
theorem ze94 : ZeroT Tryd.prog 94 (.agg #[(.string ⟨#[]⟩), (.string ⟨#[]⟩), .nilIface]) 3 := ⟨(by obtain ⟨i, h1, h2, h3, h4⟩ := info_parts in94; exact ⟨i, h1, h2, h3⟩), rfl⟩
theorem in100 : (Tryd.prog.info? 100).map (fun i => (i.zero, i.size, i.bytes)) = some (some (.agg #[(.int .u8 0), (.int .u8 0)]), 2, 2) := by kernel_rfl
theorem va100 : VarT Tryd.prog 100 true 2 := ⟨⟨_, Tryd.underlying100, rfl⟩, (by obtain ⟨i, h1, h2, h3, h4⟩ := info_parts in100; exact ⟨i, h1, h3⟩)⟩
theorem ze100 : ZeroT Tryd.prog 100 (.agg #[(.int .u8 0), (.int .u8 0)]) 2 := ⟨(by obtain ⟨i, h1, h2, h3, h4⟩ := info_parts in100; exact ⟨i, h1, h2, h3⟩), rfl⟩
theorem in101 : (Tryd.prog.info? 101).map (fun i => (i.zero, i.size, i.bytes)) = some (some (.agg #[(.int .u8 0), (.int .u8 0), (.int .u8 0), (.int .u8 0), (.int .u8 0), (.int .u8 0), (.int .u8 0), (.int .u8 0), (.int .u8 0), (.int .u8 0), (.int .u8 0), (.int .u8 0), (.int .u8 0), (.int .u8 0), (.int .u8 0), (.int .u8 0), (.int .u8 0), (.int .u8 0), (.int .u8 0), (.int .u8 0), (.int .u8 0), (.int .u8 0), (.int .u8 0), (.int .u8 0), (.int .u8 0), (.int .u8 0), (.int .u8 0), (.int .u8 0), (.int .u8 0), (.int .u8 0), (.int .u8 0), (.int .u8 0)]), 32, 32) := by kernel_rfl
theorem va101 : VarT Tryd.prog 101 true 32 := ⟨⟨_, Tryd.underlying101, rfl⟩, (by obtain ⟨i, h1, h2, h3, h4⟩ := info_parts in101; exact ⟨i, h1, h3⟩)⟩
theorem in108 : (Tryd.prog.info? 108).map (fun i => (i.zero, i.size, i.bytes)) = some (some (.agg #[(.string ⟨#[]⟩)]), 1, 16) := by kernel_rfl
theorem va108 : VarT Tryd.prog 108 true 1 := ⟨⟨_, Tryd.underlying108, rfl⟩, (by obtain ⟨i, h1, h2, h3, h4⟩ := info_parts in108; exact ⟨i, h1, h3⟩)⟩
theorem ze108 : ZeroT Tryd.prog 108 (.agg #[(.string ⟨#[]⟩)]) 1 := ⟨(by obtain ⟨i, h1, h2, h3, h4⟩ := info_parts in108; exact ⟨i, h1, h2, h3⟩), rfl⟩
theorem in109 : (Tryd.prog.info? 109).map (fun i => (i.zero, i.size, i.bytes)) = some (some (.agg #[(.int .u8 0), (.int .u8 0), (.int .u8 0), (.int .u8 0), (.int .u8 0), (.int .u8 0), (.int .u8 0), (.int .u8 0), (.int .u8 0), (.int .u8 0), (.int .u8 0), (.int .u8 0), (.int .u8 0), (.int .u8 0), (.int .u8 0), (.int .u8 0), (.int .u8 0), (.int .u8 0), (.int .u8 0), (.int .u8 0), (.int .u8 0), (.int .u8 0), (.int .u8 0), (.int .u8 0)]), 24, 24) := by kernel_rfl
theorem va109 : VarT Tryd.prog 109 true 24 := ⟨⟨_, Tryd.underlying109, rfl⟩, (by obtain ⟨i, h1, h2, h3, h4⟩ := info_parts in109; exact ⟨i, h1, h3⟩)⟩
theorem ze109 : ZeroT Tryd.prog 109 (.agg #[(.int .u8 0), (.int .u8 0), (.int .u8 0), (.int .u8 0), (.int .u8 0), (.int .u8 0), (.int .u8 0), (.int .u8 0), (.int .u8 0), (.int .u8 0), (.int .u8 0), (.int .u8 0), (.int .u8 0), (.int .u8 0), (.int .u8 0), (.int .u8 0), (.int .u8 0), (.int .u8 0), (.int .u8 0), (.int .u8 0), (.int .u8 0), (.int .u8 0), (.int .u8 0), (.int .u8 0)]) 24 := ⟨(by obtain ⟨i, h1, h2, h3, h4⟩ := info_parts in109; exact ⟨i, h1, h2, h3⟩), rfl⟩
theorem in115 : (Tryd.prog.info? 115).map (fun i => (i.zero, i.size, i.bytes)) = some (some (.agg #[(.int .u64 0), (.int .u64 0), (.int .u64 0), (.int .u64 0), (.int .u64 0), (.int .u64 0), (.int .u64 0), (.int .u64 0), (.int .u64 0), (.int .u64 0), (.int .u64 0), (.int .u64 0), (.int .u64 0), (.int .u64 0), (.int .u64 0), (.int .u64 0), (.int .u64 0), (.int .u64 0), (.int .u64 0), (.int .u64 0)]), 20, 160) := by kernel_rfl
theorem va115 : VarT Tryd.prog 115 true 20 := ⟨⟨_, Tryd.underlying115, rfl⟩, (by obtain ⟨i, h1, h2, h3, h4⟩ := info_parts in115; exact ⟨i, h1, h3⟩)⟩
theorem in116 : (Tryd.prog.info? 116).map (fun i => (i.zero, i.size, i.bytes)) = some (some (.agg #[(.int .u8 0), (.int .u8 0), (.int .u8 0), (.int .u8 0), (.int .u8 0), (.int .u8 0), (.int .u8 0), (.int .u8 0), (.int .u8 0), (.int .u8 0), (.int .u8 0), (.int .u8 0), (.int .u8 0), (.int .u8 0), (.int .u8 0), (.int .u8 0), (.int .u8 0), (.int .u8 0), (.int .u8 0), (.int .u8 0), (.int .u8 0), (.int .u8 0), (.int .u8 0), (.int .u8 0), (.int .u8 0), (.int .u8 0), (.int .u8 0), (.int .u8 0), (.int .u8 0), (.int .u8 0), (.int .u8 0), (.int .u8 0), (.int .u8 0), (.int .u8 0), (.int .u8 0), (.int .u8 0), (.int .u8 0), (.int .u8 0), (.int .u8 0), (.int .u8 0), (.int .u8 0), (.int .u8 0), (.int .u8 0), (.int .u8 0), (.int .u8 0), (.int .u8 0), (.int .u8 0), (.int .u8 0), (.int .u8 0), (.int .u8 0), (.int .u8 0), (.int .u8 0), (.int .u8 0), (.int .u8 0), (.int .u8 0), (.int .u8 0), (.int .u8 0), (.int .u8 0), (.int .u8 0), (.int .u8 0), (.int .u8 0), (.int .u8 0), (.int .u8 0), (.int .u8 0), (.int .u8 0)]), 65, 65) := by kernel_rfl
theorem va116 : VarT Tryd.prog 116 true 65 := ⟨⟨_, Tryd.underlying116, rfl⟩, (by obtain ⟨i, h1, h2, h3, h4⟩ := info_parts in116; exact ⟨i, h1, h3⟩)⟩
theorem ze116 : ZeroT Tryd.prog 116 (.agg #[(.int .u8 0), (.int .u8 0), (.int .u8 0), (.int .u8 0), (.int .u8 0), (.int .u8 0), (.int .u8 0), (.int .u8 0), (.int .u8 0), (.int .u8 0), (.int .u8 0), (.int .u8 0), (.int .u8 0), (.int .u8 0), (.int .u8 0), (.int .u8 0), (.int .u8 0), (.int .u8 0), (.int .u8 0), (.int .u8 0), (.int .u8 0), (.int .u8 0), (.int .u8 0), (.int .u8 0), (.int .u8 0), (.int .u8 0), (.int .u8 0), (.int .u8 0), (.int .u8 0), (.int .u8 0), (.int .u8 0), (.int .u8 0), (.int .u8 0), (.int .u8 0), (.int .u8 0), (.int .u8 0), (.int .u8 0), (.int .u8 0), (.int .u8 0), (.int .u8 0), (.int .u8 0), (.int .u8 0), (.int .u8 0), (.int .u8 0), (.int .u8 0), (.int .u8 0), (.int .u8 0), (.int .u8 0), (.int .u8 0), (.int .u8 0), (.int .u8 0), (.int .u8 0), (.int .u8 0), (.int .u8 0), (.int .u8 0), (.int .u8 0), (.int .u8 0), (.int .u8 0), (.int .u8 0), (.int .u8 0), (.int .u8 0), (.int .u8 0), (.int .u8 0), (.int .u8 0), (.int .u8 0)]) 65 := ⟨(by obtain ⟨i, h1, h2, h3, h4⟩ := info_parts in116; exact ⟨i, h1, h2, h3⟩), rfl⟩
theorem in120 : (Tryd.prog.info? 120).map (fun i => (i.zero, i.size, i.bytes)) = some (some (.agg #[(.int .u8 0), (.int .u8 0), (.int .u8 0), (.int .u8 0), (.int .u8 0), (.int .u8 0), (.int .u8 0), (.int .u8 0), (.int .u8 0), (.int .u8 0), (.int .u8 0), (.int .u8 0), (.int .u8 0), (.int .u8 0), (.int .u8 0), (.int .u8 0), (.int .u8 0), (.int .u8 0), (.int .u8 0), (.int .u8 0), (.int .u8 0), (.int .u8 0), (.int .u8 0), (.int .u8 0), (.int .u8 0), (.int .u8 0), (.int .u8 0), (.int .u8 0), (.int .u8 0), (.int .u8 0), (.int .u8 0), (.int .u8 0)]), 32, 32) := by kernel_rfl
theorem va120 : VarT Tryd.prog 120 true 32 := ⟨⟨_, Tryd.underlying120, rfl⟩, (by obtain ⟨i, h1, h2, h3, h4⟩ := info_parts in120; exact ⟨i, h1, h3⟩)⟩
theorem in121 : (Tryd.prog.info? 121).map (fun i => (i.zero, i.size, i.bytes)) = some (some (.agg #[(.int .u8 0), (.int .u8 0), (.int .u8 0), (.int .u8 0), (.int .u8 0), (.int .u8 0), (.int .u8 0), (.int .u8 0), (.int .u8 0), (.int .u8 0), (.int .u8 0), (.int .u8 0), (.int .u8 0), (.int .u8 0), (.int .u8 0), (.int .u8 0), (.int .u8 0), (.int .u8 0), (.int .u8 0), (.int .u8 0), (.int .u8 0), (.int .u8 0), (.int .u8 0), (.int .u8 0), (.int .u8 0), (.int .u8 0), (.int .u8 0), (.int .u8 0), (.int .u8 0), (.int .u8 0), (.int .u8 0), (.int .u8 0), (.int .u8 0), (.int .u8 0), (.int .u8 0), (.int .u8 0), (.int .u8 0), (.int .u8 0), (.int .u8 0), (.int .u8 0), (.int .u8 0), (.int .u8 0), (.int .u8 0), (.int .u8 0), (.int .u8 0), (.int .u8 0), (.int .u8 0), (.int .u8 0), (.int .u8 0), (.int .u8 0), (.int .u8 0), (.int .u8 0), (.int .u8 0), (.int .u8 0), (.int .u8 0), (.int .u8 0), (.int .u8 0), (.int .u8 0), (.int .u8 0), (.int .u8 0), (.int .u8 0), (.int .u8 0), (.int .u8 0), (.int .u8 0)]), 64, 64) := by kernel_rfl
theorem va121 : VarT Tryd.prog 121 true 64 := ⟨⟨_, Tryd.underlying121, rfl⟩, (by obtain ⟨i, h1, h2, h3, h4⟩ := info_parts in121; exact ⟨i, h1, h3⟩)⟩
theorem fl25_0 : FldT Tryd.prog 25 0 0 1 := ⟨⟨_, _, Tryd.underlying25, rfl, rfl, (by obtain ⟨i, h1, h2, h3, h4⟩ := info_parts in2; exact ⟨i, h1, h3⟩)⟩, by decide⟩
theorem fl25_1 : FldT Tryd.prog 25 1 1 1 := ⟨⟨_, _, Tryd.underlying25, rfl, rfl, (by obtain ⟨i, h1, h2, h3, h4⟩ := info_parts in2; exact ⟨i, h1, h3⟩)⟩, by decide⟩
theorem fl25_2 : FldT Tryd.prog 25 2 2 1 := ⟨⟨_, _, Tryd.underlying25, rfl, rfl, (by obtain ⟨i, h1, h2, h3, h4⟩ := info_parts in23; exact ⟨i, h1, h3⟩)⟩, by decide⟩
theorem fl27_0 : FldT Tryd.prog 27 0 0 1 := ⟨⟨_, _, Tryd.underlying27, rfl, rfl, (by obtain ⟨i, h1, h2, h3, h4⟩ := info_parts in2; exact ⟨i, h1, h3⟩)⟩, by decide⟩
theorem fl27_1 : FldT Tryd.prog 27 1 1 1 := ⟨⟨_, _, Tryd.underlying27, rfl, rfl, (by obtain ⟨i, h1, h2, h3, h4⟩ := info_parts in22; exact ⟨i, h1, h3⟩)⟩, by decide⟩
theorem fl27_2 : FldT Tryd.prog 27 2 2 3 := ⟨⟨_, _, Tryd.underlying27, rfl, rfl, (by obtain ⟨i, h1, h2, h3, h4⟩ := info_parts in25; exact ⟨i, h1, h3⟩)⟩, by decide⟩
theorem fl100_0 : FldT Tryd.prog 100 0 0 1 := ⟨⟨_, _, Tryd.underlying100, rfl, rfl, (by obtain ⟨i, h1, h2, h3, h4⟩ := info_parts in5; exact ⟨i, h1, h3⟩)⟩, by decide⟩
theorem fl100_1 : FldT Tryd.prog 100 1 1 1 := ⟨⟨_, _, Tryd.underlying100, rfl, rfl, (by obtain ⟨i, h1, h2, h3, h4⟩ := info_parts in5; exact ⟨i, h1, h3⟩)⟩, by decide⟩
theorem fn2 : FnT Tryd.prog 2 := FnT.of Tryd.func2 (by decide +kernel) rfl
theorem fn3 : FnT Tryd.prog 3 := FnT.of Tryd.func3 (by decide +kernel) rfl
theorem fn4 : FnT Tryd.prog 4 := FnT.of Tryd.func4 (by decide +kernel) rfl
theorem fn5 : FnT Tryd.prog 5 := FnT.of Tryd.func5 (by decide +kernel) rfl
theorem fn6 : FnT Tryd.prog 6 := FnT.of Tryd.func6 (by decide +kernel) rfl
theorem fn7 : FnT Tryd.prog 7 := FnT.of Tryd.func7 (by decide +kernel) rfl
theorem fn8 : FnT Tryd.prog 8 := FnT.of Tryd.func8 (by decide +kernel) rfl
theorem fn9 : FnT Tryd.prog 9 := FnT.of Tryd.func9 (by decide +kernel) rfl
theorem fn10 : FnT Tryd.prog 10 := FnT.of Tryd.func10 (by decide +kernel) rfl
theorem fn11 : FnT Tryd.prog 11 := FnT.of Tryd.func11 (by decide +kernel) rfl
theorem fn12 : FnT Tryd.prog 12 := FnT.of Tryd.func12 (by decide +kernel) rfl
theorem fn13 : FnT Tryd.prog 13 := FnT.of Tryd.func13 (by decide +kernel) rfl
theorem fn14 : FnT Tryd.prog 14 := FnT.of Tryd.func14 (by decide +kernel) rfl
theorem fn15 : FnT Tryd.prog 15 := FnT.of Tryd.func15 (by decide +kernel) rfl
theorem fn16 : FnT Tryd.prog 16 := FnT.of Tryd.func16 (by decide +kernel) rfl
theorem fn17 : FnT Tryd.prog 17 := FnT.of Tryd.func17 (by decide +kernel) rfl
theorem fn18 : FnT Tryd.prog 18 := FnT.of Tryd.func18 (by decide +kernel) rfl
theorem fn19 : FnT Tryd.prog 19 := FnT.of Tryd.func19 (by decide +kernel) rfl
theorem fn20 : FnT Tryd.prog 20 := FnT.of Tryd.func20 (by decide +kernel) rfl
theorem fn21 : FnT Tryd.prog 21 := FnT.of Tryd.func21 (by decide +kernel) rfl
theorem fn22 : FnT Tryd.prog 22 := FnT.of Tryd.func22 (by decide +kernel) rfl
theorem fn23 : FnT Tryd.prog 23 := FnT.of Tryd.func23 (by decide +kernel) rfl
theorem fn24 : FnT Tryd.prog 24 := FnT.of Tryd.func24 (by decide +kernel) rfl
theorem fn25 : FnT Tryd.prog 25 := FnT.of Tryd.func25 (by decide +kernel) rfl
theorem fn26 : FnT Tryd.prog 26 := FnT.of Tryd.func26 (by decide +kernel) rfl
theorem fn27 : FnT Tryd.prog 27 := FnT.of Tryd.func27 (by decide +kernel) rfl
theorem fn28 : FnT Tryd.prog 28 := FnT.of Tryd.func28 (by decide +kernel) rfl
theorem fn29 : FnT Tryd.prog 29 := FnT.of Tryd.func29 (by decide +kernel) rfl
theorem fn30 : FnT Tryd.prog 30 := FnT.of Tryd.func30 (by decide +kernel) rfl
theorem fn31 : FnT Tryd.prog 31 := FnT.of Tryd.func31 (by decide +kernel) rfl
theorem fn32 : FnT Tryd.prog 32 := FnT.of Tryd.func32 (by decide +kernel) rfl
theorem fn33 : FnT Tryd.prog 33 := FnT.of Tryd.func33 (by decide +kernel) rfl
theorem fn34 : FnT Tryd.prog 34 := FnT.of Tryd.func34 (by decide +kernel) rfl
theorem fn35 : FnT Tryd.prog 35 := FnT.of Tryd.func35 (by decide +kernel) rfl
theorem fn36 : FnT Tryd.prog 36 := FnT.of Tryd.func36 (by decide +kernel) rfl
theorem fn37 : FnT Tryd.prog 37 := FnT.of Tryd.func37 (by decide +kernel) rfl
theorem fn38 : FnT Tryd.prog 38 := FnT.of Tryd.func38 (by decide +kernel) rfl
theorem fn39 : FnT Tryd.prog 39 := FnT.of Tryd.func39 (by decide +kernel) rfl
theorem fn40 : FnT Tryd.prog 40 := FnT.of Tryd.func40 (by decide +kernel) rfl
theorem fn41 : FnT Tryd.prog 41 := FnT.of Tryd.func41 (by decide +kernel) rfl
theorem fn42 : FnT Tryd.prog 42 := FnT.of Tryd.func42 (by decide +kernel) rfl
theorem fn43 : FnT Tryd.prog 43 := FnT.of Tryd.func43 (by decide +kernel) rfl
theorem fn44 : FnT Tryd.prog 44 := FnT.of Tryd.func44 (by decide +kernel) rfl
theorem fn45 : FnT Tryd.prog 45 := FnT.of Tryd.func45 (by decide +kernel) rfl
theorem fn46 : FnT Tryd.prog 46 := FnT.of Tryd.func46 (by decide +kernel) rfl
theorem fn47 : FnT Tryd.prog 47 := FnT.of Tryd.func47 (by decide +kernel) rfl
theorem fn48 : FnT Tryd.prog 48 := FnT.of Tryd.func48 (by decide +kernel) rfl
theorem fn50 : FnT Tryd.prog 50 := FnT.of Tryd.func50 (by decide +kernel) rfl
theorem fn51 : FnT Tryd.prog 51 := FnT.of Tryd.func51 (by decide +kernel) rfl
theorem fn52 : FnT Tryd.prog 52 := FnT.of Tryd.func52 (by decide +kernel) rfl
theorem fn53 : FnT Tryd.prog 53 := FnT.of Tryd.func53 (by decide +kernel) rfl
theorem fn54 : FnT Tryd.prog 54 := FnT.of Tryd.func54 (by decide +kernel) rfl
theorem fn55 : FnT Tryd.prog 55 := FnT.of Tryd.func55 (by decide +kernel) rfl
theorem fn56 : FnT Tryd.prog 56 := FnT.of Tryd.func56 (by decide +kernel) rfl
theorem fn57 : FnT Tryd.prog 57 := FnT.of Tryd.func57 (by decide +kernel) rfl
theorem fn58 : FnT Tryd.prog 58 := FnT.of Tryd.func58 (by decide +kernel) rfl
theorem fn59 : FnT Tryd.prog 59 := FnT.of Tryd.func59 (by decide +kernel) rfl
theorem fn60 : FnT Tryd.prog 60 := FnT.of Tryd.func60 (by decide +kernel) rfl
theorem fn61 : FnT Tryd.prog 61 := FnT.of Tryd.func61 (by decide +kernel) rfl
theorem fn62 : FnT Tryd.prog 62 := FnT.of Tryd.func62 (by decide +kernel) rfl
theorem fn63 : FnT Tryd.prog 63 := FnT.of Tryd.func63 (by decide +kernel) rfl
theorem fn65 : FnT Tryd.prog 65 := FnT.of Tryd.func65 (by decide +kernel) rfl
theorem fn66 : FnT Tryd.prog 66 := FnT.of Tryd.func66 (by decide +kernel) rfl
theorem fn67 : FnT Tryd.prog 67 := FnT.of Tryd.func67 (by decide +kernel) rfl
theorem fn68 : FnT Tryd.prog 68 := FnT.of Tryd.func68 (by decide +kernel) rfl
theorem fn69 : FnT Tryd.prog 69 := FnT.of Tryd.func69 (by decide +kernel) rfl
theorem fn70 : FnT Tryd.prog 70 := FnT.of Tryd.func70 (by decide +kernel) rfl
theorem fn71 : FnT Tryd.prog 71 := FnT.of Tryd.func71 (by decide +kernel) rfl
theorem fn72 : FnT Tryd.prog 72 := FnT.of Tryd.func72 (by decide +kernel) rfl
theorem fn73 : FnT Tryd.prog 73 := FnT.of Tryd.func73 (by decide +kernel) rfl
theorem fn74 : FnT Tryd.prog 74 := FnT.of Tryd.func74 (by decide +kernel) rfl
theorem fn76 : FnT Tryd.prog 76 := FnT.of Tryd.func76 (by decide +kernel) rfl
theorem fn77 : FnT Tryd.prog 77 := FnT.of Tryd.func77 (by decide +kernel) rfl
theorem fn78 : FnT Tryd.prog 78 := FnT.of Tryd.func78 (by decide +kernel) rfl
theorem fn79 : FnT Tryd.prog 79 := FnT.of Tryd.func79 (by decide +kernel) rfl
theorem fn80 : FnT Tryd.prog 80 := FnT.of Tryd.func80 (by decide +kernel) rfl
theorem fn81 : FnT Tryd.prog 81 := FnT.of Tryd.func81 (by decide +kernel) rfl
theorem fn82 : FnT Tryd.prog 82 := FnT.of Tryd.func82 (by decide +kernel) rfl
theorem fn83 : FnT Tryd.prog 83 := FnT.of Tryd.func83 (by decide +kernel) rfl
theorem fn84 : FnT Tryd.prog 84 := FnT.of Tryd.func84 (by decide +kernel) rfl
theorem fn85 : FnT Tryd.prog 85 := FnT.of Tryd.func85 (by decide +kernel) rfl
theorem fn86 : FnT Tryd.prog 86 := FnT.of Tryd.func86 (by decide +kernel) rfl
theorem fn87 : FnT Tryd.prog 87 := FnT.of Tryd.func87 (by decide +kernel) rfl
theorem fn88 : FnT Tryd.prog 88 := FnT.of Tryd.func88 (by decide +kernel) rfl
theorem fn120 : FnT Tryd.prog 120 := FnT.of Tryd.func120 (by decide +kernel) rfl
theorem mixed : Tryd.prog.follows .mixedOrders = true := by kernel_rfl
end Go.Proofs.YteajnanbfkcdcaaDoor.VC
