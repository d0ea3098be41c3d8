/- Facts on the types, fields and functions of this program: by program (types.py), each by reckoning. -/
import Derived.Test.YtbjcgcililpfdaaZD
import Derived.Test.YtbjcgcililpfdaaProg
import Derived.KernelRfl
set_option maxRecDepth 100000
namespace Go.Proofs.Ytbjcgcililpfdaa.VC
open Go Go.RowKit
theorem in2 : (Try.prog.info? 2).map (fun i => (i.zero, i.size, i.bytes)) = some (some (.int .i64 0), 1, 8) := by kernel_rfl
theorem sl25 : SlT Try.prog 25 2 (.int .i64 0) 1 8 := ⟨Try.underlying25, (by obtain ⟨i, h1, h2, h3, h4⟩ := info_parts in2; exact ⟨i, h1, h2, h3, h4⟩), rfl, by decide⟩
theorem in25 : (Try.prog.info? 25).map (fun i => (i.zero, i.size, i.bytes)) = some (some (.slice none 0 0), 1, 24) := by kernel_rfl
theorem sl37 : SlT Try.prog 37 25 (.slice none 0 0) 1 24 := ⟨Try.underlying37, (by obtain ⟨i, h1, h2, h3, h4⟩ := info_parts in25; exact ⟨i, h1, h2, h3, h4⟩), rfl, by decide⟩
theorem in103 : (Try.prog.info? 103).map (fun i => (i.zero, i.size, i.bytes)) = some (some (.agg #[(.int .i64 0), (.int .i64 0)]), 2, 16) := by kernel_rfl
theorem sl53 : SlT Try.prog 53 103 (.agg #[(.int .i64 0), (.int .i64 0)]) 2 16 := ⟨Try.underlying53, (by obtain ⟨i, h1, h2, h3, h4⟩ := info_parts in103; exact ⟨i, h1, h2, h3, h4⟩), rfl, by decide⟩
theorem in101 : (Try.prog.info? 101).map (fun i => (i.zero, i.size, i.bytes)) = some (some (.agg #[(.int .i64 0), (.int .i64 0)]), 2, 16) := by kernel_rfl
theorem sl57 : SlT Try.prog 57 101 (.agg #[(.int .i64 0), (.int .i64 0)]) 2 16 := ⟨Try.underlying57, (by obtain ⟨i, h1, h2, h3, h4⟩ := info_parts in101; exact ⟨i, h1, h2, h3, h4⟩), rfl, by decide⟩
theorem in3 : (Try.prog.info? 3).map (fun i => (i.zero, i.size, i.bytes)) = some (some (.int .i64 0), 1, 8) := by kernel_rfl
theorem sl152 : SlT Try.prog 152 3 (.int .i64 0) 1 8 := ⟨Try.underlying152, (by obtain ⟨i, h1, h2, h3, h4⟩ := info_parts in3; exact ⟨i, h1, h2, h3, h4⟩), rfl, by decide⟩
theorem bd124_0_1_2_3 (x0 : Int) {x1 : Value} {n1 : Nat} (h1 : IsSl x1 n1) (x2 : Int) (x3 : Int) : Try.prog.built 124 [(0, .int .i64 x0), (1, x1), (2, .int .i64 x2), (3, .int .i64 x3)] = some #[.int .i64 x0, x1, .int .i64 x2, .int .i64 x3, .slice none 0 0] := by obtain ⟨A1, c1, rfl⟩ := h1; kernel_rfl
theorem va2 : VarT Try.prog 2 false 1 := ⟨⟨_, Try.underlying2, rfl⟩, (by obtain ⟨i, h1, h2, h3, h4⟩ := info_parts in2; exact ⟨i, h1, h3⟩)⟩
theorem va3 : VarT Try.prog 3 false 1 := ⟨⟨_, Try.underlying3, rfl⟩, (by obtain ⟨i, h1, h2, h3, h4⟩ := info_parts in3; exact ⟨i, h1, h3⟩)⟩
theorem va25 : VarT Try.prog 25 false 1 := ⟨⟨_, Try.underlying25, rfl⟩, (by obtain ⟨i, h1, h2, h3, h4⟩ := info_parts in25; exact ⟨i, h1, h3⟩)⟩
theorem in37 : (Try.prog.info? 37).map (fun i => (i.zero, i.size, i.bytes)) = some (some (.slice none 0 0), 1, 24) := by kernel_rfl
theorem va37 : VarT Try.prog 37 false 1 := ⟨⟨_, Try.underlying37, rfl⟩, (by obtain ⟨i, h1, h2, h3, h4⟩ := info_parts in37; exact ⟨i, h1, h3⟩)⟩
theorem ze37 : ZeroT Try.prog 37 (.slice none 0 0) 1 := ⟨(by obtain ⟨i, h1, h2, h3, h4⟩ := info_parts in37; exact ⟨i, h1, h2, h3⟩), rfl⟩
theorem in57 : (Try.prog.info? 57).map (fun i => (i.zero, i.size, i.bytes)) = some (some (.slice none 0 0), 1, 24) := by kernel_rfl
theorem va57 : VarT Try.prog 57 false 1 := ⟨⟨_, Try.underlying57, rfl⟩, (by obtain ⟨i, h1, h2, h3, h4⟩ := info_parts in57; exact ⟨i, h1, h3⟩)⟩
theorem va101 : VarT Try.prog 101 true 2 := ⟨⟨_, Try.underlying101, rfl⟩, (by obtain ⟨i, h1, h2, h3, h4⟩ := info_parts in101; exact ⟨i, h1, h3⟩)⟩
theorem ze101 : ZeroT Try.prog 101 (.agg #[(.int .i64 0), (.int .i64 0)]) 2 := ⟨(by obtain ⟨i, h1, h2, h3, h4⟩ := info_parts in101; exact ⟨i, h1, h2, h3⟩), rfl⟩
theorem va103 : VarT Try.prog 103 true 2 := ⟨⟨_, Try.underlying103, rfl⟩, (by obtain ⟨i, h1, h2, h3, h4⟩ := info_parts in103; exact ⟨i, h1, h3⟩)⟩
theorem fl101_0 : FldT Try.prog 101 0 0 1 := ⟨⟨_, _, Try.underlying101, rfl, rfl, (by obtain ⟨i, h1, h2, h3, h4⟩ := info_parts in2; exact ⟨i, h1, h3⟩)⟩, by decide⟩
theorem fl101_1 : FldT Try.prog 101 1 1 1 := ⟨⟨_, _, Try.underlying101, rfl, rfl, (by obtain ⟨i, h1, h2, h3, h4⟩ := info_parts in2; exact ⟨i, h1, h3⟩)⟩, by decide⟩
theorem fl103_0 : FldT Try.prog 103 0 0 1 := ⟨⟨_, _, Try.underlying103, rfl, rfl, (by obtain ⟨i, h1, h2, h3, h4⟩ := info_parts in2; exact ⟨i, h1, h3⟩)⟩, by decide⟩
theorem fl103_1 : FldT Try.prog 103 1 1 1 := ⟨⟨_, _, Try.underlying103, rfl, rfl, (by obtain ⟨i, h1, h2, h3, h4⟩ := info_parts in2; exact ⟨i, h1, h3⟩)⟩, by decide⟩
theorem fl124_0 : FldT Try.prog 124 0 0 1 := ⟨⟨_, _, Try.underlying124, rfl, rfl, (by obtain ⟨i, h1, h2, h3, h4⟩ := info_parts in2; exact ⟨i, h1, h3⟩)⟩, by decide⟩
theorem fl124_1 : FldT Try.prog 124 1 1 1 := ⟨⟨_, _, Try.underlying124, rfl, rfl, (by obtain ⟨i, h1, h2, h3, h4⟩ := info_parts in57; exact ⟨i, h1, h3⟩)⟩, by decide⟩
theorem fl124_2 : FldT Try.prog 124 2 2 1 := ⟨⟨_, _, Try.underlying124, rfl, rfl, (by obtain ⟨i, h1, h2, h3, h4⟩ := info_parts in2; exact ⟨i, h1, h3⟩)⟩, by decide⟩
theorem fl124_3 : FldT Try.prog 124 3 3 1 := ⟨⟨_, _, Try.underlying124, rfl, rfl, (by obtain ⟨i, h1, h2, h3, h4⟩ := info_parts in2; exact ⟨i, h1, h3⟩)⟩, by decide⟩
theorem fl124_4 : FldT Try.prog 124 4 4 1 := ⟨⟨_, _, Try.underlying124, rfl, rfl, (by obtain ⟨i, h1, h2, h3, h4⟩ := info_parts in37; exact ⟨i, h1, h3⟩)⟩, by decide⟩
theorem fn18 : FnT Try.prog 18 := FnT.of Try.func18 (by decide +kernel) rfl
theorem fn27 : FnT Try.prog 27 := FnT.of Try.func27 (by decide +kernel) rfl
theorem fn28 : FnT Try.prog 28 := FnT.of Try.func28 (by decide +kernel) rfl
theorem fn37 : FnT Try.prog 37 := FnT.of Try.func37 (by decide +kernel) rfl
theorem fn38 : FnT Try.prog 38 := FnT.of Try.func38 (by decide +kernel) rfl
theorem fn39 : FnT Try.prog 39 := FnT.of Try.func39 (by decide +kernel) rfl
theorem fn40 : FnT Try.prog 40 := FnT.of Try.func40 (by decide +kernel) rfl
theorem fn41 : FnT Try.prog 41 := FnT.of Try.func41 (by decide +kernel) rfl
theorem fn42 : FnT Try.prog 42 := FnT.of Try.func42 (by decide +kernel) rfl
theorem fn66 : FnT Try.prog 66 := FnT.of Try.func66 (by decide +kernel) rfl
theorem fn70 : FnT Try.prog 70 := FnT.of Try.func70 (by decide +kernel) rfl
theorem fn75 : FnT Try.prog 75 := FnT.of Try.func75 (by decide +kernel) rfl
theorem fn76 : FnT Try.prog 76 := FnT.of Try.func76 (by decide +kernel) rfl
theorem fn77 : FnT Try.prog 77 := FnT.of Try.func77 (by decide +kernel) rfl
theorem fn78 : FnT Try.prog 78 := FnT.of Try.func78 (by decide +kernel) rfl
theorem fn79 : FnT Try.prog 79 := FnT.of Try.func79 (by decide +kernel) rfl
theorem fn80 : FnT Try.prog 80 := FnT.of Try.func80 (by decide +kernel) rfl
theorem fn81 : FnT Try.prog 81 := FnT.of Try.func81 (by decide +kernel) rfl
theorem fn82 : FnT Try.prog 82 := FnT.of Try.func82 (by decide +kernel) rfl
theorem fn83 : FnT Try.prog 83 := FnT.of Try.func83 (by decide +kernel) rfl
theorem fn84 : FnT Try.prog 84 := FnT.of Try.func84 (by decide +kernel) rfl
theorem fn88 : FnT Try.prog 88 := FnT.of Try.func88 (by decide +kernel) rfl
theorem fn95 : FnT Try.prog 95 := FnT.of Try.func95 (by decide +kernel) rfl
theorem fn103 : FnT Try.prog 103 := FnT.of Try.func103 (by decide +kernel) rfl
theorem fn109 : FnT Try.prog 109 := FnT.of Try.func109 (by decide +kernel) rfl
theorem fn110 : FnT Try.prog 110 := FnT.of Try.func110 (by decide +kernel) rfl
theorem fn111 : FnT Try.prog 111 := FnT.of Try.func111 (by decide +kernel) rfl
theorem fn112 : FnT Try.prog 112 := FnT.of Try.func112 (by decide +kernel) rfl
theorem fn113 : FnT Try.prog 113 := FnT.of Try.func113 (by decide +kernel) rfl
theorem fn114 : FnT Try.prog 114 := FnT.of Try.func114 (by decide +kernel) rfl
theorem fn115 : FnT Try.prog 115 := FnT.of Try.func115 (by decide +kernel) rfl
theorem fn116 : FnT Try.prog 116 := FnT.of Try.func116 (by decide +kernel) rfl
theorem fn117 : FnT Try.prog 117 := FnT.of Try.func117 (by decide +kernel) rfl
theorem fn118 : FnT Try.prog 118 := FnT.of Try.func118 (by decide +kernel) rfl
theorem fn119 : FnT Try.prog 119 := FnT.of Try.func119 (by decide +kernel) rfl
theorem fn120 : FnT Try.prog 120 := FnT.of Try.func120 (by decide +kernel) rfl
theorem fn121 : FnT Try.prog 121 := FnT.of Try.func121 (by decide +kernel) rfl
theorem fn122 : FnT Try.prog 122 := FnT.of Try.func122 (by decide +kernel) rfl
theorem fn124 : FnT Try.prog 124 := FnT.of Try.func124 (by decide +kernel) rfl
theorem fn125 : FnT Try.prog 125 := FnT.of Try.func125 (by decide +kernel) rfl
theorem fn126 : FnT Try.prog 126 := FnT.of Try.func126 (by decide +kernel) rfl
theorem fn127 : FnT Try.prog 127 := FnT.of Try.func127 (by decide +kernel) rfl
theorem fn128 : FnT Try.prog 128 := FnT.of Try.func128 (by decide +kernel) rfl
theorem fn131 : FnT Try.prog 131 := FnT.of Try.func131 (by decide +kernel) rfl
theorem fn135 : FnT Try.prog 135 := FnT.of Try.func135 (by decide +kernel) rfl
theorem fn136 : FnT Try.prog 136 := FnT.of Try.func136 (by decide +kernel) rfl
theorem fn139 : FnT Try.prog 139 := FnT.of Try.func139 (by decide +kernel) rfl
theorem fn140 : FnT Try.prog 140 := FnT.of Try.func140 (by decide +kernel) rfl
theorem fn141 : FnT Try.prog 141 := FnT.of Try.func141 (by decide +kernel) rfl
theorem fn142 : FnT Try.prog 142 := FnT.of Try.func142 (by decide +kernel) rfl
theorem fn143 : FnT Try.prog 143 := FnT.of Try.func143 (by decide +kernel) rfl
theorem fn144 : FnT Try.prog 144 := FnT.of Try.func144 (by decide +kernel) rfl
theorem fn145 : FnT Try.prog 145 := FnT.of Try.func145 (by decide +kernel) rfl
theorem fn146 : FnT Try.prog 146 := FnT.of Try.func146 (by decide +kernel) rfl
theorem fn147 : FnT Try.prog 147 := FnT.of Try.func147 (by decide +kernel) rfl
theorem fn150 : FnT Try.prog 150 := FnT.of Try.func150 (by decide +kernel) rfl
theorem fn152 : FnT Try.prog 152 := FnT.of Try.func152 (by decide +kernel) rfl
theorem fn153 : FnT Try.prog 153 := FnT.of Try.func153 (by decide +kernel) rfl
theorem fn154 : FnT Try.prog 154 := FnT.of Try.func154 (by decide +kernel) rfl
theorem fn155 : FnT Try.prog 155 := FnT.of Try.func155 (by decide +kernel) rfl
theorem fn156 : FnT Try.prog 156 := FnT.of Try.func156 (by decide +kernel) rfl
theorem fn167 : FnT Try.prog 167 := FnT.of Try.func167 (by decide +kernel) rfl
theorem fn168 : FnT Try.prog 168 := FnT.of Try.func168 (by decide +kernel) rfl
theorem fn169 : FnT Try.prog 169 := FnT.of Try.func169 (by decide +kernel) rfl
theorem fn170 : FnT Try.prog 170 := FnT.of Try.func170 (by decide +kernel) rfl
theorem fn171 : FnT Try.prog 171 := FnT.of Try.func171 (by decide +kernel) rfl
theorem fn177 : FnT Try.prog 177 := FnT.of Try.func177 (by decide +kernel) rfl
theorem mixed : Try.prog.follows .mixedOrders = true := by kernel_rfl
end Go.Proofs.Ytbjcgcililpfdaa.VC

