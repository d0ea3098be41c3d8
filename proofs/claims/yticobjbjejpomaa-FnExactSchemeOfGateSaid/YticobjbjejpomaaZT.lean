/- Facts on the types, fields and functions of this program: by program (types.py), each by reckoning. -/
import Derived.Test.YticobjbjejpomaaZD
import Derived.Test.YticobjbjejpomaaProg
import Derived.KernelRfl
set_option maxRecDepth 100000
namespace Go.Proofs.Yticobjbjejpomaa.VC
open Go Go.RowKit
theorem in2 : (Try.prog.info? 2).map (fun i => (i.zero, i.size, i.bytes)) = some (some (.int .i64 0), 1, 8) := by kernel_rfl
theorem sl22 : SlT Try.prog 22 2 (.int .i64 0) 1 8 := ⟨Try.underlying22, (by obtain ⟨i, h1, h2, h3, h4⟩ := info_parts in2; exact ⟨i, h1, h2, h3, h4⟩), rfl, by decide⟩
theorem in22 : (Try.prog.info? 22).map (fun i => (i.zero, i.size, i.bytes)) = some (some (.slice none 0 0), 1, 24) := by kernel_rfl
theorem sl23 : SlT Try.prog 23 22 (.slice none 0 0) 1 24 := ⟨Try.underlying23, (by obtain ⟨i, h1, h2, h3, h4⟩ := info_parts in22; exact ⟨i, h1, h2, h3, h4⟩), rfl, by decide⟩
theorem in56 : (Try.prog.info? 56).map (fun i => (i.zero, i.size, i.bytes)) = some (some (.agg #[(.int .i64 0), (.int .i64 0), (.slice none 0 0)]), 3, 40) := by kernel_rfl
theorem sl54 : SlT Try.prog 54 56 (.agg #[(.int .i64 0), (.int .i64 0), (.slice none 0 0)]) 3 40 := ⟨Try.underlying54, (by obtain ⟨i, h1, h2, h3, h4⟩ := info_parts in56; exact ⟨i, h1, h2, h3, h4⟩), rfl, by decide⟩
theorem in61 : (Try.prog.info? 61).map (fun i => (i.zero, i.size, i.bytes)) = some (some (.agg #[(.int .i64 0), (.int .i64 0), (.slice none 0 0)]), 3, 40) := by kernel_rfl
theorem sl59 : SlT Try.prog 59 61 (.agg #[(.int .i64 0), (.int .i64 0), (.slice none 0 0)]) 3 40 := ⟨Try.underlying59, (by obtain ⟨i, h1, h2, h3, h4⟩ := info_parts in61; exact ⟨i, h1, h2, h3, h4⟩), rfl, by decide⟩
theorem in3 : (Try.prog.info? 3).map (fun i => (i.zero, i.size, i.bytes)) = some (some (.int .i64 0), 1, 8) := by kernel_rfl
theorem bd134_0_1 (x0 : Int) (x1 : Int) : Try.prog.built 134 [(0, .int .i64 x0), (1, .int .i64 x1)] = some #[.int .i64 x0, .int .i64 x1, .slice none 0 0, .slice none 0 0] := by kernel_rfl
theorem bd182_0_1 (x0 : Int) (x1 : Int) : Try.prog.built 182 [(0, .int .i64 x0), (1, .int .i64 x1)] = some #[.int .i64 x0, .int .i64 x1, .slice none 0 0, .slice none 0 0] := by kernel_rfl
theorem va2 : VarT Try.prog 2 false 1 := ⟨⟨_, Try.underlying2, rfl⟩, (by obtain ⟨i, h1, h2, h3, h4⟩ := info_parts in2; exact ⟨i, h1, h3⟩)⟩
theorem va3 : VarT Try.prog 3 false 1 := ⟨⟨_, Try.underlying3, rfl⟩, (by obtain ⟨i, h1, h2, h3, h4⟩ := info_parts in3; exact ⟨i, h1, h3⟩)⟩
theorem va22 : VarT Try.prog 22 false 1 := ⟨⟨_, Try.underlying22, rfl⟩, (by obtain ⟨i, h1, h2, h3, h4⟩ := info_parts in22; exact ⟨i, h1, h3⟩)⟩
theorem in23 : (Try.prog.info? 23).map (fun i => (i.zero, i.size, i.bytes)) = some (some (.slice none 0 0), 1, 24) := by kernel_rfl
theorem va23 : VarT Try.prog 23 false 1 := ⟨⟨_, Try.underlying23, rfl⟩, (by obtain ⟨i, h1, h2, h3, h4⟩ := info_parts in23; exact ⟨i, h1, h3⟩)⟩
theorem in29 : (Try.prog.info? 29).map (fun i => (i.zero, i.size, i.bytes)) = some (some (.agg #[(.int .i64 0), (.int .i64 0), (.slice none 0 0)]), 3, 40) := by kernel_rfl
theorem va29 : VarT Try.prog 29 true 3 := ⟨⟨_, Try.underlying29, rfl⟩, (by obtain ⟨i, h1, h2, h3, h4⟩ := info_parts in29; exact ⟨i, h1, h3⟩)⟩
theorem in31 : (Try.prog.info? 31).map (fun i => (i.zero, i.size, i.bytes)) = some (some (.agg #[(.int .i64 0), (.slice none 0 0), (.int .i64 0), (.int .i64 0), (.slice none 0 0)]), 5, 72) := by kernel_rfl
theorem va31 : VarT Try.prog 31 true 5 := ⟨⟨_, Try.underlying31, rfl⟩, (by obtain ⟨i, h1, h2, h3, h4⟩ := info_parts in31; exact ⟨i, h1, h3⟩)⟩
theorem ze31 : ZeroT Try.prog 31 (.agg #[(.int .i64 0), (.slice none 0 0), (.int .i64 0), (.int .i64 0), (.slice none 0 0)]) 5 := ⟨(by obtain ⟨i, h1, h2, h3, h4⟩ := info_parts in31; exact ⟨i, h1, h2, h3⟩), rfl⟩
theorem in54 : (Try.prog.info? 54).map (fun i => (i.zero, i.size, i.bytes)) = some (some (.slice none 0 0), 1, 24) := by kernel_rfl
theorem va54 : VarT Try.prog 54 false 1 := ⟨⟨_, Try.underlying54, rfl⟩, (by obtain ⟨i, h1, h2, h3, h4⟩ := info_parts in54; exact ⟨i, h1, h3⟩)⟩
theorem va56 : VarT Try.prog 56 true 3 := ⟨⟨_, Try.underlying56, rfl⟩, (by obtain ⟨i, h1, h2, h3, h4⟩ := info_parts in56; exact ⟨i, h1, h3⟩)⟩
theorem in59 : (Try.prog.info? 59).map (fun i => (i.zero, i.size, i.bytes)) = some (some (.slice none 0 0), 1, 24) := by kernel_rfl
theorem va59 : VarT Try.prog 59 false 1 := ⟨⟨_, Try.underlying59, rfl⟩, (by obtain ⟨i, h1, h2, h3, h4⟩ := info_parts in59; exact ⟨i, h1, h3⟩)⟩
theorem va61 : VarT Try.prog 61 true 3 := ⟨⟨_, Try.underlying61, rfl⟩, (by obtain ⟨i, h1, h2, h3, h4⟩ := info_parts in61; exact ⟨i, h1, h3⟩)⟩
theorem ze61 : ZeroT Try.prog 61 (.agg #[(.int .i64 0), (.int .i64 0), (.slice none 0 0)]) 3 := ⟨(by obtain ⟨i, h1, h2, h3, h4⟩ := info_parts in61; exact ⟨i, h1, h2, h3⟩), rfl⟩
theorem fl29_0 : FldT Try.prog 29 0 0 1 := ⟨⟨_, _, Try.underlying29, rfl, rfl, (by obtain ⟨i, h1, h2, h3, h4⟩ := info_parts in2; exact ⟨i, h1, h3⟩)⟩, by decide⟩
theorem fl29_1 : FldT Try.prog 29 1 1 1 := ⟨⟨_, _, Try.underlying29, rfl, rfl, (by obtain ⟨i, h1, h2, h3, h4⟩ := info_parts in2; exact ⟨i, h1, h3⟩)⟩, by decide⟩
theorem fl29_2 : FldT Try.prog 29 2 2 1 := ⟨⟨_, _, Try.underlying29, rfl, rfl, (by obtain ⟨i, h1, h2, h3, h4⟩ := info_parts in23; exact ⟨i, h1, h3⟩)⟩, by decide⟩
theorem fl31_0 : FldT Try.prog 31 0 0 1 := ⟨⟨_, _, Try.underlying31, rfl, rfl, (by obtain ⟨i, h1, h2, h3, h4⟩ := info_parts in2; exact ⟨i, h1, h3⟩)⟩, by decide⟩
theorem fl31_1 : FldT Try.prog 31 1 1 1 := ⟨⟨_, _, Try.underlying31, rfl, rfl, (by obtain ⟨i, h1, h2, h3, h4⟩ := info_parts in22; exact ⟨i, h1, h3⟩)⟩, by decide⟩
theorem fl31_2 : FldT Try.prog 31 2 2 3 := ⟨⟨_, _, Try.underlying31, rfl, rfl, (by obtain ⟨i, h1, h2, h3, h4⟩ := info_parts in29; exact ⟨i, h1, h3⟩)⟩, by decide⟩
theorem fl56_0 : FldT Try.prog 56 0 0 1 := ⟨⟨_, _, Try.underlying56, rfl, rfl, (by obtain ⟨i, h1, h2, h3, h4⟩ := info_parts in2; exact ⟨i, h1, h3⟩)⟩, by decide⟩
theorem fl56_1 : FldT Try.prog 56 1 1 1 := ⟨⟨_, _, Try.underlying56, rfl, rfl, (by obtain ⟨i, h1, h2, h3, h4⟩ := info_parts in2; exact ⟨i, h1, h3⟩)⟩, by decide⟩
theorem fl56_2 : FldT Try.prog 56 2 2 1 := ⟨⟨_, _, Try.underlying56, rfl, rfl, (by obtain ⟨i, h1, h2, h3, h4⟩ := info_parts in54; exact ⟨i, h1, h3⟩)⟩, by decide⟩
theorem fl61_0 : FldT Try.prog 61 0 0 1 := ⟨⟨_, _, Try.underlying61, rfl, rfl, (by obtain ⟨i, h1, h2, h3, h4⟩ := info_parts in2; exact ⟨i, h1, h3⟩)⟩, by decide⟩
theorem fl61_1 : FldT Try.prog 61 1 1 1 := ⟨⟨_, _, Try.underlying61, rfl, rfl, (by obtain ⟨i, h1, h2, h3, h4⟩ := info_parts in2; exact ⟨i, h1, h3⟩)⟩, by decide⟩
theorem fl61_2 : FldT Try.prog 61 2 2 1 := ⟨⟨_, _, Try.underlying61, rfl, rfl, (by obtain ⟨i, h1, h2, h3, h4⟩ := info_parts in59; exact ⟨i, h1, h3⟩)⟩, by decide⟩
theorem fl134_0 : FldT Try.prog 134 0 0 1 := ⟨⟨_, _, Try.underlying134, rfl, rfl, (by obtain ⟨i, h1, h2, h3, h4⟩ := info_parts in2; exact ⟨i, h1, h3⟩)⟩, by decide⟩
theorem fl134_1 : FldT Try.prog 134 1 1 1 := ⟨⟨_, _, Try.underlying134, rfl, rfl, (by obtain ⟨i, h1, h2, h3, h4⟩ := info_parts in2; exact ⟨i, h1, h3⟩)⟩, by decide⟩
theorem fl134_2 : FldT Try.prog 134 2 2 1 := ⟨⟨_, _, Try.underlying134, rfl, rfl, (by obtain ⟨i, h1, h2, h3, h4⟩ := info_parts in22; exact ⟨i, h1, h3⟩)⟩, by decide⟩
theorem fl134_3 : FldT Try.prog 134 3 3 1 := ⟨⟨_, _, Try.underlying134, rfl, rfl, (by obtain ⟨i, h1, h2, h3, h4⟩ := info_parts in23; exact ⟨i, h1, h3⟩)⟩, by decide⟩
theorem fl182_0 : FldT Try.prog 182 0 0 1 := ⟨⟨_, _, Try.underlying182, rfl, rfl, (by obtain ⟨i, h1, h2, h3, h4⟩ := info_parts in2; exact ⟨i, h1, h3⟩)⟩, by decide⟩
theorem fl182_1 : FldT Try.prog 182 1 1 1 := ⟨⟨_, _, Try.underlying182, rfl, rfl, (by obtain ⟨i, h1, h2, h3, h4⟩ := info_parts in2; exact ⟨i, h1, h3⟩)⟩, by decide⟩
theorem fl182_2 : FldT Try.prog 182 2 2 1 := ⟨⟨_, _, Try.underlying182, rfl, rfl, (by obtain ⟨i, h1, h2, h3, h4⟩ := info_parts in22; exact ⟨i, h1, h3⟩)⟩, by decide⟩
theorem fl182_3 : FldT Try.prog 182 3 3 1 := ⟨⟨_, _, Try.underlying182, rfl, rfl, (by obtain ⟨i, h1, h2, h3, h4⟩ := info_parts in23; exact ⟨i, h1, h3⟩)⟩, by decide⟩
theorem fn17 : FnT Try.prog 17 := FnT.of Try.func17 (by decide +kernel) rfl
theorem fn18 : FnT Try.prog 18 := FnT.of Try.func18 (by decide +kernel) rfl
theorem fn19 : FnT Try.prog 19 := FnT.of Try.func19 (by decide +kernel) rfl
theorem fn23 : FnT Try.prog 23 := FnT.of Try.func23 (by decide +kernel) rfl
theorem fn28 : FnT Try.prog 28 := FnT.of Try.func28 (by decide +kernel) rfl
theorem fn29 : FnT Try.prog 29 := FnT.of Try.func29 (by decide +kernel) rfl
theorem fn36 : FnT Try.prog 36 := FnT.of Try.func36 (by decide +kernel) rfl
theorem fn37 : FnT Try.prog 37 := FnT.of Try.func37 (by decide +kernel) rfl
theorem fn38 : FnT Try.prog 38 := FnT.of Try.func38 (by decide +kernel) rfl
theorem fn39 : FnT Try.prog 39 := FnT.of Try.func39 (by decide +kernel) rfl
theorem fn40 : FnT Try.prog 40 := FnT.of Try.func40 (by decide +kernel) rfl
theorem fn41 : FnT Try.prog 41 := FnT.of Try.func41 (by decide +kernel) rfl
theorem fn61 : FnT Try.prog 61 := FnT.of Try.func61 (by decide +kernel) rfl
theorem fn66 : FnT Try.prog 66 := FnT.of Try.func66 (by decide +kernel) rfl
theorem fn67 : FnT Try.prog 67 := FnT.of Try.func67 (by decide +kernel) rfl
theorem fn68 : FnT Try.prog 68 := FnT.of Try.func68 (by decide +kernel) rfl
theorem fn84 : FnT Try.prog 84 := FnT.of Try.func84 (by decide +kernel) rfl
theorem fn85 : FnT Try.prog 85 := FnT.of Try.func85 (by decide +kernel) rfl
theorem fn86 : FnT Try.prog 86 := FnT.of Try.func86 (by decide +kernel) rfl
theorem fn90 : FnT Try.prog 90 := FnT.of Try.func90 (by decide +kernel) rfl
theorem fn92 : FnT Try.prog 92 := FnT.of Try.func92 (by decide +kernel) rfl
theorem fn98 : FnT Try.prog 98 := FnT.of Try.func98 (by decide +kernel) rfl
theorem fn99 : FnT Try.prog 99 := FnT.of Try.func99 (by decide +kernel) rfl
theorem fn100 : FnT Try.prog 100 := FnT.of Try.func100 (by decide +kernel) rfl
theorem fn101 : FnT Try.prog 101 := FnT.of Try.func101 (by decide +kernel) rfl
theorem fn102 : FnT Try.prog 102 := FnT.of Try.func102 (by decide +kernel) rfl
theorem fn103 : FnT Try.prog 103 := FnT.of Try.func103 (by decide +kernel) rfl
theorem fn104 : FnT Try.prog 104 := FnT.of Try.func104 (by decide +kernel) rfl
theorem fn105 : FnT Try.prog 105 := FnT.of Try.func105 (by decide +kernel) rfl
theorem fn106 : FnT Try.prog 106 := FnT.of Try.func106 (by decide +kernel) rfl
theorem fn107 : FnT Try.prog 107 := FnT.of Try.func107 (by decide +kernel) rfl
theorem fn108 : FnT Try.prog 108 := FnT.of Try.func108 (by decide +kernel) rfl
theorem fn109 : FnT Try.prog 109 := FnT.of Try.func109 (by decide +kernel) rfl
theorem fn110 : FnT Try.prog 110 := FnT.of Try.func110 (by decide +kernel) rfl
theorem fn115 : FnT Try.prog 115 := FnT.of Try.func115 (by decide +kernel) rfl
theorem fn116 : FnT Try.prog 116 := FnT.of Try.func116 (by decide +kernel) rfl
theorem fn130 : FnT Try.prog 130 := FnT.of Try.func130 (by decide +kernel) rfl
theorem fn131 : FnT Try.prog 131 := FnT.of Try.func131 (by decide +kernel) rfl
theorem fn143 : FnT Try.prog 143 := FnT.of Try.func143 (by decide +kernel) rfl
theorem fn144 : FnT Try.prog 144 := FnT.of Try.func144 (by decide +kernel) rfl
theorem fn145 : FnT Try.prog 145 := FnT.of Try.func145 (by decide +kernel) rfl
theorem fn146 : FnT Try.prog 146 := FnT.of Try.func146 (by decide +kernel) rfl
theorem fn147 : FnT Try.prog 147 := FnT.of Try.func147 (by decide +kernel) rfl
theorem fn151 : FnT Try.prog 151 := FnT.of Try.func151 (by decide +kernel) rfl
theorem fn152 : FnT Try.prog 152 := FnT.of Try.func152 (by decide +kernel) rfl
theorem fn153 : FnT Try.prog 153 := FnT.of Try.func153 (by decide +kernel) rfl
theorem fn154 : FnT Try.prog 154 := FnT.of Try.func154 (by decide +kernel) rfl
theorem fn155 : FnT Try.prog 155 := FnT.of Try.func155 (by decide +kernel) rfl
theorem fn156 : FnT Try.prog 156 := FnT.of Try.func156 (by decide +kernel) rfl
theorem fn157 : FnT Try.prog 157 := FnT.of Try.func157 (by decide +kernel) rfl
theorem fn158 : FnT Try.prog 158 := FnT.of Try.func158 (by decide +kernel) rfl
theorem fn159 : FnT Try.prog 159 := FnT.of Try.func159 (by decide +kernel) rfl
theorem fn160 : FnT Try.prog 160 := FnT.of Try.func160 (by decide +kernel) rfl
theorem fn161 : FnT Try.prog 161 := FnT.of Try.func161 (by decide +kernel) rfl
theorem fn171 : FnT Try.prog 171 := FnT.of Try.func171 (by decide +kernel) rfl
theorem fn182 : FnT Try.prog 182 := FnT.of Try.func182 (by decide +kernel) rfl
theorem fn184 : FnT Try.prog 184 := FnT.of Try.func184 (by decide +kernel) rfl
theorem fn185 : FnT Try.prog 185 := FnT.of Try.func185 (by decide +kernel) rfl
theorem fn197 : FnT Try.prog 197 := FnT.of Try.func197 (by decide +kernel) rfl
theorem fn198 : FnT Try.prog 198 := FnT.of Try.func198 (by decide +kernel) rfl
theorem fn199 : FnT Try.prog 199 := FnT.of Try.func199 (by decide +kernel) rfl
theorem fn204 : FnT Try.prog 204 := FnT.of Try.func204 (by decide +kernel) rfl
theorem mixed : Try.prog.follows .mixedOrders = true := by kernel_rfl
end Go.Proofs.Yticobjbjejpomaa.VC

