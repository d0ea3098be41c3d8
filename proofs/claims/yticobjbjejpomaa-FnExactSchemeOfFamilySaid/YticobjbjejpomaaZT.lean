/- Facts on the types, fields and functions of this program: by program (types.py), each by reckoning. -/
import Derived.Test.YticobjbjejpomaaZD
import Derived.Test.YticobjbjejpomaaProg
import Derived.KernelRfl
set_option maxRecDepth 100000
namespace Go.Proofs.Yticobjbjejpomaa.VC
open Go Go.RowKit
theorem in2 : (Try.prog.info? 2).map (fun i => (i.zero, i.size, i.bytes)) = some (some (.int .i64 0), 1, 8) := by kernel_rfl
theorem sl22 : SlT Try.prog 22 2 (.int .i64 0) 1 8 := ⟨Try.underlying22, (by obtain ⟨i, h1, h2, h3, h4⟩ := info_parts in2; exact ⟨i, h1, h2, h3, h4⟩), rfl, by decide⟩
theorem in22 : (Try.prog.info? 22).map (fun i => (i.zero, i.size, i.bytes)) = some (some (.slice none 0 0), 1, 24) := by kernel_rfl
theorem sl23 : SlT Try.prog 23 22 (.slice none 0 0) 1 24 := ⟨Try.underlying23, (by obtain ⟨i, h1, h2, h3, h4⟩ := info_parts in22; exact ⟨i, h1, h2, h3, h4⟩), rfl, by decide⟩
theorem in61 : (Try.prog.info? 61).map (fun i => (i.zero, i.size, i.bytes)) = some (some (.agg #[(.int .i64 0), (.int .i64 0), (.slice none 0 0)]), 3, 40) := by kernel_rfl
theorem sl59 : SlT Try.prog 59 61 (.agg #[(.int .i64 0), (.int .i64 0), (.slice none 0 0)]) 3 40 := ⟨Try.underlying59, (by obtain ⟨i, h1, h2, h3, h4⟩ := info_parts in61; exact ⟨i, h1, h2, h3, h4⟩), rfl, by decide⟩
theorem in3 : (Try.prog.info? 3).map (fun i => (i.zero, i.size, i.bytes)) = some (some (.int .i64 0), 1, 8) := by kernel_rfl
theorem bd61_  : Try.prog.built 61 [] = some #[.int .i64 0, .int .i64 0, .slice none 0 0] := by kernel_rfl
theorem bd61_0 (x0 : Int) : Try.prog.built 61 [(0, .int .i64 x0)] = some #[.int .i64 x0, .int .i64 0, .slice none 0 0] := by kernel_rfl
theorem bd61_0_1_2 (x0 : Int) (x1 : Int) {x2 : Value} {n2 : Nat} (h2 : IsSl x2 n2) : Try.prog.built 61 [(0, .int .i64 x0), (1, .int .i64 x1), (2, x2)] = some #[.int .i64 x0, .int .i64 x1, x2] := by obtain ⟨A2, c2, rfl⟩ := h2; kernel_rfl
theorem bd134_0_1 (x0 : Int) (x1 : Int) : Try.prog.built 134 [(0, .int .i64 x0), (1, .int .i64 x1)] = some #[.int .i64 x0, .int .i64 x1, .slice none 0 0, .slice none 0 0] := by kernel_rfl
theorem bd182_0_1 (x0 : Int) (x1 : Int) : Try.prog.built 182 [(0, .int .i64 x0), (1, .int .i64 x1)] = some #[.int .i64 x0, .int .i64 x1, .slice none 0 0, .slice none 0 0] := by kernel_rfl
theorem va2 : VarT Try.prog 2 false 1 := ⟨⟨_, Try.underlying2, rfl⟩, (by obtain ⟨i, h1, h2, h3, h4⟩ := info_parts in2; exact ⟨i, h1, h3⟩)⟩
theorem va3 : VarT Try.prog 3 false 1 := ⟨⟨_, Try.underlying3, rfl⟩, (by obtain ⟨i, h1, h2, h3, h4⟩ := info_parts in3; exact ⟨i, h1, h3⟩)⟩
theorem va22 : VarT Try.prog 22 false 1 := ⟨⟨_, Try.underlying22, rfl⟩, (by obtain ⟨i, h1, h2, h3, h4⟩ := info_parts in22; exact ⟨i, h1, h3⟩)⟩
theorem in23 : (Try.prog.info? 23).map (fun i => (i.zero, i.size, i.bytes)) = some (some (.slice none 0 0), 1, 24) := by kernel_rfl
theorem va23 : VarT Try.prog 23 false 1 := ⟨⟨_, Try.underlying23, rfl⟩, (by obtain ⟨i, h1, h2, h3, h4⟩ := info_parts in23; exact ⟨i, h1, h3⟩)⟩
theorem in29 : (Try.prog.info? 29).map (fun i => (i.zero, i.size, i.bytes)) = some (some (.agg #[(.int .i64 0), (.int .i64 0), (.slice none 0 0)]), 3, 40) := by kernel_rfl
theorem va29 : VarT Try.prog 29 true 3 := ⟨⟨_, Try.underlying29, rfl⟩, (by obtain ⟨i, h1, h2, h3, h4⟩ := info_parts in29; exact ⟨i, h1, h3⟩)⟩
theorem in31 : (Try.prog.info? 31).map (fun i => (i.zero, i.size, i.bytes)) = some (some (.agg #[(.int .i64 0), (.slice none 0 0), (.int .i64 0), (.int .i64 0), (.slice none 0 0)]), 5, 72) := by kernel_rfl
theorem va31 : VarT Try.prog 31 true 5 := ⟨⟨_, Try.underlying31, rfl⟩, (by obtain ⟨i, h1, h2, h3, h4⟩ := info_parts in31; exact ⟨i, h1, h3⟩)⟩
theorem ze31 : ZeroT Try.prog 31 (.agg #[(.int .i64 0), (.slice none 0 0), (.int .i64 0), (.int .i64 0), (.slice none 0 0)]) 5 := ⟨(by obtain ⟨i, h1, h2, h3, h4⟩ := info_parts in31; exact ⟨i, h1, h2, h3⟩), rfl⟩
theorem in59 : (Try.prog.info? 59).map (fun i => (i.zero, i.size, i.bytes)) = some (some (.slice none 0 0), 1, 24) := by kernel_rfl
theorem va59 : VarT Try.prog 59 false 1 := ⟨⟨_, Try.underlying59, rfl⟩, (by obtain ⟨i, h1, h2, h3, h4⟩ := info_parts in59; exact ⟨i, h1, h3⟩)⟩
theorem va61 : VarT Try.prog 61 true 3 := ⟨⟨_, Try.underlying61, rfl⟩, (by obtain ⟨i, h1, h2, h3, h4⟩ := info_parts in61; exact ⟨i, h1, h3⟩)⟩
theorem ze61 : ZeroT Try.prog 61 (.agg #[(.int .i64 0), (.int .i64 0), (.slice none 0 0)]) 3 := ⟨(by obtain ⟨i, h1, h2, h3, h4⟩ := info_parts in61; exact ⟨i, h1, h2, h3⟩), rfl⟩
theorem in67 : (Try.prog.info? 67).map (fun i => (i.zero, i.size, i.bytes)) = some (some (.agg #[(.int .i64 0), (.slice none 0 0)]), 2, 32) := by kernel_rfl
theorem va67 : VarT Try.prog 67 true 2 := ⟨⟨_, Try.underlying67, rfl⟩, (by obtain ⟨i, h1, h2, h3, h4⟩ := info_parts in67; exact ⟨i, h1, h3⟩)⟩
theorem in70 : (Try.prog.info? 70).map (fun i => (i.zero, i.size, i.bytes)) = some (some (.agg #[(.int .i64 0), (.slice none 0 0)]), 2, 32) := by kernel_rfl
theorem va70 : VarT Try.prog 70 true 2 := ⟨⟨_, Try.underlying70, rfl⟩, (by obtain ⟨i, h1, h2, h3, h4⟩ := info_parts in70; exact ⟨i, h1, h3⟩)⟩
theorem ze70 : ZeroT Try.prog 70 (.agg #[(.int .i64 0), (.slice none 0 0)]) 2 := ⟨(by obtain ⟨i, h1, h2, h3, h4⟩ := info_parts in70; exact ⟨i, h1, h2, h3⟩), rfl⟩
theorem fl29_0 : FldT Try.prog 29 0 0 1 := ⟨⟨_, _, Try.underlying29, rfl, rfl, (by obtain ⟨i, h1, h2, h3, h4⟩ := info_parts in2; exact ⟨i, h1, h3⟩)⟩, by decide⟩
theorem fl29_1 : FldT Try.prog 29 1 1 1 := ⟨⟨_, _, Try.underlying29, rfl, rfl, (by obtain ⟨i, h1, h2, h3, h4⟩ := info_parts in2; exact ⟨i, h1, h3⟩)⟩, by decide⟩
theorem fl29_2 : FldT Try.prog 29 2 2 1 := ⟨⟨_, _, Try.underlying29, rfl, rfl, (by obtain ⟨i, h1, h2, h3, h4⟩ := info_parts in23; exact ⟨i, h1, h3⟩)⟩, by decide⟩
theorem fl31_0 : FldT Try.prog 31 0 0 1 := ⟨⟨_, _, Try.underlying31, rfl, rfl, (by obtain ⟨i, h1, h2, h3, h4⟩ := info_parts in2; exact ⟨i, h1, h3⟩)⟩, by decide⟩
theorem fl31_1 : FldT Try.prog 31 1 1 1 := ⟨⟨_, _, Try.underlying31, rfl, rfl, (by obtain ⟨i, h1, h2, h3, h4⟩ := info_parts in22; exact ⟨i, h1, h3⟩)⟩, by decide⟩
theorem fl31_2 : FldT Try.prog 31 2 2 3 := ⟨⟨_, _, Try.underlying31, rfl, rfl, (by obtain ⟨i, h1, h2, h3, h4⟩ := info_parts in29; exact ⟨i, h1, h3⟩)⟩, by decide⟩
theorem fl61_0 : FldT Try.prog 61 0 0 1 := ⟨⟨_, _, Try.underlying61, rfl, rfl, (by obtain ⟨i, h1, h2, h3, h4⟩ := info_parts in2; exact ⟨i, h1, h3⟩)⟩, by decide⟩
theorem fl61_1 : FldT Try.prog 61 1 1 1 := ⟨⟨_, _, Try.underlying61, rfl, rfl, (by obtain ⟨i, h1, h2, h3, h4⟩ := info_parts in2; exact ⟨i, h1, h3⟩)⟩, by decide⟩
theorem fl61_2 : FldT Try.prog 61 2 2 1 := ⟨⟨_, _, Try.underlying61, rfl, rfl, (by obtain ⟨i, h1, h2, h3, h4⟩ := info_parts in59; exact ⟨i, h1, h3⟩)⟩, by decide⟩
theorem fl67_0 : FldT Try.prog 67 0 0 1 := ⟨⟨_, _, Try.underlying67, rfl, rfl, (by obtain ⟨i, h1, h2, h3, h4⟩ := info_parts in2; exact ⟨i, h1, h3⟩)⟩, by decide⟩
theorem fl67_1 : FldT Try.prog 67 1 1 1 := ⟨⟨_, _, Try.underlying67, rfl, rfl, (by obtain ⟨i, h1, h2, h3, h4⟩ := info_parts in23; exact ⟨i, h1, h3⟩)⟩, by decide⟩
theorem fl70_0 : FldT Try.prog 70 0 0 1 := ⟨⟨_, _, Try.underlying70, rfl, rfl, (by obtain ⟨i, h1, h2, h3, h4⟩ := info_parts in2; exact ⟨i, h1, h3⟩)⟩, by decide⟩
theorem fl70_1 : FldT Try.prog 70 1 1 1 := ⟨⟨_, _, Try.underlying70, rfl, rfl, (by obtain ⟨i, h1, h2, h3, h4⟩ := info_parts in23; exact ⟨i, h1, h3⟩)⟩, by decide⟩
theorem fl134_0 : FldT Try.prog 134 0 0 1 := ⟨⟨_, _, Try.underlying134, rfl, rfl, (by obtain ⟨i, h1, h2, h3, h4⟩ := info_parts in2; exact ⟨i, h1, h3⟩)⟩, by decide⟩
theorem fl134_1 : FldT Try.prog 134 1 1 1 := ⟨⟨_, _, Try.underlying134, rfl, rfl, (by obtain ⟨i, h1, h2, h3, h4⟩ := info_parts in2; exact ⟨i, h1, h3⟩)⟩, by decide⟩
theorem fl134_2 : FldT Try.prog 134 2 2 1 := ⟨⟨_, _, Try.underlying134, rfl, rfl, (by obtain ⟨i, h1, h2, h3, h4⟩ := info_parts in22; exact ⟨i, h1, h3⟩)⟩, by decide⟩
theorem fl134_3 : FldT Try.prog 134 3 3 1 := ⟨⟨_, _, Try.underlying134, rfl, rfl, (by obtain ⟨i, h1, h2, h3, h4⟩ := info_parts in23; exact ⟨i, h1, h3⟩)⟩, by decide⟩
theorem fl182_0 : FldT Try.prog 182 0 0 1 := ⟨⟨_, _, Try.underlying182, rfl, rfl, (by obtain ⟨i, h1, h2, h3, h4⟩ := info_parts in2; exact ⟨i, h1, h3⟩)⟩, by decide⟩
theorem fl182_1 : FldT Try.prog 182 1 1 1 := ⟨⟨_, _, Try.underlying182, rfl, rfl, (by obtain ⟨i, h1, h2, h3, h4⟩ := info_parts in2; exact ⟨i, h1, h3⟩)⟩, by decide⟩
theorem fl182_2 : FldT Try.prog 182 2 2 1 := ⟨⟨_, _, Try.underlying182, rfl, rfl, (by obtain ⟨i, h1, h2, h3, h4⟩ := info_parts in22; exact ⟨i, h1, h3⟩)⟩, by decide⟩
theorem fl182_3 : FldT Try.prog 182 3 3 1 := ⟨⟨_, _, Try.underlying182, rfl, rfl, (by obtain ⟨i, h1, h2, h3, h4⟩ := info_parts in23; exact ⟨i, h1, h3⟩)⟩, by decide⟩
theorem fn17 : FnT Try.prog 17 := FnT.of Try.func17 (by decide +kernel) rfl
theorem fn18 : FnT Try.prog 18 := FnT.of Try.func18 (by decide +kernel) rfl
theorem fn19 : FnT Try.prog 19 := FnT.of Try.func19 (by decide +kernel) rfl
theorem fn21 : FnT Try.prog 21 := FnT.of Try.func21 (by decide +kernel) rfl
theorem fn23 : FnT Try.prog 23 := FnT.of Try.func23 (by decide +kernel) rfl
theorem fn28 : FnT Try.prog 28 := FnT.of Try.func28 (by decide +kernel) rfl
theorem fn29 : FnT Try.prog 29 := FnT.of Try.func29 (by decide +kernel) rfl
theorem fn39 : FnT Try.prog 39 := FnT.of Try.func39 (by decide +kernel) rfl
theorem fn42 : FnT Try.prog 42 := FnT.of Try.func42 (by decide +kernel) rfl
theorem fn43 : FnT Try.prog 43 := FnT.of Try.func43 (by decide +kernel) rfl
theorem fn44 : FnT Try.prog 44 := FnT.of Try.func44 (by decide +kernel) rfl
theorem fn45 : FnT Try.prog 45 := FnT.of Try.func45 (by decide +kernel) rfl
theorem fn46 : FnT Try.prog 46 := FnT.of Try.func46 (by decide +kernel) rfl
theorem fn47 : FnT Try.prog 47 := FnT.of Try.func47 (by decide +kernel) rfl
theorem fn57 : FnT Try.prog 57 := FnT.of Try.func57 (by decide +kernel) rfl
theorem fn61 : FnT Try.prog 61 := FnT.of Try.func61 (by decide +kernel) rfl
theorem fn66 : FnT Try.prog 66 := FnT.of Try.func66 (by decide +kernel) rfl
theorem fn67 : FnT Try.prog 67 := FnT.of Try.func67 (by decide +kernel) rfl
theorem fn68 : FnT Try.prog 68 := FnT.of Try.func68 (by decide +kernel) rfl
theorem fn74 : FnT Try.prog 74 := FnT.of Try.func74 (by decide +kernel) rfl
theorem fn84 : FnT Try.prog 84 := FnT.of Try.func84 (by decide +kernel) rfl
theorem fn85 : FnT Try.prog 85 := FnT.of Try.func85 (by decide +kernel) rfl
theorem fn86 : FnT Try.prog 86 := FnT.of Try.func86 (by decide +kernel) rfl
theorem fn90 : FnT Try.prog 90 := FnT.of Try.func90 (by decide +kernel) rfl
theorem fn92 : FnT Try.prog 92 := FnT.of Try.func92 (by decide +kernel) rfl
theorem fn99 : FnT Try.prog 99 := FnT.of Try.func99 (by decide +kernel) rfl
theorem fn100 : FnT Try.prog 100 := FnT.of Try.func100 (by decide +kernel) rfl
theorem fn101 : FnT Try.prog 101 := FnT.of Try.func101 (by decide +kernel) rfl
theorem fn103 : FnT Try.prog 103 := FnT.of Try.func103 (by decide +kernel) rfl
theorem fn104 : FnT Try.prog 104 := FnT.of Try.func104 (by decide +kernel) rfl
theorem fn105 : FnT Try.prog 105 := FnT.of Try.func105 (by decide +kernel) rfl
theorem fn106 : FnT Try.prog 106 := FnT.of Try.func106 (by decide +kernel) rfl
theorem fn107 : FnT Try.prog 107 := FnT.of Try.func107 (by decide +kernel) rfl
theorem fn108 : FnT Try.prog 108 := FnT.of Try.func108 (by decide +kernel) rfl
theorem fn111 : FnT Try.prog 111 := FnT.of Try.func111 (by decide +kernel) rfl
theorem fn112 : FnT Try.prog 112 := FnT.of Try.func112 (by decide +kernel) rfl
theorem fn113 : FnT Try.prog 113 := FnT.of Try.func113 (by decide +kernel) rfl
theorem fn114 : FnT Try.prog 114 := FnT.of Try.func114 (by decide +kernel) rfl
theorem fn115 : FnT Try.prog 115 := FnT.of Try.func115 (by decide +kernel) rfl
theorem fn116 : FnT Try.prog 116 := FnT.of Try.func116 (by decide +kernel) rfl
theorem fn130 : FnT Try.prog 130 := FnT.of Try.func130 (by decide +kernel) rfl
theorem fn131 : FnT Try.prog 131 := FnT.of Try.func131 (by decide +kernel) rfl
theorem fn136 : FnT Try.prog 136 := FnT.of Try.func136 (by decide +kernel) rfl
theorem fn137 : FnT Try.prog 137 := FnT.of Try.func137 (by decide +kernel) rfl
theorem fn143 : FnT Try.prog 143 := FnT.of Try.func143 (by decide +kernel) rfl
theorem fn144 : FnT Try.prog 144 := FnT.of Try.func144 (by decide +kernel) rfl
theorem fn145 : FnT Try.prog 145 := FnT.of Try.func145 (by decide +kernel) rfl
theorem fn146 : FnT Try.prog 146 := FnT.of Try.func146 (by decide +kernel) rfl
theorem fn147 : FnT Try.prog 147 := FnT.of Try.func147 (by decide +kernel) rfl
theorem fn151 : FnT Try.prog 151 := FnT.of Try.func151 (by decide +kernel) rfl
theorem fn152 : FnT Try.prog 152 := FnT.of Try.func152 (by decide +kernel) rfl
theorem fn153 : FnT Try.prog 153 := FnT.of Try.func153 (by decide +kernel) rfl
theorem fn154 : FnT Try.prog 154 := FnT.of Try.func154 (by decide +kernel) rfl
theorem fn155 : FnT Try.prog 155 := FnT.of Try.func155 (by decide +kernel) rfl
theorem fn156 : FnT Try.prog 156 := FnT.of Try.func156 (by decide +kernel) rfl
theorem fn157 : FnT Try.prog 157 := FnT.of Try.func157 (by decide +kernel) rfl
theorem fn158 : FnT Try.prog 158 := FnT.of Try.func158 (by decide +kernel) rfl
theorem fn159 : FnT Try.prog 159 := FnT.of Try.func159 (by decide +kernel) rfl
theorem fn160 : FnT Try.prog 160 := FnT.of Try.func160 (by decide +kernel) rfl
theorem fn161 : FnT Try.prog 161 := FnT.of Try.func161 (by decide +kernel) rfl
theorem fn162 : FnT Try.prog 162 := FnT.of Try.func162 (by decide +kernel) rfl
theorem fn163 : FnT Try.prog 163 := FnT.of Try.func163 (by decide +kernel) rfl
theorem fn164 : FnT Try.prog 164 := FnT.of Try.func164 (by decide +kernel) rfl
theorem fn165 : FnT Try.prog 165 := FnT.of Try.func165 (by decide +kernel) rfl
theorem fn166 : FnT Try.prog 166 := FnT.of Try.func166 (by decide +kernel) rfl
theorem fn167 : FnT Try.prog 167 := FnT.of Try.func167 (by decide +kernel) rfl
theorem fn168 : FnT Try.prog 168 := FnT.of Try.func168 (by decide +kernel) rfl
theorem fn169 : FnT Try.prog 169 := FnT.of Try.func169 (by decide +kernel) rfl
theorem fn171 : FnT Try.prog 171 := FnT.of Try.func171 (by decide +kernel) rfl
theorem fn181 : FnT Try.prog 181 := FnT.of Try.func181 (by decide +kernel) rfl
theorem fn182 : FnT Try.prog 182 := FnT.of Try.func182 (by decide +kernel) rfl
theorem fn184 : FnT Try.prog 184 := FnT.of Try.func184 (by decide +kernel) rfl
theorem fn185 : FnT Try.prog 185 := FnT.of Try.func185 (by decide +kernel) rfl
theorem fn197 : FnT Try.prog 197 := FnT.of Try.func197 (by decide +kernel) rfl
theorem fn198 : FnT Try.prog 198 := FnT.of Try.func198 (by decide +kernel) rfl
theorem fn199 : FnT Try.prog 199 := FnT.of Try.func199 (by decide +kernel) rfl
theorem fn200 : FnT Try.prog 200 := FnT.of Try.func200 (by decide +kernel) rfl
theorem fn201 : FnT Try.prog 201 := FnT.of Try.func201 (by decide +kernel) rfl
theorem fn202 : FnT Try.prog 202 := FnT.of Try.func202 (by decide +kernel) rfl
theorem fn203 : FnT Try.prog 203 := FnT.of Try.func203 (by decide +kernel) rfl
theorem fn204 : FnT Try.prog 204 := FnT.of Try.func204 (by decide +kernel) rfl
theorem fn210 : FnT Try.prog 210 := FnT.of Try.func210 (by decide +kernel) rfl
theorem fn211 : FnT Try.prog 211 := FnT.of Try.func211 (by decide +kernel) rfl
theorem fn212 : FnT Try.prog 212 := FnT.of Try.func212 (by decide +kernel) rfl
theorem mixed : Try.prog.follows .mixedOrders = true := by kernel_rfl
end Go.Proofs.Yticobjbjejpomaa.VC

