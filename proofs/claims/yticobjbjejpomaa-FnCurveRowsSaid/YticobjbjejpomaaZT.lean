/- Facts on the types, fields and functions of this program: by program (types.py), each by reckoning. -/
import Derived.Test.YticobjbjejpomaaZD
import Derived.Test.YticobjbjejpomaaProg
import Derived.KernelRfl
set_option maxRecDepth 100000
namespace Go.Proofs.Yticobjbjejpomaa.VC
open Go Go.RowKit
theorem in2 : (Try.prog.info? 2).map (fun i => (i.zero, i.size, i.bytes)) = some (some (.int .i64 0), 1, 8) := by kernel_rfl
theorem sl22 : SlT Try.prog 22 2 (.int .i64 0) 1 8 := ⟨Try.underlying22, (by obtain ⟨i, h1, h2, h3, h4⟩ := info_parts in2; exact ⟨i, h1, h2, h3, h4⟩), rfl, by decide⟩
theorem in22 : (Try.prog.info? 22).map (fun i => (i.zero, i.size, i.bytes)) = some (some (.slice none 0 0), 1, 24) := by kernel_rfl
theorem sl23 : SlT Try.prog 23 22 (.slice none 0 0) 1 24 := ⟨Try.underlying23, (by obtain ⟨i, h1, h2, h3, h4⟩ := info_parts in22; exact ⟨i, h1, h2, h3, h4⟩), rfl, by decide⟩
theorem in5 : (Try.prog.info? 5).map (fun i => (i.zero, i.size, i.bytes)) = some (some (.int .u8 0), 1, 1) := by kernel_rfl
theorem sl75 : SlT Try.prog 75 5 (.int .u8 0) 1 1 := ⟨Try.underlying75, (by obtain ⟨i, h1, h2, h3, h4⟩ := info_parts in5; exact ⟨i, h1, h2, h3, h4⟩), rfl, by decide⟩
theorem in86 : (Try.prog.info? 86).map (fun i => (i.zero, i.size, i.bytes)) = some (some (.agg #[(.int .i64 0), (.int .i64 0)]), 2, 16) := by kernel_rfl
theorem sl82 : SlT Try.prog 82 86 (.agg #[(.int .i64 0), (.int .i64 0)]) 2 16 := ⟨Try.underlying82, (by obtain ⟨i, h1, h2, h3, h4⟩ := info_parts in86; exact ⟨i, h1, h2, h3, h4⟩), rfl, by decide⟩
theorem in3 : (Try.prog.info? 3).map (fun i => (i.zero, i.size, i.bytes)) = some (some (.int .i64 0), 1, 8) := by kernel_rfl
theorem sl161 : SlT Try.prog 161 3 (.int .i64 0) 1 8 := ⟨Try.underlying161, (by obtain ⟨i, h1, h2, h3, h4⟩ := info_parts in3; exact ⟨i, h1, h2, h3, h4⟩), rfl, by decide⟩
theorem in166 : (Try.prog.info? 166).map (fun i => (i.zero, i.size, i.bytes)) = some (some (.agg #[(.slice none 0 0), (.slice none 0 0)]), 2, 48) := by kernel_rfl
theorem sl164 : SlT Try.prog 164 166 (.agg #[(.slice none 0 0), (.slice none 0 0)]) 2 48 := ⟨Try.underlying164, (by obtain ⟨i, h1, h2, h3, h4⟩ := info_parts in166; exact ⟨i, h1, h2, h3, h4⟩), rfl, by decide⟩
theorem bd29_  : Try.prog.built 29 [] = some #[.int .i64 0, .int .i64 0, .slice none 0 0] := by kernel_rfl
theorem bd29_0_1 (x0 : Int) (x1 : Int) : Try.prog.built 29 [(0, .int .i64 x0), (1, .int .i64 x1)] = some #[.int .i64 x0, .int .i64 x1, .slice none 0 0] := by kernel_rfl
theorem bd29_0_1_2 (x0 : Int) (x1 : Int) {x2 : Value} {n2 : Nat} (h2 : IsSl x2 n2) : Try.prog.built 29 [(0, .int .i64 x0), (1, .int .i64 x1), (2, x2)] = some #[.int .i64 x0, .int .i64 x1, x2] := by obtain ⟨A2, c2, rfl⟩ := h2; kernel_rfl
theorem bd86_0_1 (x0 : Int) (x1 : Int) : Try.prog.built 86 [(0, .int .i64 x0), (1, .int .i64 x1)] = some #[.int .i64 x0, .int .i64 x1] := by kernel_rfl
theorem bd166_0_1 {x0 : Value} {n0 : Nat} (h0 : IsSl x0 n0) {x1 : Value} {n1 : Nat} (h1 : IsSl x1 n1) : Try.prog.built 166 [(0, x0), (1, x1)] = some #[x0, x1] := by obtain ⟨A0, c0, rfl⟩ := h0; obtain ⟨A1, c1, rfl⟩ := h1; kernel_rfl
theorem bd199_0 {x0 : Value} {n0 : Nat} (h0 : IsSl x0 n0) : Try.prog.built 199 [(0, x0)] = some #[x0, .int .i64 0, .int .u64 0] := by obtain ⟨A0, c0, rfl⟩ := h0; kernel_rfl
theorem va2 : VarT Try.prog 2 false 1 := ⟨⟨_, Try.underlying2, rfl⟩, (by obtain ⟨i, h1, h2, h3, h4⟩ := info_parts in2; exact ⟨i, h1, h3⟩)⟩
theorem va3 : VarT Try.prog 3 false 1 := ⟨⟨_, Try.underlying3, rfl⟩, (by obtain ⟨i, h1, h2, h3, h4⟩ := info_parts in3; exact ⟨i, h1, h3⟩)⟩
theorem va5 : VarT Try.prog 5 false 1 := ⟨⟨_, Try.underlying5, rfl⟩, (by obtain ⟨i, h1, h2, h3, h4⟩ := info_parts in5; exact ⟨i, h1, h3⟩)⟩
theorem va22 : VarT Try.prog 22 false 1 := ⟨⟨_, Try.underlying22, rfl⟩, (by obtain ⟨i, h1, h2, h3, h4⟩ := info_parts in22; exact ⟨i, h1, h3⟩)⟩
theorem in23 : (Try.prog.info? 23).map (fun i => (i.zero, i.size, i.bytes)) = some (some (.slice none 0 0), 1, 24) := by kernel_rfl
theorem va23 : VarT Try.prog 23 false 1 := ⟨⟨_, Try.underlying23, rfl⟩, (by obtain ⟨i, h1, h2, h3, h4⟩ := info_parts in23; exact ⟨i, h1, h3⟩)⟩
theorem in29 : (Try.prog.info? 29).map (fun i => (i.zero, i.size, i.bytes)) = some (some (.agg #[(.int .i64 0), (.int .i64 0), (.slice none 0 0)]), 3, 40) := by kernel_rfl
theorem va29 : VarT Try.prog 29 true 3 := ⟨⟨_, Try.underlying29, rfl⟩, (by obtain ⟨i, h1, h2, h3, h4⟩ := info_parts in29; exact ⟨i, h1, h3⟩)⟩
theorem ze29 : ZeroT Try.prog 29 (.agg #[(.int .i64 0), (.int .i64 0), (.slice none 0 0)]) 3 := ⟨(by obtain ⟨i, h1, h2, h3, h4⟩ := info_parts in29; exact ⟨i, h1, h2, h3⟩), rfl⟩
theorem in31 : (Try.prog.info? 31).map (fun i => (i.zero, i.size, i.bytes)) = some (some (.agg #[(.int .i64 0), (.slice none 0 0), (.int .i64 0), (.int .i64 0), (.slice none 0 0)]), 5, 72) := by kernel_rfl
theorem va31 : VarT Try.prog 31 true 5 := ⟨⟨_, Try.underlying31, rfl⟩, (by obtain ⟨i, h1, h2, h3, h4⟩ := info_parts in31; exact ⟨i, h1, h3⟩)⟩
theorem ze31 : ZeroT Try.prog 31 (.agg #[(.int .i64 0), (.slice none 0 0), (.int .i64 0), (.int .i64 0), (.slice none 0 0)]) 5 := ⟨(by obtain ⟨i, h1, h2, h3, h4⟩ := info_parts in31; exact ⟨i, h1, h2, h3⟩), rfl⟩
theorem in75 : (Try.prog.info? 75).map (fun i => (i.zero, i.size, i.bytes)) = some (some (.slice none 0 0), 1, 24) := by kernel_rfl
theorem va75 : VarT Try.prog 75 false 1 := ⟨⟨_, Try.underlying75, rfl⟩, (by obtain ⟨i, h1, h2, h3, h4⟩ := info_parts in75; exact ⟨i, h1, h3⟩)⟩
theorem va86 : VarT Try.prog 86 true 2 := ⟨⟨_, Try.underlying86, rfl⟩, (by obtain ⟨i, h1, h2, h3, h4⟩ := info_parts in86; exact ⟨i, h1, h3⟩)⟩
theorem ze86 : ZeroT Try.prog 86 (.agg #[(.int .i64 0), (.int .i64 0)]) 2 := ⟨(by obtain ⟨i, h1, h2, h3, h4⟩ := info_parts in86; exact ⟨i, h1, h2, h3⟩), rfl⟩
theorem in164 : (Try.prog.info? 164).map (fun i => (i.zero, i.size, i.bytes)) = some (some (.slice none 0 0), 1, 24) := by kernel_rfl
theorem va164 : VarT Try.prog 164 false 1 := ⟨⟨_, Try.underlying164, rfl⟩, (by obtain ⟨i, h1, h2, h3, h4⟩ := info_parts in164; exact ⟨i, h1, h3⟩)⟩
theorem ze164 : ZeroT Try.prog 164 (.slice none 0 0) 1 := ⟨(by obtain ⟨i, h1, h2, h3, h4⟩ := info_parts in164; exact ⟨i, h1, h2, h3⟩), rfl⟩
theorem va166 : VarT Try.prog 166 true 2 := ⟨⟨_, Try.underlying166, rfl⟩, (by obtain ⟨i, h1, h2, h3, h4⟩ := info_parts in166; exact ⟨i, h1, h3⟩)⟩
theorem ze166 : ZeroT Try.prog 166 (.agg #[(.slice none 0 0), (.slice none 0 0)]) 2 := ⟨(by obtain ⟨i, h1, h2, h3, h4⟩ := info_parts in166; exact ⟨i, h1, h2, h3⟩), rfl⟩
theorem in197 : (Try.prog.info? 197).map (fun i => (i.zero, i.size, i.bytes)) = some (some (.int .u64 0), 1, 8) := by kernel_rfl
theorem va197 : VarT Try.prog 197 false 1 := ⟨⟨_, Try.underlying197, rfl⟩, (by obtain ⟨i, h1, h2, h3, h4⟩ := info_parts in197; exact ⟨i, h1, h3⟩)⟩
theorem fl29_0 : FldT Try.prog 29 0 0 1 := ⟨⟨_, _, Try.underlying29, rfl, rfl, (by obtain ⟨i, h1, h2, h3, h4⟩ := info_parts in2; exact ⟨i, h1, h3⟩)⟩, by decide⟩
theorem fl29_1 : FldT Try.prog 29 1 1 1 := ⟨⟨_, _, Try.underlying29, rfl, rfl, (by obtain ⟨i, h1, h2, h3, h4⟩ := info_parts in2; exact ⟨i, h1, h3⟩)⟩, by decide⟩
theorem fl29_2 : FldT Try.prog 29 2 2 1 := ⟨⟨_, _, Try.underlying29, rfl, rfl, (by obtain ⟨i, h1, h2, h3, h4⟩ := info_parts in23; exact ⟨i, h1, h3⟩)⟩, by decide⟩
theorem fl31_0 : FldT Try.prog 31 0 0 1 := ⟨⟨_, _, Try.underlying31, rfl, rfl, (by obtain ⟨i, h1, h2, h3, h4⟩ := info_parts in2; exact ⟨i, h1, h3⟩)⟩, by decide⟩
theorem fl31_1 : FldT Try.prog 31 1 1 1 := ⟨⟨_, _, Try.underlying31, rfl, rfl, (by obtain ⟨i, h1, h2, h3, h4⟩ := info_parts in22; exact ⟨i, h1, h3⟩)⟩, by decide⟩
theorem fl31_2 : FldT Try.prog 31 2 2 3 := ⟨⟨_, _, Try.underlying31, rfl, rfl, (by obtain ⟨i, h1, h2, h3, h4⟩ := info_parts in29; exact ⟨i, h1, h3⟩)⟩, by decide⟩
theorem fl86_0 : FldT Try.prog 86 0 0 1 := ⟨⟨_, _, Try.underlying86, rfl, rfl, (by obtain ⟨i, h1, h2, h3, h4⟩ := info_parts in2; exact ⟨i, h1, h3⟩)⟩, by decide⟩
theorem fl86_1 : FldT Try.prog 86 1 1 1 := ⟨⟨_, _, Try.underlying86, rfl, rfl, (by obtain ⟨i, h1, h2, h3, h4⟩ := info_parts in2; exact ⟨i, h1, h3⟩)⟩, by decide⟩
theorem fl166_0 : FldT Try.prog 166 0 0 1 := ⟨⟨_, _, Try.underlying166, rfl, rfl, (by obtain ⟨i, h1, h2, h3, h4⟩ := info_parts in22; exact ⟨i, h1, h3⟩)⟩, by decide⟩
theorem fl166_1 : FldT Try.prog 166 1 1 1 := ⟨⟨_, _, Try.underlying166, rfl, rfl, (by obtain ⟨i, h1, h2, h3, h4⟩ := info_parts in22; exact ⟨i, h1, h3⟩)⟩, by decide⟩
theorem fl199_0 : FldT Try.prog 199 0 0 1 := ⟨⟨_, _, Try.underlying199, rfl, rfl, (by obtain ⟨i, h1, h2, h3, h4⟩ := info_parts in75; exact ⟨i, h1, h3⟩)⟩, by decide⟩
theorem fl199_1 : FldT Try.prog 199 1 1 1 := ⟨⟨_, _, Try.underlying199, rfl, rfl, (by obtain ⟨i, h1, h2, h3, h4⟩ := info_parts in3; exact ⟨i, h1, h3⟩)⟩, by decide⟩
theorem fl199_2 : FldT Try.prog 199 2 2 1 := ⟨⟨_, _, Try.underlying199, rfl, rfl, (by obtain ⟨i, h1, h2, h3, h4⟩ := info_parts in197; exact ⟨i, h1, h3⟩)⟩, by decide⟩
theorem fn25 : FnT Try.prog 25 := FnT.of Try.func25 (by decide +kernel) rfl
theorem fn33 : FnT Try.prog 33 := FnT.of Try.func33 (by decide +kernel) rfl
theorem fn48 : FnT Try.prog 48 := FnT.of Try.func48 (by decide +kernel) rfl
theorem fn49 : FnT Try.prog 49 := FnT.of Try.func49 (by decide +kernel) rfl
theorem fn50 : FnT Try.prog 50 := FnT.of Try.func50 (by decide +kernel) rfl
theorem fn51 : FnT Try.prog 51 := FnT.of Try.func51 (by decide +kernel) rfl
theorem fn52 : FnT Try.prog 52 := FnT.of Try.func52 (by decide +kernel) rfl
theorem fn53 : FnT Try.prog 53 := FnT.of Try.func53 (by decide +kernel) rfl
theorem fn54 : FnT Try.prog 54 := FnT.of Try.func54 (by decide +kernel) rfl
theorem fn55 : FnT Try.prog 55 := FnT.of Try.func55 (by decide +kernel) rfl
theorem fn56 : FnT Try.prog 56 := FnT.of Try.func56 (by decide +kernel) rfl
theorem fn72 : FnT Try.prog 72 := FnT.of Try.func72 (by decide +kernel) rfl
theorem fn73 : FnT Try.prog 73 := FnT.of Try.func73 (by decide +kernel) rfl
theorem fn74 : FnT Try.prog 74 := FnT.of Try.func74 (by decide +kernel) rfl
theorem fn75 : FnT Try.prog 75 := FnT.of Try.func75 (by decide +kernel) rfl
theorem fn78 : FnT Try.prog 78 := FnT.of Try.func78 (by decide +kernel) rfl
theorem fn79 : FnT Try.prog 79 := FnT.of Try.func79 (by decide +kernel) rfl
theorem fn82 : FnT Try.prog 82 := FnT.of Try.func82 (by decide +kernel) rfl
theorem fn83 : FnT Try.prog 83 := FnT.of Try.func83 (by decide +kernel) rfl
theorem fn85 : FnT Try.prog 85 := FnT.of Try.func85 (by decide +kernel) rfl
theorem fn86 : FnT Try.prog 86 := FnT.of Try.func86 (by decide +kernel) rfl
theorem fn87 : FnT Try.prog 87 := FnT.of Try.func87 (by decide +kernel) rfl
theorem fn89 : FnT Try.prog 89 := FnT.of Try.func89 (by decide +kernel) rfl
theorem fn92 : FnT Try.prog 92 := FnT.of Try.func92 (by decide +kernel) rfl
theorem fn93 : FnT Try.prog 93 := FnT.of Try.func93 (by decide +kernel) rfl
theorem fn94 : FnT Try.prog 94 := FnT.of Try.func94 (by decide +kernel) rfl
theorem fn103 : FnT Try.prog 103 := FnT.of Try.func103 (by decide +kernel) rfl
theorem fn104 : FnT Try.prog 104 := FnT.of Try.func104 (by decide +kernel) rfl
theorem fn117 : FnT Try.prog 117 := FnT.of Try.func117 (by decide +kernel) rfl
theorem fn118 : FnT Try.prog 118 := FnT.of Try.func118 (by decide +kernel) rfl
theorem fn119 : FnT Try.prog 119 := FnT.of Try.func119 (by decide +kernel) rfl
theorem fn120 : FnT Try.prog 120 := FnT.of Try.func120 (by decide +kernel) rfl
theorem fn121 : FnT Try.prog 121 := FnT.of Try.func121 (by decide +kernel) rfl
theorem fn122 : FnT Try.prog 122 := FnT.of Try.func122 (by decide +kernel) rfl
theorem fn123 : FnT Try.prog 123 := FnT.of Try.func123 (by decide +kernel) rfl
theorem fn124 : FnT Try.prog 124 := FnT.of Try.func124 (by decide +kernel) rfl
theorem fn125 : FnT Try.prog 125 := FnT.of Try.func125 (by decide +kernel) rfl
theorem fn126 : FnT Try.prog 126 := FnT.of Try.func126 (by decide +kernel) rfl
theorem fn127 : FnT Try.prog 127 := FnT.of Try.func127 (by decide +kernel) rfl
theorem fn128 : FnT Try.prog 128 := FnT.of Try.func128 (by decide +kernel) rfl
theorem fn135 : FnT Try.prog 135 := FnT.of Try.func135 (by decide +kernel) rfl
theorem fn137 : FnT Try.prog 137 := FnT.of Try.func137 (by decide +kernel) rfl
theorem fn138 : FnT Try.prog 138 := FnT.of Try.func138 (by decide +kernel) rfl
theorem fn139 : FnT Try.prog 139 := FnT.of Try.func139 (by decide +kernel) rfl
theorem fn140 : FnT Try.prog 140 := FnT.of Try.func140 (by decide +kernel) rfl
theorem fn141 : FnT Try.prog 141 := FnT.of Try.func141 (by decide +kernel) rfl
theorem fn142 : FnT Try.prog 142 := FnT.of Try.func142 (by decide +kernel) rfl
theorem fn143 : FnT Try.prog 143 := FnT.of Try.func143 (by decide +kernel) rfl
theorem fn144 : FnT Try.prog 144 := FnT.of Try.func144 (by decide +kernel) rfl
theorem fn146 : FnT Try.prog 146 := FnT.of Try.func146 (by decide +kernel) rfl
theorem fn147 : FnT Try.prog 147 := FnT.of Try.func147 (by decide +kernel) rfl
theorem fn148 : FnT Try.prog 148 := FnT.of Try.func148 (by decide +kernel) rfl
theorem fn161 : FnT Try.prog 161 := FnT.of Try.func161 (by decide +kernel) rfl
theorem fn170 : FnT Try.prog 170 := FnT.of Try.func170 (by decide +kernel) rfl
theorem fn171 : FnT Try.prog 171 := FnT.of Try.func171 (by decide +kernel) rfl
theorem fn172 : FnT Try.prog 172 := FnT.of Try.func172 (by decide +kernel) rfl
theorem fn173 : FnT Try.prog 173 := FnT.of Try.func173 (by decide +kernel) rfl
theorem fn180 : FnT Try.prog 180 := FnT.of Try.func180 (by decide +kernel) rfl
theorem fn182 : FnT Try.prog 182 := FnT.of Try.func182 (by decide +kernel) rfl
theorem fn183 : FnT Try.prog 183 := FnT.of Try.func183 (by decide +kernel) rfl
theorem fn184 : FnT Try.prog 184 := FnT.of Try.func184 (by decide +kernel) rfl
theorem fn185 : FnT Try.prog 185 := FnT.of Try.func185 (by decide +kernel) rfl
theorem fn204 : FnT Try.prog 204 := FnT.of Try.func204 (by decide +kernel) rfl
theorem mixed : Try.prog.follows .mixedOrders = true := by kernel_rfl
end Go.Proofs.Yticobjbjejpomaa.VC

