/- Facts on the types, fields and functions of this program: by program (types.py), each by reckoning. -/
import Derived.Test.YticobjbjejpomaaVD
import Derived.Test.YticobjbjejpomaaProg
import Derived.KernelRfl
set_option maxRecDepth 100000
namespace Go.Proofs.Yticobjbjejpomaa.VC
open Go Go.RowKit
theorem in2 : (Try.prog.info? 2).map (fun i => (i.zero, i.size, i.bytes)) = some (some (.int .i64 0), 1, 8) := by kernel_rfl
theorem sl22 : SlT Try.prog 22 2 (.int .i64 0) 1 8 := ⟨Try.underlying22, (by obtain ⟨i, h1, h2, h3, h4⟩ := info_parts in2; exact ⟨i, h1, h2, h3, h4⟩), rfl, by decide⟩
theorem in22 : (Try.prog.info? 22).map (fun i => (i.zero, i.size, i.bytes)) = some (some (.slice none 0 0), 1, 24) := by kernel_rfl
theorem sl23 : SlT Try.prog 23 22 (.slice none 0 0) 1 24 := ⟨Try.underlying23, (by obtain ⟨i, h1, h2, h3, h4⟩ := info_parts in22; exact ⟨i, h1, h2, h3, h4⟩), rfl, by decide⟩
theorem in56 : (Try.prog.info? 56).map (fun i => (i.zero, i.size, i.bytes)) = some (some (.agg #[(.int .i64 0), (.int .i64 0), (.slice none 0 0)]), 3, 40) := by kernel_rfl
theorem sl54 : SlT Try.prog 54 56 (.agg #[(.int .i64 0), (.int .i64 0), (.slice none 0 0)]) 3 40 := ⟨Try.underlying54, (by obtain ⟨i, h1, h2, h3, h4⟩ := info_parts in56; exact ⟨i, h1, h2, h3, h4⟩), rfl, by decide⟩
theorem in61 : (Try.prog.info? 61).map (fun i => (i.zero, i.size, i.bytes)) = some (some (.agg #[(.int .i64 0), (.int .i64 0), (.slice none 0 0)]), 3, 40) := by kernel_rfl
theorem sl59 : SlT Try.prog 59 61 (.agg #[(.int .i64 0), (.int .i64 0), (.slice none 0 0)]) 3 40 := ⟨Try.underlying59, (by obtain ⟨i, h1, h2, h3, h4⟩ := info_parts in61; exact ⟨i, h1, h2, h3, h4⟩), rfl, by decide⟩
theorem in5 : (Try.prog.info? 5).map (fun i => (i.zero, i.size, i.bytes)) = some (some (.int .u8 0), 1, 1) := by kernel_rfl
theorem sl75 : SlT Try.prog 75 5 (.int .u8 0) 1 1 := ⟨Try.underlying75, (by obtain ⟨i, h1, h2, h3, h4⟩ := info_parts in5; exact ⟨i, h1, h2, h3, h4⟩), rfl, by decide⟩
theorem in86 : (Try.prog.info? 86).map (fun i => (i.zero, i.size, i.bytes)) = some (some (.agg #[(.int .i64 0), (.int .i64 0)]), 2, 16) := by kernel_rfl
theorem sl82 : SlT Try.prog 82 86 (.agg #[(.int .i64 0), (.int .i64 0)]) 2 16 := ⟨Try.underlying82, (by obtain ⟨i, h1, h2, h3, h4⟩ := info_parts in86; exact ⟨i, h1, h2, h3, h4⟩), rfl, by decide⟩
theorem in3 : (Try.prog.info? 3).map (fun i => (i.zero, i.size, i.bytes)) = some (some (.int .i64 0), 1, 8) := by kernel_rfl
theorem sl161 : SlT Try.prog 161 3 (.int .i64 0) 1 8 := ⟨Try.underlying161, (by obtain ⟨i, h1, h2, h3, h4⟩ := info_parts in3; exact ⟨i, h1, h2, h3, h4⟩), rfl, by decide⟩
theorem in166 : (Try.prog.info? 166).map (fun i => (i.zero, i.size, i.bytes)) = some (some (.agg #[(.slice none 0 0), (.slice none 0 0)]), 2, 48) := by kernel_rfl
theorem sl164 : SlT Try.prog 164 166 (.agg #[(.slice none 0 0), (.slice none 0 0)]) 2 48 := ⟨Try.underlying164, (by obtain ⟨i, h1, h2, h3, h4⟩ := info_parts in166; exact ⟨i, h1, h2, h3, h4⟩), rfl, by decide⟩
theorem bd29_  : Try.prog.built 29 [] = some #[.int .i64 0, .int .i64 0, .slice none 0 0] := by kernel_rfl
theorem bd29_0_1 (x0 : Int) (x1 : Int) : Try.prog.built 29 [(0, .int .i64 x0), (1, .int .i64 x1)] = some #[.int .i64 x0, .int .i64 x1, .slice none 0 0] := by kernel_rfl
theorem bd29_0_1_2 (x0 : Int) (x1 : Int) {x2 : Value} {n2 : Nat} (h2 : IsSl x2 n2) : Try.prog.built 29 [(0, .int .i64 x0), (1, .int .i64 x1), (2, x2)] = some #[.int .i64 x0, .int .i64 x1, x2] := by obtain ⟨A2, c2, rfl⟩ := h2; kernel_rfl
theorem bd61_  : Try.prog.built 61 [] = some #[.int .i64 0, .int .i64 0, .slice none 0 0] := by kernel_rfl
theorem bd61_0 (x0 : Int) : Try.prog.built 61 [(0, .int .i64 x0)] = some #[.int .i64 x0, .int .i64 0, .slice none 0 0] := by kernel_rfl
theorem bd61_0_1_2 (x0 : Int) (x1 : Int) {x2 : Value} {n2 : Nat} (h2 : IsSl x2 n2) : Try.prog.built 61 [(0, .int .i64 x0), (1, .int .i64 x1), (2, x2)] = some #[.int .i64 x0, .int .i64 x1, x2] := by obtain ⟨A2, c2, rfl⟩ := h2; kernel_rfl
theorem bd86_0_1 (x0 : Int) (x1 : Int) : Try.prog.built 86 [(0, .int .i64 x0), (1, .int .i64 x1)] = some #[.int .i64 x0, .int .i64 x1] := by kernel_rfl
theorem bd134_0_1 (x0 : Int) (x1 : Int) : Try.prog.built 134 [(0, .int .i64 x0), (1, .int .i64 x1)] = some #[.int .i64 x0, .int .i64 x1, .slice none 0 0, .slice none 0 0] := by kernel_rfl
theorem bd166_0_1 {x0 : Value} {n0 : Nat} (h0 : IsSl x0 n0) {x1 : Value} {n1 : Nat} (h1 : IsSl x1 n1) : Try.prog.built 166 [(0, x0), (1, x1)] = some #[x0, x1] := by obtain ⟨A0, c0, rfl⟩ := h0; obtain ⟨A1, c1, rfl⟩ := h1; kernel_rfl
theorem bd182_0_1 (x0 : Int) (x1 : Int) : Try.prog.built 182 [(0, .int .i64 x0), (1, .int .i64 x1)] = some #[.int .i64 x0, .int .i64 x1, .slice none 0 0, .slice none 0 0] := by kernel_rfl
theorem bd199_0 {x0 : Value} {n0 : Nat} (h0 : IsSl x0 n0) : Try.prog.built 199 [(0, x0)] = some #[x0, .int .i64 0, .int .u64 0] := by obtain ⟨A0, c0, rfl⟩ := h0; kernel_rfl
theorem va2 : VarT Try.prog 2 false 1 := ⟨⟨_, Try.underlying2, rfl⟩, (by obtain ⟨i, h1, h2, h3, h4⟩ := info_parts in2; exact ⟨i, h1, h3⟩)⟩
theorem ze2 : ZeroT Try.prog 2 (.int .i64 0) 1 := ⟨(by obtain ⟨i, h1, h2, h3, h4⟩ := info_parts in2; exact ⟨i, h1, h2, h3⟩), rfl⟩
theorem va3 : VarT Try.prog 3 false 1 := ⟨⟨_, Try.underlying3, rfl⟩, (by obtain ⟨i, h1, h2, h3, h4⟩ := info_parts in3; exact ⟨i, h1, h3⟩)⟩
theorem ze3 : ZeroT Try.prog 3 (.int .i64 0) 1 := ⟨(by obtain ⟨i, h1, h2, h3, h4⟩ := info_parts in3; exact ⟨i, h1, h2, h3⟩), rfl⟩
theorem va5 : VarT Try.prog 5 false 1 := ⟨⟨_, Try.underlying5, rfl⟩, (by obtain ⟨i, h1, h2, h3, h4⟩ := info_parts in5; exact ⟨i, h1, h3⟩)⟩
theorem va22 : VarT Try.prog 22 false 1 := ⟨⟨_, Try.underlying22, rfl⟩, (by obtain ⟨i, h1, h2, h3, h4⟩ := info_parts in22; exact ⟨i, h1, h3⟩)⟩
theorem in23 : (Try.prog.info? 23).map (fun i => (i.zero, i.size, i.bytes)) = some (some (.slice none 0 0), 1, 24) := by kernel_rfl
theorem va23 : VarT Try.prog 23 false 1 := ⟨⟨_, Try.underlying23, rfl⟩, (by obtain ⟨i, h1, h2, h3, h4⟩ := info_parts in23; exact ⟨i, h1, h3⟩)⟩
theorem in25 : (Try.prog.info? 25).map (fun i => (i.zero, i.size, i.bytes)) = some (some (.agg #[(.int .i64 0), (.int .i64 0), (.slice none 0 0)]), 3, 40) := by kernel_rfl
theorem va25 : VarT Try.prog 25 true 3 := ⟨⟨_, Try.underlying25, rfl⟩, (by obtain ⟨i, h1, h2, h3, h4⟩ := info_parts in25; exact ⟨i, h1, h3⟩)⟩
theorem ze25 : ZeroT Try.prog 25 (.agg #[(.int .i64 0), (.int .i64 0), (.slice none 0 0)]) 3 := ⟨(by obtain ⟨i, h1, h2, h3, h4⟩ := info_parts in25; exact ⟨i, h1, h2, h3⟩), rfl⟩
theorem in27 : (Try.prog.info? 27).map (fun i => (i.zero, i.size, i.bytes)) = some (some (.agg #[(.int .i64 0), (.slice none 0 0), (.int .i64 0), (.int .i64 0), (.slice none 0 0)]), 5, 72) := by kernel_rfl
theorem va27 : VarT Try.prog 27 true 5 := ⟨⟨_, Try.underlying27, rfl⟩, (by obtain ⟨i, h1, h2, h3, h4⟩ := info_parts in27; exact ⟨i, h1, h3⟩)⟩
theorem ze27 : ZeroT Try.prog 27 (.agg #[(.int .i64 0), (.slice none 0 0), (.int .i64 0), (.int .i64 0), (.slice none 0 0)]) 5 := ⟨(by obtain ⟨i, h1, h2, h3, h4⟩ := info_parts in27; exact ⟨i, h1, h2, h3⟩), rfl⟩
theorem in29 : (Try.prog.info? 29).map (fun i => (i.zero, i.size, i.bytes)) = some (some (.agg #[(.int .i64 0), (.int .i64 0), (.slice none 0 0)]), 3, 40) := by kernel_rfl
theorem va29 : VarT Try.prog 29 true 3 := ⟨⟨_, Try.underlying29, rfl⟩, (by obtain ⟨i, h1, h2, h3, h4⟩ := info_parts in29; exact ⟨i, h1, h3⟩)⟩
theorem ze29 : ZeroT Try.prog 29 (.agg #[(.int .i64 0), (.int .i64 0), (.slice none 0 0)]) 3 := ⟨(by obtain ⟨i, h1, h2, h3, h4⟩ := info_parts in29; exact ⟨i, h1, h2, h3⟩), rfl⟩
theorem in31 : (Try.prog.info? 31).map (fun i => (i.zero, i.size, i.bytes)) = some (some (.agg #[(.int .i64 0), (.slice none 0 0), (.int .i64 0), (.int .i64 0), (.slice none 0 0)]), 5, 72) := by kernel_rfl
theorem va31 : VarT Try.prog 31 true 5 := ⟨⟨_, Try.underlying31, rfl⟩, (by obtain ⟨i, h1, h2, h3, h4⟩ := info_parts in31; exact ⟨i, h1, h3⟩)⟩
theorem ze31 : ZeroT Try.prog 31 (.agg #[(.int .i64 0), (.slice none 0 0), (.int .i64 0), (.int .i64 0), (.slice none 0 0)]) 5 := ⟨(by obtain ⟨i, h1, h2, h3, h4⟩ := info_parts in31; exact ⟨i, h1, h2, h3⟩), rfl⟩
theorem in54 : (Try.prog.info? 54).map (fun i => (i.zero, i.size, i.bytes)) = some (some (.slice none 0 0), 1, 24) := by kernel_rfl
theorem va54 : VarT Try.prog 54 false 1 := ⟨⟨_, Try.underlying54, rfl⟩, (by obtain ⟨i, h1, h2, h3, h4⟩ := info_parts in54; exact ⟨i, h1, h3⟩)⟩
theorem va56 : VarT Try.prog 56 true 3 := ⟨⟨_, Try.underlying56, rfl⟩, (by obtain ⟨i, h1, h2, h3, h4⟩ := info_parts in56; exact ⟨i, h1, h3⟩)⟩
theorem ze56 : ZeroT Try.prog 56 (.agg #[(.int .i64 0), (.int .i64 0), (.slice none 0 0)]) 3 := ⟨(by obtain ⟨i, h1, h2, h3, h4⟩ := info_parts in56; exact ⟨i, h1, h2, h3⟩), rfl⟩
theorem in59 : (Try.prog.info? 59).map (fun i => (i.zero, i.size, i.bytes)) = some (some (.slice none 0 0), 1, 24) := by kernel_rfl
theorem va59 : VarT Try.prog 59 false 1 := ⟨⟨_, Try.underlying59, rfl⟩, (by obtain ⟨i, h1, h2, h3, h4⟩ := info_parts in59; exact ⟨i, h1, h3⟩)⟩
theorem va61 : VarT Try.prog 61 true 3 := ⟨⟨_, Try.underlying61, rfl⟩, (by obtain ⟨i, h1, h2, h3, h4⟩ := info_parts in61; exact ⟨i, h1, h3⟩)⟩
theorem ze61 : ZeroT Try.prog 61 (.agg #[(.int .i64 0), (.int .i64 0), (.slice none 0 0)]) 3 := ⟨(by obtain ⟨i, h1, h2, h3, h4⟩ := info_parts in61; exact ⟨i, h1, h2, h3⟩), rfl⟩
theorem in67 : (Try.prog.info? 67).map (fun i => (i.zero, i.size, i.bytes)) = some (some (.agg #[(.int .i64 0), (.slice none 0 0)]), 2, 32) := by kernel_rfl
theorem va67 : VarT Try.prog 67 true 2 := ⟨⟨_, Try.underlying67, rfl⟩, (by obtain ⟨i, h1, h2, h3, h4⟩ := info_parts in67; exact ⟨i, h1, h3⟩)⟩
theorem ze67 : ZeroT Try.prog 67 (.agg #[(.int .i64 0), (.slice none 0 0)]) 2 := ⟨(by obtain ⟨i, h1, h2, h3, h4⟩ := info_parts in67; exact ⟨i, h1, h2, h3⟩), rfl⟩
theorem in70 : (Try.prog.info? 70).map (fun i => (i.zero, i.size, i.bytes)) = some (some (.agg #[(.int .i64 0), (.slice none 0 0)]), 2, 32) := by kernel_rfl
theorem va70 : VarT Try.prog 70 true 2 := ⟨⟨_, Try.underlying70, rfl⟩, (by obtain ⟨i, h1, h2, h3, h4⟩ := info_parts in70; exact ⟨i, h1, h3⟩)⟩
theorem ze70 : ZeroT Try.prog 70 (.agg #[(.int .i64 0), (.slice none 0 0)]) 2 := ⟨(by obtain ⟨i, h1, h2, h3, h4⟩ := info_parts in70; exact ⟨i, h1, h2, h3⟩), rfl⟩
theorem in75 : (Try.prog.info? 75).map (fun i => (i.zero, i.size, i.bytes)) = some (some (.slice none 0 0), 1, 24) := by kernel_rfl
theorem va75 : VarT Try.prog 75 false 1 := ⟨⟨_, Try.underlying75, rfl⟩, (by obtain ⟨i, h1, h2, h3, h4⟩ := info_parts in75; exact ⟨i, h1, h3⟩)⟩
theorem va86 : VarT Try.prog 86 true 2 := ⟨⟨_, Try.underlying86, rfl⟩, (by obtain ⟨i, h1, h2, h3, h4⟩ := info_parts in86; exact ⟨i, h1, h3⟩)⟩
theorem ze86 : ZeroT Try.prog 86 (.agg #[(.int .i64 0), (.int .i64 0)]) 2 := ⟨(by obtain ⟨i, h1, h2, h3, h4⟩ := info_parts in86; exact ⟨i, h1, h2, h3⟩), rfl⟩
theorem in134 : (Try.prog.info? 134).map (fun i => (i.zero, i.size, i.bytes)) = some (some (.agg #[(.int .i64 0), (.int .i64 0), (.slice none 0 0), (.slice none 0 0)]), 4, 64) := by kernel_rfl
theorem va134 : VarT Try.prog 134 true 4 := ⟨⟨_, Try.underlying134, rfl⟩, (by obtain ⟨i, h1, h2, h3, h4⟩ := info_parts in134; exact ⟨i, h1, h3⟩)⟩
theorem ze134 : ZeroT Try.prog 134 (.agg #[(.int .i64 0), (.int .i64 0), (.slice none 0 0), (.slice none 0 0)]) 4 := ⟨(by obtain ⟨i, h1, h2, h3, h4⟩ := info_parts in134; exact ⟨i, h1, h2, h3⟩), rfl⟩
theorem in164 : (Try.prog.info? 164).map (fun i => (i.zero, i.size, i.bytes)) = some (some (.slice none 0 0), 1, 24) := by kernel_rfl
theorem va164 : VarT Try.prog 164 false 1 := ⟨⟨_, Try.underlying164, rfl⟩, (by obtain ⟨i, h1, h2, h3, h4⟩ := info_parts in164; exact ⟨i, h1, h3⟩)⟩
theorem ze164 : ZeroT Try.prog 164 (.slice none 0 0) 1 := ⟨(by obtain ⟨i, h1, h2, h3, h4⟩ := info_parts in164; exact ⟨i, h1, h2, h3⟩), rfl⟩
theorem va166 : VarT Try.prog 166 true 2 := ⟨⟨_, Try.underlying166, rfl⟩, (by obtain ⟨i, h1, h2, h3, h4⟩ := info_parts in166; exact ⟨i, h1, h3⟩)⟩
theorem ze166 : ZeroT Try.prog 166 (.agg #[(.slice none 0 0), (.slice none 0 0)]) 2 := ⟨(by obtain ⟨i, h1, h2, h3, h4⟩ := info_parts in166; exact ⟨i, h1, h2, h3⟩), rfl⟩
theorem in182 : (Try.prog.info? 182).map (fun i => (i.zero, i.size, i.bytes)) = some (some (.agg #[(.int .i64 0), (.int .i64 0), (.slice none 0 0), (.slice none 0 0)]), 4, 64) := by kernel_rfl
theorem va182 : VarT Try.prog 182 true 4 := ⟨⟨_, Try.underlying182, rfl⟩, (by obtain ⟨i, h1, h2, h3, h4⟩ := info_parts in182; exact ⟨i, h1, h3⟩)⟩
theorem ze182 : ZeroT Try.prog 182 (.agg #[(.int .i64 0), (.int .i64 0), (.slice none 0 0), (.slice none 0 0)]) 4 := ⟨(by obtain ⟨i, h1, h2, h3, h4⟩ := info_parts in182; exact ⟨i, h1, h2, h3⟩), rfl⟩
theorem in197 : (Try.prog.info? 197).map (fun i => (i.zero, i.size, i.bytes)) = some (some (.int .u64 0), 1, 8) := by kernel_rfl
theorem va197 : VarT Try.prog 197 false 1 := ⟨⟨_, Try.underlying197, rfl⟩, (by obtain ⟨i, h1, h2, h3, h4⟩ := info_parts in197; exact ⟨i, h1, h3⟩)⟩
theorem in199 : (Try.prog.info? 199).map (fun i => (i.zero, i.size, i.bytes)) = some (some (.agg #[(.slice none 0 0), (.int .i64 0), (.int .u64 0)]), 3, 40) := by kernel_rfl
theorem va199 : VarT Try.prog 199 true 3 := ⟨⟨_, Try.underlying199, rfl⟩, (by obtain ⟨i, h1, h2, h3, h4⟩ := info_parts in199; exact ⟨i, h1, h3⟩)⟩
theorem ze199 : ZeroT Try.prog 199 (.agg #[(.slice none 0 0), (.int .i64 0), (.int .u64 0)]) 3 := ⟨(by obtain ⟨i, h1, h2, h3, h4⟩ := info_parts in199; exact ⟨i, h1, h2, h3⟩), rfl⟩
theorem in225 : (Try.prog.info? 225).map (fun i => (i.zero, i.size, i.bytes)) = some (some (.int .u64 0), 1, 8) := by kernel_rfl
theorem va225 : VarT Try.prog 225 false 1 := ⟨⟨_, Try.underlying225, rfl⟩, (by obtain ⟨i, h1, h2, h3, h4⟩ := info_parts in225; exact ⟨i, h1, h3⟩)⟩
theorem ze225 : ZeroT Try.prog 225 (.int .u64 0) 1 := ⟨(by obtain ⟨i, h1, h2, h3, h4⟩ := info_parts in225; exact ⟨i, h1, h2, h3⟩), rfl⟩
theorem fl25_0 : FldT Try.prog 25 0 0 1 := ⟨⟨_, _, Try.underlying25, rfl, rfl, (by obtain ⟨i, h1, h2, h3, h4⟩ := info_parts in2; exact ⟨i, h1, h3⟩)⟩, by decide⟩
theorem fl25_1 : FldT Try.prog 25 1 1 1 := ⟨⟨_, _, Try.underlying25, rfl, rfl, (by obtain ⟨i, h1, h2, h3, h4⟩ := info_parts in2; exact ⟨i, h1, h3⟩)⟩, by decide⟩
theorem fl25_2 : FldT Try.prog 25 2 2 1 := ⟨⟨_, _, Try.underlying25, rfl, rfl, (by obtain ⟨i, h1, h2, h3, h4⟩ := info_parts in23; exact ⟨i, h1, h3⟩)⟩, by decide⟩
theorem fl27_0 : FldT Try.prog 27 0 0 1 := ⟨⟨_, _, Try.underlying27, rfl, rfl, (by obtain ⟨i, h1, h2, h3, h4⟩ := info_parts in2; exact ⟨i, h1, h3⟩)⟩, by decide⟩
theorem fl27_1 : FldT Try.prog 27 1 1 1 := ⟨⟨_, _, Try.underlying27, rfl, rfl, (by obtain ⟨i, h1, h2, h3, h4⟩ := info_parts in22; exact ⟨i, h1, h3⟩)⟩, by decide⟩
theorem fl27_2 : FldT Try.prog 27 2 2 3 := ⟨⟨_, _, Try.underlying27, rfl, rfl, (by obtain ⟨i, h1, h2, h3, h4⟩ := info_parts in25; exact ⟨i, h1, h3⟩)⟩, by decide⟩
theorem fl29_0 : FldT Try.prog 29 0 0 1 := ⟨⟨_, _, Try.underlying29, rfl, rfl, (by obtain ⟨i, h1, h2, h3, h4⟩ := info_parts in2; exact ⟨i, h1, h3⟩)⟩, by decide⟩
theorem fl29_1 : FldT Try.prog 29 1 1 1 := ⟨⟨_, _, Try.underlying29, rfl, rfl, (by obtain ⟨i, h1, h2, h3, h4⟩ := info_parts in2; exact ⟨i, h1, h3⟩)⟩, by decide⟩
theorem fl29_2 : FldT Try.prog 29 2 2 1 := ⟨⟨_, _, Try.underlying29, rfl, rfl, (by obtain ⟨i, h1, h2, h3, h4⟩ := info_parts in23; exact ⟨i, h1, h3⟩)⟩, by decide⟩
theorem fl31_0 : FldT Try.prog 31 0 0 1 := ⟨⟨_, _, Try.underlying31, rfl, rfl, (by obtain ⟨i, h1, h2, h3, h4⟩ := info_parts in2; exact ⟨i, h1, h3⟩)⟩, by decide⟩
theorem fl31_1 : FldT Try.prog 31 1 1 1 := ⟨⟨_, _, Try.underlying31, rfl, rfl, (by obtain ⟨i, h1, h2, h3, h4⟩ := info_parts in22; exact ⟨i, h1, h3⟩)⟩, by decide⟩
theorem fl31_2 : FldT Try.prog 31 2 2 3 := ⟨⟨_, _, Try.underlying31, rfl, rfl, (by obtain ⟨i, h1, h2, h3, h4⟩ := info_parts in29; exact ⟨i, h1, h3⟩)⟩, by decide⟩
theorem fl56_0 : FldT Try.prog 56 0 0 1 := ⟨⟨_, _, Try.underlying56, rfl, rfl, (by obtain ⟨i, h1, h2, h3, h4⟩ := info_parts in2; exact ⟨i, h1, h3⟩)⟩, by decide⟩
theorem fl56_1 : FldT Try.prog 56 1 1 1 := ⟨⟨_, _, Try.underlying56, rfl, rfl, (by obtain ⟨i, h1, h2, h3, h4⟩ := info_parts in2; exact ⟨i, h1, h3⟩)⟩, by decide⟩
theorem fl56_2 : FldT Try.prog 56 2 2 1 := ⟨⟨_, _, Try.underlying56, rfl, rfl, (by obtain ⟨i, h1, h2, h3, h4⟩ := info_parts in54; exact ⟨i, h1, h3⟩)⟩, by decide⟩
theorem fl61_0 : FldT Try.prog 61 0 0 1 := ⟨⟨_, _, Try.underlying61, rfl, rfl, (by obtain ⟨i, h1, h2, h3, h4⟩ := info_parts in2; exact ⟨i, h1, h3⟩)⟩, by decide⟩
theorem fl61_1 : FldT Try.prog 61 1 1 1 := ⟨⟨_, _, Try.underlying61, rfl, rfl, (by obtain ⟨i, h1, h2, h3, h4⟩ := info_parts in2; exact ⟨i, h1, h3⟩)⟩, by decide⟩
theorem fl61_2 : FldT Try.prog 61 2 2 1 := ⟨⟨_, _, Try.underlying61, rfl, rfl, (by obtain ⟨i, h1, h2, h3, h4⟩ := info_parts in59; exact ⟨i, h1, h3⟩)⟩, by decide⟩
theorem fl67_0 : FldT Try.prog 67 0 0 1 := ⟨⟨_, _, Try.underlying67, rfl, rfl, (by obtain ⟨i, h1, h2, h3, h4⟩ := info_parts in2; exact ⟨i, h1, h3⟩)⟩, by decide⟩
theorem fl67_1 : FldT Try.prog 67 1 1 1 := ⟨⟨_, _, Try.underlying67, rfl, rfl, (by obtain ⟨i, h1, h2, h3, h4⟩ := info_parts in23; exact ⟨i, h1, h3⟩)⟩, by decide⟩
theorem fl70_0 : FldT Try.prog 70 0 0 1 := ⟨⟨_, _, Try.underlying70, rfl, rfl, (by obtain ⟨i, h1, h2, h3, h4⟩ := info_parts in2; exact ⟨i, h1, h3⟩)⟩, by decide⟩
theorem fl70_1 : FldT Try.prog 70 1 1 1 := ⟨⟨_, _, Try.underlying70, rfl, rfl, (by obtain ⟨i, h1, h2, h3, h4⟩ := info_parts in23; exact ⟨i, h1, h3⟩)⟩, by decide⟩
theorem fl86_0 : FldT Try.prog 86 0 0 1 := ⟨⟨_, _, Try.underlying86, rfl, rfl, (by obtain ⟨i, h1, h2, h3, h4⟩ := info_parts in2; exact ⟨i, h1, h3⟩)⟩, by decide⟩
theorem fl86_1 : FldT Try.prog 86 1 1 1 := ⟨⟨_, _, Try.underlying86, rfl, rfl, (by obtain ⟨i, h1, h2, h3, h4⟩ := info_parts in2; exact ⟨i, h1, h3⟩)⟩, by decide⟩
theorem fl134_0 : FldT Try.prog 134 0 0 1 := ⟨⟨_, _, Try.underlying134, rfl, rfl, (by obtain ⟨i, h1, h2, h3, h4⟩ := info_parts in2; exact ⟨i, h1, h3⟩)⟩, by decide⟩
theorem fl134_1 : FldT Try.prog 134 1 1 1 := ⟨⟨_, _, Try.underlying134, rfl, rfl, (by obtain ⟨i, h1, h2, h3, h4⟩ := info_parts in2; exact ⟨i, h1, h3⟩)⟩, by decide⟩
theorem fl134_2 : FldT Try.prog 134 2 2 1 := ⟨⟨_, _, Try.underlying134, rfl, rfl, (by obtain ⟨i, h1, h2, h3, h4⟩ := info_parts in22; exact ⟨i, h1, h3⟩)⟩, by decide⟩
theorem fl134_3 : FldT Try.prog 134 3 3 1 := ⟨⟨_, _, Try.underlying134, rfl, rfl, (by obtain ⟨i, h1, h2, h3, h4⟩ := info_parts in23; exact ⟨i, h1, h3⟩)⟩, by decide⟩
theorem fl166_0 : FldT Try.prog 166 0 0 1 := ⟨⟨_, _, Try.underlying166, rfl, rfl, (by obtain ⟨i, h1, h2, h3, h4⟩ := info_parts in22; exact ⟨i, h1, h3⟩)⟩, by decide⟩
theorem fl166_1 : FldT Try.prog 166 1 1 1 := ⟨⟨_, _, Try.underlying166, rfl, rfl, (by obtain ⟨i, h1, h2, h3, h4⟩ := info_parts in22; exact ⟨i, h1, h3⟩)⟩, by decide⟩
theorem fl182_0 : FldT Try.prog 182 0 0 1 := ⟨⟨_, _, Try.underlying182, rfl, rfl, (by obtain ⟨i, h1, h2, h3, h4⟩ := info_parts in2; exact ⟨i, h1, h3⟩)⟩, by decide⟩
theorem fl182_1 : FldT Try.prog 182 1 1 1 := ⟨⟨_, _, Try.underlying182, rfl, rfl, (by obtain ⟨i, h1, h2, h3, h4⟩ := info_parts in2; exact ⟨i, h1, h3⟩)⟩, by decide⟩
theorem fl182_2 : FldT Try.prog 182 2 2 1 := ⟨⟨_, _, Try.underlying182, rfl, rfl, (by obtain ⟨i, h1, h2, h3, h4⟩ := info_parts in22; exact ⟨i, h1, h3⟩)⟩, by decide⟩
theorem fl182_3 : FldT Try.prog 182 3 3 1 := ⟨⟨_, _, Try.underlying182, rfl, rfl, (by obtain ⟨i, h1, h2, h3, h4⟩ := info_parts in23; exact ⟨i, h1, h3⟩)⟩, by decide⟩
theorem fl199_0 : FldT Try.prog 199 0 0 1 := ⟨⟨_, _, Try.underlying199, rfl, rfl, (by obtain ⟨i, h1, h2, h3, h4⟩ := info_parts in75; exact ⟨i, h1, h3⟩)⟩, by decide⟩
theorem fl199_1 : FldT Try.prog 199 1 1 1 := ⟨⟨_, _, Try.underlying199, rfl, rfl, (by obtain ⟨i, h1, h2, h3, h4⟩ := info_parts in3; exact ⟨i, h1, h3⟩)⟩, by decide⟩
theorem fl199_2 : FldT Try.prog 199 2 2 1 := ⟨⟨_, _, Try.underlying199, rfl, rfl, (by obtain ⟨i, h1, h2, h3, h4⟩ := info_parts in197; exact ⟨i, h1, h3⟩)⟩, by decide⟩
theorem fn2 : FnT Try.prog 2 := FnT.of Try.func2 (by decide +kernel) rfl
theorem fn3 : FnT Try.prog 3 := FnT.of Try.func3 (by decide +kernel) rfl
theorem fn4 : FnT Try.prog 4 := FnT.of Try.func4 (by decide +kernel) rfl
theorem fn5 : FnT Try.prog 5 := FnT.of Try.func5 (by decide +kernel) rfl
theorem fn6 : FnT Try.prog 6 := FnT.of Try.func6 (by decide +kernel) rfl
theorem fn7 : FnT Try.prog 7 := FnT.of Try.func7 (by decide +kernel) rfl
theorem fn8 : FnT Try.prog 8 := FnT.of Try.func8 (by decide +kernel) rfl
theorem fn9 : FnT Try.prog 9 := FnT.of Try.func9 (by decide +kernel) rfl
theorem fn10 : FnT Try.prog 10 := FnT.of Try.func10 (by decide +kernel) rfl
theorem fn11 : FnT Try.prog 11 := FnT.of Try.func11 (by decide +kernel) rfl
theorem fn12 : FnT Try.prog 12 := FnT.of Try.func12 (by decide +kernel) rfl
theorem fn13 : FnT Try.prog 13 := FnT.of Try.func13 (by decide +kernel) rfl
theorem fn14 : FnT Try.prog 14 := FnT.of Try.func14 (by decide +kernel) rfl
theorem fn15 : FnT Try.prog 15 := FnT.of Try.func15 (by decide +kernel) rfl
theorem fn16 : FnT Try.prog 16 := FnT.of Try.func16 (by decide +kernel) rfl
theorem fn17 : FnT Try.prog 17 := FnT.of Try.func17 (by decide +kernel) rfl
theorem fn18 : FnT Try.prog 18 := FnT.of Try.func18 (by decide +kernel) rfl
theorem fn19 : FnT Try.prog 19 := FnT.of Try.func19 (by decide +kernel) rfl
theorem fn20 : FnT Try.prog 20 := FnT.of Try.func20 (by decide +kernel) rfl
theorem fn21 : FnT Try.prog 21 := FnT.of Try.func21 (by decide +kernel) rfl
theorem fn22 : FnT Try.prog 22 := FnT.of Try.func22 (by decide +kernel) rfl
theorem fn23 : FnT Try.prog 23 := FnT.of Try.func23 (by decide +kernel) rfl
theorem fn24 : FnT Try.prog 24 := FnT.of Try.func24 (by decide +kernel) rfl
theorem fn25 : FnT Try.prog 25 := FnT.of Try.func25 (by decide +kernel) rfl
theorem fn26 : FnT Try.prog 26 := FnT.of Try.func26 (by decide +kernel) rfl
theorem fn27 : FnT Try.prog 27 := FnT.of Try.func27 (by decide +kernel) rfl
theorem fn28 : FnT Try.prog 28 := FnT.of Try.func28 (by decide +kernel) rfl
theorem fn29 : FnT Try.prog 29 := FnT.of Try.func29 (by decide +kernel) rfl
theorem fn30 : FnT Try.prog 30 := FnT.of Try.func30 (by decide +kernel) rfl
theorem fn31 : FnT Try.prog 31 := FnT.of Try.func31 (by decide +kernel) rfl
theorem fn32 : FnT Try.prog 32 := FnT.of Try.func32 (by decide +kernel) rfl
theorem fn33 : FnT Try.prog 33 := FnT.of Try.func33 (by decide +kernel) rfl
theorem fn34 : FnT Try.prog 34 := FnT.of Try.func34 (by decide +kernel) rfl
theorem fn35 : FnT Try.prog 35 := FnT.of Try.func35 (by decide +kernel) rfl
theorem fn36 : FnT Try.prog 36 := FnT.of Try.func36 (by decide +kernel) rfl
theorem fn37 : FnT Try.prog 37 := FnT.of Try.func37 (by decide +kernel) rfl
theorem fn38 : FnT Try.prog 38 := FnT.of Try.func38 (by decide +kernel) rfl
theorem fn39 : FnT Try.prog 39 := FnT.of Try.func39 (by decide +kernel) rfl
theorem fn40 : FnT Try.prog 40 := FnT.of Try.func40 (by decide +kernel) rfl
theorem fn41 : FnT Try.prog 41 := FnT.of Try.func41 (by decide +kernel) rfl
theorem fn42 : FnT Try.prog 42 := FnT.of Try.func42 (by decide +kernel) rfl
theorem fn43 : FnT Try.prog 43 := FnT.of Try.func43 (by decide +kernel) rfl
theorem fn44 : FnT Try.prog 44 := FnT.of Try.func44 (by decide +kernel) rfl
theorem fn45 : FnT Try.prog 45 := FnT.of Try.func45 (by decide +kernel) rfl
theorem fn46 : FnT Try.prog 46 := FnT.of Try.func46 (by decide +kernel) rfl
theorem fn47 : FnT Try.prog 47 := FnT.of Try.func47 (by decide +kernel) rfl
theorem fn48 : FnT Try.prog 48 := FnT.of Try.func48 (by decide +kernel) rfl
theorem fn49 : FnT Try.prog 49 := FnT.of Try.func49 (by decide +kernel) rfl
theorem fn50 : FnT Try.prog 50 := FnT.of Try.func50 (by decide +kernel) rfl
theorem fn51 : FnT Try.prog 51 := FnT.of Try.func51 (by decide +kernel) rfl
theorem fn52 : FnT Try.prog 52 := FnT.of Try.func52 (by decide +kernel) rfl
theorem fn53 : FnT Try.prog 53 := FnT.of Try.func53 (by decide +kernel) rfl
theorem fn54 : FnT Try.prog 54 := FnT.of Try.func54 (by decide +kernel) rfl
theorem fn55 : FnT Try.prog 55 := FnT.of Try.func55 (by decide +kernel) rfl
theorem fn56 : FnT Try.prog 56 := FnT.of Try.func56 (by decide +kernel) rfl
theorem fn57 : FnT Try.prog 57 := FnT.of Try.func57 (by decide +kernel) rfl
theorem fn58 : FnT Try.prog 58 := FnT.of Try.func58 (by decide +kernel) rfl
theorem fn59 : FnT Try.prog 59 := FnT.of Try.func59 (by decide +kernel) rfl
theorem fn60 : FnT Try.prog 60 := FnT.of Try.func60 (by decide +kernel) rfl
theorem fn61 : FnT Try.prog 61 := FnT.of Try.func61 (by decide +kernel) rfl
theorem fn62 : FnT Try.prog 62 := FnT.of Try.func62 (by decide +kernel) rfl
theorem fn63 : FnT Try.prog 63 := FnT.of Try.func63 (by decide +kernel) rfl
theorem fn64 : FnT Try.prog 64 := FnT.of Try.func64 (by decide +kernel) rfl
theorem fn65 : FnT Try.prog 65 := FnT.of Try.func65 (by decide +kernel) rfl
theorem fn66 : FnT Try.prog 66 := FnT.of Try.func66 (by decide +kernel) rfl
theorem fn67 : FnT Try.prog 67 := FnT.of Try.func67 (by decide +kernel) rfl
theorem fn68 : FnT Try.prog 68 := FnT.of Try.func68 (by decide +kernel) rfl
theorem fn69 : FnT Try.prog 69 := FnT.of Try.func69 (by decide +kernel) rfl
theorem fn70 : FnT Try.prog 70 := FnT.of Try.func70 (by decide +kernel) rfl
theorem fn71 : FnT Try.prog 71 := FnT.of Try.func71 (by decide +kernel) rfl
theorem fn72 : FnT Try.prog 72 := FnT.of Try.func72 (by decide +kernel) rfl
theorem fn73 : FnT Try.prog 73 := FnT.of Try.func73 (by decide +kernel) rfl
theorem fn74 : FnT Try.prog 74 := FnT.of Try.func74 (by decide +kernel) rfl
theorem fn75 : FnT Try.prog 75 := FnT.of Try.func75 (by decide +kernel) rfl
theorem fn76 : FnT Try.prog 76 := FnT.of Try.func76 (by decide +kernel) rfl
theorem fn77 : FnT Try.prog 77 := FnT.of Try.func77 (by decide +kernel) rfl
theorem fn78 : FnT Try.prog 78 := FnT.of Try.func78 (by decide +kernel) rfl
theorem fn79 : FnT Try.prog 79 := FnT.of Try.func79 (by decide +kernel) rfl
theorem fn80 : FnT Try.prog 80 := FnT.of Try.func80 (by decide +kernel) rfl
theorem fn81 : FnT Try.prog 81 := FnT.of Try.func81 (by decide +kernel) rfl
theorem fn82 : FnT Try.prog 82 := FnT.of Try.func82 (by decide +kernel) rfl
theorem fn83 : FnT Try.prog 83 := FnT.of Try.func83 (by decide +kernel) rfl
theorem fn84 : FnT Try.prog 84 := FnT.of Try.func84 (by decide +kernel) rfl
theorem fn85 : FnT Try.prog 85 := FnT.of Try.func85 (by decide +kernel) rfl
theorem fn86 : FnT Try.prog 86 := FnT.of Try.func86 (by decide +kernel) rfl
theorem fn87 : FnT Try.prog 87 := FnT.of Try.func87 (by decide +kernel) rfl
theorem fn88 : FnT Try.prog 88 := FnT.of Try.func88 (by decide +kernel) rfl
theorem fn89 : FnT Try.prog 89 := FnT.of Try.func89 (by decide +kernel) rfl
theorem fn90 : FnT Try.prog 90 := FnT.of Try.func90 (by decide +kernel) rfl
theorem fn91 : FnT Try.prog 91 := FnT.of Try.func91 (by decide +kernel) rfl
theorem fn92 : FnT Try.prog 92 := FnT.of Try.func92 (by decide +kernel) rfl
theorem fn93 : FnT Try.prog 93 := FnT.of Try.func93 (by decide +kernel) rfl
theorem fn94 : FnT Try.prog 94 := FnT.of Try.func94 (by decide +kernel) rfl
theorem fn95 : FnT Try.prog 95 := FnT.of Try.func95 (by decide +kernel) rfl
theorem fn96 : FnT Try.prog 96 := FnT.of Try.func96 (by decide +kernel) rfl
theorem fn97 : FnT Try.prog 97 := FnT.of Try.func97 (by decide +kernel) rfl
theorem fn98 : FnT Try.prog 98 := FnT.of Try.func98 (by decide +kernel) rfl
theorem fn99 : FnT Try.prog 99 := FnT.of Try.func99 (by decide +kernel) rfl
theorem fn100 : FnT Try.prog 100 := FnT.of Try.func100 (by decide +kernel) rfl
theorem fn101 : FnT Try.prog 101 := FnT.of Try.func101 (by decide +kernel) rfl
theorem fn102 : FnT Try.prog 102 := FnT.of Try.func102 (by decide +kernel) rfl
theorem fn103 : FnT Try.prog 103 := FnT.of Try.func103 (by decide +kernel) rfl
theorem fn104 : FnT Try.prog 104 := FnT.of Try.func104 (by decide +kernel) rfl
theorem fn105 : FnT Try.prog 105 := FnT.of Try.func105 (by decide +kernel) rfl
theorem fn106 : FnT Try.prog 106 := FnT.of Try.func106 (by decide +kernel) rfl
theorem fn107 : FnT Try.prog 107 := FnT.of Try.func107 (by decide +kernel) rfl
theorem fn108 : FnT Try.prog 108 := FnT.of Try.func108 (by decide +kernel) rfl
theorem fn109 : FnT Try.prog 109 := FnT.of Try.func109 (by decide +kernel) rfl
theorem fn110 : FnT Try.prog 110 := FnT.of Try.func110 (by decide +kernel) rfl
theorem fn111 : FnT Try.prog 111 := FnT.of Try.func111 (by decide +kernel) rfl
theorem fn112 : FnT Try.prog 112 := FnT.of Try.func112 (by decide +kernel) rfl
theorem fn113 : FnT Try.prog 113 := FnT.of Try.func113 (by decide +kernel) rfl
theorem fn114 : FnT Try.prog 114 := FnT.of Try.func114 (by decide +kernel) rfl
theorem fn115 : FnT Try.prog 115 := FnT.of Try.func115 (by decide +kernel) rfl
theorem fn116 : FnT Try.prog 116 := FnT.of Try.func116 (by decide +kernel) rfl
theorem fn117 : FnT Try.prog 117 := FnT.of Try.func117 (by decide +kernel) rfl
theorem fn118 : FnT Try.prog 118 := FnT.of Try.func118 (by decide +kernel) rfl
theorem fn119 : FnT Try.prog 119 := FnT.of Try.func119 (by decide +kernel) rfl
theorem fn120 : FnT Try.prog 120 := FnT.of Try.func120 (by decide +kernel) rfl
theorem fn121 : FnT Try.prog 121 := FnT.of Try.func121 (by decide +kernel) rfl
theorem fn122 : FnT Try.prog 122 := FnT.of Try.func122 (by decide +kernel) rfl
theorem fn123 : FnT Try.prog 123 := FnT.of Try.func123 (by decide +kernel) rfl
theorem fn124 : FnT Try.prog 124 := FnT.of Try.func124 (by decide +kernel) rfl
theorem fn125 : FnT Try.prog 125 := FnT.of Try.func125 (by decide +kernel) rfl
theorem fn126 : FnT Try.prog 126 := FnT.of Try.func126 (by decide +kernel) rfl
theorem fn127 : FnT Try.prog 127 := FnT.of Try.func127 (by decide +kernel) rfl
theorem fn128 : FnT Try.prog 128 := FnT.of Try.func128 (by decide +kernel) rfl
theorem fn129 : FnT Try.prog 129 := FnT.of Try.func129 (by decide +kernel) rfl
theorem fn130 : FnT Try.prog 130 := FnT.of Try.func130 (by decide +kernel) rfl
theorem fn131 : FnT Try.prog 131 := FnT.of Try.func131 (by decide +kernel) rfl
theorem fn132 : FnT Try.prog 132 := FnT.of Try.func132 (by decide +kernel) rfl
theorem fn133 : FnT Try.prog 133 := FnT.of Try.func133 (by decide +kernel) rfl
theorem fn134 : FnT Try.prog 134 := FnT.of Try.func134 (by decide +kernel) rfl
theorem fn135 : FnT Try.prog 135 := FnT.of Try.func135 (by decide +kernel) rfl
theorem fn136 : FnT Try.prog 136 := FnT.of Try.func136 (by decide +kernel) rfl
theorem fn137 : FnT Try.prog 137 := FnT.of Try.func137 (by decide +kernel) rfl
theorem fn138 : FnT Try.prog 138 := FnT.of Try.func138 (by decide +kernel) rfl
theorem fn139 : FnT Try.prog 139 := FnT.of Try.func139 (by decide +kernel) rfl
theorem fn140 : FnT Try.prog 140 := FnT.of Try.func140 (by decide +kernel) rfl
theorem fn141 : FnT Try.prog 141 := FnT.of Try.func141 (by decide +kernel) rfl
theorem fn142 : FnT Try.prog 142 := FnT.of Try.func142 (by decide +kernel) rfl
theorem fn143 : FnT Try.prog 143 := FnT.of Try.func143 (by decide +kernel) rfl
theorem fn144 : FnT Try.prog 144 := FnT.of Try.func144 (by decide +kernel) rfl
theorem fn145 : FnT Try.prog 145 := FnT.of Try.func145 (by decide +kernel) rfl
theorem fn146 : FnT Try.prog 146 := FnT.of Try.func146 (by decide +kernel) rfl
theorem fn147 : FnT Try.prog 147 := FnT.of Try.func147 (by decide +kernel) rfl
theorem fn148 : FnT Try.prog 148 := FnT.of Try.func148 (by decide +kernel) rfl
theorem fn149 : FnT Try.prog 149 := FnT.of Try.func149 (by decide +kernel) rfl
theorem fn150 : FnT Try.prog 150 := FnT.of Try.func150 (by decide +kernel) rfl
theorem fn151 : FnT Try.prog 151 := FnT.of Try.func151 (by decide +kernel) rfl
theorem fn152 : FnT Try.prog 152 := FnT.of Try.func152 (by decide +kernel) rfl
theorem fn153 : FnT Try.prog 153 := FnT.of Try.func153 (by decide +kernel) rfl
theorem fn154 : FnT Try.prog 154 := FnT.of Try.func154 (by decide +kernel) rfl
theorem fn155 : FnT Try.prog 155 := FnT.of Try.func155 (by decide +kernel) rfl
theorem fn156 : FnT Try.prog 156 := FnT.of Try.func156 (by decide +kernel) rfl
theorem fn157 : FnT Try.prog 157 := FnT.of Try.func157 (by decide +kernel) rfl
theorem fn158 : FnT Try.prog 158 := FnT.of Try.func158 (by decide +kernel) rfl
theorem fn159 : FnT Try.prog 159 := FnT.of Try.func159 (by decide +kernel) rfl
theorem fn160 : FnT Try.prog 160 := FnT.of Try.func160 (by decide +kernel) rfl
theorem fn161 : FnT Try.prog 161 := FnT.of Try.func161 (by decide +kernel) rfl
theorem fn162 : FnT Try.prog 162 := FnT.of Try.func162 (by decide +kernel) rfl
theorem fn163 : FnT Try.prog 163 := FnT.of Try.func163 (by decide +kernel) rfl
theorem fn164 : FnT Try.prog 164 := FnT.of Try.func164 (by decide +kernel) rfl
theorem fn165 : FnT Try.prog 165 := FnT.of Try.func165 (by decide +kernel) rfl
theorem fn166 : FnT Try.prog 166 := FnT.of Try.func166 (by decide +kernel) rfl
theorem fn167 : FnT Try.prog 167 := FnT.of Try.func167 (by decide +kernel) rfl
theorem fn168 : FnT Try.prog 168 := FnT.of Try.func168 (by decide +kernel) rfl
theorem fn169 : FnT Try.prog 169 := FnT.of Try.func169 (by decide +kernel) rfl
theorem fn170 : FnT Try.prog 170 := FnT.of Try.func170 (by decide +kernel) rfl
theorem fn171 : FnT Try.prog 171 := FnT.of Try.func171 (by decide +kernel) rfl
theorem fn172 : FnT Try.prog 172 := FnT.of Try.func172 (by decide +kernel) rfl
theorem fn173 : FnT Try.prog 173 := FnT.of Try.func173 (by decide +kernel) rfl
theorem fn174 : FnT Try.prog 174 := FnT.of Try.func174 (by decide +kernel) rfl
theorem fn175 : FnT Try.prog 175 := FnT.of Try.func175 (by decide +kernel) rfl
theorem fn176 : FnT Try.prog 176 := FnT.of Try.func176 (by decide +kernel) rfl
theorem fn177 : FnT Try.prog 177 := FnT.of Try.func177 (by decide +kernel) rfl
theorem fn178 : FnT Try.prog 178 := FnT.of Try.func178 (by decide +kernel) rfl
theorem fn179 : FnT Try.prog 179 := FnT.of Try.func179 (by decide +kernel) rfl
theorem fn180 : FnT Try.prog 180 := FnT.of Try.func180 (by decide +kernel) rfl
theorem fn181 : FnT Try.prog 181 := FnT.of Try.func181 (by decide +kernel) rfl
theorem fn182 : FnT Try.prog 182 := FnT.of Try.func182 (by decide +kernel) rfl
theorem fn183 : FnT Try.prog 183 := FnT.of Try.func183 (by decide +kernel) rfl
theorem fn184 : FnT Try.prog 184 := FnT.of Try.func184 (by decide +kernel) rfl
theorem fn185 : FnT Try.prog 185 := FnT.of Try.func185 (by decide +kernel) rfl
theorem fn186 : FnT Try.prog 186 := FnT.of Try.func186 (by decide +kernel) rfl
theorem fn187 : FnT Try.prog 187 := FnT.of Try.func187 (by decide +kernel) rfl
theorem fn188 : FnT Try.prog 188 := FnT.of Try.func188 (by decide +kernel) rfl
theorem fn189 : FnT Try.prog 189 := FnT.of Try.func189 (by decide +kernel) rfl
theorem fn190 : FnT Try.prog 190 := FnT.of Try.func190 (by decide +kernel) rfl
theorem fn191 : FnT Try.prog 191 := FnT.of Try.func191 (by decide +kernel) rfl
theorem fn192 : FnT Try.prog 192 := FnT.of Try.func192 (by decide +kernel) rfl
theorem fn193 : FnT Try.prog 193 := FnT.of Try.func193 (by decide +kernel) rfl
theorem fn194 : FnT Try.prog 194 := FnT.of Try.func194 (by decide +kernel) rfl
theorem fn195 : FnT Try.prog 195 := FnT.of Try.func195 (by decide +kernel) rfl
theorem fn196 : FnT Try.prog 196 := FnT.of Try.func196 (by decide +kernel) rfl
theorem fn197 : FnT Try.prog 197 := FnT.of Try.func197 (by decide +kernel) rfl
theorem fn198 : FnT Try.prog 198 := FnT.of Try.func198 (by decide +kernel) rfl
theorem fn199 : FnT Try.prog 199 := FnT.of Try.func199 (by decide +kernel) rfl
theorem fn200 : FnT Try.prog 200 := FnT.of Try.func200 (by decide +kernel) rfl
theorem fn201 : FnT Try.prog 201 := FnT.of Try.func201 (by decide +kernel) rfl
theorem fn202 : FnT Try.prog 202 := FnT.of Try.func202 (by decide +kernel) rfl
theorem fn203 : FnT Try.prog 203 := FnT.of Try.func203 (by decide +kernel) rfl
theorem fn204 : FnT Try.prog 204 := FnT.of Try.func204 (by decide +kernel) rfl
theorem fn205 : FnT Try.prog 205 := FnT.of Try.func205 (by decide +kernel) rfl
theorem fn206 : FnT Try.prog 206 := FnT.of Try.func206 (by decide +kernel) rfl
theorem fn207 : FnT Try.prog 207 := FnT.of Try.func207 (by decide +kernel) rfl
theorem fn208 : FnT Try.prog 208 := FnT.of Try.func208 (by decide +kernel) rfl
theorem fn209 : FnT Try.prog 209 := FnT.of Try.func209 (by decide +kernel) rfl
theorem fn210 : FnT Try.prog 210 := FnT.of Try.func210 (by decide +kernel) rfl
theorem fn211 : FnT Try.prog 211 := FnT.of Try.func211 (by decide +kernel) rfl
theorem fn212 : FnT Try.prog 212 := FnT.of Try.func212 (by decide +kernel) rfl
theorem fn213 : FnT Try.prog 213 := FnT.of Try.func213 (by decide +kernel) rfl
theorem mixed : Try.prog.follows .mixedOrders = true := by kernel_rfl
end Go.Proofs.Yticobjbjejpomaa.VC
