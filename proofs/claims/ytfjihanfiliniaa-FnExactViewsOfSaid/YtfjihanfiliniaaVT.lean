/- Facts on the types, fields and functions of this program: by program (types.py), each by reckoning. -/
import Derived.Test.YtfjihanfiliniaaVD
import Derived.Test.YtfjihanfiliniaaProg
import Derived.KernelRfl
set_option maxRecDepth 100000
namespace Go.Proofs.Ytfjihanfiliniaa.VC
open Go Go.RowKit
theorem in2 : (Try.prog.info? 2).map (fun i => (i.zero, i.size, i.bytes)) = some (some (.int .i64 0), 1, 8) := by kernel_rfl
theorem sl22 : SlT Try.prog 22 2 (.int .i64 0) 1 8 := ⟨Try.underlying22, (by obtain ⟨i, h1, h2, h3, h4⟩ := info_parts in2; exact ⟨i, h1, h2, h3, h4⟩), rfl, by decide⟩
theorem in88 : (Try.prog.info? 88).map (fun i => (i.zero, i.size, i.bytes)) = some (some (.agg #[(.int .i64 0), (.slice none 0 0)]), 2, 32) := by kernel_rfl
theorem sl23 : SlT Try.prog 23 88 (.agg #[(.int .i64 0), (.slice none 0 0)]) 2 32 := ⟨Try.underlying23, (by obtain ⟨i, h1, h2, h3, h4⟩ := info_parts in88; exact ⟨i, h1, h2, h3, h4⟩), rfl, by decide⟩
theorem in54 : (Try.prog.info? 54).map (fun i => (i.zero, i.size, i.bytes)) = some (some (.agg #[(.int .i64 0), (.slice none 0 0)]), 2, 32) := by kernel_rfl
theorem sl28 : SlT Try.prog 28 54 (.agg #[(.int .i64 0), (.slice none 0 0)]) 2 32 := ⟨Try.underlying28, (by obtain ⟨i, h1, h2, h3, h4⟩ := info_parts in54; exact ⟨i, h1, h2, h3, h4⟩), rfl, by decide⟩
theorem in22 : (Try.prog.info? 22).map (fun i => (i.zero, i.size, i.bytes)) = some (some (.slice none 0 0), 1, 24) := by kernel_rfl
theorem sl45 : SlT Try.prog 45 22 (.slice none 0 0) 1 24 := ⟨Try.underlying45, (by obtain ⟨i, h1, h2, h3, h4⟩ := info_parts in22; exact ⟨i, h1, h2, h3, h4⟩), rfl, by decide⟩
theorem in73 : (Try.prog.info? 73).map (fun i => (i.zero, i.size, i.bytes)) = some (some (.agg #[(.slice none 0 0), (.slice none 0 0)]), 2, 48) := by kernel_rfl
theorem sl67 : SlT Try.prog 67 73 (.agg #[(.slice none 0 0), (.slice none 0 0)]) 2 48 := ⟨Try.underlying67, (by obtain ⟨i, h1, h2, h3, h4⟩ := info_parts in73; exact ⟨i, h1, h2, h3, h4⟩), rfl, by decide⟩
theorem in3 : (Try.prog.info? 3).map (fun i => (i.zero, i.size, i.bytes)) = some (some (.int .i64 0), 1, 8) := by kernel_rfl
theorem sl103 : SlT Try.prog 103 3 (.int .i64 0) 1 8 := ⟨Try.underlying103, (by obtain ⟨i, h1, h2, h3, h4⟩ := info_parts in3; exact ⟨i, h1, h2, h3, h4⟩), rfl, by decide⟩
theorem bd73_0_1 {x0 : Value} {n0 : Nat} (h0 : IsSl x0 n0) {x1 : Value} {n1 : Nat} (h1 : IsSl x1 n1) : Try.prog.built 73 [(0, x0), (1, x1)] = some #[x0, x1] := by obtain ⟨A0, c0, rfl⟩ := h0; obtain ⟨A1, c1, rfl⟩ := h1; kernel_rfl
theorem bd82_0 (x0 : Int) : Try.prog.built 82 [(0, .int .i64 x0)] = some #[.int .i64 x0, .slice none 0 0, .slice none 0 0] := by kernel_rfl
theorem va2 : VarT Try.prog 2 false 1 := ⟨⟨_, Try.underlying2, rfl⟩, (by obtain ⟨i, h1, h2, h3, h4⟩ := info_parts in2; exact ⟨i, h1, h3⟩)⟩
theorem va3 : VarT Try.prog 3 false 1 := ⟨⟨_, Try.underlying3, rfl⟩, (by obtain ⟨i, h1, h2, h3, h4⟩ := info_parts in3; exact ⟨i, h1, h3⟩)⟩
theorem va22 : VarT Try.prog 22 false 1 := ⟨⟨_, Try.underlying22, rfl⟩, (by obtain ⟨i, h1, h2, h3, h4⟩ := info_parts in22; exact ⟨i, h1, h3⟩)⟩
theorem in23 : (Try.prog.info? 23).map (fun i => (i.zero, i.size, i.bytes)) = some (some (.slice none 0 0), 1, 24) := by kernel_rfl
theorem va23 : VarT Try.prog 23 false 1 := ⟨⟨_, Try.underlying23, rfl⟩, (by obtain ⟨i, h1, h2, h3, h4⟩ := info_parts in23; exact ⟨i, h1, h3⟩)⟩
theorem in25 : (Try.prog.info? 25).map (fun i => (i.zero, i.size, i.bytes)) = some (some (.agg #[(.int .i64 0), (.slice none 0 0), (.slice none 0 0)]), 3, 56) := by kernel_rfl
theorem va25 : VarT Try.prog 25 true 3 := ⟨⟨_, Try.underlying25, rfl⟩, (by obtain ⟨i, h1, h2, h3, h4⟩ := info_parts in25; exact ⟨i, h1, h3⟩)⟩
theorem ze25 : ZeroT Try.prog 25 (.agg #[(.int .i64 0), (.slice none 0 0), (.slice none 0 0)]) 3 := ⟨(by obtain ⟨i, h1, h2, h3, h4⟩ := info_parts in25; exact ⟨i, h1, h2, h3⟩), rfl⟩
theorem in28 : (Try.prog.info? 28).map (fun i => (i.zero, i.size, i.bytes)) = some (some (.slice none 0 0), 1, 24) := by kernel_rfl
theorem va28 : VarT Try.prog 28 false 1 := ⟨⟨_, Try.underlying28, rfl⟩, (by obtain ⟨i, h1, h2, h3, h4⟩ := info_parts in28; exact ⟨i, h1, h3⟩)⟩
theorem in30 : (Try.prog.info? 30).map (fun i => (i.zero, i.size, i.bytes)) = some (some (.agg #[(.int .i64 0), (.slice none 0 0), (.slice none 0 0)]), 3, 56) := by kernel_rfl
theorem va30 : VarT Try.prog 30 true 3 := ⟨⟨_, Try.underlying30, rfl⟩, (by obtain ⟨i, h1, h2, h3, h4⟩ := info_parts in30; exact ⟨i, h1, h3⟩)⟩
theorem ze30 : ZeroT Try.prog 30 (.agg #[(.int .i64 0), (.slice none 0 0), (.slice none 0 0)]) 3 := ⟨(by obtain ⟨i, h1, h2, h3, h4⟩ := info_parts in30; exact ⟨i, h1, h2, h3⟩), rfl⟩
theorem in45 : (Try.prog.info? 45).map (fun i => (i.zero, i.size, i.bytes)) = some (some (.slice none 0 0), 1, 24) := by kernel_rfl
theorem va45 : VarT Try.prog 45 false 1 := ⟨⟨_, Try.underlying45, rfl⟩, (by obtain ⟨i, h1, h2, h3, h4⟩ := info_parts in45; exact ⟨i, h1, h3⟩)⟩
theorem va54 : VarT Try.prog 54 true 2 := ⟨⟨_, Try.underlying54, rfl⟩, (by obtain ⟨i, h1, h2, h3, h4⟩ := info_parts in54; exact ⟨i, h1, h3⟩)⟩
theorem ze54 : ZeroT Try.prog 54 (.agg #[(.int .i64 0), (.slice none 0 0)]) 2 := ⟨(by obtain ⟨i, h1, h2, h3, h4⟩ := info_parts in54; exact ⟨i, h1, h2, h3⟩), rfl⟩
theorem va73 : VarT Try.prog 73 true 2 := ⟨⟨_, Try.underlying73, rfl⟩, (by obtain ⟨i, h1, h2, h3, h4⟩ := info_parts in73; exact ⟨i, h1, h3⟩)⟩
theorem ze73 : ZeroT Try.prog 73 (.agg #[(.slice none 0 0), (.slice none 0 0)]) 2 := ⟨(by obtain ⟨i, h1, h2, h3, h4⟩ := info_parts in73; exact ⟨i, h1, h2, h3⟩), rfl⟩
theorem in82 : (Try.prog.info? 82).map (fun i => (i.zero, i.size, i.bytes)) = some (some (.agg #[(.int .i64 0), (.slice none 0 0), (.slice none 0 0)]), 3, 56) := by kernel_rfl
theorem va82 : VarT Try.prog 82 true 3 := ⟨⟨_, Try.underlying82, rfl⟩, (by obtain ⟨i, h1, h2, h3, h4⟩ := info_parts in82; exact ⟨i, h1, h3⟩)⟩
theorem ze82 : ZeroT Try.prog 82 (.agg #[(.int .i64 0), (.slice none 0 0), (.slice none 0 0)]) 3 := ⟨(by obtain ⟨i, h1, h2, h3, h4⟩ := info_parts in82; exact ⟨i, h1, h2, h3⟩), rfl⟩
theorem va88 : VarT Try.prog 88 true 2 := ⟨⟨_, Try.underlying88, rfl⟩, (by obtain ⟨i, h1, h2, h3, h4⟩ := info_parts in88; exact ⟨i, h1, h3⟩)⟩
theorem ze88 : ZeroT Try.prog 88 (.agg #[(.int .i64 0), (.slice none 0 0)]) 2 := ⟨(by obtain ⟨i, h1, h2, h3, h4⟩ := info_parts in88; exact ⟨i, h1, h2, h3⟩), rfl⟩
theorem fl25_0 : FldT Try.prog 25 0 0 1 := ⟨⟨_, _, Try.underlying25, rfl, rfl, (by obtain ⟨i, h1, h2, h3, h4⟩ := info_parts in2; exact ⟨i, h1, h3⟩)⟩, by decide⟩
theorem fl25_1 : FldT Try.prog 25 1 1 1 := ⟨⟨_, _, Try.underlying25, rfl, rfl, (by obtain ⟨i, h1, h2, h3, h4⟩ := info_parts in22; exact ⟨i, h1, h3⟩)⟩, by decide⟩
theorem fl25_2 : FldT Try.prog 25 2 2 1 := ⟨⟨_, _, Try.underlying25, rfl, rfl, (by obtain ⟨i, h1, h2, h3, h4⟩ := info_parts in23; exact ⟨i, h1, h3⟩)⟩, by decide⟩
theorem fl30_0 : FldT Try.prog 30 0 0 1 := ⟨⟨_, _, Try.underlying30, rfl, rfl, (by obtain ⟨i, h1, h2, h3, h4⟩ := info_parts in2; exact ⟨i, h1, h3⟩)⟩, by decide⟩
theorem fl30_1 : FldT Try.prog 30 1 1 1 := ⟨⟨_, _, Try.underlying30, rfl, rfl, (by obtain ⟨i, h1, h2, h3, h4⟩ := info_parts in22; exact ⟨i, h1, h3⟩)⟩, by decide⟩
theorem fl30_2 : FldT Try.prog 30 2 2 1 := ⟨⟨_, _, Try.underlying30, rfl, rfl, (by obtain ⟨i, h1, h2, h3, h4⟩ := info_parts in28; exact ⟨i, h1, h3⟩)⟩, by decide⟩
theorem fl54_0 : FldT Try.prog 54 0 0 1 := ⟨⟨_, _, Try.underlying54, rfl, rfl, (by obtain ⟨i, h1, h2, h3, h4⟩ := info_parts in2; exact ⟨i, h1, h3⟩)⟩, by decide⟩
theorem fl54_1 : FldT Try.prog 54 1 1 1 := ⟨⟨_, _, Try.underlying54, rfl, rfl, (by obtain ⟨i, h1, h2, h3, h4⟩ := info_parts in22; exact ⟨i, h1, h3⟩)⟩, by decide⟩
theorem fl73_0 : FldT Try.prog 73 0 0 1 := ⟨⟨_, _, Try.underlying73, rfl, rfl, (by obtain ⟨i, h1, h2, h3, h4⟩ := info_parts in22; exact ⟨i, h1, h3⟩)⟩, by decide⟩
theorem fl73_1 : FldT Try.prog 73 1 1 1 := ⟨⟨_, _, Try.underlying73, rfl, rfl, (by obtain ⟨i, h1, h2, h3, h4⟩ := info_parts in22; exact ⟨i, h1, h3⟩)⟩, by decide⟩
theorem fl82_0 : FldT Try.prog 82 0 0 1 := ⟨⟨_, _, Try.underlying82, rfl, rfl, (by obtain ⟨i, h1, h2, h3, h4⟩ := info_parts in2; exact ⟨i, h1, h3⟩)⟩, by decide⟩
theorem fl82_1 : FldT Try.prog 82 1 1 1 := ⟨⟨_, _, Try.underlying82, rfl, rfl, (by obtain ⟨i, h1, h2, h3, h4⟩ := info_parts in45; exact ⟨i, h1, h3⟩)⟩, by decide⟩
theorem fl82_2 : FldT Try.prog 82 2 2 1 := ⟨⟨_, _, Try.underlying82, rfl, rfl, (by obtain ⟨i, h1, h2, h3, h4⟩ := info_parts in45; exact ⟨i, h1, h3⟩)⟩, by decide⟩
theorem fl88_0 : FldT Try.prog 88 0 0 1 := ⟨⟨_, _, Try.underlying88, rfl, rfl, (by obtain ⟨i, h1, h2, h3, h4⟩ := info_parts in2; exact ⟨i, h1, h3⟩)⟩, by decide⟩
theorem fl88_1 : FldT Try.prog 88 1 1 1 := ⟨⟨_, _, Try.underlying88, rfl, rfl, (by obtain ⟨i, h1, h2, h3, h4⟩ := info_parts in22; exact ⟨i, h1, h3⟩)⟩, by decide⟩
theorem fn2 : FnT Try.prog 2 := FnT.of Try.func2 (by decide +kernel) rfl
theorem fn3 : FnT Try.prog 3 := FnT.of Try.func3 (by decide +kernel) rfl
theorem fn4 : FnT Try.prog 4 := FnT.of Try.func4 (by decide +kernel) rfl
theorem fn5 : FnT Try.prog 5 := FnT.of Try.func5 (by decide +kernel) rfl
theorem fn6 : FnT Try.prog 6 := FnT.of Try.func6 (by decide +kernel) rfl
theorem fn7 : FnT Try.prog 7 := FnT.of Try.func7 (by decide +kernel) rfl
theorem fn8 : FnT Try.prog 8 := FnT.of Try.func8 (by decide +kernel) rfl
theorem fn9 : FnT Try.prog 9 := FnT.of Try.func9 (by decide +kernel) rfl
theorem fn10 : FnT Try.prog 10 := FnT.of Try.func10 (by decide +kernel) rfl
theorem fn11 : FnT Try.prog 11 := FnT.of Try.func11 (by decide +kernel) rfl
theorem fn12 : FnT Try.prog 12 := FnT.of Try.func12 (by decide +kernel) rfl
theorem fn13 : FnT Try.prog 13 := FnT.of Try.func13 (by decide +kernel) rfl
theorem fn14 : FnT Try.prog 14 := FnT.of Try.func14 (by decide +kernel) rfl
theorem fn15 : FnT Try.prog 15 := FnT.of Try.func15 (by decide +kernel) rfl
theorem fn16 : FnT Try.prog 16 := FnT.of Try.func16 (by decide +kernel) rfl
theorem fn17 : FnT Try.prog 17 := FnT.of Try.func17 (by decide +kernel) rfl
theorem fn18 : FnT Try.prog 18 := FnT.of Try.func18 (by decide +kernel) rfl
theorem fn19 : FnT Try.prog 19 := FnT.of Try.func19 (by decide +kernel) rfl
theorem fn20 : FnT Try.prog 20 := FnT.of Try.func20 (by decide +kernel) rfl
theorem fn21 : FnT Try.prog 21 := FnT.of Try.func21 (by decide +kernel) rfl
theorem fn22 : FnT Try.prog 22 := FnT.of Try.func22 (by decide +kernel) rfl
theorem fn23 : FnT Try.prog 23 := FnT.of Try.func23 (by decide +kernel) rfl
theorem fn24 : FnT Try.prog 24 := FnT.of Try.func24 (by decide +kernel) rfl
theorem fn25 : FnT Try.prog 25 := FnT.of Try.func25 (by decide +kernel) rfl
theorem fn26 : FnT Try.prog 26 := FnT.of Try.func26 (by decide +kernel) rfl
theorem fn27 : FnT Try.prog 27 := FnT.of Try.func27 (by decide +kernel) rfl
theorem fn28 : FnT Try.prog 28 := FnT.of Try.func28 (by decide +kernel) rfl
theorem fn29 : FnT Try.prog 29 := FnT.of Try.func29 (by decide +kernel) rfl
theorem fn30 : FnT Try.prog 30 := FnT.of Try.func30 (by decide +kernel) rfl
theorem fn31 : FnT Try.prog 31 := FnT.of Try.func31 (by decide +kernel) rfl
theorem fn32 : FnT Try.prog 32 := FnT.of Try.func32 (by decide +kernel) rfl
theorem fn33 : FnT Try.prog 33 := FnT.of Try.func33 (by decide +kernel) rfl
theorem fn34 : FnT Try.prog 34 := FnT.of Try.func34 (by decide +kernel) rfl
theorem fn35 : FnT Try.prog 35 := FnT.of Try.func35 (by decide +kernel) rfl
theorem fn36 : FnT Try.prog 36 := FnT.of Try.func36 (by decide +kernel) rfl
theorem fn37 : FnT Try.prog 37 := FnT.of Try.func37 (by decide +kernel) rfl
theorem fn38 : FnT Try.prog 38 := FnT.of Try.func38 (by decide +kernel) rfl
theorem fn39 : FnT Try.prog 39 := FnT.of Try.func39 (by decide +kernel) rfl
theorem fn40 : FnT Try.prog 40 := FnT.of Try.func40 (by decide +kernel) rfl
theorem fn41 : FnT Try.prog 41 := FnT.of Try.func41 (by decide +kernel) rfl
theorem fn42 : FnT Try.prog 42 := FnT.of Try.func42 (by decide +kernel) rfl
theorem fn43 : FnT Try.prog 43 := FnT.of Try.func43 (by decide +kernel) rfl
theorem fn44 : FnT Try.prog 44 := FnT.of Try.func44 (by decide +kernel) rfl
theorem fn45 : FnT Try.prog 45 := FnT.of Try.func45 (by decide +kernel) rfl
theorem fn46 : FnT Try.prog 46 := FnT.of Try.func46 (by decide +kernel) rfl
theorem fn47 : FnT Try.prog 47 := FnT.of Try.func47 (by decide +kernel) rfl
theorem fn48 : FnT Try.prog 48 := FnT.of Try.func48 (by decide +kernel) rfl
theorem fn49 : FnT Try.prog 49 := FnT.of Try.func49 (by decide +kernel) rfl
theorem fn50 : FnT Try.prog 50 := FnT.of Try.func50 (by decide +kernel) rfl
theorem fn51 : FnT Try.prog 51 := FnT.of Try.func51 (by decide +kernel) rfl
theorem fn52 : FnT Try.prog 52 := FnT.of Try.func52 (by decide +kernel) rfl
theorem fn53 : FnT Try.prog 53 := FnT.of Try.func53 (by decide +kernel) rfl
theorem fn54 : FnT Try.prog 54 := FnT.of Try.func54 (by decide +kernel) rfl
theorem fn55 : FnT Try.prog 55 := FnT.of Try.func55 (by decide +kernel) rfl
theorem fn56 : FnT Try.prog 56 := FnT.of Try.func56 (by decide +kernel) rfl
theorem fn57 : FnT Try.prog 57 := FnT.of Try.func57 (by decide +kernel) rfl
theorem fn58 : FnT Try.prog 58 := FnT.of Try.func58 (by decide +kernel) rfl
theorem fn59 : FnT Try.prog 59 := FnT.of Try.func59 (by decide +kernel) rfl
theorem fn60 : FnT Try.prog 60 := FnT.of Try.func60 (by decide +kernel) rfl
theorem fn61 : FnT Try.prog 61 := FnT.of Try.func61 (by decide +kernel) rfl
theorem fn62 : FnT Try.prog 62 := FnT.of Try.func62 (by decide +kernel) rfl
theorem fn63 : FnT Try.prog 63 := FnT.of Try.func63 (by decide +kernel) rfl
theorem fn64 : FnT Try.prog 64 := FnT.of Try.func64 (by decide +kernel) rfl
theorem fn65 : FnT Try.prog 65 := FnT.of Try.func65 (by decide +kernel) rfl
theorem fn66 : FnT Try.prog 66 := FnT.of Try.func66 (by decide +kernel) rfl
theorem fn67 : FnT Try.prog 67 := FnT.of Try.func67 (by decide +kernel) rfl
theorem fn68 : FnT Try.prog 68 := FnT.of Try.func68 (by decide +kernel) rfl
theorem fn69 : FnT Try.prog 69 := FnT.of Try.func69 (by decide +kernel) rfl
theorem fn70 : FnT Try.prog 70 := FnT.of Try.func70 (by decide +kernel) rfl
theorem fn71 : FnT Try.prog 71 := FnT.of Try.func71 (by decide +kernel) rfl
theorem fn72 : FnT Try.prog 72 := FnT.of Try.func72 (by decide +kernel) rfl
theorem fn73 : FnT Try.prog 73 := FnT.of Try.func73 (by decide +kernel) rfl
theorem fn74 : FnT Try.prog 74 := FnT.of Try.func74 (by decide +kernel) rfl
theorem fn75 : FnT Try.prog 75 := FnT.of Try.func75 (by decide +kernel) rfl
theorem fn76 : FnT Try.prog 76 := FnT.of Try.func76 (by decide +kernel) rfl
theorem fn77 : FnT Try.prog 77 := FnT.of Try.func77 (by decide +kernel) rfl
theorem fn78 : FnT Try.prog 78 := FnT.of Try.func78 (by decide +kernel) rfl
theorem fn79 : FnT Try.prog 79 := FnT.of Try.func79 (by decide +kernel) rfl
theorem fn80 : FnT Try.prog 80 := FnT.of Try.func80 (by decide +kernel) rfl
theorem fn81 : FnT Try.prog 81 := FnT.of Try.func81 (by decide +kernel) rfl
theorem fn82 : FnT Try.prog 82 := FnT.of Try.func82 (by decide +kernel) rfl
theorem fn83 : FnT Try.prog 83 := FnT.of Try.func83 (by decide +kernel) rfl
theorem fn84 : FnT Try.prog 84 := FnT.of Try.func84 (by decide +kernel) rfl
theorem fn85 : FnT Try.prog 85 := FnT.of Try.func85 (by decide +kernel) rfl
theorem fn86 : FnT Try.prog 86 := FnT.of Try.func86 (by decide +kernel) rfl
theorem fn87 : FnT Try.prog 87 := FnT.of Try.func87 (by decide +kernel) rfl
theorem fn88 : FnT Try.prog 88 := FnT.of Try.func88 (by decide +kernel) rfl
theorem fn89 : FnT Try.prog 89 := FnT.of Try.func89 (by decide +kernel) rfl
theorem fn91 : FnT Try.prog 91 := FnT.of Try.func91 (by decide +kernel) rfl
theorem fn92 : FnT Try.prog 92 := FnT.of Try.func92 (by decide +kernel) rfl
theorem fn93 : FnT Try.prog 93 := FnT.of Try.func93 (by decide +kernel) rfl
theorem fn94 : FnT Try.prog 94 := FnT.of Try.func94 (by decide +kernel) rfl
theorem mixed : Try.prog.follows .mixedOrders = true := by kernel_rfl
end Go.Proofs.Ytfjihanfiliniaa.VC
