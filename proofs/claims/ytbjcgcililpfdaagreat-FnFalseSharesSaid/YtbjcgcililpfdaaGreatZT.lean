/- Facts on the types, fields and functions of this program: by program (types.py), each by reckoning. -/
import Derived.Test.YtbjcgcililpfdaaGreatZD
import Derived.Test.YtbjcgcililpfdaaGreatProg
import Derived.KernelRfl
set_option maxRecDepth 100000
namespace Go.Proofs.YtbjcgcililpfdaaGreat.VC
open Go Go.RowKit
theorem in5 : (Tryz.prog.info? 5).map (fun i => (i.zero, i.size, i.bytes)) = some (some (.int .u8 0), 1, 1) := by kernel_rfl
theorem sl22 : SlT Tryz.prog 22 5 (.int .u8 0) 1 1 := ⟨Tryz.underlying22, (by obtain ⟨i, h1, h2, h3, h4⟩ := info_parts in5; exact ⟨i, h1, h2, h3, h4⟩), rfl, by decide⟩
theorem in2 : (Tryz.prog.info? 2).map (fun i => (i.zero, i.size, i.bytes)) = some (some (.int .i64 0), 1, 8) := by kernel_rfl
theorem sl25 : SlT Tryz.prog 25 2 (.int .i64 0) 1 8 := ⟨Tryz.underlying25, (by obtain ⟨i, h1, h2, h3, h4⟩ := info_parts in2; exact ⟨i, h1, h2, h3, h4⟩), rfl, by decide⟩
theorem in36 : (Tryz.prog.info? 36).map (fun i => (i.zero, i.size, i.bytes)) = some (some (.agg #[(.int .i64 0), (.int .i64 0)]), 2, 16) := by kernel_rfl
theorem sl28 : SlT Tryz.prog 28 36 (.agg #[(.int .i64 0), (.int .i64 0)]) 2 16 := ⟨Tryz.underlying28, (by obtain ⟨i, h1, h2, h3, h4⟩ := info_parts in36; exact ⟨i, h1, h2, h3, h4⟩), rfl, by decide⟩
theorem in25 : (Tryz.prog.info? 25).map (fun i => (i.zero, i.size, i.bytes)) = some (some (.slice none 0 0), 1, 24) := by kernel_rfl
theorem sl37 : SlT Tryz.prog 37 25 (.slice none 0 0) 1 24 := ⟨Tryz.underlying37, (by obtain ⟨i, h1, h2, h3, h4⟩ := info_parts in25; exact ⟨i, h1, h2, h3, h4⟩), rfl, by decide⟩
theorem in3 : (Tryz.prog.info? 3).map (fun i => (i.zero, i.size, i.bytes)) = some (some (.int .i64 0), 1, 8) := by kernel_rfl
theorem sl89 : SlT Tryz.prog 89 3 (.int .i64 0) 1 8 := ⟨Tryz.underlying89, (by obtain ⟨i, h1, h2, h3, h4⟩ := info_parts in3; exact ⟨i, h1, h2, h3, h4⟩), rfl, by decide⟩
theorem bd36_0_1 (x0 : Int) (x1 : Int) : Tryz.prog.built 36 [(0, .int .i64 x0), (1, .int .i64 x1)] = some #[.int .i64 x0, .int .i64 x1] := by kernel_rfl
theorem bd61_0 {x0 : Value} {n0 : Nat} (h0 : IsSl x0 n0) : Tryz.prog.built 61 [(0, x0)] = some #[x0, .int .i64 0, .int .u64 0] := by obtain ⟨A0, c0, rfl⟩ := h0; kernel_rfl
theorem bd79_0_1_2_3 (x0 : Int) {x1 : Value} {n1 : Nat} (h1 : IsSl x1 n1) (x2 : Int) (x3 : Int) : Tryz.prog.built 79 [(0, .int .i64 x0), (1, x1), (2, .int .i64 x2), (3, .int .i64 x3)] = some #[.int .i64 x0, x1, .int .i64 x2, .int .i64 x3, .slice none 0 0] := by obtain ⟨A1, c1, rfl⟩ := h1; kernel_rfl
theorem va2 : VarT Tryz.prog 2 false 1 := ⟨⟨_, Tryz.underlying2, rfl⟩, (by obtain ⟨i, h1, h2, h3, h4⟩ := info_parts in2; exact ⟨i, h1, h3⟩)⟩
theorem va3 : VarT Tryz.prog 3 false 1 := ⟨⟨_, Tryz.underlying3, rfl⟩, (by obtain ⟨i, h1, h2, h3, h4⟩ := info_parts in3; exact ⟨i, h1, h3⟩)⟩
theorem va5 : VarT Tryz.prog 5 false 1 := ⟨⟨_, Tryz.underlying5, rfl⟩, (by obtain ⟨i, h1, h2, h3, h4⟩ := info_parts in5; exact ⟨i, h1, h3⟩)⟩
theorem in22 : (Tryz.prog.info? 22).map (fun i => (i.zero, i.size, i.bytes)) = some (some (.slice none 0 0), 1, 24) := by kernel_rfl
theorem va22 : VarT Tryz.prog 22 false 1 := ⟨⟨_, Tryz.underlying22, rfl⟩, (by obtain ⟨i, h1, h2, h3, h4⟩ := info_parts in22; exact ⟨i, h1, h3⟩)⟩
theorem va25 : VarT Tryz.prog 25 false 1 := ⟨⟨_, Tryz.underlying25, rfl⟩, (by obtain ⟨i, h1, h2, h3, h4⟩ := info_parts in25; exact ⟨i, h1, h3⟩)⟩
theorem in28 : (Tryz.prog.info? 28).map (fun i => (i.zero, i.size, i.bytes)) = some (some (.slice none 0 0), 1, 24) := by kernel_rfl
theorem va28 : VarT Tryz.prog 28 false 1 := ⟨⟨_, Tryz.underlying28, rfl⟩, (by obtain ⟨i, h1, h2, h3, h4⟩ := info_parts in28; exact ⟨i, h1, h3⟩)⟩
theorem va36 : VarT Tryz.prog 36 true 2 := ⟨⟨_, Tryz.underlying36, rfl⟩, (by obtain ⟨i, h1, h2, h3, h4⟩ := info_parts in36; exact ⟨i, h1, h3⟩)⟩
theorem ze36 : ZeroT Tryz.prog 36 (.agg #[(.int .i64 0), (.int .i64 0)]) 2 := ⟨(by obtain ⟨i, h1, h2, h3, h4⟩ := info_parts in36; exact ⟨i, h1, h2, h3⟩), rfl⟩
theorem in37 : (Tryz.prog.info? 37).map (fun i => (i.zero, i.size, i.bytes)) = some (some (.slice none 0 0), 1, 24) := by kernel_rfl
theorem va37 : VarT Tryz.prog 37 false 1 := ⟨⟨_, Tryz.underlying37, rfl⟩, (by obtain ⟨i, h1, h2, h3, h4⟩ := info_parts in37; exact ⟨i, h1, h3⟩)⟩
theorem ze37 : ZeroT Tryz.prog 37 (.slice none 0 0) 1 := ⟨(by obtain ⟨i, h1, h2, h3, h4⟩ := info_parts in37; exact ⟨i, h1, h2, h3⟩), rfl⟩
theorem in59 : (Tryz.prog.info? 59).map (fun i => (i.zero, i.size, i.bytes)) = some (some (.int .u64 0), 1, 8) := by kernel_rfl
theorem va59 : VarT Tryz.prog 59 false 1 := ⟨⟨_, Tryz.underlying59, rfl⟩, (by obtain ⟨i, h1, h2, h3, h4⟩ := info_parts in59; exact ⟨i, h1, h3⟩)⟩
theorem fl36_0 : FldT Tryz.prog 36 0 0 1 := ⟨⟨_, _, Tryz.underlying36, rfl, rfl, (by obtain ⟨i, h1, h2, h3, h4⟩ := info_parts in2; exact ⟨i, h1, h3⟩)⟩, by decide⟩
theorem fl36_1 : FldT Tryz.prog 36 1 1 1 := ⟨⟨_, _, Tryz.underlying36, rfl, rfl, (by obtain ⟨i, h1, h2, h3, h4⟩ := info_parts in2; exact ⟨i, h1, h3⟩)⟩, by decide⟩
theorem fl61_0 : FldT Tryz.prog 61 0 0 1 := ⟨⟨_, _, Tryz.underlying61, rfl, rfl, (by obtain ⟨i, h1, h2, h3, h4⟩ := info_parts in22; exact ⟨i, h1, h3⟩)⟩, by decide⟩
theorem fl61_1 : FldT Tryz.prog 61 1 1 1 := ⟨⟨_, _, Tryz.underlying61, rfl, rfl, (by obtain ⟨i, h1, h2, h3, h4⟩ := info_parts in3; exact ⟨i, h1, h3⟩)⟩, by decide⟩
theorem fl61_2 : FldT Tryz.prog 61 2 2 1 := ⟨⟨_, _, Tryz.underlying61, rfl, rfl, (by obtain ⟨i, h1, h2, h3, h4⟩ := info_parts in59; exact ⟨i, h1, h3⟩)⟩, by decide⟩
theorem fl79_0 : FldT Tryz.prog 79 0 0 1 := ⟨⟨_, _, Tryz.underlying79, rfl, rfl, (by obtain ⟨i, h1, h2, h3, h4⟩ := info_parts in2; exact ⟨i, h1, h3⟩)⟩, by decide⟩
theorem fl79_1 : FldT Tryz.prog 79 1 1 1 := ⟨⟨_, _, Tryz.underlying79, rfl, rfl, (by obtain ⟨i, h1, h2, h3, h4⟩ := info_parts in28; exact ⟨i, h1, h3⟩)⟩, by decide⟩
theorem fl79_2 : FldT Tryz.prog 79 2 2 1 := ⟨⟨_, _, Tryz.underlying79, rfl, rfl, (by obtain ⟨i, h1, h2, h3, h4⟩ := info_parts in2; exact ⟨i, h1, h3⟩)⟩, by decide⟩
theorem fl79_3 : FldT Tryz.prog 79 3 3 1 := ⟨⟨_, _, Tryz.underlying79, rfl, rfl, (by obtain ⟨i, h1, h2, h3, h4⟩ := info_parts in2; exact ⟨i, h1, h3⟩)⟩, by decide⟩
theorem fl79_4 : FldT Tryz.prog 79 4 4 1 := ⟨⟨_, _, Tryz.underlying79, rfl, rfl, (by obtain ⟨i, h1, h2, h3, h4⟩ := info_parts in37; exact ⟨i, h1, h3⟩)⟩, by decide⟩
theorem fn4 : FnT Tryz.prog 4 := FnT.of Tryz.func4 (by decide +kernel) rfl
theorem fn5 : FnT Tryz.prog 5 := FnT.of Tryz.func5 (by decide +kernel) rfl
theorem fn6 : FnT Tryz.prog 6 := FnT.of Tryz.func6 (by decide +kernel) rfl
theorem fn7 : FnT Tryz.prog 7 := FnT.of Tryz.func7 (by decide +kernel) rfl
theorem fn8 : FnT Tryz.prog 8 := FnT.of Tryz.func8 (by decide +kernel) rfl
theorem fn9 : FnT Tryz.prog 9 := FnT.of Tryz.func9 (by decide +kernel) rfl
theorem fn10 : FnT Tryz.prog 10 := FnT.of Tryz.func10 (by decide +kernel) rfl
theorem fn11 : FnT Tryz.prog 11 := FnT.of Tryz.func11 (by decide +kernel) rfl
theorem fn12 : FnT Tryz.prog 12 := FnT.of Tryz.func12 (by decide +kernel) rfl
theorem fn13 : FnT Tryz.prog 13 := FnT.of Tryz.func13 (by decide +kernel) rfl
theorem fn14 : FnT Tryz.prog 14 := FnT.of Tryz.func14 (by decide +kernel) rfl
theorem fn15 : FnT Tryz.prog 15 := FnT.of Tryz.func15 (by decide +kernel) rfl
theorem fn16 : FnT Tryz.prog 16 := FnT.of Tryz.func16 (by decide +kernel) rfl
theorem fn17 : FnT Tryz.prog 17 := FnT.of Tryz.func17 (by decide +kernel) rfl
theorem fn18 : FnT Tryz.prog 18 := FnT.of Tryz.func18 (by decide +kernel) rfl
theorem fn19 : FnT Tryz.prog 19 := FnT.of Tryz.func19 (by decide +kernel) rfl
theorem fn20 : FnT Tryz.prog 20 := FnT.of Tryz.func20 (by decide +kernel) rfl
theorem fn21 : FnT Tryz.prog 21 := FnT.of Tryz.func21 (by decide +kernel) rfl
theorem fn22 : FnT Tryz.prog 22 := FnT.of Tryz.func22 (by decide +kernel) rfl
theorem fn23 : FnT Tryz.prog 23 := FnT.of Tryz.func23 (by decide +kernel) rfl
theorem fn24 : FnT Tryz.prog 24 := FnT.of Tryz.func24 (by decide +kernel) rfl
theorem fn25 : FnT Tryz.prog 25 := FnT.of Tryz.func25 (by decide +kernel) rfl
theorem fn26 : FnT Tryz.prog 26 := FnT.of Tryz.func26 (by decide +kernel) rfl
theorem fn27 : FnT Tryz.prog 27 := FnT.of Tryz.func27 (by decide +kernel) rfl
theorem fn28 : FnT Tryz.prog 28 := FnT.of Tryz.func28 (by decide +kernel) rfl
theorem fn29 : FnT Tryz.prog 29 := FnT.of Tryz.func29 (by decide +kernel) rfl
theorem fn30 : FnT Tryz.prog 30 := FnT.of Tryz.func30 (by decide +kernel) rfl
theorem fn31 : FnT Tryz.prog 31 := FnT.of Tryz.func31 (by decide +kernel) rfl
theorem fn32 : FnT Tryz.prog 32 := FnT.of Tryz.func32 (by decide +kernel) rfl
theorem fn33 : FnT Tryz.prog 33 := FnT.of Tryz.func33 (by decide +kernel) rfl
theorem fn34 : FnT Tryz.prog 34 := FnT.of Tryz.func34 (by decide +kernel) rfl
theorem fn35 : FnT Tryz.prog 35 := FnT.of Tryz.func35 (by decide +kernel) rfl
theorem fn36 : FnT Tryz.prog 36 := FnT.of Tryz.func36 (by decide +kernel) rfl
theorem fn37 : FnT Tryz.prog 37 := FnT.of Tryz.func37 (by decide +kernel) rfl
theorem fn38 : FnT Tryz.prog 38 := FnT.of Tryz.func38 (by decide +kernel) rfl
theorem fn39 : FnT Tryz.prog 39 := FnT.of Tryz.func39 (by decide +kernel) rfl
theorem fn40 : FnT Tryz.prog 40 := FnT.of Tryz.func40 (by decide +kernel) rfl
theorem fn41 : FnT Tryz.prog 41 := FnT.of Tryz.func41 (by decide +kernel) rfl
theorem fn42 : FnT Tryz.prog 42 := FnT.of Tryz.func42 (by decide +kernel) rfl
theorem fn43 : FnT Tryz.prog 43 := FnT.of Tryz.func43 (by decide +kernel) rfl
theorem fn44 : FnT Tryz.prog 44 := FnT.of Tryz.func44 (by decide +kernel) rfl
theorem fn45 : FnT Tryz.prog 45 := FnT.of Tryz.func45 (by decide +kernel) rfl
theorem fn46 : FnT Tryz.prog 46 := FnT.of Tryz.func46 (by decide +kernel) rfl
theorem fn47 : FnT Tryz.prog 47 := FnT.of Tryz.func47 (by decide +kernel) rfl
theorem fn48 : FnT Tryz.prog 48 := FnT.of Tryz.func48 (by decide +kernel) rfl
theorem fn49 : FnT Tryz.prog 49 := FnT.of Tryz.func49 (by decide +kernel) rfl
theorem fn50 : FnT Tryz.prog 50 := FnT.of Tryz.func50 (by decide +kernel) rfl
theorem fn52 : FnT Tryz.prog 52 := FnT.of Tryz.func52 (by decide +kernel) rfl
theorem fn53 : FnT Tryz.prog 53 := FnT.of Tryz.func53 (by decide +kernel) rfl
theorem fn54 : FnT Tryz.prog 54 := FnT.of Tryz.func54 (by decide +kernel) rfl
theorem fn55 : FnT Tryz.prog 55 := FnT.of Tryz.func55 (by decide +kernel) rfl
theorem fn56 : FnT Tryz.prog 56 := FnT.of Tryz.func56 (by decide +kernel) rfl
theorem fn57 : FnT Tryz.prog 57 := FnT.of Tryz.func57 (by decide +kernel) rfl
theorem fn58 : FnT Tryz.prog 58 := FnT.of Tryz.func58 (by decide +kernel) rfl
theorem fn59 : FnT Tryz.prog 59 := FnT.of Tryz.func59 (by decide +kernel) rfl
theorem fn60 : FnT Tryz.prog 60 := FnT.of Tryz.func60 (by decide +kernel) rfl
theorem fn61 : FnT Tryz.prog 61 := FnT.of Tryz.func61 (by decide +kernel) rfl
theorem fn62 : FnT Tryz.prog 62 := FnT.of Tryz.func62 (by decide +kernel) rfl
theorem fn63 : FnT Tryz.prog 63 := FnT.of Tryz.func63 (by decide +kernel) rfl
theorem fn64 : FnT Tryz.prog 64 := FnT.of Tryz.func64 (by decide +kernel) rfl
theorem fn65 : FnT Tryz.prog 65 := FnT.of Tryz.func65 (by decide +kernel) rfl
theorem fn66 : FnT Tryz.prog 66 := FnT.of Tryz.func66 (by decide +kernel) rfl
theorem fn67 : FnT Tryz.prog 67 := FnT.of Tryz.func67 (by decide +kernel) rfl
theorem fn68 : FnT Tryz.prog 68 := FnT.of Tryz.func68 (by decide +kernel) rfl
theorem fn69 : FnT Tryz.prog 69 := FnT.of Tryz.func69 (by decide +kernel) rfl
theorem fn70 : FnT Tryz.prog 70 := FnT.of Tryz.func70 (by decide +kernel) rfl
theorem fn73 : FnT Tryz.prog 73 := FnT.of Tryz.func73 (by decide +kernel) rfl
theorem fn74 : FnT Tryz.prog 74 := FnT.of Tryz.func74 (by decide +kernel) rfl
theorem fn75 : FnT Tryz.prog 75 := FnT.of Tryz.func75 (by decide +kernel) rfl
theorem fn76 : FnT Tryz.prog 76 := FnT.of Tryz.func76 (by decide +kernel) rfl
theorem fn77 : FnT Tryz.prog 77 := FnT.of Tryz.func77 (by decide +kernel) rfl
theorem fn78 : FnT Tryz.prog 78 := FnT.of Tryz.func78 (by decide +kernel) rfl
theorem fn89 : FnT Tryz.prog 89 := FnT.of Tryz.func89 (by decide +kernel) rfl
theorem fn90 : FnT Tryz.prog 90 := FnT.of Tryz.func90 (by decide +kernel) rfl
theorem fn91 : FnT Tryz.prog 91 := FnT.of Tryz.func91 (by decide +kernel) rfl
theorem fn93 : FnT Tryz.prog 93 := FnT.of Tryz.func93 (by decide +kernel) rfl
theorem fn99 : FnT Tryz.prog 99 := FnT.of Tryz.func99 (by decide +kernel) rfl
theorem fn100 : FnT Tryz.prog 100 := FnT.of Tryz.func100 (by decide +kernel) rfl
theorem fn101 : FnT Tryz.prog 101 := FnT.of Tryz.func101 (by decide +kernel) rfl
theorem fn102 : FnT Tryz.prog 102 := FnT.of Tryz.func102 (by decide +kernel) rfl
theorem fn103 : FnT Tryz.prog 103 := FnT.of Tryz.func103 (by decide +kernel) rfl
theorem mixed : Tryz.prog.follows .mixedOrders = true := by kernel_rfl
end Go.Proofs.YtbjcgcililpfdaaGreat.VC

