/- The library's SortFunc, laid. -/
import Derived.Test.YtbjcgcililpfdaaGreatZT
import Derived.Shelf.SlSortCmp.NoneTotal
import Derived.KernelRfl
import Derived.Ground.SlsfProg
namespace Go.Proofs.YtbjcgcililpfdaaGreat.VC
open Go Go.RowKit Go.Shelf Go.Sort
def sortFLR : Ren where
  f := fun x => match x with | 6 => 50 | 15 => 72 | 14 => 71 | 28 => 87 | 29 => 88 | 20 => 79 | 21 => 80 | 22 => 81 | 23 => 82 | 24 => 83 | 25 => 84 | 26 => 85 | 27 => 86 | 46 => 94 | 47 => 95 | 48 => 96 | 49 => 97 | 50 => 98 | 57 => 104 | n => n
  t := fun x => match x with | 22 => 37 | 24 => 25 | 25 => 74 | 3 => 3 | 39 => 82 | 0 => 0 | 53 => 103 | 55 => 59 | 4 => 4 | 46 => 96 | 45 => 95 | 50 => 100 | 5 => 5 | 9 => 9 | 66 => 106 | 70 => 110 | 76 => 113 | 77 => 114 | n => n
  g := fun x => x
theorem sortFL : SlLaysF.n6 Tryz.prog sortFLR where
  mixed := by kernel_rfl
  f6 := Exists.intro "slices.SortFunc[[][]int64,[]int64]" ⟨by decide, Eq.trans Tryz.func50 (congrArg some (by kernel_rfl))⟩
  f14 := Exists.intro "slices.pdqsortCmpFunc[[]int64]" ⟨by decide, Eq.trans Tryz.func71 (congrArg some (by kernel_rfl))⟩
  f15 := Eq.trans Tryz.func72 (congrArg some (by kernel_rfl))
  f20 := Exists.intro "slices.insertionSortCmpFunc[[]int64]" ⟨by decide, Eq.trans Tryz.func79 (congrArg some (by kernel_rfl))⟩
  f21 := Exists.intro "slices.heapSortCmpFunc[[]int64]" ⟨by decide, Eq.trans Tryz.func80 (congrArg some (by kernel_rfl))⟩
  f22 := Exists.intro "slices.breakPatternsCmpFunc[[]int64]" ⟨by decide, Eq.trans Tryz.func81 (congrArg some (by kernel_rfl))⟩
  f23 := Exists.intro "slices.choosePivotCmpFunc[[]int64]" ⟨by decide, Eq.trans Tryz.func82 (congrArg some (by kernel_rfl))⟩
  f24 := Exists.intro "slices.reverseRangeCmpFunc[[]int64]" ⟨by decide, Eq.trans Tryz.func83 (congrArg some (by kernel_rfl))⟩
  f25 := Exists.intro "slices.partialInsertionSortCmpFunc[[]int64]" ⟨by decide, Eq.trans Tryz.func84 (congrArg some (by kernel_rfl))⟩
  f26 := Exists.intro "slices.partitionEqualCmpFunc[[]int64]" ⟨by decide, Eq.trans Tryz.func85 (congrArg some (by kernel_rfl))⟩
  f27 := Exists.intro "slices.partitionCmpFunc[[]int64]" ⟨by decide, Eq.trans Tryz.func86 (congrArg some (by kernel_rfl))⟩
  f28 := Eq.trans Tryz.func87 (congrArg some (by kernel_rfl))
  f29 := Eq.trans Tryz.func88 (congrArg some (by kernel_rfl))
  f46 := Exists.intro "slices.siftDownCmpFunc[[]int64]" ⟨by decide, Eq.trans Tryz.func94 (congrArg some (by kernel_rfl))⟩
  f47 := Eq.trans Tryz.func95 (congrArg some (by kernel_rfl))
  f48 := Eq.trans Tryz.func96 (congrArg some (by kernel_rfl))
  f49 := Exists.intro "slices.medianAdjacentCmpFunc[[]int64]" ⟨by decide, Eq.trans Tryz.func97 (congrArg some (by kernel_rfl))⟩
  f50 := Exists.intro "slices.medianCmpFunc[[]int64]" ⟨by decide, Eq.trans Tryz.func98 (congrArg some (by kernel_rfl))⟩
  f57 := Exists.intro "slices.order2CmpFunc[[]int64]" ⟨by decide, Eq.trans Tryz.func104 (congrArg some (by kernel_rfl))⟩
  t0 := Tryz.underlying0
  a0 := Tryz.isAgg0
  z0 := Tryz.sizeOf0
  v0 := Tryz.zeroValue0
  t3 := Tryz.underlying3
  a3 := Tryz.isAgg3
  z3 := Tryz.sizeOf3
  v3 := Tryz.zeroValue3
  t4 := Tryz.underlying4
  a4 := Tryz.isAgg4
  z4 := Tryz.sizeOf4
  v4 := Tryz.zeroValue4
  t5 := Tryz.underlying5
  a5 := Tryz.isAgg5
  z5 := Tryz.sizeOf5
  v5 := Tryz.zeroValue5
  t9 := Tryz.underlying9
  a9 := Tryz.isAgg9
  z9 := Tryz.sizeOf9
  v9 := Tryz.zeroValue9
  t22 := Tryz.underlying37
  a22 := Tryz.isAgg37
  z22 := Tryz.sizeOf37
  v22 := Tryz.zeroValue37
  a24 := Tryz.isAgg25
  z24 := Tryz.sizeOf25
  t25 := Tryz.underlying74
  a25 := Tryz.isAgg74
  z25 := Tryz.sizeOf74
  v25 := Tryz.zeroValue74
  t39 := Tryz.underlying82
  a39 := Tryz.isAgg82
  z39 := Tryz.sizeOf82
  v39 := Tryz.zeroValue82
  t45 := Tryz.underlying95
  a45 := Tryz.isAgg95
  z45 := Tryz.sizeOf95
  v45 := Tryz.zeroValue95
  t46 := Tryz.underlying96
  a46 := Tryz.isAgg96
  z46 := Tryz.sizeOf96
  v46 := Tryz.zeroValue96
  t50 := Tryz.underlying100
  a50 := Tryz.isAgg100
  z50 := Tryz.sizeOf100
  v50 := Tryz.zeroValue100
  t53 := Tryz.underlying103
  a53 := Tryz.isAgg103
  z53 := Tryz.sizeOf103
  v53 := Tryz.zeroValue103
  t55 := Tryz.underlying59
  a55 := Tryz.isAgg59
  z55 := Tryz.sizeOf59
  v55 := Tryz.zeroValue59
  t66 := Tryz.underlying106
  a66 := Tryz.isAgg106
  z66 := Tryz.sizeOf106
  v66 := Tryz.zeroValue106
  t70 := Tryz.underlying110
  a70 := Tryz.isAgg110
  z70 := Tryz.sizeOf110
  v70 := Tryz.zeroValue110
  t76 := Tryz.underlying113
  a76 := Tryz.isAgg113
  z76 := Tryz.sizeOf113
  v76 := Tryz.zeroValue113
  t77 := Tryz.underlying114
  a77 := Tryz.isAgg114
  z77 := Tryz.sizeOf114
  v77 := Tryz.zeroValue114
end Go.Proofs.YtbjcgcililpfdaaGreat.VC

