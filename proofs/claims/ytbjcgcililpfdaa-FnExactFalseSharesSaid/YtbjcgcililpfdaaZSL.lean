/- The library's SortFunc, laid. -/
import Derived.Test.YtbjcgcililpfdaaZT
import Derived.Shelf.SlSortCmp.NoneTotal
import Derived.KernelRfl
import Derived.Ground.SlsfProg
namespace Go.Proofs.Ytbjcgcililpfdaa.VC
open Go Go.RowKit Go.Shelf Go.Sort
def sortFLR : Ren where
  f := fun x => match x with | 6 => 122 | 15 => 149 | 14 => 148 | 28 => 165 | 29 => 166 | 20 => 157 | 21 => 158 | 22 => 159 | 23 => 160 | 24 => 161 | 25 => 162 | 26 => 163 | 27 => 164 | 46 => 172 | 47 => 173 | 48 => 174 | 49 => 175 | 50 => 176 | 57 => 178 | n => n
  t := fun x => match x with | 22 => 37 | 24 => 25 | 25 => 111 | 3 => 3 | 39 => 75 | 0 => 0 | 53 => 143 | 55 => 145 | 4 => 4 | 46 => 160 | 45 => 159 | 50 => 164 | 5 => 5 | 9 => 9 | 66 => 167 | 70 => 171 | 76 => 173 | 77 => 174 | n => n
  g := fun x => x
theorem sortFL : SlLaysF.n6 Try.prog sortFLR where
  mixed := by kernel_rfl
  f6 := Exists.intro "slices.SortFunc[[][]int64,[]int64]" ⟨by decide, Eq.trans Try.func122 (congrArg some (by kernel_rfl))⟩
  f14 := Exists.intro "slices.pdqsortCmpFunc[[]int64]" ⟨by decide, Eq.trans Try.func148 (congrArg some (by kernel_rfl))⟩
  f15 := Eq.trans Try.func149 (congrArg some (by kernel_rfl))
  f20 := Exists.intro "slices.insertionSortCmpFunc[[]int64]" ⟨by decide, Eq.trans Try.func157 (congrArg some (by kernel_rfl))⟩
  f21 := Exists.intro "slices.heapSortCmpFunc[[]int64]" ⟨by decide, Eq.trans Try.func158 (congrArg some (by kernel_rfl))⟩
  f22 := Exists.intro "slices.breakPatternsCmpFunc[[]int64]" ⟨by decide, Eq.trans Try.func159 (congrArg some (by kernel_rfl))⟩
  f23 := Exists.intro "slices.choosePivotCmpFunc[[]int64]" ⟨by decide, Eq.trans Try.func160 (congrArg some (by kernel_rfl))⟩
  f24 := Exists.intro "slices.reverseRangeCmpFunc[[]int64]" ⟨by decide, Eq.trans Try.func161 (congrArg some (by kernel_rfl))⟩
  f25 := Exists.intro "slices.partialInsertionSortCmpFunc[[]int64]" ⟨by decide, Eq.trans Try.func162 (congrArg some (by kernel_rfl))⟩
  f26 := Exists.intro "slices.partitionEqualCmpFunc[[]int64]" ⟨by decide, Eq.trans Try.func163 (congrArg some (by kernel_rfl))⟩
  f27 := Exists.intro "slices.partitionCmpFunc[[]int64]" ⟨by decide, Eq.trans Try.func164 (congrArg some (by kernel_rfl))⟩
  f28 := Eq.trans Try.func165 (congrArg some (by kernel_rfl))
  f29 := Eq.trans Try.func166 (congrArg some (by kernel_rfl))
  f46 := Exists.intro "slices.siftDownCmpFunc[[]int64]" ⟨by decide, Eq.trans Try.func172 (congrArg some (by kernel_rfl))⟩
  f47 := Eq.trans Try.func173 (congrArg some (by kernel_rfl))
  f48 := Eq.trans Try.func174 (congrArg some (by kernel_rfl))
  f49 := Exists.intro "slices.medianAdjacentCmpFunc[[]int64]" ⟨by decide, Eq.trans Try.func175 (congrArg some (by kernel_rfl))⟩
  f50 := Exists.intro "slices.medianCmpFunc[[]int64]" ⟨by decide, Eq.trans Try.func176 (congrArg some (by kernel_rfl))⟩
  f57 := Exists.intro "slices.order2CmpFunc[[]int64]" ⟨by decide, Eq.trans Try.func178 (congrArg some (by kernel_rfl))⟩
  t0 := Try.underlying0
  a0 := Try.isAgg0
  z0 := Try.sizeOf0
  v0 := Try.zeroValue0
  t3 := Try.underlying3
  a3 := Try.isAgg3
  z3 := Try.sizeOf3
  v3 := Try.zeroValue3
  t4 := Try.underlying4
  a4 := Try.isAgg4
  z4 := Try.sizeOf4
  v4 := Try.zeroValue4
  t5 := Try.underlying5
  a5 := Try.isAgg5
  z5 := Try.sizeOf5
  v5 := Try.zeroValue5
  t9 := Try.underlying9
  a9 := Try.isAgg9
  z9 := Try.sizeOf9
  v9 := Try.zeroValue9
  t22 := Try.underlying37
  a22 := Try.isAgg37
  z22 := Try.sizeOf37
  v22 := Try.zeroValue37
  a24 := Try.isAgg25
  z24 := Try.sizeOf25
  t25 := Try.underlying111
  a25 := Try.isAgg111
  z25 := Try.sizeOf111
  v25 := Try.zeroValue111
  t39 := Try.underlying75
  a39 := Try.isAgg75
  z39 := Try.sizeOf75
  v39 := Try.zeroValue75
  t45 := Try.underlying159
  a45 := Try.isAgg159
  z45 := Try.sizeOf159
  v45 := Try.zeroValue159
  t46 := Try.underlying160
  a46 := Try.isAgg160
  z46 := Try.sizeOf160
  v46 := Try.zeroValue160
  t50 := Try.underlying164
  a50 := Try.isAgg164
  z50 := Try.sizeOf164
  v50 := Try.zeroValue164
  t53 := Try.underlying143
  a53 := Try.isAgg143
  z53 := Try.sizeOf143
  v53 := Try.zeroValue143
  t55 := Try.underlying145
  a55 := Try.isAgg145
  z55 := Try.sizeOf145
  v55 := Try.zeroValue145
  t66 := Try.underlying167
  a66 := Try.isAgg167
  z66 := Try.sizeOf167
  v66 := Try.zeroValue167
  t70 := Try.underlying171
  a70 := Try.isAgg171
  z70 := Try.sizeOf171
  v70 := Try.zeroValue171
  t76 := Try.underlying173
  a76 := Try.isAgg173
  z76 := Try.sizeOf173
  v76 := Try.zeroValue173
  t77 := Try.underlying174
  a77 := Try.isAgg174
  z77 := Try.sizeOf174
  v77 := Try.zeroValue174
end Go.Proofs.Ytbjcgcililpfdaa.VC

