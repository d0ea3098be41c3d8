/- The library's sort at a row of the call's own. -/
import Derived.Test.YticobjbjejpomaaVM
import Derived.Test.YticobjbjejpomaaVT
import Derived.Shelf.SlGeneric
import Derived.KernelRfl
import Derived.Shelf.SortM.SortNone
import Derived.Sort.EveryDepth
import Derived.Sort.OwnSortedInts
import Derived.Ground.SlgmProg
set_option linter.unusedVariables false
set_option linter.unusedSimpArgs false
namespace Go.Proofs.Yticobjbjejpomaa.VC
open Go Go.RowKit Go.Shelf Go.Sort
def sortRen : Ren where
  f := fun x => match x with | 5 => 96 | 8 => 150 | 7 => 149 | 19 => 195 | 20 => 196 | 10 => 186 | 11 => 187 | 12 => 188 | 13 => 189 | 14 => 190 | 15 => 191 | 16 => 192 | 17 => 193 | 18 => 194 | 30 => 205 | 31 => 206 | 32 => 207 | 33 => 208 | 34 => 209 | 35 => 210 | 40 => 213 | n => n
  t := fun x => match x with | 23 => 22 | 25 => 2 | 3 => 3 | 32 => 106 | 22 => 22 | 0 => 0 | 44 => 220 | 46 => 197 | 4 => 4 | 36 => 212 | 35 => 211 | 41 => 217 | 5 => 5 | 9 => 9 | 53 => 225 | 57 => 229 | 63 => 232 | 64 => 233 | n => n
  g := fun x => x
theorem sortL : SlLaysM.n5 Try.prog sortRen where
  mixed := by kernel_rfl
  f5 := Exists.intro "slices.Sort[[]int64,int64]" ⟨by decide, Eq.trans Try.func96 (congrArg some (by kernel_rfl))⟩
  f7 := Exists.intro "slices.pdqsortOrdered[int64]" ⟨by decide, Eq.trans Try.func149 (congrArg some (by kernel_rfl))⟩
  f8 := Eq.trans Try.func150 (congrArg some (by kernel_rfl))
  f10 := Exists.intro "slices.insertionSortOrdered[int64]" ⟨by decide, Eq.trans Try.func186 (congrArg some (by kernel_rfl))⟩
  f11 := Exists.intro "slices.heapSortOrdered[int64]" ⟨by decide, Eq.trans Try.func187 (congrArg some (by kernel_rfl))⟩
  f12 := Exists.intro "slices.breakPatternsOrdered[int64]" ⟨by decide, Eq.trans Try.func188 (congrArg some (by kernel_rfl))⟩
  f13 := Exists.intro "slices.choosePivotOrdered[int64]" ⟨by decide, Eq.trans Try.func189 (congrArg some (by kernel_rfl))⟩
  f14 := Exists.intro "slices.reverseRangeOrdered[int64]" ⟨by decide, Eq.trans Try.func190 (congrArg some (by kernel_rfl))⟩
  f15 := Exists.intro "slices.partialInsertionSortOrdered[int64]" ⟨by decide, Eq.trans Try.func191 (congrArg some (by kernel_rfl))⟩
  f16 := Exists.intro "cmp.Less[int64]" ⟨by decide, Eq.trans Try.func192 (congrArg some (by kernel_rfl))⟩
  f17 := Exists.intro "slices.partitionEqualOrdered[int64]" ⟨by decide, Eq.trans Try.func193 (congrArg some (by kernel_rfl))⟩
  f18 := Exists.intro "slices.partitionOrdered[int64]" ⟨by decide, Eq.trans Try.func194 (congrArg some (by kernel_rfl))⟩
  f19 := Eq.trans Try.func195 (congrArg some (by kernel_rfl))
  f20 := Eq.trans Try.func196 (congrArg some (by kernel_rfl))
  f30 := Exists.intro "slices.siftDownOrdered[int64]" ⟨by decide, Eq.trans Try.func205 (congrArg some (by kernel_rfl))⟩
  f31 := Eq.trans Try.func206 (congrArg some (by kernel_rfl))
  f32 := Eq.trans Try.func207 (congrArg some (by kernel_rfl))
  f33 := Exists.intro "slices.medianAdjacentOrdered[int64]" ⟨by decide, Eq.trans Try.func208 (congrArg some (by kernel_rfl))⟩
  f34 := Exists.intro "slices.medianOrdered[int64]" ⟨by decide, Eq.trans Try.func209 (congrArg some (by kernel_rfl))⟩
  f35 := Exists.intro "cmp.isNaN[int64]" ⟨by decide, Eq.trans Try.func210 (congrArg some (by kernel_rfl))⟩
  f40 := Exists.intro "slices.order2Ordered[int64]" ⟨by decide, Eq.trans Try.func213 (congrArg some (by kernel_rfl))⟩
  t0 := Try.underlying0
  a0 := Try.isAgg0
  z0 := Try.sizeOf0
  v0 := Try.zeroValue0
  t3 := Try.underlying3
  a3 := Try.isAgg3
  z3 := Try.sizeOf3
  v3 := Try.zeroValue3
  t4 := Try.underlying4
  a4 := Try.isAgg4
  z4 := Try.sizeOf4
  v4 := Try.zeroValue4
  t5 := Try.underlying5
  a5 := Try.isAgg5
  z5 := Try.sizeOf5
  v5 := Try.zeroValue5
  t9 := Try.underlying9
  a9 := Try.isAgg9
  z9 := Try.sizeOf9
  v9 := Try.zeroValue9
  t22 := Try.underlying22
  a22 := Try.isAgg22
  z22 := Try.sizeOf22
  v22 := Try.zeroValue22
  t23 := Try.underlying22
  a23 := Try.isAgg22
  z23 := Try.sizeOf22
  v23 := Try.zeroValue22
  t25 := Try.underlying2
  a25 := Try.isAgg2
  z25 := Try.sizeOf2
  v25 := Try.zeroValue2
  t32 := Try.underlying106
  a32 := Try.isAgg106
  z32 := Try.sizeOf106
  v32 := Try.zeroValue106
  t35 := Try.underlying211
  a35 := Try.isAgg211
  z35 := Try.sizeOf211
  v35 := Try.zeroValue211
  t36 := Try.underlying212
  a36 := Try.isAgg212
  z36 := Try.sizeOf212
  v36 := Try.zeroValue212
  t41 := Try.underlying217
  a41 := Try.isAgg217
  z41 := Try.sizeOf217
  v41 := Try.zeroValue217
  t44 := Try.underlying220
  a44 := Try.isAgg220
  z44 := Try.sizeOf220
  v44 := Try.zeroValue220
  t46 := Try.underlying197
  a46 := Try.isAgg197
  z46 := Try.sizeOf197
  v46 := Try.zeroValue197
  t53 := Try.underlying225
  a53 := Try.isAgg225
  z53 := Try.sizeOf225
  v53 := Try.zeroValue225
  t57 := Try.underlying229
  a57 := Try.isAgg229
  z57 := Try.sizeOf229
  v57 := Try.zeroValue229
  t63 := Try.underlying232
  a63 := Try.isAgg232
  z63 := Try.sizeOf232
  v63 := Try.zeroValue232
  t64 := Try.underlying233
  a64 := Try.isAgg233
  z64 := Try.sizeOf233
  v64 := Try.zeroValue233
theorem try_sort (blk off cap : Nat) (zs : List Int) (w : World) (hH : Holds (Value.int .i64) w blk off zs.toArray) (hblk : blk < w.heap.size) (hsz : zs.length < 4611686018427387904) :
    Calls Try.prog 96 #[.slice (some ⟨blk, off, none⟩) zs.length cap] w fun e w' =>
      e = .returned (.tuple #[]) ∧ ∃ n os, w' = grow (putRow (Value.int .i64) (Sort.ahead w n) blk off (zs.mergeSort fun x y => decide (x ≤ y)).toArray) os :=
  calls_of_every_depth fun D => AnySM.slices_Sort_int_in sortL D blk off cap zs w hH hblk hsz
theorem segs_ints {l : List Int} {css : List (List Value)} {W : World} {H : Hp} {ok : Nat → Prop} (h : Segs (fun _ x cs => kI.rd W H ok x cs) l css) : css.flatten = l.map (Value.int .i64) := by
  obtain ⟨h1, h2⟩ := h
  induction l generalizing css with
  | nil => have : css = [] := List.eq_nil_of_length_eq_zero (by simpa using h1); subst this; rfl
  | cons x l ih =>
    cases css with
    | nil => cases h1
    | cons cs css =>
      have e : cs = [.int .i64 x] := h2 0 x cs rfl rfl
      subst e
      rw [List.flatten_cons, ih (by simpa using h1) (fun i y c hy hc => h2 (i + 1) y c hy hc)]
      rfl
/-- slices.Sort at a row of the call's own. -/
theorem sort_ok {W : World} {H : Hp} {ok : Nat → Prop} {v : Value} {l : List Int} (ho : OwnK kI 2 W H ok v l) (hl : l.length ≤ 1048576) :
    ACalls Try.prog W 96 #[v] H (fun r H' => r = .tuple #[] ∧ But (fun b => some b = v.ownBlock) H H' ∧ OwnK kI 2 W H' ok v (l.mergeSort fun x y => decide (x ≤ y))) := by
  intro w hw
  obtain ⟨css, h1, h2⟩ := ho
  have hfl := segs_ints h1
  have hml : (l.mergeSort fun x y => decide (x ≤ y)).length = l.length := List.length_mergeSort _
  obtain ⟨i1, i2, i3⟩ := h2
  rcases i3 with ⟨rfl, h0⟩ | ⟨g, c, rfl, hg, hA, hc, hm⟩
  · have hl0 : l = [] := List.eq_nil_of_length_eq_zero h0
    subst hl0
    refine Calls.mono (calls_of_every_depth fun D => AnySM.slices_Sort_int_none_in sortL D none 0 w) fun e w' he => ?_
    obtain ⟨rfl, rfl⟩ := he
    exact ⟨_, H, rfl, hw, rfl, But.refl _ _, by rw [show ([] : List Int).mergeSort (fun x y => decide (x ≤ y)) = [] from List.mergeSort_nil]; exact OwnK.nil _⟩
  · obtain ⟨j1, cur, j2, j3, j4⟩ := hw.own g _ hA.m
    have ht : cur.toList.take l.length = l.map (Value.int .i64) := by
      have e : css.flatten.length = l.length := by rw [hfl]; simp
      simp only at j4
      rw [← hfl, ← j4, e]
    have hcap : cur.size = c * 1 := j3
    have hblk : g < w.heap.size := (Array.getElem?_eq_some_iff.1 j2).1
    refine Calls.mono (try_sort g 0 c l w (holds_of_blockI j2 ht) hblk (by omega)) fun e w' he => ?_
    obtain ⟨rfl, n, os, rfl⟩ := he
    have ho := ownsRow_sortedI (ss := l) (ts := l.mergeSort fun x y => decide (x ≤ y)) (n := n) (os := os) hml j1 j2 hc hm hcap
    obtain ⟨H', g1, g2, g3⟩ := hw.grown (grownBy_sortedI (n := n) (os := os) _) (fun k hk => by cases hk; exact j1) (fun u hu => by
      obtain ⟨x, _, rfl⟩ := List.mem_map.1 hu; rfl) ho (.inl rfl)
    refine ⟨_, H', rfl, g1, rfl, g2, ⟨(l.mergeSort fun x y => decide (x ≤ y)).map (fun x => [Value.int .i64 x]), ⟨by simp, fun i x cs hx hcs => ?_⟩, ?_⟩⟩
    · rw [List.getElem?_map, hx] at hcs
      cases hcs; rfl
    · have e : ((l.mergeSort fun x y => decide (x ≤ y)).map (fun x => [Value.int .i64 x])).flatten = (l.mergeSort fun x y => decide (x ≤ y)).map (Value.int .i64) := by
        generalize l.mergeSort (fun x y => decide (x ≤ y)) = m
        induction m with
        | nil => rfl
        | cons x m ih => rw [List.map_cons, List.flatten_cons, ih]; rfl
      rw [e, hml]
      obtain ⟨k1, k2, k3⟩ := g3
      refine ⟨k1, k2, ?_⟩
      rcases k3 with ⟨q, _⟩ | ⟨g', c', q, _, k5, k6⟩
      · cases q
      · cases q
        exact .inr ⟨g, c, rfl, hg, k5, k6⟩
end Go.Proofs.Yticobjbjejpomaa.VC
