/- slices.SortFunc at a row of rows of the call's own. -/
import Derived.Test.YtbjcgcililpfdaaGreatZN10
import Derived.Test.YtbjcgcililpfdaaGreatZSL
import Derived.Sort.OwnSortedInts
import Derived.Test.YtbjcgcililpfdaaGreatZO
set_option linter.unusedVariables false
set_option linter.unusedSimpArgs false
namespace Go.Proofs.YtbjcgcililpfdaaGreat.VC
open Go Go.RowKit Go.Shelf Go.Sort
/-! ### Worlds that a sort passes through -/
theorem grownBy_sw {α : Type} [Inhabited α] {enc : α → Value} {w : World} {g n : Nat} {os : Array Obj} (d : Array α) : w.grownBy (sortWorld enc w g 0 n d os) (some g) := by
  refine ⟨rfl, rfl, rfl, by simp [sortWorld], fun k hk hne => ?_⟩
  unfold sortWorld
  rw [heap_grow_old _ _ (by simpa using hk)]
  have : g ≠ k := fun e => hne (by rw [e])
  simp [putRow, mapBlock, Sort.ahead, Array.getElem?_modify, this]
theorem heap_sw {α : Type} [Inhabited α] {enc : α → Value} {w : World} {g n : Nat} {os : Array Obj} {cur : Array Value} {e : TypeId} {fr : Nat × Nat} (d : Array α) (hb : w.heap[g]? = some (.cells cur e fr)) :
    (sortWorld enc w g 0 n d os).heap[g]? = some (.cells (putCells enc 0 d cur) e fr) := by
  have hg : g < w.heap.size := (Array.getElem?_eq_some_iff.1 hb).1
  unfold sortWorld
  rw [heap_grow_old _ _ (by simpa using hg)]
  simp [putRow, mapBlock, Sort.ahead, Array.getElem?_modify, hb, onCells]
theorem holds_sw {α : Type} [Inhabited α] {enc : α → Value} {w : World} {g : Nat} {cur : Array Value} {e : TypeId} {ss : List α} (hb : w.heap[g]? = some (.cells cur e (0, 0))) (ht : cur.toList.take ss.length = ss.map enc) : Holds enc w g 0 ss.toArray := by
  intro j hj
  have hj' : j < ss.length := by simpa using hj
  refine ⟨?_, by simp [World.frozen?, hb]⟩
  have h1 : (cur.toList.take ss.length)[j]? = (ss.map enc)[j]? := by rw [ht]
  rw [List.getElem?_take_of_lt hj'] at h1
  simp only [World.cell?, hb, Nat.zero_add]
  simp only [Option.isSome_none, Bool.false_eq_true, if_false]
  rw [← Array.getElem?_toList, h1]
  simp [hj']
theorem take_sw {α : Type} [Inhabited α] {enc : α → Value} (cur : Array Value) (ts : List α) (h : ts.length ≤ cur.size) : (putCells enc 0 ts.toArray cur).toList.take ts.length = ts.map enc := by
  apply List.ext_getElem?
  intro j
  by_cases hj : j < ts.length
  · rw [List.getElem?_take_of_lt hj, Array.getElem?_toList]
    simp [putCells, hj, show j < cur.size by omega]
  · rw [List.getElem?_take_eq_none (by omega), List.getElem?_eq_none (by simp; omega)]
theorem ownsRow_sw {α : Type} [Inhabited α] {enc : α → Value} {w : World} {base g cap n : Nat} {e : TypeId} {os : Array Obj} {cur : Array Value} {ss ts : List α} (hl : ts.length = ss.length) (hbase : base ≤ g) (hb : w.heap[g]? = some (.cells cur e (0, 0)))
    (h1 : ss.length ≤ cap) (h2 : cap ≤ maxLen) (h3 : cur.size = cap * 1) :
    (sortWorld enc w g 0 n ts.toArray os).ownsRow base e 1 (.slice (some ⟨g, 0, none⟩) ss.length cap) ss.length (ts.map enc) :=
  ⟨by simp [hl], .inr ⟨g, cap, _, rfl, hbase, heap_sw _ hb, h1, h2, by simp [putCells, h3], by rw [Nat.mul_one, ← hl]; exact take_sw cur ts (by omega)⟩⟩
theorem grow_of {w w' : World} (h : Go.RowKit.Below w.heap.size w w') (hd : w.drawn ≤ w'.drawn) : ∃ q os', w' = grow (w.drewN q) os' := by
  refine ⟨w'.drawn - w.drawn, w'.heap.extract w.heap.size w'.heap.size, ?_⟩
  have hh : w'.heap = w.heap ++ w'.heap.extract w.heap.size w'.heap.size := by
    apply Array.ext_getElem?
    intro k
    by_cases hk : k < w.heap.size
    · rw [Array.getElem?_append_left hk]; exact h.block k hk
    · rw [Array.getElem?_append_right (by omega), Array.getElem?_extract]
      have := h.size
      split
      · congr 1; omega
      · rw [Array.getElem?_eq_none (by omega)]
  obtain ⟨h1, h2, h3, h4, h5⟩ := h
  cases w; cases w'
  simp only at h1 h2 h3 hd hh
  subst h1; subst h2; subst h3
  simp only [grow, World.drewN, World.mk.injEq, true_and, and_true]
  exact ⟨hh, by omega⟩
theorem SatH.lose {W : World} {H : Hp} {w w' : World} (hw : SatH W H w) {g : Nat} (hg : w.grownBy w' (some g)) (hW : W.heap.size ≤ g) (hd : w.drawn ≤ w'.drawn) : ∃ H', SatH W H' w' ∧ But (fun b => b = g) H H' := by
  refine ⟨⟨fun k => if k = g then none else H.m k, H.bd, fun k x hk => ?_⟩, ⟨hw.below.grown hg hw.below.size (fun k hk => by cases hk; exact hW), Nat.le_trans hw.bd hg.size, fun b x hx => ?_, Nat.le_trans hw.dr hd⟩, ⟨Nat.le_refl _, fun b x hx hn => ?_⟩⟩
  · split at hk
    · cases hk
    · exact H.lt k x hk
  · simp only at hx
    split at hx
    · cases hx
    · rename_i hne
      obtain ⟨k1, cur, k2, k3⟩ := hw.own b x hx
      exact ⟨k1, cur, (hg.block b (Array.getElem?_eq_some_iff.1 k2).1 (fun e => hne (Option.some.inj e))).trans k2, k3⟩
  · simp only
    rw [if_neg hn]; exact hx
theorem rd_rebase {W : World} {H : Hp} {w : World} (hw : SatH W H w) {ok : Nat → Prop} {v : Value} {l : List Int} (h : RdK kI W H ok v l) : RdK kI w (Hp.start w) (fun _ => True) v l := by
  obtain ⟨css, h1, g1, g2, A, c, rfl, g3, g4, g5, g6⟩ := h
  refine ⟨css, h1, g1, g2, A, c, rfl, g3, g4, g5, fun ad hA hm j u hu => ?_⟩
  have r := (g6 ad hA hm j u hu).1
  have hc := hw.cell r
  have hb := World.block_lt_of_cell? w (ad.add j) hc
  refine ⟨?_, fun q => ⟨trivial, ?_⟩⟩
  · unfold rdc at r ⊢
    by_cases hs : (ad.add j).spot.isSome
    · rw [if_pos hs] at r; cases r
    · rw [if_neg hs, if_pos hb]; exact hc
  · rw [block_add] at hb
    exact absurd q (by omega)
theorem near2_grow {W : World} {H : Hp} {w : World} (hw : SatH W H w) {a b : Value} {l m : List Int} {ok ok2 : Nat → Prop} (ha : RdK kI W H ok a l) (hb : RdK kI W H ok2 b m) :
    Calls Tryz.prog 51 #[a, b] w fun e w' => e = .returned (.int .i64 (cfC l m)) ∧ ∃ q os', w' = grow (w.drewN q) os' :=
  Calls.mono (near2_ok (W := w) (H := Hp.start w) (rd_rebase hw ha) (rd_rebase hw hb) w (sat_start w)) fun e w' h => by
    obtain ⟨v, H', he, hs, rfl, _⟩ := h
    exact ⟨he, grow_of hs.below hs.dr⟩
/-! ### Rows of rows whose order is told by labels -/
abbrev RT := Value × List Int × Nat
def kT (lab : Nat → Nat) : Kd RT where
  sz := 1
  rd := fun W H ok x cs => cs = [x.1] ∧ OwnK kI 2 W H (fun b => ok b ∧ lab b = x.2.2) x.1 x.2.1
  len := fun h => by rw [h.1]; rfl
  one := fun h u hu => by
    obtain ⟨A, c, e⟩ := h.2.isSl
    rw [h.1] at hu
    rw [List.mem_singleton.1 hu, e]; rfl
  but := fun k ho hW h => ⟨h.1, h.2.but k (fun b hb hlt => ho b hb.1 hlt) hW⟩
  okk := fun k h => ⟨h.1, h.2.okk (fun b hb hlt => ⟨k b hb.1 hlt, hb.2⟩)⟩
theorem rt_flat {W : World} {H : Hp} {ok : Nat → Prop} {lab : Nat → Nat} {ts : List RT} {css : List (List Value)} (h : Segs (fun _ x cs => (kT lab).rd W H ok x cs) ts css) : css = ts.map (fun x => [x.1]) := by
  apply List.ext_getElem (by rw [List.length_map]; exact h.1)
  intro j a1 a2
  have hl : j < ts.length := by rw [← h.1]; exact a1
  have := (h.2 j _ _ (List.getElem?_eq_getElem hl) (List.getElem?_eq_getElem a1)).1
  rw [List.getElem_map]; exact this
theorem flat_sing {α β : Type} (f : α → β) : ∀ l : List α, (l.map (fun x => [f x])).flatten = l.map f
  | [] => rfl
  | a :: l => by rw [List.map_cons, List.flatten_cons, flat_sing f l]; rfl
theorem swo_cf {α : Type} (f : α → List Int) : SWO (ltOf (fun x y : α => cfC (f x) (f y))) where
  irrefl x := by unfold ltOf; rw [decide_eq_false]; rw [cfC_lt]; exact lessC_irr _
  trans x y z h k := by
    unfold ltOf at *
    exact decide_eq_true (cfC_lt.2 (lessC_trans (cfC_lt.1 (of_decide_eq_true h)) (cfC_lt.1 (of_decide_eq_true k))))
  ntrans x y z h k := by
    unfold ltOf at *
    refine decide_eq_false (fun q => ?_)
    have h1 : ¬ lessC (f x) (f y) := fun e => of_decide_eq_false h (cfC_lt.2 e)
    have k1 : ¬ lessC (f y) (f z) := fun e => of_decide_eq_false k (cfC_lt.2 e)
    have q1 := cfC_lt.1 q
    by_cases e : f x = f y
    · rw [e] at q1; exact k1 q1
    · exact k1 (lessC_trans (lessC_tot h1 e) q1)
/-- slices.SortFunc, by the order of curves. -/
theorem sortF_ok {W : World} {H : Hp} {ok : Nat → Prop} {v : Value} {lab : Nat → Nat} {ts : List RT} (ho : OwnK (kT lab) 25 W H ok v ts) (hl : ts.length ≤ 1048576) :
    ACalls Tryz.prog W 50 #[v, .func (.func 51) #[] #[]] H (fun r H' => r = .tuple #[] ∧ But (fun b => some b = v.ownBlock) H H' ∧ ∃ ts' : List RT, ts'.Perm ts ∧ ts'.Pairwise (fun x y => ¬ lessC y.2.1 x.2.1) ∧ OwnK (kT lab) 25 W H' ok v ts') := by
  intro w hw
  obtain ⟨css, h1, h2⟩ := ho
  have hcs := rt_flat h1
  subst hcs
  have hfl := flat_sing (fun x : RT => x.1) ts
  obtain ⟨i1, i2, i3⟩ := h2
  rcases i3 with ⟨rfl, h0⟩ | ⟨g, c, rfl, hg, hA, hc, hm⟩
  · have hl0 : ts = [] := List.eq_nil_of_length_eq_zero h0
    subst hl0
    refine Calls.mono (AnyF.slices_SortFunc_none (ρ := sortFLR) { sortFL with } none 0 (.func (.func 51) #[] #[]) w) fun e w' he => ?_
    obtain ⟨rfl, rfl⟩ := he
    exact ⟨_, H, rfl, hw, rfl, But.refl _ _, [], List.Perm.refl _, List.Pairwise.nil, OwnK.nil _⟩
  · obtain ⟨j1, cur, j2, j3, j4⟩ := hw.own g _ hA.m
    let PR : RT → Prop := fun x => OwnK kI 2 W H (fun b => (ok b ∧ b ≠ g) ∧ lab b = x.2.2) x.1 x.2.1
    have hp : ∀ x ∈ ts, PR x := fun x hx => by
      obtain ⟨i, hi⟩ := List.getElem?_of_mem hx
      have hil := (List.getElem?_eq_some_iff.1 hi).1
      have := (h1.2 i x _ hi (List.getElem?_eq_getElem (by rw [List.length_map]; exact hil))).2
      exact this.okk (fun b hb _ => ⟨⟨hb.1.1, fun e => hb.1.2 (by rw [e]; rfl)⟩, hb.2⟩)
    let α := { x : RT // PR x }
    haveI : Inhabited α := ⟨⟨(.slice none 0 0, [], 0), OwnK.nil _⟩⟩
    let xs : List α := ts.pmap Subtype.mk hp
    have hxs : xs.map Subtype.val = ts := by simp only [xs, List.map_pmap]; simp
    have hxl : xs.length = ts.length := by simp [xs]
    let enc : α → Value := fun x => x.1.1
    have he1 : OneCell enc := fun x => by
      obtain ⟨A, c, e⟩ := x.2.isSl
      show (x.1.1).oneCell' = true
      rw [e]; rfl
    have hen : ts.map (fun x => x.1) = xs.map enc := by rw [← hxs, List.map_map]; rfl
    have ht : cur.toList.take xs.length = xs.map enc := by
      have e : (ts.map (fun x => [x.1])).flatten.length = ts.length := by rw [hfl]; simp
      simp only at j4
      rw [e, hfl, hen] at j4
      rw [hxl]; exact j4
    have hblk : g < w.heap.size := (Array.getElem?_eq_some_iff.1 j2).1
    have hrd : ∀ (x : α) {Hk : Hp}, But (fun b => b = g) H Hk → OwnK kI 2 W Hk (fun b => (ok b ∧ b ≠ g) ∧ lab b = x.1.2.2) x.1.1 x.1.2.1 := fun x Hk k => x.2.but k (fun b hb _ e => hb.1.2 e) (fun b e => by rw [e]; exact j1)
    have hcmp : CmpLays1 Tryz.prog 51 #[] enc (fun x y : α => cfC x.1.2.1 y.1.2.1) g 0 xs.toArray.size w := fun m os dk _ x y => by
      obtain ⟨Hk, s1, s2⟩ := hw.lose (grownBy_sw (n := m) (os := os) dk) j1 (by show w.drawn ≤ w.drawn + m; omega)
      exact near2_grow s1 (hrd x s2).rd (hrd y s2).rd
    have hsf := Any.slices_SortFunc sortFL enc he1 (fun x y : α => cfC x.1.2.1 y.1.2.1) (swo_cf (fun x : α => x.1.2.1)) 51 #[] g 0 c xs.toArray w (enters_of Tryz.func51 (by kernel_rfl) rfl) hcmp (holds_sw j2 ht) hblk (by simp only [List.size_toArray]; omega)
    rw [show xs.toArray.size = ts.length by simp [hxl]] at hsf
    refine Calls.mono hsf fun e w' he => ?_
    obtain ⟨rfl, d', n, os, ⟨q1, q2, q3⟩, q4, rfl⟩ := he
    have hdl : d'.toList.length = xs.length := by rw [Array.length_toList, q1]; simp
    have hperm : d'.toList.Perm xs := by
      have e1 : d'.extract 0 ts.length = d' := by rw [show ts.length = d'.size by rw [q1]; simp [hxl]]; simp
      have e2 : xs.toArray.extract 0 ts.length = xs.toArray := by rw [show ts.length = xs.toArray.size by simp [hxl]]; simp
      rw [e1, e2] at q3
      simpa using q3
    have hrow := ownsRow_sw (enc := enc) (n := n) (os := os) (ss := xs) (ts := d'.toList) hdl j1 j2 (by rw [hxl]; exact hc) hm j3
    rw [show d'.toList.toArray = d' by simp] at hrow
    obtain ⟨H', g1, g2, g3⟩ := hw.grown (grownBy_sw (n := n) (os := os) d') (fun k hk => by cases hk; exact j1) (fun u hu => by
      obtain ⟨x, _, rfl⟩ := List.mem_map.1 hu; exact he1 x) hrow (.inl rfl) (by show w.drawn ≤ w.drawn + n; omega)
    have hB : But (fun b => b = g) H H' := g2.mono (fun b e => by cases e; rfl)
    refine ⟨_, H', rfl, g1, rfl, g2.mono (fun b e => by rw [e]; rfl), d'.toList.map Subtype.val, by rw [← hxs]; exact hperm.map _, ?_, (d'.toList.map Subtype.val).map (fun x => [x.1]), ⟨by simp, fun i x cs hx hcs => ?_⟩, ?_⟩
    · rw [List.pairwise_map, List.pairwise_iff_getElem]
      intro i j hi hj hij
      have q := q4 i j (Nat.zero_le _) hij (by rw [hdl, hxl] at hj; exact hj)
      rw [Array.length_toList] at hi hj
      rw [getElem!_pos d' i hi, getElem!_pos d' j hj] at q
      intro e
      have := of_decide_eq_false q
      exact this (cfC_lt.2 (by simpa using e))
    · rw [List.getElem?_map, hx] at hcs
      cases hcs
      obtain ⟨y, hy, rfl⟩ := List.mem_map.1 (List.mem_of_getElem? hx)
      exact ⟨rfl, (hrd y hB).okk (fun b hb _ => ⟨⟨hb.1.1, fun e => hb.1.2 (by cases e; rfl)⟩, hb.2⟩)⟩
    · rw [flat_sing (fun x : RT => x.1), List.map_map, List.length_map, hdl]
      obtain ⟨k1, k2, k3⟩ := g3
      refine ⟨k1, k2, ?_⟩
      rcases k3 with ⟨q, _⟩ | ⟨g', c', q, _, k5, k6⟩
      · cases q
      · cases q
        exact .inr ⟨g, c, by rw [hxl], hg, k5, k6⟩
end Go.Proofs.YtbjcgcililpfdaaGreat.VC

