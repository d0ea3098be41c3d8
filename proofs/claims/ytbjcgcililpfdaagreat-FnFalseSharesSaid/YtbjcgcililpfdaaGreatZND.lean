/- Rows of rows that are thinned where they lie. -/
import Derived.Test.YtbjcgcililpfdaaGreatZNS
set_option linter.unusedVariables false
set_option linter.unusedSimpArgs false
namespace Go.Proofs.YtbjcgcililpfdaaGreat.VC
open Go Go.RowKit
section
variable {P : Program} {W : World} {N : Nat} {E : List (Nat × Value)} {H : Hp} {d : Nat} {ty : TypeId} {pos : String} {af : Array Edge} {gd : Option (Nat × Bool)} {t : TypeId} {x y : Operand} {α : Type} {K : Kd α} {ok : Nat → Prop} {v : Value} {l : List α} {e : TypeId}
/-- An element of a row of the call's own, and that its rows lie off the row's block. -/
theorem OwnK.ixS {e' : TypeId} {z : Value} {bytes : Nat} {k : IntKind} {q : Int} (h : OwnK K e W H ok v l) (ht : SlT P t e' z K.sz bytes) (h0 : 0 ≤ q) (h1 : q < l.length) :
    ∃ g x cs, l[q.toNat]? = some x ∧ K.rd W H (fun b => ok b ∧ some b ≠ v.ownBlock) x cs ∧ Cells W H ⟨g, q.toNat * K.sz, none⟩ cs ∧ some g = v.ownBlock ∧
      ∀ {H2 N E d x y ty pos af gd}, evl E x = some v → evl E y = some (.int k q) → HV P W N E H2 ⟨some d, .indexAddr t x y, ty, pos, af, gd⟩ (.pointer (some ⟨g, q.toNat * K.sz, none⟩)) := by
  obtain ⟨css, hs, hl, ho, hat⟩ := h
  have hpos : 0 < l.length := by omega
  have hq : q.toNat < l.length := by omega
  have hq' : q.toNat < css.length := by rw [hs.1]; exact hq
  have hf := (hs.flat (fun _ _ _ h => K.len h)).1
  rcases hat with ⟨rfl, h0⟩ | ⟨g, c, rfl, hg, hA, hc, hm⟩
  · omega
  · have hK := hs.2 _ _ _ (List.getElem?_eq_getElem hq) (List.getElem?_eq_getElem hq')
    refine ⟨g, _, _, List.getElem?_eq_getElem hq, hK, fun j u hu => ?_, rfl, fun hx hy => ?_⟩
    · rw [add_at]
      exact hA.rd (flat_get hf (List.getElem?_eq_getElem hq') hu)
    · have hh := fun {H2 N d ty pos af gd} => HV.ix (P := P) (W := W) (H := H2) (N := N) (d := d) (ty := ty) (pos := pos) (af := af) (gd := gd) (ad := ⟨g, 0, none⟩) ht h0 h1 hx hy
      simp only [add_at, Nat.zero_add] at hh
      exact hh
/-- The tail of a row is cleared: it is forgotten. -/
theorem WV.clrF {lab : Nat → Nat} {us : List RT} {z : Value} {bytes g n c k : Nat} {dst : Option Nat} (ht : SlT P t e z 1 bytes) (hz1 : z.cells = #[.slice none 0 0]) (hx : evl E x = some (.slice (some ⟨g, k, none⟩) (n - k) (c - k))) (ho : OwnK (kT lab) e W H ok (.slice (some ⟨g, 0, none⟩) n c) us) (hn : us.length = n) (hk : k < n) :
    WV P W N E H ⟨dst, .call { callee := .builtin .clear, args := #[x], argTypes := #[t] }, ty, pos, af, gd⟩ (fun _ H' => But (fun b => b = g) H H' ∧ OwnK (kT lab) e W H' ok (.slice (some ⟨g, 0, none⟩) k c) (us.take k)) := fun a w ha hw => by
  subst hn
  obtain ⟨css, h1, h2⟩ := ho
  have hcs := rt_flat h1
  subst hcs
  have hfl := flat_sing (fun x : RT => x.1) us
  rw [hfl] at h2
  obtain ⟨i1, i2, i3⟩ := h2
  rcases i3 with ⟨q, _⟩ | ⟨g', c', q, hg, hA, hc, hm⟩
  · cases q
  · cases q
    obtain ⟨j1, cur, j2, j3, j4⟩ := hw.own g _ hA.m
    obtain ⟨hu, ⟨inf, hi, hz, hs, hby⟩, hzc, hp⟩ := ht
    have hml : (us.map (fun x => x.1)).length = us.length := by rw [List.length_map]
    have hsz : cur.size = c := by have q : cur.size = c * 1 := j3; omega
    have hst := run_storeCells_at P g k e (List.replicate (us.length - k) (Value.slice none 0 0)) 0 cur w j2 (by rw [List.length_replicate]; omega) (fun v hv => by rw [List.eq_of_mem_replicate hv]; rfl)
    have hzr : (Builtin.zeroCells z.cells (us.length - k)).toList = List.replicate (us.length - k) (Value.slice none 0 0) := by
      rw [hz1]
      simp [Builtin.zeroCells]
      apply List.ext_getElem
      · simp
      · intro i h1 h2
        simp [Nat.mod_one]
    have hrun : (execOp a.eval ⟨dst, .call { callee := .builtin .clear, args := #[x], argTypes := #[t] }, ty, pos, af, gd⟩).run P w = .ok (.value (.tuple #[])) (w.setRow g (cur.toList.take (k + 0) ++ List.replicate (us.length - k) (Value.slice none 0 0) ++ cur.toList.drop (k + 0 + (List.replicate (us.length - k) (Value.slice none 0 0)).length)).toArray) := by
      obtain ⟨m, hm'⟩ : ∃ m, us.length - k = m + 1 := ⟨us.length - k - 1, by omega⟩
      rw [hm'] at hst hzr hx ⊢
      simp [execOp, resolve, invoke, builtin, ha.ev hx, Builtin.clear_, run_underlying hu, zeroValue, typeInfo, hi, hz, hzr, hst]
    rw [hrun]
    refine ⟨_, hw.set (w' := w.setRow g _) (y := ⟨e, (us.take k).map (fun x => x.1), c * 1⟩) hA.m ⟨hw.below.os, hw.below.tape, hw.below.output, by rw [size_setRow]; exact hw.below.size, fun k hk => by rw [setRow_other _ _ _ _ (by omega)]; exact hw.below.block k hk⟩ (size_setRow _ _ _) (fun k hk => setRow_other _ _ _ _ hk) (setRow_heap _ _ _ _ _ _ j2) ?_ ?_ hw.dr, H.put_but _ _, ?_⟩
    · simp only [List.size_toArray, List.length_append, List.length_take, List.length_drop, List.length_replicate, Array.length_toList]
      omega
    · have j5 : cur.toList.take us.length = us.map (fun x => x.1) := by
        have q : cur.toList.take (us.map (fun x => x.1)).length = us.map (fun x => x.1) := j4
        rwa [hml] at q
      have hkl : (cur.toList.take (k + 0)).length = k := by rw [List.length_take, Array.length_toList]; omega
      show (_ ++ _ ++ _ : List Value).take ((us.take k).map (fun x => x.1)).length = _
      rw [List.length_map, List.length_take, show min k us.length = k by omega, List.append_assoc, List.take_append_of_le_length (by omega), Nat.add_zero, List.take_take, show min k k = k by omega]
      rw [List.map_take, ← j5, List.take_take, show min k us.length = k by omega]
    · have hB := H.put_but g ⟨e, (us.take k).map (fun x => x.1), c * 1⟩
      refine ⟨(us.take k).map (fun x => [x.1]), ⟨by simp, fun i x cs hx' hcs => ?_⟩, ?_⟩
      · rw [List.getElem?_map, hx'] at hcs
        cases hcs
        have hx2 : us[i]? = some x := by
          rw [List.getElem?_take] at hx'
          split at hx'
          · exact hx'
          · cases hx'
        have hil := (List.getElem?_eq_some_iff.1 hx2).1
        have q := h1.2 i x _ hx2 (by rw [List.getElem?_map, hx2]; rfl)
        exact (kT lab).but hB (fun b hb _ e => hb.2 (by rw [e]; rfl)) (fun b e => by rw [e]; exact j1) q
      · rw [flat_sing (fun x : RT => x.1)]
        refine ⟨by simp [kT], fun u hu => i2 u (by rw [List.map_take] at hu; exact List.mem_of_mem_take hu), .inr ⟨g, c, by rw [List.length_take, show min k us.length = k by omega], hg, ⟨H.put_self _ _, hA.w⟩, by rw [List.length_take]; omega, hm⟩⟩
theorem rt_of {lab : Nat → Nat} {css : List (List Value)} {l : List (List Int)} (h : Segs (fun i x cs => (kO 2 kI).rd W H (fun b => ok b ∧ some b ≠ v.ownBlock ∧ lab b = i) x cs) l css) :
    ∃ ts : List RT, ts.map (fun x => x.2.1) = l ∧ ts.map (fun x => x.2.2) = List.range l.length ∧ Segs (fun _ x cs => (kT lab).rd W H (fun b => ok b ∧ some b ≠ v.ownBlock) x cs) ts css := by
  refine ⟨(List.range l.length).map (fun i => ((css.getD i []).headD (.slice none 0 0), l.getD i [], i)), ?_, by rw [List.map_map]; exact List.map_id _, by rw [List.length_map, List.length_range]; exact h.1, fun i x cs hx hcs => ?_⟩
  · rw [List.map_map]
    apply List.ext_getElem (by simp)
    intro j a1 a2
    simp [a2]
  · rw [List.getElem?_map] at hx
    have hil : i < l.length := by rw [← h.1]; exact (List.getElem?_eq_some_iff.1 hcs).1
    rw [List.getElem?_range hil] at hx
    cases hx
    obtain ⟨u, rfl, ho⟩ := h.2 i _ cs (List.getElem?_eq_getElem hil) hcs
    refine ⟨by simp [hcs], ?_⟩
    have e1 : l.getD i [] = l[i] := by simp [hil]
    have e2 : (css.getD i []).headD (.slice none 0 0) = u := by simp [hcs]
    show OwnK kI 2 W H (fun b => (ok b ∧ some b ≠ v.ownBlock) ∧ lab b = i) ((css.getD i []).headD (.slice none 0 0)) (l.getD i [])
    rw [e1, e2]
    exact ho.okk (fun b hb _ => ⟨⟨hb.1, hb.2.1⟩, hb.2.2⟩)
/-- A row that owns its rows, told with labels. -/
theorem OwnD.toT {l : List (List Int)} (h : OwnD (kO 2 kI) e W H ok v l) : ∃ (lab : Nat → Nat) (ts : List RT), OwnK (kT lab) e W H ok v ts ∧ ts.map (fun x => x.2.1) = l ∧ (ts.map (fun x => x.2.2)).Nodup := by
  obtain ⟨lab, css, h1, h2⟩ := h
  obtain ⟨ts, t1, t2, t3⟩ := rt_of h1
  have hl : ts.length = l.length := by rw [← t1, List.length_map]
  exact ⟨lab, ts, ⟨css, t3, by rw [hl]; exact h2⟩, t1, by rw [t2]; exact List.nodup_range⟩
theorem OwnK.toD {lab : Nat → Nat} {ts : List RT} (h : OwnK (kT lab) e W H ok v ts) (hn : (ts.map (fun x => x.2.2)).Nodup) : OwnD (kO 2 kI) e W H ok v (ts.map (fun x => x.2.1)) := by
  obtain ⟨css, h1, h2⟩ := h
  refine ⟨fun b => (ts.map (fun x => x.2.2)).idxOf (lab b), css, ⟨by rw [List.length_map]; exact h1.1, fun i x cs hx hcs => ?_⟩, by rw [List.length_map]; exact h2⟩
  rw [List.getElem?_map] at hx
  cases hy : ts[i]? with
  | none => rw [hy] at hx; cases hx
  | some y =>
    rw [hy] at hx
    cases hx
    obtain ⟨e1, ho⟩ := h1.2 i y cs hy hcs
    obtain ⟨hi, ey⟩ := List.getElem?_eq_some_iff.1 hy
    refine ⟨y.1, e1, ho.okk (fun b hb _ => ⟨hb.1.1, hb.1.2, ?_⟩)⟩
    show (ts.map (fun x => x.2.2)).idxOf (lab b) = i
    have q := List.Nodup.idxOf_getElem hn i (by rw [List.length_map]; exact hi)
    rw [List.getElem_map, ey] at q
    rw [hb.2]; exact q
end
end Go.Proofs.YtbjcgcililpfdaaGreat.VC

