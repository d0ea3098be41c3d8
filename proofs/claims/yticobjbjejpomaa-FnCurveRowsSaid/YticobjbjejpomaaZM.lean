/- Rows of rows that are written: two rows change places, a row is written beside another. -/
import Derived.Test.YticobjbjejpomaaZS3
set_option linter.unusedVariables false
set_option linter.unusedSimpArgs false
namespace Go.Proofs.Yticobjbjejpomaa.VC
open Go Go.RowKit
variable {P : Program} {W : World} {N : Nat} {E : List (Nat × Value)} {H H' : Hp}
theorem post_ct {fn : Func} {R : Value → Hp → Prop} {t ty u : Nat} {cs : List Value} {b T n : Nat} {z : Value} (hr : fn.results = #[.cell t ty, .tmp u]) (hp : geti E t = some (.pointer (some ⟨b, 0, none⟩))) (hz : geti E u = some z) (ht : VarT P ty true cs.length) (hb : At W H b ⟨T, cs, n⟩) (h : R (.tuple #[.agg cs.toArray, z]) H) {e : Exit} (he : e = .normal ∨ e = .ret) : post W P fn R e E H :=
  ⟨he, _, fun a w ha hw => by
    have hp' : a.tmps.getD t undef = .pointer (some ⟨b, 0, none⟩) := ha.ev (x := .tmp t) hp
    have hz' : a.tmps.getD u undef = z := ha.ev (x := .tmp u) hz
    have hq := run_loadVar_agg (P := P) (w := w) (p := ⟨b, 0, none⟩) ht (fun j u hu => hw.cell (by have := hb.rd hu; rw [add_at, Nat.zero_add]; exact this))
    have hp'' : a.tmps[t]?.getD undef = .pointer (some ⟨b, 0, none⟩) := by simpa using hp'
    have hz'' : a.tmps[u]?.getD undef = z := by simpa using hz'
    simp [results, hr, hp'', hz'', asAddr, hq], h⟩
section
variable {e g : Nat} {ok : Nat → Prop} {v : Value} {l : List (List Int)}
/-- The values of a row of rows, and where each row lies. -/
theorem OwnD.raw (h : OwnD (kO 2 kI) e W H ok v l) : ∃ (lab : Nat → Nat) (vs : List Value), vs.length = l.length ∧ OwnK kV e W H ok v vs ∧ ∀ (j : Nat) (u : Value) (x : List Int), vs[j]? = some u → l[j]? = some x → OwnK kI 2 W H (fun b => ok b ∧ some b ≠ v.ownBlock ∧ lab b = j) u x := by
  obtain ⟨lab, css, hs, ho⟩ := h
  have hf := hs.flat (fun _ _ _ h => (kO 2 kI).len h)
  have hf1 : ∀ cs ∈ css, cs.length = 1 := hf.1
  have hfl : css.flatten.length = l.length := hf.2.trans (Nat.mul_one _)
  have hat : ∀ (j : Nat) (u : Value) (x : List Int), css.flatten[j]? = some u → l[j]? = some x → css[j]? = some [u] ∧ OwnK kI 2 W H (fun b => ok b ∧ some b ≠ v.ownBlock ∧ lab b = j) u x := fun j u x hu hx => by
    have hj := (List.getElem?_eq_some_iff.1 hx).1
    have hc : j < css.length := by rw [hs.1]; exact hj
    obtain ⟨u', hcs, hO⟩ := hs.2 j x _ hx (List.getElem?_eq_getElem hc)
    have := flat_get (n := 1) hf1 (List.getElem?_eq_getElem hc) (j := 0) (u := u') (by rw [hcs]; rfl)
    rw [Nat.mul_one, Nat.add_zero, hu] at this
    cases this
    exact ⟨by rw [List.getElem?_eq_getElem hc, hcs], hO⟩
  refine ⟨lab, css.flatten, hfl, ⟨css, ⟨by rw [hs.1, hfl], fun j u cs q1 q2 => ?_⟩, by rw [hfl]; exact ho⟩, fun j u x hu hx => (hat j u x hu hx).2⟩
  have hj : j < l.length := by rw [← hfl]; exact (List.getElem?_eq_some_iff.1 q1).1
  obtain ⟨h1, h2⟩ := hat j u _ q1 (List.getElem?_eq_getElem hj)
  rw [q2] at h1
  cases h1
  exact ⟨rfl, _, h2.isSl⟩
theorem own_get {vs : List Value} (h : OwnK kV e W H ok v vs) (hg : some g = v.ownBlock) {i : Nat} {u : Value} (hC : rdc W H ⟨g, i * (kO 2 kI).sz, none⟩ = some u) (hi : i < vs.length) : vs[i]? = some u := by
  obtain ⟨css, hs, hl, ho, hat⟩ := h
  have hf := (hs.flat (fun _ _ _ h => kV.len h)).1
  have hi' : i < css.length := by rw [hs.1]; exact hi
  rcases hat with ⟨rfl, h0⟩ | ⟨g', c, rfl, hg', hA, hc, hm⟩
  · omega
  · simp only [Value.ownBlock, Option.some.injEq] at hg
    subst hg
    have hK := (hs.2 i _ _ (List.getElem?_eq_getElem hi) (List.getElem?_eq_getElem hi')).1
    have e1 : css.flatten[i * kV.sz + 0]? = some vs[i] := flat_get hf (List.getElem?_eq_getElem hi') (by rw [hK]; rfl)
    have e2 := hA.rd e1
    rw [Nat.add_zero] at e2
    have e3 := hC.symm.trans e2
    rw [List.getElem?_eq_getElem hi]
    exact e3.symm
theorem own_put {vs : List Value} (h : OwnK kV e W H ok v vs) (hg : some g = v.ownBlock) {i : Nat} {u : Value} (hu : vs[i]? = some u) : rdc W H ⟨g, i * (kO 2 kI).sz, none⟩ = some u := by
  obtain ⟨css, hs, hl, ho, hat⟩ := h
  have hf := (hs.flat (fun _ _ _ h => kV.len h)).1
  have hi := (List.getElem?_eq_some_iff.1 hu).1
  have hi' : i < css.length := by rw [hs.1]; exact hi
  rcases hat with ⟨rfl, h0⟩ | ⟨g', c, rfl, hg', hA, hc, hm⟩
  · omega
  · simp only [Value.ownBlock, Option.some.injEq] at hg
    subst hg
    have hK := (hs.2 i _ _ hu (List.getElem?_eq_getElem hi')).1
    have e1 : css.flatten[i * kV.sz + 0]? = some u := flat_get hf (List.getElem?_eq_getElem hi') (by rw [hK]; rfl)
    have e2 := hA.rd e1
    rw [Nat.add_zero] at e2
    exact e2
/-- An element's row. -/
theorem OwnD.el (h : OwnD (kO 2 kI) e W H ok v l) (hg : some g = v.ownBlock) {i : Nat} {u : Value} (hC : rdc W H ⟨g, i * (kO 2 kI).sz, none⟩ = some u) (hi : i < l.length) : OwnK kI 2 W H ok u (l.getD i []) := by
  obtain ⟨lab, vs, hl, hv, hr⟩ := h.raw
  have hu := own_get hv hg hC (by omega)
  have hx : l[i]? = some (l.getD i []) := by rw [List.getD_eq_getElem?_getD, List.getElem?_eq_getElem hi]; rfl
  exact (hr i u _ hu hx).okk (fun b hb _ => hb.1)
/-- Another element's row lies beside it. -/
theorem OwnD.off (h : OwnD (kO 2 kI) e W H ok v l) {g2 : Nat} (hg : some g = v.ownBlock) (hg2 : some g2 = v.ownBlock) {i j : Nat} {ui uj : Value} (hCi : rdc W H ⟨g, i * (kO 2 kI).sz, none⟩ = some ui) (hCj : rdc W H ⟨g2, j * (kO 2 kI).sz, none⟩ = some uj) (hi : i < l.length) (hj : j < l.length) (hne : i ≠ j) :
    OwnK kI 2 W H (fun b => ok b ∧ ¬ some b = ui.ownBlock) uj (l.getD j []) := by
  obtain rfl : g2 = g := Option.some.inj (hg2.trans hg.symm)
  obtain ⟨lab, vs, hl, hv, hr⟩ := h.raw
  have hu := own_get hv hg hCi (by omega)
  have hu2 := own_get hv hg hCj (by omega)
  have hx : ∀ {i : Nat}, i < l.length → l[i]? = some (l.getD i []) := fun hi => by rw [List.getD_eq_getElem?_getD, List.getElem?_eq_getElem hi]; rfl
  have h1 := hr i ui _ hu (hx hi)
  exact (hr j uj _ hu2 (hx hj)).okk (fun b hb _ => ⟨hb.1, fun q => hne ((h1.blk b q).1.2.2.symm.trans hb.2.2)⟩)
/-- An element's row is written: the row of rows goes on, its cells are as they were. -/
theorem OwnD.wr {okx : Nat → Prop} {i : Nat} {u : Value} {x' : List Int} (h : OwnD (kO 2 kI) e W H ok v l) (hg : some g = v.ownBlock) (hC : rdc W H ⟨g, i * (kO 2 kI).sz, none⟩ = some u) (hi : i < l.length)
    (k : But (fun b => some b = u.ownBlock) H H') (hu : OwnK kI 2 W H' okx u x') : OwnD (kO 2 kI) e W H' ok v (l.set i x') ∧ ∀ g2 q z, some g2 = v.ownBlock → rdc W H ⟨g2, q, none⟩ = some z → rdc W H' ⟨g2, q, none⟩ = some z := by
  refine ⟨(OwnD.mark kI_flat h hg hC hi k hu).1, fun g2 q z h2 hz => ?_⟩
  obtain ⟨lab, vs, hl, hv, hr⟩ := h.raw
  have hui := own_get hv hg hC (by omega)
  have hx : l[i]? = some l[i] := List.getElem?_eq_getElem hi
  exact rdc_but k hz (fun q2 => ((hr i u _ hui hx).blk g2 q2).1.2.1 h2)
/-- Between the two stores. -/
def Swp (W : World) (H : Hp) (e : Nat) (ok : Nat → Prop) (v : Value) (l : List (List Int)) (i j : Nat) (ui uj : Value) : Prop :=
  ∃ (lab : Nat → Nat) (vs : List Value), vs.length = l.length ∧ OwnK kV e W H ok v (vs.set i uj) ∧ vs[i]? = some ui ∧ vs[j]? = some uj ∧ ∀ (q : Nat) (u : Value) (x : List Int), vs[q]? = some u → l[q]? = some x → OwnK kI 2 W H (fun b => ok b ∧ some b ≠ v.ownBlock ∧ lab b = q) u x
variable {d : Nat} {ty : TypeId} {pos : String} {af : Array Edge} {gd : Option (Nat × Bool)} {t : TypeId} {x y : Operand} {i j : Nat} {ui uj : Value}
theorem WV.sw1 {dst : Option Nat} {gi gj : Nat} (h : OwnD (kO 2 kI) e W H ok v l) (hg : some g = v.ownBlock) (hgi : some gi = v.ownBlock) (hgj : some gj = v.ownBlock) (hi : i < l.length) (hj : j < l.length) (hCi : rdc W H ⟨gi, i * (kO 2 kI).sz, none⟩ = some ui) (hCj : rdc W H ⟨gj, j * (kO 2 kI).sz, none⟩ = some uj)
    (hx : evl E x = some (.pointer (some ⟨g, i * (kO 2 kI).sz, none⟩))) (hy : evl E y = some uj) (ht : VarT P t false 1) :
    WV P W N E H ⟨dst, .store t x y, ty, pos, af, gd⟩ (fun _ H' => But (fun b => some b = v.ownBlock) H H' ∧ Swp W H' e ok v l i j ui uj) := by
  obtain rfl : gi = g := Option.some.inj (hgi.trans hg.symm)
  obtain rfl : gj = gi := Option.some.inj (hgj.trans hgi.symm)
  obtain ⟨lab, vs, hl, hv, hr⟩ := h.raw
  have hui := own_get hv hg hCi (by omega)
  have huj := own_get hv hg hCj (by omega)
  have hxx : ∀ {i : Nat}, i < l.length → l[i]? = some (l.getD i []) := fun hi => by rw [List.getD_eq_getElem?_getD, List.getElem?_eq_getElem hi]; rfl
  have isl := (hr j uj _ huj (hxx hj)).isSl
  have hW : ∀ b, some b = v.ownBlock → W.heap.size ≤ b := fun b q => (hv.blk b q).2.2
  refine (WV.stK (K := kV) (okx := fun _ => False) (x' := uj) hv hg hx hy ht (by omega) ⟨sl_cells isl, _, isl⟩ (fun _ h => h.elim)).mono fun _ H' ⟨h1, h2⟩ => ⟨h1, lab, vs, hl, h2.okk (fun b hb _ => hb.elim id False.elim), hui, huj, fun q u x hu hx => ?_⟩
  exact (hr q u x hu hx).but h1 (fun b hb _ e => hb.2.1 e) hW
theorem WV.sw2 {dst : Option Nat} (h : Swp W H e ok v l i j ui uj) (hg : some g = v.ownBlock) (hi : i < l.length) (hj : j < l.length)
    (hx : evl E x = some (.pointer (some ⟨g, j * (kO 2 kI).sz, none⟩))) (hy : evl E y = some ui) (ht : VarT P t false 1) :
    WV P W N E H ⟨dst, .store t x y, ty, pos, af, gd⟩ (fun _ H' => But (fun b => some b = v.ownBlock) H H' ∧ OwnD (kO 2 kI) e W H' ok v ((l.set i (l.getD j [])).set j (l.getD i [])) ∧ rdc W H' ⟨g, i * (kO 2 kI).sz, none⟩ = some uj ∧ rdc W H' ⟨g, j * (kO 2 kI).sz, none⟩ = some ui) := by
  obtain ⟨lab, vs, hl, hv, hui, huj, hr⟩ := h
  have hxx : ∀ {i : Nat}, i < l.length → l[i]? = some (l.getD i []) := fun hi => by rw [List.getD_eq_getElem?_getD, List.getElem?_eq_getElem hi]; rfl
  have isl := (hr i ui _ hui (hxx hi)).isSl
  have hW : ∀ b, some b = v.ownBlock → W.heap.size ≤ b := fun b q => (hv.blk b q).2.2
  refine (WV.stK (K := kV) (okx := fun _ => False) (x' := ui) hv hg hx hy ht (by rw [List.length_set]; omega) ⟨sl_cells isl, _, isl⟩ (fun _ h => h.elim)).mono fun _ H' ⟨h1, h2⟩ => ?_
  have h3 := h2.okk (ok' := ok) (fun b hb _ => hb.elim id False.elim)
  have gi : ((vs.set i uj).set j ui)[i]? = some uj := by
    rw [List.getElem?_set]
    by_cases e1 : j = i
    · subst e1
      rw [if_pos rfl, if_pos (by rw [List.length_set]; omega)]
      rw [huj] at hui; exact hui.symm
    · rw [if_neg e1, List.getElem?_set_self (by omega)]
  have gj : ((vs.set i uj).set j ui)[j]? = some ui := by rw [List.getElem?_set_self (by rw [List.length_set]; omega)]
  refine ⟨h1, own_raw (lab := fun b => if lab b = i then j else if lab b = j then i else lab b) h3 (by simp [hl]) (fun q u x hu hx => ?_), own_put h3 hg gi, own_put h3 hg gj⟩
  have up : ∀ {q : Nat} {u : Value} {x : List Int}, vs[q]? = some u → l[q]? = some x → OwnK kI 2 W H' (fun b => ok b ∧ some b ≠ v.ownBlock ∧ lab b = q) u x := fun hu hx => (hr _ _ _ hu hx).but h1 (fun b hb _ e => hb.2.1 e) hW
  rw [List.getElem?_set] at hu hx
  by_cases ej : j = q
  · subst ej
    rw [if_pos rfl, if_pos (by rw [List.length_set]; omega)] at hu hx
    cases hu; cases hx
    exact (up hui (hxx hi)).okk (fun b hb _ => ⟨hb.1, hb.2.1, if_pos hb.2.2⟩)
  · rw [if_neg ej] at hu hx
    rw [List.getElem?_set] at hu hx
    by_cases ei : i = q
    · subst ei
      rw [if_pos rfl, if_pos (by omega)] at hu hx
      cases hu; cases hx
      exact (up huj (hxx hj)).okk (fun b hb _ => ⟨hb.1, hb.2.1, by show (if lab b = i then j else if lab b = j then i else lab b) = i; rw [hb.2.2, if_neg ej, if_pos rfl]⟩)
    · rw [if_neg ei] at hu hx
      exact (up hu hx).okk (fun b hb _ => ⟨hb.1, hb.2.1, by show (if lab b = i then j else if lab b = j then i else lab b) = q; rw [hb.2.2, if_neg (fun e => ei e.symm), if_neg (fun e => ej e.symm)]⟩)
end
end Go.Proofs.Yticobjbjejpomaa.VC

