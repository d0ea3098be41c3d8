/- Rows of structs taken apart: the values, and the rows that they hold. -/
import Derived.Test.YteajnanbfkcdcaaDoorVL
set_option linter.unusedVariables false
set_option linter.unusedSimpArgs false
namespace Go.Proofs.YteajnanbfkcdcaaDoor.VC
open Go Go.RowKit
variable {W : World} {H : Hp}
theorem pick2 {A B : Type} {n : Nat} {R : Nat → A → B → Prop} (h : ∀ j, j < n → ∃ a b, R j a b) : ∃ (f : Nat → Option (A × B)), ∀ j, j < n → ∃ a b, f j = some (a, b) ∧ R j a b := by
  have h2 : ∀ j, ∃ o : Option (A × B), j < n → ∃ a b, o = some (a, b) ∧ R j a b := fun j => by
    by_cases hj : j < n
    · obtain ⟨a, b, hr⟩ := h j hj; exact ⟨some (a, b), fun _ => ⟨a, b, rfl, hr⟩⟩
    · exact ⟨none, fun q => absurd q hj⟩
  exact ⟨fun j => Classical.choose (h2 j), fun j hj => Classical.choose_spec (h2 j) hj⟩
/-- A row of pairs of rows: its values, and where each row lies. -/
theorem OwnD.rawX {e : Nat} {ok : Nat → Prop} {v : Value} {l : List (List Int × List Int)} (h : OwnD (kX (kO 2 kI) (kO 2 kI)) e W H ok v l) :
    ∃ (lab : Nat → Nat) (pr : List (Value × Value)), pr.length = l.length ∧ RdK (kP kV kV) W H ok v pr ∧ ∀ (j : Nat) (x : List Int × List Int) (p : Value × Value), l[j]? = some x → pr[j]? = some p →
      OwnK kI 2 W H (fun b => ok b ∧ lab b = 2 * j) p.1 x.1 ∧ OwnK kI 2 W H (fun b => ok b ∧ lab b = 2 * j + 1) p.2 x.2 := by
  obtain ⟨lab, css, hs, ho⟩ := h
  have hj : ∀ j, j < l.length → ∃ (sd : Nat → Bool) (p : Value × Value), ∀ x cs, l[j]? = some x → css[j]? = some cs → cs = [p.1, p.2] ∧ OwnK kI 2 W H (fun b => (ok b ∧ some b ≠ v.ownBlock ∧ lab b = j) ∧ sd b = true) p.1 x.1 ∧ OwnK kI 2 W H (fun b => (ok b ∧ some b ≠ v.ownBlock ∧ lab b = j) ∧ sd b = false) p.2 x.2 := fun j hj => by
    obtain ⟨sd, c1, c2, e1, ⟨v1, rfl, h1⟩, ⟨v2, rfl, h2⟩⟩ := hs.2 j _ _ (List.getElem?_eq_getElem hj) (List.getElem?_eq_getElem (by rw [hs.1]; exact hj))
    exact ⟨sd, (v1, v2), fun x cs q1 q2 => by
      rw [List.getElem?_eq_getElem hj] at q1
      rw [List.getElem?_eq_getElem (by rw [hs.1]; exact hj)] at q2
      cases q1; cases q2
      exact ⟨e1, h1, h2⟩⟩
  obtain ⟨f, hf⟩ := pick2 hj
  let sdf : Nat → Nat → Bool := fun j b => match f j with | some (sd, _) => sd b | none => true
  let pf : Nat → Value × Value := fun j => match f j with | some (_, p) => p | none => (.nilFunc, .nilFunc)
  have hp : ∀ j x cs, l[j]? = some x → css[j]? = some cs → cs = [(pf j).1, (pf j).2] ∧ OwnK kI 2 W H (fun b => (ok b ∧ some b ≠ v.ownBlock ∧ lab b = j) ∧ sdf j b = true) (pf j).1 x.1 ∧ OwnK kI 2 W H (fun b => (ok b ∧ some b ≠ v.ownBlock ∧ lab b = j) ∧ sdf j b = false) (pf j).2 x.2 := fun j x cs q1 q2 => by
    obtain ⟨sd, p, ef, hr⟩ := hf j (List.getElem?_eq_some_iff.1 q1).1
    have e1 : sdf j = sd := by show (fun b => match f j with | some (sd, _) => sd b | none => true) = sd; rw [ef]
    have e2 : pf j = p := by show (match f j with | some (_, p) => p | none => _) = p; rw [ef]
    rw [e1, e2]
    exact hr x cs q1 q2
  refine ⟨fun b => 2 * lab b + (if sdf (lab b) b = true then 0 else 1), (List.range l.length).map pf, by simp, ⟨css, ⟨by simp [hs.1], fun i p cs q1 q2 => ?_⟩, ?_⟩, fun j x p q1 q2 => ?_⟩
  · rw [List.getElem?_map, Option.map_eq_some_iff] at q1
    obtain ⟨i', hi', rfl⟩ := q1
    obtain ⟨hlt, rfl⟩ := List.getElem?_eq_some_iff.1 hi'
    rw [List.getElem_range]
    rw [List.length_range] at hlt
    obtain ⟨ec, h1, h2⟩ := hp i _ cs (List.getElem?_eq_getElem hlt) q2
    exact ⟨[_], [_], ec, ⟨rfl, _, h1.isSl⟩, rfl, _, h2.isSl⟩
  · rw [List.length_map, List.length_range]
    exact ho.rd
  · have hlt := (List.getElem?_eq_some_iff.1 q1).1
    have ep : p = pf j := by
      rw [List.getElem?_map, List.getElem?_range hlt] at q2
      exact (Option.some.inj q2).symm
    subst ep
    obtain ⟨ec, h1, h2⟩ := hp j x _ q1 (List.getElem?_eq_getElem (by rw [hs.1]; exact hlt))
    exact ⟨h1.okk (fun b hb _ => ⟨hb.1.1, by show 2 * lab b + (if sdf (lab b) b = true then 0 else 1) = _; rw [hb.1.2.2, if_pos hb.2]; omega⟩), h2.okk (fun b hb _ => ⟨hb.1.1, by show 2 * lab b + (if sdf (lab b) b = true then 0 else 1) = _; rw [hb.1.2.2, if_neg (by rw [hb.2]; decide)]⟩)⟩
theorem raw_css {ok : Nat → Prop} {e : Nat} {v : Value} {vs : List Value} (h : OwnK kV e W H ok v vs) : OwnV W H ok e 1 v vs.length (vs.map (fun u => [u])).flatten := by
  obtain ⟨css, h1, h2⟩ := h
  have : css = vs.map (fun u => [u]) := by
    apply List.ext_getElem?
    intro j
    rw [List.getElem?_map]
    by_cases hj : j < vs.length
    · have hc : j < css.length := by rw [h1.1]; exact hj
      rw [List.getElem?_eq_getElem hj, List.getElem?_eq_getElem hc]
      exact congrArg some (h1.2 j _ _ (List.getElem?_eq_getElem hj) (List.getElem?_eq_getElem hc)).1
    · rw [List.getElem?_eq_none (by rw [h1.1]; omega), List.getElem?_eq_none (by omega)]; rfl
  subst this
  exact h2
/-- A row of rows, put together. -/
theorem own_raw {e : Nat} {ok : Nat → Prop} {lab : Nat → Nat} {v : Value} {vs : List Value} {l : List (List Int)} (h : OwnK kV e W H ok v vs) (hl : vs.length = l.length) (hr : ∀ (j : Nat) (u : Value) (x : List Int), vs[j]? = some u → l[j]? = some x → OwnK kI 2 W H (fun b => ok b ∧ some b ≠ v.ownBlock ∧ lab b = j) u x) : OwnD (kO 2 kI) e W H ok v l := by
  refine ⟨lab, vs.map (fun u => [u]), ⟨by rw [List.length_map, hl], fun i x cs q1 q2 => ?_⟩, by rw [← hl]; exact raw_css h⟩
  rw [List.getElem?_map, Option.map_eq_some_iff] at q2
  obtain ⟨u, hu, rfl⟩ := q2
  exact ⟨u, rfl, hr i u x hu q1⟩
/-- A row of structs of a number and a row. -/
theorem OwnD.rawP {e : Nat} {ok : Nat → Prop} {v : Value} {l : List (Int × List Int)} (h : OwnD (kP kI (kO 2 kI)) e W H ok v l) :
    ∃ (lab : Nat → Nat) (rl : List (Int × Value)), rl.length = l.length ∧ OwnK (kP kI kV) e W H (fun b => ok b ∧ some b = v.ownBlock) v rl ∧ ∀ (j : Nat) (x : Int × List Int) (p : Int × Value), l[j]? = some x → rl[j]? = some p → OwnK kI 2 W H (fun b => (ok b ∧ some b ≠ v.ownBlock) ∧ lab b = j) p.2 x.2 := by
  obtain ⟨lab, css, hs, ho⟩ := h
  have hj : ∀ j, j < l.length → ∃ (a : Unit) (p : Int × Value), ∀ x cs, l[j]? = some x → css[j]? = some cs → cs = [.int .i64 p.1, p.2] ∧ OwnK kI 2 W H (fun b => (ok b ∧ some b ≠ v.ownBlock) ∧ lab b = j) p.2 x.2 := fun j hj => by
    obtain ⟨c1, c2, e1, h1, ⟨v2, rfl, h2⟩⟩ := hs.2 j _ _ (List.getElem?_eq_getElem hj) (List.getElem?_eq_getElem (by rw [hs.1]; exact hj))
    exact ⟨(), (l[j].1, v2), fun x cs q1 q2 => by
      rw [List.getElem?_eq_getElem hj] at q1
      rw [List.getElem?_eq_getElem (by rw [hs.1]; exact hj)] at q2
      cases q1; cases q2
      have h1' : c1 = [.int .i64 l[j].1] := h1
      subst h1'
      exact ⟨e1, h2.okk (fun b hb _ => ⟨⟨hb.1, hb.2.1⟩, hb.2.2⟩)⟩⟩
  obtain ⟨f, hf⟩ := pick2 hj
  let pf : Nat → Int × Value := fun j => match f j with | some (_, p) => p | none => (0, .nilFunc)
  have hp : ∀ j x cs, l[j]? = some x → css[j]? = some cs → cs = [.int .i64 (pf j).1, (pf j).2] ∧ OwnK kI 2 W H (fun b => (ok b ∧ some b ≠ v.ownBlock) ∧ lab b = j) (pf j).2 x.2 := fun j x cs q1 q2 => by
    obtain ⟨a, p, ef, hr⟩ := hf j (List.getElem?_eq_some_iff.1 q1).1
    have e2 : pf j = p := by show (match f j with | some (_, p) => p | none => _) = p; rw [ef]
    rw [e2]
    exact hr x cs q1 q2
  refine ⟨lab, (List.range l.length).map pf, by simp, ⟨css, ⟨by simp [hs.1], fun i p cs q1 q2 => ?_⟩, ?_⟩, fun j x p q1 q2 => ?_⟩
  · rw [List.getElem?_map, Option.map_eq_some_iff] at q1
    obtain ⟨i', hi', rfl⟩ := q1
    obtain ⟨hlt, rfl⟩ := List.getElem?_eq_some_iff.1 hi'
    rw [List.getElem_range]
    rw [List.length_range] at hlt
    obtain ⟨ec, h2⟩ := hp i _ cs (List.getElem?_eq_getElem hlt) q2
    exact ⟨[_], [_], ec, rfl, rfl, _, h2.isSl⟩
  · rw [List.length_map, List.length_range]
    obtain ⟨h1, h2, h3⟩ := ho
    refine ⟨h1, h2, ?_⟩
    rcases h3 with h3 | ⟨g, c, h3, h4, h5⟩
    · exact .inl h3
    · exact .inr ⟨g, c, h3, ⟨h4, by rw [h3]; rfl⟩, h5⟩
  · have hlt := (List.getElem?_eq_some_iff.1 q1).1
    have ep : p = pf j := by
      rw [List.getElem?_map, List.getElem?_range hlt] at q2
      exact (Option.some.inj q2).symm
    subst ep
    exact (hp j x _ q1 (List.getElem?_eq_getElem (by rw [hs.1]; exact hlt))).2
/-- Rows that the values hold, each by itself. -/
def RawIn (W : World) (H : Hp) (ok : Nat → Prop) (lab : Nat → Nat) (rl : List (Int × Value)) : Prop := ∀ (j : Nat) (p : Int × Value), rl[j]? = some p → ∃ x : List Int, x.length ≤ 1048576 ∧ OwnK kI 2 W H (fun b => ok b ∧ lab b = j) p.2 x
section
variable {H' : Hp} {ok out : Nat → Prop} {lab : Nat → Nat} {rl : List (Int × Value)}
theorem RawIn.but (h : RawIn W H ok lab rl) (k : But out H H') (ho : ∀ b, ok b → ¬ out b) (hW : ∀ b, out b → W.heap.size ≤ b) : RawIn W H' ok lab rl := fun j p hp => by
  obtain ⟨x, h1, h2⟩ := h j p hp
  exact ⟨x, h1, h2.but k (fun b hb _ q => ho b hb.1 q) hW⟩
theorem RawIn.set {i : Nat} {p : Int × Value} {a : Int} (h : RawIn W H ok lab rl) (hp : rl[i]? = some p) : RawIn W H ok lab (rl.set i (a, p.2)) := fun j q hq => by
  rw [List.getElem?_set] at hq
  split at hq
  · rename_i e1
    subst e1
    split at hq
    · cases hq; exact h i p hp
    · cases hq
  · exact h j q hq
theorem RawIn.mark {i : Nat} {p : Int × Value} {x y : List Int} {okx : Nat → Prop} (h : RawIn W H ok lab rl) (hp : rl[i]? = some p) (ho : OwnK kI 2 W H (fun b => ok b ∧ lab b = i) p.2 x) (k : But (fun b => some b = p.2.ownBlock) H H') (hn : OwnK kI 2 W H' okx p.2 y) (hl : y.length ≤ 1048576) : RawIn W H' ok lab rl := fun j q hq => by
  by_cases e : j = i
  · subst e
    rw [hp] at hq; cases hq
    exact ⟨y, hl, hn.narrow kI_flat (fun b hb => (ho.blk b hb).1)⟩
  · obtain ⟨z, h1, h2⟩ := h j q hq
    exact ⟨z, h1, h2.but k (fun b hb _ hq2 => e (by have h3 := (ho.blk b hq2).1.2; rw [← hb.2, ← h3])) (fun b hb => (ho.blk b hb).2.2)⟩
end
/-- Two rows of rows that share out a row of pairs. -/
theorem views_two {H0 Hc Hs H' : Hp} {e : Nat} {st : List (List Int × List Int)} {pr : List (Value × Value)} {lab : Nat → Nat} {va vb : Value} (h0 : H0.bd ≤ Hc.bd) (hl : pr.length = st.length)
    (hp : ∀ (j : Nat) (x : List Int × List Int) (p : Value × Value), st[j]? = some x → pr[j]? = some p → OwnK kI 2 W Hs (fun b => Hc.bd ≤ b ∧ lab b = 2 * j) p.1 x.1 ∧ OwnK kI 2 W Hs (fun b => Hc.bd ≤ b ∧ lab b = 2 * j + 1) p.2 x.2)
    (ch : But (fun x => x < Hc.bd ∧ W.heap.size ≤ x) Hs H') (hA : OwnK kV e W H' (fun b => H0.bd ≤ b ∧ some b = va.ownBlock) va (pr.map Prod.fst)) (hB : OwnK kV e W H' (fun b => H0.bd ≤ b ∧ some b = vb.ownBlock) vb (pr.map Prod.snd))
    (lA : ∀ x, some x = va.ownBlock → (x < Hc.bd ∧ W.heap.size ≤ x) ∨ Hs.bd ≤ x) (lB : ∀ x, some x = vb.ownBlock → (x < Hc.bd ∧ W.heap.size ≤ x) ∨ Hs.bd ≤ x) (dis : ∀ b, some b = va.ownBlock → some b = vb.ownBlock → False) :
    ∃ lb : Nat → Nat, OwnD (kO 2 kI) e W H' (fun b => H0.bd ≤ b ∧ lb b = 0) va (st.map Prod.fst) ∧ OwnD (kO 2 kI) e W H' (fun b => H0.bd ≤ b ∧ lb b = 1) vb (st.map Prod.snd) := by
  let lb : Nat → Nat := fun b => if some b = va.ownBlock then 0 else if some b = vb.ownBlock then 1 else lab b % 2
  have inn : ∀ {u : Value} {x : List Int} {m q j : Nat}, OwnK kI 2 W Hs (fun b => Hc.bd ≤ b ∧ lab b = m) u x → m % 2 = q → m / 2 = j → ∀ w : Value, (w = va ∨ w = vb) → OwnK kI 2 W H' (fun b => (H0.bd ≤ b ∧ lb b = q) ∧ some b ≠ w.ownBlock ∧ lab b / 2 = j) u x := fun {u x m q j} h h1 h2 w hw => by
    have h3 : OwnK kI 2 W Hs (fun b => (Hc.bd ≤ b ∧ lab b = m) ∧ b < Hs.bd) u x := h.okk (fun b hb hlt => ⟨hb, hlt⟩)
    refine (h3.but ch (fun b hb _ q => by have := hb.1.1; omega) (fun b q => q.2)).okk (fun b hb _ => ?_)
    obtain ⟨⟨b1, b2⟩, b3⟩ := hb
    have nA : ¬ some b = va.ownBlock := fun q => by rcases lA b q with q | q <;> omega
    have nB : ¬ some b = vb.ownBlock := fun q => by rcases lB b q with q | q <;> omega
    refine ⟨⟨by omega, ?_⟩, fun q => ?_, by rw [b2]; exact h2⟩
    · show (if some b = va.ownBlock then 0 else if some b = vb.ownBlock then 1 else lab b % 2) = _
      rw [if_neg nA, if_neg nB, b2]; exact h1
    · rcases hw with rfl | rfl
      · exact nA q
      · exact nB q
  refine ⟨lb, own_raw (lab := fun b => lab b / 2) (hA.okk (fun b hb _ => ⟨hb.1, if_pos hb.2⟩)) (by rw [List.length_map, List.length_map, hl]) (fun j u x h1 h2 => ?_), own_raw (lab := fun b => lab b / 2) (hB.okk (fun b hb _ => ⟨hb.1, by show (if _ then _ else if _ then _ else _) = _; rw [if_neg (fun q => dis b q hb.2), if_pos hb.2]⟩)) (by rw [List.length_map, List.length_map, hl]) (fun j u x h1 h2 => ?_)⟩
  · rw [List.getElem?_map, Option.map_eq_some_iff] at h1 h2
    obtain ⟨p, hp1, rfl⟩ := h1
    obtain ⟨y, hy, rfl⟩ := h2
    exact inn (hp j y p hy hp1).1 (by omega) (by omega) va (.inl rfl)
  · rw [List.getElem?_map, Option.map_eq_some_iff] at h1 h2
    obtain ⟨p, hp1, rfl⟩ := h1
    obtain ⟨y, hy, rfl⟩ := h2
    exact inn (hp j y p hy hp1).2 (by omega) (by omega) vb (.inr rfl)
end Go.Proofs.YteajnanbfkcdcaaDoor.VC
