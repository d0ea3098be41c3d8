/- Rows of structs taken apart: the values, and the rows that they hold. -/
import Derived.Test.YticobjbjejpomaaZL
set_option linter.unusedVariables false
set_option linter.unusedSimpArgs false
namespace Go.Proofs.Yticobjbjejpomaa.VC
open Go Go.RowKit
variable {W : World} {H : Hp}
theorem raw_css {ok : Nat → Prop} {e : Nat} {v : Value} {vs : List Value} (h : OwnK kV e W H ok v vs) : OwnV W H ok e 1 v vs.length (vs.map (fun u => [u])).flatten := by
  obtain ⟨css, h1, h2⟩ := h
  have : css = vs.map (fun u => [u]) := by
    apply List.ext_getElem?
    intro j
    rw [List.getElem?_map]
    by_cases hj : j < vs.length
    · have hc : j < css.length := by rw [h1.1]; exact hj
      rw [List.getElem?_eq_getElem hj, List.getElem?_eq_getElem hc]
      exact congrArg some (h1.2 j _ _ (List.getElem?_eq_getElem hj) (List.getElem?_eq_getElem hc)).1
    · rw [List.getElem?_eq_none (by rw [h1.1]; omega), List.getElem?_eq_none (by omega)]; rfl
  subst this
  exact h2
/-- A row of rows, put together. -/
theorem own_raw {e : Nat} {ok : Nat → Prop} {lab : Nat → Nat} {v : Value} {vs : List Value} {l : List (List Int)} (h : OwnK kV e W H ok v vs) (hl : vs.length = l.length) (hr : ∀ (j : Nat) (u : Value) (x : List Int), vs[j]? = some u → l[j]? = some x → OwnK kI 2 W H (fun b => ok b ∧ some b ≠ v.ownBlock ∧ lab b = j) u x) : OwnD (kO 2 kI) e W H ok v l := by
  refine ⟨lab, vs.map (fun u => [u]), ⟨by rw [List.length_map, hl], fun i x cs q1 q2 => ?_⟩, by rw [← hl]; exact raw_css h⟩
  rw [List.getElem?_map, Option.map_eq_some_iff] at q2
  obtain ⟨u, hu, rfl⟩ := q2
  exact ⟨u, rfl, hr i u x hu q1⟩
/-- Rows that the values hold, each by itself. -/
def RawIn (W : World) (H : Hp) (ok : Nat → Prop) (lab : Nat → Nat) (rl : List (Int × Value)) : Prop := ∀ (j : Nat) (p : Int × Value), rl[j]? = some p → ∃ x : List Int, x.length ≤ 1048576 ∧ OwnK kI 2 W H (fun b => ok b ∧ lab b = j) p.2 x
section
variable {H' : Hp} {ok out : Nat → Prop} {lab : Nat → Nat} {rl : List (Int × Value)}
theorem RawIn.but (h : RawIn W H ok lab rl) (k : But out H H') (ho : ∀ b, ok b → ¬ out b) (hW : ∀ b, out b → W.heap.size ≤ b) : RawIn W H' ok lab rl := fun j p hp => by
  obtain ⟨x, h1, h2⟩ := h j p hp
  exact ⟨x, h1, h2.but k (fun b hb _ q => ho b hb.1 q) hW⟩
theorem RawIn.set {i : Nat} {p : Int × Value} {a : Int} (h : RawIn W H ok lab rl) (hp : rl[i]? = some p) : RawIn W H ok lab (rl.set i (a, p.2)) := fun j q hq => by
  rw [List.getElem?_set] at hq
  split at hq
  · rename_i e1
    subst e1
    split at hq
    · cases hq; exact h i p hp
    · cases hq
  · exact h j q hq
theorem RawIn.mark {i : Nat} {p : Int × Value} {x y : List Int} {okx : Nat → Prop} (h : RawIn W H ok lab rl) (hp : rl[i]? = some p) (ho : OwnK kI 2 W H (fun b => ok b ∧ lab b = i) p.2 x) (k : But (fun b => some b = p.2.ownBlock) H H') (hn : OwnK kI 2 W H' okx p.2 y) (hl : y.length ≤ 1048576) : RawIn W H' ok lab rl := fun j q hq => by
  by_cases e : j = i
  · subst e
    rw [hp] at hq; cases hq
    exact ⟨y, hl, hn.narrow kI_flat (fun b hb => (ho.blk b hb).1)⟩
  · obtain ⟨z, h1, h2⟩ := h j q hq
    exact ⟨z, h1, h2.but k (fun b hb _ hq2 => e (by have h3 := (ho.blk b hq2).1.2; rw [← hb.2, ← h3])) (fun b hb => (ho.blk b hb).2.2)⟩
end
end Go.Proofs.Yticobjbjejpomaa.VC

