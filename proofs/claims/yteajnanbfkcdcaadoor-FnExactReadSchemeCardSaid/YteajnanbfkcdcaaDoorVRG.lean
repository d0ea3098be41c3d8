/- A scheme that grows in a box. -/
import Derived.Test.YteajnanbfkcdcaaDoorVR3
set_option linter.unusedVariables false
set_option linter.unusedSimpArgs false
namespace Go.Proofs.YteajnanbfkcdcaaDoor.VC
open Go Go.RowKit
section
variable {P : Program} {W : World} {N : Nat} {E : List (Nat × Value)} {H H' : Hp} {d : Nat} {ty : TypeId} {pos : String} {af : Array Edge} {gd : Option (Nat × Bool)} {t : TypeId} {x y : Operand} {α : Type} {K : Kd α} {ok okx : Nat → Prop} {v u : Value} {l : List α}
/-- A row that owns its elements' rows gets one more, which lies elsewhere. -/
theorem WV.apE {e : TypeId} {z : Value} {bytes : Nat} {x' : α} (ht : SlT P t e z K.sz bytes)
    (hx : evl E x = some v) (hy : evl E y = some u) (hv : OwnD K e W H ok v l) (hu : RdK K W H okx u [x']) (hd : ∀ b, ok b → okx b → False) (hb : (l.length + 1) * bytes ≤ 140737488355328) (hm : l.length + 1 ≤ 9223372036854775807) :
    WV P W N E H ⟨some d, .call { callee := .builtin .append, args := #[x, y], argTypes := #[t, t] }, ty, pos, af, gd⟩
      (fun v' H' => But (fun b => some b = v.ownBlock) H H' ∧ OwnD K e W H' (fun b => (ok b ∧ b < H.bd) ∨ (okx b ∧ b < H.bd) ∨ H.bd ≤ b) v' (l ++ [x']) ∧ (∀ b, some b = v'.ownBlock → some b = v.ownBlock ∨ H.bd ≤ b)) := by
  classical
  obtain ⟨lab, css, h1, h2⟩ := hv
  obtain ⟨css', g1, g2⟩ := hu
  have h2' : OwnV W H (fun b => some b = v.ownBlock) e K.sz v l.length css.flatten := by
    obtain ⟨i1, i2, i3⟩ := h2
    refine ⟨i1, i2, ?_⟩
    rcases i3 with i3 | ⟨g, c, rfl, j1, j2, j3⟩
    · exact .inl i3
    · exact .inr ⟨g, c, rfl, rfl, j2, j3⟩
  have hW : ∀ b, some b = v.ownBlock → W.heap.size ≤ b := fun b hb => (h2.blk b hb).2.2
  have hlo : ∀ b, some b = v.ownBlock → ok b ∧ b < H.bd := fun b hb => ⟨(h2.blk b hb).1, (h2.blk b hb).2.1⟩
  refine (WV.app ht hx hy h2' g2 hb hm).mono fun v' H' ⟨k1, k2⟩ => ⟨k1, ⟨fun b => if okx b ∨ H.bd ≤ b then l.length else lab b, css ++ css', segs_append (h1.imp fun i _ cs hK => ?_) ⟨g1.1, fun i w cs q1 q2 => ?_⟩, ?_⟩, fun b hb => (k2.blk b hb).1⟩
  · have h3 := K.okk (ok' := fun b => (ok b ∧ some b ≠ v.ownBlock ∧ lab b = i) ∧ b < H.bd) (fun b hb hlt => ⟨hb, hlt⟩) hK
    exact K.okk (fun b hb _ => ⟨.inl ⟨hb.1.1, hb.2⟩, fun e => by
      rcases (k2.blk b e).1 with hn | hn
      · exact hb.1.2.1 hn
      · have := hb.2; omega, (if_neg (fun q => q.elim (hd b hb.1.1) (fun z => by have := hb.2; omega))).trans hb.1.2.2⟩) (K.but k1 (fun b hb _ => hb.1.2.1) hW h3)
  · have hi : i = 0 := by
      have := (List.getElem?_eq_some_iff.1 q1).1
      simp at this; exact this
    subst hi
    have hK := g1.2 0 w cs q1 q2
    have h3 : K.rd W H (fun b => okx b ∧ b < H.bd) w cs := K.okk (fun b hb hlt => ⟨hb, hlt⟩) hK
    exact K.okk (fun b hb _ => ⟨.inr (.inl hb), fun e => by
      rcases (k2.blk b e).1 with hn | hn
      · exact hd b (hlo b hn).1 hb.1
      · have := hb.2; omega, if_pos (.inl hb.1)⟩) (K.but k1 (fun b hb _ e => hd b (hlo b e).1 hb.1) hW h3)
  · rw [List.length_append, List.flatten_append]
    exact k2.ok (fun b hb _ => by
      rcases hb with hb | hb
      · exact .inl (hlo b hb)
      · exact .inr (.inr hb))
/-- A scheme in a box, whose rows are the call's own. -/
def Gr (W : World) (H : Hp) (T bx B : Nat) (n p k : Int) (o : List Int) (l : List (List Int)) (vo vr : Value) : Prop :=
  ∃ S : Nat → Prop, At W H bx ⟨T, [.int .i64 n, vo, .int .i64 p, .int .i64 k, vr], 5⟩ ∧ OwnK kI 2 W H (fun b => (B ≤ b ∧ b ≠ bx) ∧ S b) vo o ∧ OwnD (kO 2 kI) 22 W H (fun b => (B ≤ b ∧ b ≠ bx) ∧ ¬ S b) vr l
end
end Go.Proofs.YteajnanbfkcdcaaDoor.VC
