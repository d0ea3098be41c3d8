/- Rows of rows that are only referred to. -/
import Derived.Test.YtbjcgcililpfdaaGreatZN4
set_option linter.unusedVariables false
set_option linter.unusedSimpArgs false
namespace Go.Proofs.YtbjcgcililpfdaaGreat.VC
open Go Go.RowKit
variable {P : Program} {W : World} {N : Nat} {E : List (Nat × Value)} {H : Hp} {d : Nat} {ty : TypeId} {pos : String} {af : Array Edge} {gd : Option (Nat × Bool)} {t : TypeId} {x y : Operand} {α : Type} {K : Kd α} {l : List α}
/-- As WV.bsO, and that the row is new. -/
theorem WV.bsN {okx : Nat → Prop} {e : TypeId} {z : Value} {bytes len : Nat} {parts : List (Nat × Operand)} {vs : List (Nat × Value)} {css : List (List Value)} (ht : SlT P t e z K.sz bytes)
    (hv : evls E parts = some vs) (hlen : Nat.ble (len * K.sz) 16777216 = true)
    (hf : Instr.fill (fun i => some (i * K.sz, K.sz)) ((Array.range (len * K.sz)).map (z.cells[· % z.cells.size]!)) vs = some css.flatten.toArray) (hl : l.length = len) (hs : Segs (fun _ x cs => K.rd W H okx x cs) l css) :
    WV P W N E H ⟨some d, .buildSlice t len parts.toArray, ty, pos, af, gd⟩ (fun v H' => Ext H H' ∧ OwnK K e W H' (fun b => okx b ∨ H.bd ≤ b) v l ∧ ∀ b, some b = v.ownBlock → H.bd ≤ b) := by
  have hf2 := hs.flat (fun _ _ _ h => K.len h)
  refine (WV.bs ht hv hlen hf (fun u hu => ?_) (by rw [hf2.2, hl])).mono fun v H' ⟨h1, h2⟩ => ⟨h1, ⟨css, hs.imp (fun _ _ _ h => ?_), by rw [hl]; exact h2.ok (fun b hb _ => .inr hb)⟩, fun b hb => (h2.blk b hb).1⟩
  · obtain ⟨cs, hcs, hu⟩ := List.mem_flatten.1 hu
    obtain ⟨i, hi⟩ := List.getElem?_of_mem hcs
    have hil : i < l.length := by rw [← hs.1]; exact (List.getElem?_eq_some_iff.1 hi).1
    exact K.one (hs.2 i _ _ (List.getElem?_eq_getElem hil) hi) u hu
  · have h0 : K.rd W H (fun b => okx b ∧ b < H.bd) _ _ := K.okk (fun b hb hlt => ⟨hb, hlt⟩) h
    exact K.okk (fun b hb _ => ⟨.inl hb.1, fun e => by have := (h2.blk b e).1; have := hb.2; omega⟩) (K.but h1 (fun _ _ _ f => f) (fun _ f => f.elim) h0)
end Go.Proofs.YtbjcgcililpfdaaGreat.VC

