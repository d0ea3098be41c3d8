/- Gates opened: a value that is read at some fuel is a gate of that depth. -/
import Derived.Test.YticobjbjejpomaaZO
import Derived.Test.YticobjbjejpomaaZTR
set_option linter.unusedVariables false
set_option linter.unusedSimpArgs false
namespace Go.Proofs.Yticobjbjejpomaa.VC
open Go Go.RowKit Go.ChangeShapes Go.WideShapes
section
variable {H : Type} {enc : TypeId × Value → H} {P : Program} {W : World} {base : Nat} {HH : Hp}
/-- What opens up to a fuel. -/
def OpB {H : Type} (enc : TypeId × Value → H) (P : Program) (W : World) (HH : Hp) (base : Nat) (N : Nat) {α : Type} (d : Kd α) (t : TypeId) : Prop :=
  ∀ fuel cs x, fuel ≤ N → DataW.trod enc P W base (fun _ => true) true fuel t cs = some x → ∃ v, d.rd W HH (fun _ => False) v cs
theorem OpB.slice {N : Nat} {α : Type} {d : Kd α} {t e : TypeId} (hu : P.underlying t = some (.slice e)) (hc : P.cellsOf e = d.sz) (hd : OpB enc P W HH base N d e) : OpB enc P W HH base (N + 1) (kR d) t := by
  intro fuel cs x hN h
  rcases DataW.trod_slice hu h with ⟨rfl, rfl⟩ | ⟨a, len, cap, elems, rest, n, hfu, rfl, rfl, hb, hl, hm, hlen, hel, hsp, hns⟩
  · exact ⟨[], ⟨_, rfl, [], ⟨rfl, fun i x cs h => (by cases h)⟩, ⟨by simp, fun u h => (by cases h), none, 0, rfl, Nat.le_refl _, Nat.zero_le _, fun _ => rfl, fun ad h => (by cases h)⟩⟩⟩
  · have each : ∀ i, i < len → ∃ v : α × List Value, (fun (i : Nat) (v : α × List Value) => (d.rd W HH (fun _ => False) v.1 v.2 ∧ ∀ j u, v.2[j]? = some u → W.cell? (a.add (i * d.sz + j)) = some u)) i v := by
      intro i hi
      have h1 := hel i hi
      have hi' : i < elems.length := by omega
      rw [List.getElem?_eq_getElem hi', Option.bind_eq_some_iff] at h1
      obtain ⟨c, hcells, htr⟩ := h1
      obtain ⟨v, hK⟩ := hd n c _ (by omega) htr
      refine ⟨(v, c), hK, fun j u hj => ?_⟩
      have hcs := World.cells?_some hcells
      have hj' : j < c.length := (List.getElem?_eq_some_iff.1 hj).1
      have h2 := hcs.2.2 j (by rw [hc, ← d.len hK]; exact hj')
      have hj2 : c[j]? = some u := hj
      rw [hc, hj2] at h2
      rw [← h2, add_add]
    obtain ⟨vs, hvl, hv⟩ := list_of len each
    have hseg : Segs (fun _ x cs => d.rd W HH (fun _ => False) x cs) (vs.map (·.1)) (vs.map (·.2)) := ⟨by simp, fun i x cs h1 h2 => by
      rw [List.getElem?_map, Option.map_eq_some_iff] at h1 h2
      obtain ⟨w1, e1, rfl⟩ := h1
      obtain ⟨w2, e2, rfl⟩ := h2
      rw [e1] at e2
      cases e2
      exact (hv i w1 e1).1⟩
    have hf := hseg.flat (fun _ _ _ h => d.len h)
    refine ⟨vs.map (·.1), ⟨_, rfl, vs.map (·.2), hseg, ⟨hf.2, fun u hu => ?_, some a, cap, by rw [List.length_map, hvl], by rw [List.length_map]; omega, hm, fun h => (by cases h), fun ad hA hpos j u hu => ?_⟩⟩⟩
    · obtain ⟨cs, hcs, hu⟩ := List.mem_flatten.1 hu
      obtain ⟨w1, hw1, rfl⟩ := List.mem_map.1 hcs
      obtain ⟨i, hi⟩ := List.getElem?_of_mem hw1
      exact d.one (hv i w1 hi).1 u hu
    · cases hA
      obtain ⟨i, cs, k, h1, h2, rfl⟩ := flat_inv hf.1 hu
      rw [List.getElem?_map, Option.map_eq_some_iff] at h1
      obtain ⟨w1, e1, rfl⟩ := h1
      obtain ⟨g1, g2⟩ := rdc_in (H := HH) ((hv i w1 e1).2 k u h2)
      refine ⟨g1, fun hw => ?_⟩
      rw [block_add] at g2
      omega
theorem OpB.gate {t : TypeId} {f0 f1 f2 : Field} (hu : P.underlying t = some (.struct #[f0, f1, f2])) (h0 : P.underlying f0.type = some (.int .i64)) (h1 : P.underlying f1.type = some (.int .i64)) (h2 : P.underlying f2.type = some (.slice t))
    (o0 : f0.offset = 0) (o1 : f1.offset = 1) (o2 : f2.offset = 2) (c : P.cellsOf t = 3) (c0 : P.cellsOf f0.type = 1) (c1 : P.cellsOf f1.type = 1) (c2 : P.cellsOf f2.type = 1) : ∀ d, OpB enc P W HH base d (kG d) t
  | 0 => fun fuel cs x hN h => by
    obtain ⟨xs, n, e, _⟩ := DataW.trod_struct hu h
    omega
  | d + 1 => fun fuel cs x hN h => by
    have ih := OpB.slice (enc := enc) (HH := HH) (base := base) h2 (c.trans (kG_sz d).symm) (OpB.gate hu h0 h1 h2 o0 o1 o2 c c0 c1 c2 d)
    obtain ⟨xs, n, e, rfl, hl, hlen, hf⟩ := DataW.trod_struct hu h
    have q0 := hf 0 f0 rfl
    have q1 := hf 1 f1 rfl
    have q2 := hf 2 f2 rfl
    rw [c] at hl
    rw [o0, c0] at q0
    rw [o1, c1] at q1
    rw [o2, c2] at q2
    match xs, hlen, cs, hl with
    | [y0, y1, y2], _, [u0, u1, u2], _ =>
      obtain ⟨a, ea, _⟩ := DataW.trod_int h0 q0
      obtain ⟨l, el, _⟩ := DataW.trod_int h1 q1
      obtain ⟨ks, v, ev, hr⟩ := ih n _ _ (by omega) q2
      simp only [List.drop_zero, List.take_succ_cons, List.take_zero, List.cons.injEq, and_true] at ea
      simp only [List.drop_succ_cons, List.drop_zero, List.take_succ_cons, List.take_zero, List.cons.injEq, and_true] at el ev
      subst ea; subst el; subst ev
      exact ⟨(a, l, ks), kG_succ.2 ⟨_, rfl, hr⟩⟩
theorem gate_arg {t : TypeId} {f0 f1 f2 : Field} (hu : P.underlying t = some (.struct #[f0, f1, f2])) (h0 : P.underlying f0.type = some (.int .i64)) (h1 : P.underlying f1.type = some (.int .i64)) (h2 : P.underlying f2.type = some (.slice t))
    (o0 : f0.offset = 0) (o1 : f1.offset = 1) (o2 : f2.offset = 2) (c : P.cellsOf t = 3) (c0 : P.cellsOf f0.type = 1) (c1 : P.cellsOf f1.type = 1) (c2 : P.cellsOf f2.type = 1)
    {m : Nat} {cs : List Value} {x : DataW H × List MemPlace} (h : DataW.trod enc P W base (fun _ => true) true m t cs = some x) : ∃ (d : Nat) (z : GT d) (a l : Int) (v : Value), cs = [.int .i64 a, .int .i64 l, v] ∧ (kG d).rd W HH (fun _ => False) z [.int .i64 a, .int .i64 l, v] := by
  obtain ⟨z, hz⟩ := OpB.gate (HH := HH) hu h0 h1 h2 o0 o1 o2 c c0 c1 c2 m m cs x (Nat.le_refl _) h
  obtain ⟨a, l, v, n, rfl, _⟩ := kG_cells hz
  exact ⟨m, z, a, l, v, rfl, hz⟩
end
end Go.Proofs.Yticobjbjejpomaa.VC

