/- Small words for the walks. -/
import Derived.Test.YtbjcgcililpfdaaGreatZT
import Derived.Test.YtbjcgcililpfdaaGreatZG
set_option linter.unusedVariables false
namespace Go.Proofs.YtbjcgcililpfdaaGreat.VC
open Go Go.RowKit
variable {W : World} {H : Hp}
theorem at_cell {b T : Nat} {cs : List Value} {n j : Nat} {u : Value} (h : At W H b ⟨T, cs, n⟩) (hu : cs[j]? = some u) : rdc W H ⟨b, j, none⟩ = some u := h.rd hu
theorem at_cell_add {b T : Nat} {cs : List Value} {n j : Nat} {u : Value} (h : At W H b ⟨T, cs, n⟩) (hu : cs[j]? = some u) : rdc W H ((⟨b, 0, none⟩ : Addr).add j) = some u := by
  rw [add_at, Nat.zero_add]; exact h.rd hu
theorem at_cells {b T : Nat} {cs vs : List Value} {n i : Nat} (h : At W H b ⟨T, cs, n⟩) (hv : (cs.drop i).take vs.length = vs) : ∀ j u, vs[j]? = some u → rdc W H ((⟨b, i, none⟩ : Addr).add j) = some u := fun j u hu => by
  rw [add_at]
  refine h.rd ?_
  have hlt := (List.getElem?_eq_some_iff.1 hu).1
  rw [← hv, List.getElem?_take, if_pos (by simpa using hlt), List.getElem?_drop] at hu
  exact hu
theorem cells_at {p : Addr} {cs : List Value} {j : Nat} {u : Value} (h : Cells W H p cs) (hu : cs[j]? = some u) : rdc W H (p.add j) = some u := h j u hu
theorem cells_first {p : Addr} {cs : List Value} {u : Value} (h : Cells W H p cs) (hu : cs[0]? = some u) : rdc W H p = some u := by
  have := h 0 u hu
  simpa [Addr.add] using this
theorem dec_f {p : Prop} [Decidable p] (h : ¬ p) : Value.bool false = .bool (decide p) := by rw [decide_eq_false h]
theorem dec_t {p : Prop} [Decidable p] (h : p) : Value.bool true = .bool (decide p) := by rw [decide_eq_true h]
theorem gd {α : Type} {l : List α} {q : Int} {j : Nat} {z d : α} (h : l[q.toNat]? = some z) (e : (j : Int) = q) : l.getD j d = z := by
  subst e
  rw [Int.toNat_natCast] at h
  simp [h]
theorem getq {α : Type} {l : List α} {q : Int} {j : Nat} {z : α} (h : l[q.toNat]? = some z) (e : (j : Int) = q) : l[j]? = some z := by
  subst e
  rwa [Int.toNat_natCast] at h
theorem one_nil : ∀ u ∈ ([] : List Value), u.oneCell' = true := fun _ h => by cases h
theorem one_cons {v : Value} {l : List Value} (h : v.oneCell' = true) (k : ∀ u ∈ l, u.oneCell' = true) : ∀ u ∈ v :: l, u.oneCell' = true := fun u hu => by
  rcases List.mem_cons.1 hu with rfl | hu
  · exact h
  · exact k u hu
theorem rng1 : Array.range 1 = #[0] := by decide
theorem rng2 : Array.range 2 = #[0, 1] := by decide
theorem rng3 : Array.range 3 = #[0, 1, 2] := by decide
theorem rng4 : Array.range 4 = #[0, 1, 2, 3] := by decide
/-- Not nil. -/
def nn : Value → Bool
  | .slice A _ _ => !A.isNone
  | _ => false
theorem WV.ofHV {P : Program} {N : Nat} {E : List (Nat × Value)} {o : Oper} {v : Value} (h : HV P W N E H o v) : WV P W N E H o (fun u H' => u = v ∧ H' = H) := WV.of fun a w ha hw => ⟨v, w, H, h a w ha hw, hw, rfl, rfl⟩
theorem rd_ofO {α : Type} {K : Kd α} {e : Nat} {ok : Nat → Prop} {v : Value} {l : List (List α)} (h : RdK (kO e K) W H ok v l) : RdK (kR K) W H ok v l := by
  obtain ⟨css, h1, h2⟩ := h
  exact ⟨css, h1.imp (fun _ _ _ ⟨v, e, h⟩ => ⟨v, e, h.rd⟩), h2⟩
end Go.Proofs.YtbjcgcililpfdaaGreat.VC

