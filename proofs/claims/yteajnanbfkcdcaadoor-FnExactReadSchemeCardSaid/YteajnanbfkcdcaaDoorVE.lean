/- Small words for the walks. -/
import Derived.Test.YteajnanbfkcdcaaDoorVT
import Derived.Test.YteajnanbfkcdcaaDoorVG
set_option linter.unusedVariables false
namespace Go.Proofs.YteajnanbfkcdcaaDoor.VC
open Go Go.RowKit
variable {W : World} {H : Hp}
theorem at_cell {b T : Nat} {cs : List Value} {n j : Nat} {u : Value} (h : At W H b ⟨T, cs, n⟩) (hu : cs[j]? = some u) : rdc W H ⟨b, j, none⟩ = some u := h.rd hu
theorem at_cell_add {b T : Nat} {cs : List Value} {n j : Nat} {u : Value} (h : At W H b ⟨T, cs, n⟩) (hu : cs[j]? = some u) : rdc W H ((⟨b, 0, none⟩ : Addr).add j) = some u := by
  rw [add_at, Nat.zero_add]; exact h.rd hu
theorem at_cells {b T : Nat} {cs vs : List Value} {n i : Nat} (h : At W H b ⟨T, cs, n⟩) (hv : (cs.drop i).take vs.length = vs) : ∀ j u, vs[j]? = some u → rdc W H ((⟨b, i, none⟩ : Addr).add j) = some u := fun j u hu => by
  rw [add_at]
  refine h.rd ?_
  have hlt := (List.getElem?_eq_some_iff.1 hu).1
  rw [← hv, List.getElem?_take, if_pos (by simpa using hlt), List.getElem?_drop] at hu
  exact hu
theorem cells_at {p : Addr} {cs : List Value} {j : Nat} {u : Value} (h : Cells W H p cs) (hu : cs[j]? = some u) : rdc W H (p.add j) = some u := h j u hu
theorem cells_part {p : Addr} {cs vs : List Value} {i : Nat} (h : Cells W H p cs) (hv : (cs.drop i).take vs.length = vs) : ∀ j u, vs[j]? = some u → rdc W H ((p.add i).add j) = some u := fun j u hu => by
  rw [add_add]
  refine h _ _ ?_
  have hlt := (List.getElem?_eq_some_iff.1 hu).1
  rw [← hv, List.getElem?_take, if_pos (by simpa using hlt), List.getElem?_drop] at hu
  exact hu
theorem Cells.part {p : Addr} {cs vs : List Value} {i : Nat} (h : Cells W H p cs) (hv : (cs.drop i).take vs.length = vs) : Cells W H (p.add i) vs := cells_part h hv
theorem cells_first {p : Addr} {cs : List Value} {u : Value} (h : Cells W H p cs) (hu : cs[0]? = some u) : rdc W H p = some u := by
  have := h 0 u hu
  simpa [Addr.add] using this
theorem dec_f {p : Prop} [Decidable p] (h : ¬ p) : Value.bool false = .bool (decide p) := by rw [decide_eq_false h]
theorem dec_t {p : Prop} [Decidable p] (h : p) : Value.bool true = .bool (decide p) := by rw [decide_eq_true h]
theorem gd {α : Type} {l : List α} {q : Int} {j : Nat} {z d : α} (h : l[q.toNat]? = some z) (e : (j : Int) = q) : l.getD j d = z := by
  subst e
  rw [Int.toNat_natCast] at h
  simp [h]
theorem getq {α : Type} {l : List α} {q : Int} {j : Nat} {z : α} (h : l[q.toNat]? = some z) (e : (j : Int) = q) : l[j]? = some z := by
  subst e
  rwa [Int.toNat_natCast] at h
theorem post_cell {P : Program} {E : List (Nat × Value)} {fn : Func} {R : Value → Hp → Prop} {t ty : Nat} {cs : List Value} {b T n : Nat} (hr : fn.results = #[.cell t ty]) (hp : geti E t = some (.pointer (some ⟨b, 0, none⟩))) (ht : VarT P ty true cs.length) (hb : At W H b ⟨T, cs, n⟩) (h : R (.agg cs.toArray) H) {e : Exit} (he : e = .normal ∨ e = .ret) : post W P fn R e E H :=
  ⟨he, _, fun a w ha hw => by
    have hp' : a.tmps.getD t undef = .pointer (some ⟨b, 0, none⟩) := ha.ev (x := .tmp t) hp
    have hq := run_loadVar_agg (P := P) (w := w) (p := ⟨b, 0, none⟩) ht (fun j u hu => hw.cell (at_cell_add hb hu))
    have hp'' : a.tmps[t]?.getD undef = .pointer (some ⟨b, 0, none⟩) := by simpa using hp'
    simp [results, hr, hp'', asAddr, hq], h⟩
theorem sl_one1 {v : Value} {n : Nat} (h : IsSl v n) : v.oneCell' = true := by obtain ⟨A, c, rfl⟩ := h; rfl
theorem one_nil : ∀ u ∈ ([] : List Value), u.oneCell' = true := fun _ h => by cases h
theorem one_cons {v : Value} {l : List Value} (h : v.oneCell' = true) (k : ∀ u ∈ l, u.oneCell' = true) : ∀ u ∈ v :: l, u.oneCell' = true := fun u hu => by
  rcases List.mem_cons.1 hu with rfl | hu
  · exact h
  · exact k u hu
theorem rng1 : Array.range 1 = #[0] := by decide
theorem rng2 : Array.range 2 = #[0, 1] := by decide
theorem rng3 : Array.range 3 = #[0, 1, 2] := by decide
theorem rng4 : Array.range 4 = #[0, 1, 2, 3] := by decide
theorem run_equalIn_nil {P : Program} (w : World) (d : Nat) (t e : TypeId) (A : Option Addr) (n c : Nat) (h : P.underlying t = some (.slice e)) : (Op.equalIn (d + 1) t (.slice A n c) (.slice none 0 0)).run P w = .ok A.isNone w := by
  unfold Op.equalIn
  rw [Sem.run_bind, run_underlying h w]
  cases A <;> rfl
/-- A slice against nil. -/
theorem HV.nnil {P : Program} {N : Nat} {E : List (Nat × Value)} {x y : Operand} {d t t' e ty : Nat} {pos : String} {A : Option Addr} {n c : Nat} {af} {gd} (ht : P.underlying t = some (.slice e)) (hx : evl E x = some (.slice A n c)) (hy : evl E y = some (.slice none 0 0)) :
    HV P W N E H ⟨some d, .binOp .neq t x y t', ty, pos, af, gd⟩ (.bool (!A.isNone)) :=
  HV.bin hx hy (fun w => by
    have := run_equalIn_nil (P := P) w 9999 t e A n c ht
    simp [eqGuard, binOp, Op.equal, Op.maxDepth, this])
/-- Not nil. -/
def nn : Value → Bool
  | .slice A _ _ => !A.isNone
  | _ => false
theorem HV.nn {P : Program} {N : Nat} {E : List (Nat × Value)} {x y : Operand} {d t t' e ty : Nat} {pos : String} {v : Value} {n : Nat} {af} {gd} (ht : P.underlying t = some (.slice e)) (hv : IsSl v n) (hx : evl E x = some v) (hy : evl E y = some (.slice none 0 0)) :
    HV P W N E H ⟨some d, .binOp .neq t x y t', ty, pos, af, gd⟩ (.bool (VC.nn v)) := by
  obtain ⟨A, c, rfl⟩ := hv
  exact HV.nnil ht hx hy
theorem nn_pos {α : Type} {K : Kd α} {ok : Nat → Prop} {v : Value} {l : List α} (h : RdK K W H ok v l) (hl : 0 < l.length) : nn v = true := by
  obtain ⟨css, _, _, _, A, c, rfl, hc, _, hA, _⟩ := h
  cases A with
  | none => have := hA rfl; omega
  | some a => rfl
/-- A slice is nil. -/
theorem HV.nne {P : Program} {N : Nat} {E : List (Nat × Value)} {x y : Operand} {d t t' e ty : Nat} {pos : String} {v : Value} {n : Nat} {af} {gd} (ht : P.underlying t = some (.slice e)) (hv : IsSl v n) (hx : evl E x = some v) (hy : evl E y = some (.slice none 0 0)) :
    HV P W N E H ⟨some d, .binOp .eql t x y t', ty, pos, af, gd⟩ (.bool (!VC.nn v)) := by
  obtain ⟨A, c, rfl⟩ := hv
  refine HV.bin hx hy (fun w => ?_)
  have := run_equalIn_nil (P := P) w 9999 t e A n c ht
  have e2 : (!VC.nn (.slice A n c)) = A.isNone := by cases A <;> rfl
  rw [e2]
  simp [eqGuard, binOp, Op.equal, Op.maxDepth, this]
theorem WV.ofHV {P : Program} {N : Nat} {E : List (Nat × Value)} {o : Oper} {v : Value} (h : HV P W N E H o v) : WV P W N E H o (fun u H' => u = v ∧ H' = H) := WV.of fun a w ha hw => ⟨v, w, H, h a w ha hw, hw, rfl, rfl⟩
theorem rd_ofO {α : Type} {K : Kd α} {e : Nat} {ok : Nat → Prop} {v : Value} {l : List (List α)} (h : RdK (kO e K) W H ok v l) : RdK (kR K) W H ok v l := by
  obtain ⟨css, h1, h2⟩ := h
  exact ⟨css, h1.imp (fun _ _ _ ⟨v, e, h⟩ => ⟨v, e, h.rd⟩), h2⟩
end Go.Proofs.YteajnanbfkcdcaaDoor.VC
