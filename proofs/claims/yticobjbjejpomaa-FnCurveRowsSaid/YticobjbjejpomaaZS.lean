/- Copies, and rows that grow by zeros: what slices.Insert does. -/
import Derived.Test.YticobjbjejpomaaZG
import Derived.Lib.AppendZerosOnto
import Derived.Lib.Overlaps
set_option linter.unusedVariables false
set_option linter.unusedSimpArgs false
namespace Go.Proofs.Yticobjbjejpomaa.VC
open Go Go.RowKit
variable {P : Program} {W : World} {N : Nat} {E : List (Nat × Value)} {H : Hp}
section
variable {d : Nat} {ty : TypeId} {pos : String} {af : Array Edge} {gd : Option (Nat × Bool)} {t : TypeId} {x y l h_ : Operand}
theorem HV.cap {A : Option Addr} {n c : Nat} {e : TypeId} (ht : P.underlying t = some (.slice e)) (hx : evl E x = some (.slice A n c)) : HV P W N E H ⟨some d, .call { callee := .builtin .cap, args := #[x], argTypes := #[t] }, ty, pos, af, gd⟩ (.int .i64 c) :=
  (fun a w ha hw => by simp [execOp, resolve, invoke, builtin, ha.ev hx, Builtin.cap_, run_underlying ht, goInt])
theorem At.al {b c : Nat} {e : TypeId} {p : List Value} (h : At W H b ⟨e, p, c⟩) : ∀ j u, p[j]? = some u → rdc W H ((⟨b, 0, none⟩ : Addr).add j) = some u := fun j u hj => by
  rw [add_at, Nat.zero_add]; exact h.rd hj
end
/-! ### Rows whose elements own several rows -/
def insL {α : Type} (l : List α) (p : Nat) (x : α) : List α := l.take p ++ x :: l.drop p
theorem insL_len {α : Type} {l : List α} {p : Nat} {x : α} : (insL l p x).length = l.length + 1 := by simp [insL]; omega
theorem insL_get {α : Type} {l : List α} {p : Nat} {x : α} (hp : p ≤ l.length) (j : Nat) : (insL l p x)[j]? = if j < p then l[j]? else if j = p then some x else l[j - 1]? := by
  unfold insL
  by_cases h1 : j < p
  · rw [if_pos h1, List.getElem?_append_left (by rw [List.length_take]; omega), List.getElem?_take, if_pos h1]
  · rw [if_neg h1, List.getElem?_append_right (by rw [List.length_take]; omega), List.length_take, Nat.min_eq_left hp]
    by_cases h2 : j = p
    · subst h2; simp
    · rw [if_neg h2, show j - p = (j - p - 1) + 1 by omega, List.getElem?_cons_succ, List.getElem?_drop]
      congr 1; omega
/-- Two things side by side, whose rows are apart. -/
def kX {α β : Type} (A : Kd α) (B : Kd β) : Kd (α × β) where
  sz := A.sz + B.sz
  rd := fun W H ok x cs => ∃ (sd : Nat → Bool) (c1 c2 : List Value), cs = c1 ++ c2 ∧ A.rd W H (fun b => ok b ∧ sd b = true) x.1 c1 ∧ B.rd W H (fun b => ok b ∧ sd b = false) x.2 c2
  len := fun ⟨_, c1, c2, e, h1, h2⟩ => by rw [e, List.length_append, A.len h1, B.len h2]
  one := fun ⟨_, c1, c2, e, h1, h2⟩ u hu => by
    rw [e] at hu
    rcases List.mem_append.1 hu with hu | hu
    · exact A.one h1 u hu
    · exact B.one h2 u hu
  but := fun k ho hW ⟨sd, c1, c2, e, h1, h2⟩ => ⟨sd, c1, c2, e, A.but k (fun b hb => ho b hb.1) hW h1, B.but k (fun b hb => ho b hb.1) hW h2⟩
  okk := fun k ⟨sd, c1, c2, e, h1, h2⟩ => ⟨sd, c1, c2, e, A.okk (fun b hb hlt => ⟨k b hb.1 hlt, hb.2⟩) h1, B.okk (fun b hb hlt => ⟨k b hb.1 hlt, hb.2⟩) h2⟩
section
variable {α β : Type}
end
end Go.Proofs.Yticobjbjejpomaa.VC

