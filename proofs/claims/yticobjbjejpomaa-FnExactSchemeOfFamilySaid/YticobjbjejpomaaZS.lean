/- Copies, and rows that grow by zeros: what slices.Insert does. -/
import Derived.Test.YticobjbjejpomaaZG
import Derived.Lib.AppendZerosOnto
import Derived.Lib.Overlaps
set_option linter.unusedVariables false
set_option linter.unusedSimpArgs false
namespace Go.Proofs.Yticobjbjejpomaa.VC
open Go Go.RowKit
variable {P : Program} {W : World} {N : Nat} {E : List (Nat × Value)} {H : Hp}
section
variable {d : Nat} {ty : TypeId} {pos : String} {af : Array Edge} {gd : Option (Nat × Bool)} {t : TypeId} {x y l h_ : Operand}
theorem HV.cap {A : Option Addr} {n c : Nat} {e : TypeId} (ht : P.underlying t = some (.slice e)) (hx : evl E x = some (.slice A n c)) : HV P W N E H ⟨some d, .call { callee := .builtin .cap, args := #[x], argTypes := #[t] }, ty, pos, af, gd⟩ (.int .i64 c) :=
  (fun a w ha hw => by simp [execOp, resolve, invoke, builtin, ha.ev hx, Builtin.cap_, run_underlying ht, goInt])
theorem splice_prefix {p cur cs : List Value} {o : Nat} (hp : p <+: cur) (ho : o ≤ p.length) : p.take o ++ cs ++ p.drop (o + cs.length) <+: cur.take o ++ cs ++ cur.drop (o + cs.length) := by
  obtain ⟨r, rfl⟩ := hp
  rw [List.take_append_of_le_length ho, List.drop_append, ← List.append_assoc]
  exact List.prefix_append _ _
theorem At.al {b c : Nat} {e : TypeId} {p : List Value} (h : At W H b ⟨e, p, c⟩) : ∀ j u, p[j]? = some u → rdc W H ((⟨b, 0, none⟩ : Addr).add j) = some u := fun j u hj => by
  rw [add_at, Nat.zero_add]; exact h.rd hj
/-- copy(dst, src) into a row of the call's own. -/
theorem WV.cp {e : TypeId} {z : Value} {sz bytes g o dLen dCap sLen sCap : Nat} {ad : Addr} {blk : Blk} {cs p : List Value} {t2 : TypeId} {dst : Option Nat} (ht : SlT P t e z sz bytes) (hx : evl E x = some (.slice (some ⟨g, o, none⟩) dLen dCap)) (hy : evl E y = some (.slice (some ad) sLen sCap)) (hb : At W H g blk)
    (hn : cs.length = min sLen dLen * sz) (hsrc : ∀ j u, cs[j]? = some u → rdc W H (ad.add j) = some u) (ho : o ≤ blk.pre.length) (hfit : o + cs.length ≤ blk.cap) (h1 : ∀ u ∈ cs, u.oneCell' = true) (hp : p <+: blk.pre.take o ++ cs ++ blk.pre.drop (o + cs.length)) :
    WV P W N E H ⟨dst, .call { callee := .builtin .copy, args := #[x, y], argTypes := #[t, t2] }, ty, pos, af, gd⟩ (fun _ H' => But (fun k => k = g) H H' ∧ At W H' g ⟨blk.elem, p, blk.cap⟩) := fun a w ha hw => by
  obtain ⟨hu, ⟨i, hi, hz, hs, hby⟩, hzc, hpp⟩ := ht
  obtain ⟨hbw, cur, hc, hcl, hct⟩ := hw.own _ _ hb.m
  have hpre : blk.pre <+: cur.toList := by rw [← hct]; exact List.take_prefix _ _
  have hl := run_loadCells_list (P := P) w ad cs (fun j u hj => hw.cell (hsrc j u hj))
  have hst := run_storeCells_at P g o blk.elem cs 0 cur w hc (by simpa [hcl] using hfit) h1
  have hrun : (execOp a.eval ⟨dst, .call { callee := .builtin .copy, args := #[x, y], argTypes := #[t, t2] }, ty, pos, af, gd⟩).run P w = .ok (.value (goInt ((min sLen dLen : Nat) : Int))) (w.setRow g (cur.toList.take (o + 0) ++ cs ++ cur.toList.drop (o + 0 + cs.length)).toArray) := by
    have hn' : cs.length = Nat.min sLen dLen * sz := hn
    simp [execOp, resolve, invoke, builtin, ha.ev hx, ha.ev hy, Builtin.copy_, run_underlying hu, Builtin.lenOf, Builtin.firstCells, sizeOf, typeInfo, hi, hs, ← hn', hl, hst]
  rw [hrun]
  refine ⟨_, hw.set (w' := w.setRow g _) (y := ⟨blk.elem, p, blk.cap⟩) hb.m ⟨hw.below.os, hw.below.tape, hw.below.output, by rw [size_setRow]; exact hw.below.size, fun k hk => by rw [setRow_other _ _ _ _ (by omega)]; exact hw.below.block k hk⟩ (size_setRow _ _ _) (fun k hk => setRow_other _ _ _ _ hk) (setRow_heap _ _ _ _ _ _ hc) ?_ ?_, H.put_but _ _, H.put_self _ _, hb.w⟩
  · simp only [List.size_toArray, List.length_append, List.length_take, List.length_drop, Array.length_toList]
    omega
  · simp only [Nat.add_zero]
    exact (List.prefix_iff_eq_take.1 (hp.trans (splice_prefix hpre ho))).symm
end
/-! ### Rows whose elements own several rows -/
def insL {α : Type} (l : List α) (p : Nat) (x : α) : List α := l.take p ++ x :: l.drop p
theorem insL_len {α : Type} {l : List α} {p : Nat} {x : α} : (insL l p x).length = l.length + 1 := by simp [insL]; omega
theorem insL_get {α : Type} {l : List α} {p : Nat} {x : α} (hp : p ≤ l.length) (j : Nat) : (insL l p x)[j]? = if j < p then l[j]? else if j = p then some x else l[j - 1]? := by
  unfold insL
  by_cases h1 : j < p
  · rw [if_pos h1, List.getElem?_append_left (by rw [List.length_take]; omega), List.getElem?_take, if_pos h1]
  · rw [if_neg h1, List.getElem?_append_right (by rw [List.length_take]; omega), List.length_take, Nat.min_eq_left hp]
    by_cases h2 : j = p
    · subst h2; simp
    · rw [if_neg h2, show j - p = (j - p - 1) + 1 by omega, List.getElem?_cons_succ, List.getElem?_drop]
      congr 1; omega
/-- Two things side by side, whose rows are apart. -/
def kX {α β : Type} (A : Kd α) (B : Kd β) : Kd (α × β) where
  sz := A.sz + B.sz
  rd := fun W H ok x cs => ∃ (sd : Nat → Bool) (c1 c2 : List Value), cs = c1 ++ c2 ∧ A.rd W H (fun b => ok b ∧ sd b = true) x.1 c1 ∧ B.rd W H (fun b => ok b ∧ sd b = false) x.2 c2
  len := fun ⟨_, c1, c2, e, h1, h2⟩ => by rw [e, List.length_append, A.len h1, B.len h2]
  one := fun ⟨_, c1, c2, e, h1, h2⟩ u hu => by
    rw [e] at hu
    rcases List.mem_append.1 hu with hu | hu
    · exact A.one h1 u hu
    · exact B.one h2 u hu
  but := fun k ho hW ⟨sd, c1, c2, e, h1, h2⟩ => ⟨sd, c1, c2, e, A.but k (fun b hb => ho b hb.1) hW h1, B.but k (fun b hb => ho b hb.1) hW h2⟩
  okk := fun k ⟨sd, c1, c2, e, h1, h2⟩ => ⟨sd, c1, c2, e, A.okk (fun b hb hlt => ⟨k b hb.1 hlt, hb.2⟩) h1, B.okk (fun b hb hlt => ⟨k b hb.1 hlt, hb.2⟩) h2⟩
section
variable {α β : Type}
end
end Go.Proofs.Yticobjbjejpomaa.VC

