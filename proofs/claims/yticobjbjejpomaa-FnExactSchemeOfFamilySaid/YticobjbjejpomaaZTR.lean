/- Gates: trees of values. -/
import Derived.Test.YticobjbjejpomaaZE
import Derived.Test.YticobjbjejpomaaZO
set_option linter.unusedVariables false
set_option linter.unusedSimpArgs false
namespace Go.Proofs.Yticobjbjejpomaa.VC
open Go Go.RowKit
/-- Gates up to a depth. -/
def GT : Nat → Type
  | 0 => Empty
  | d + 1 => Int × Int × List (GT d)
theorem gt0 (x : GT 0) : False := nomatch (show Empty from x)
def kG : (d : Nat) → Kd (GT d)
  | 0 =>
    { sz := 3
      rd := fun _ _ _ _ _ => False
      len := fun h => h.elim
      one := fun h => h.elim
      but := fun _ _ _ h => h.elim
      okk := fun _ h => h.elim }
  | d + 1 => kP kI (kP kI (kR (kG d)))
theorem kG_sz : ∀ d, (kG d).sz = 3
  | 0 => rfl
  | d + 1 => rfl
section
variable {W : World} {H H' : Hp}
theorem Kd.ext {α : Type} (K : Kd α) {ok : Nat → Prop} {x : α} {cs : List Value} (h : K.rd W H ok x cs) (k : Ext H H') : K.rd W H' ok x cs := K.but k (fun _ _ _ f => f) (fun _ f => f.elim) h
theorem kG_succ {d : Nat} {ok : Nat → Prop} {x : Int × Int × List (GT d)} {cs : List Value} : (kG (d + 1)).rd W H ok x cs ↔ ∃ v, cs = [.int .i64 x.1, .int .i64 x.2.1, v] ∧ RdK (kG d) W H ok v x.2.2 := by
  constructor
  · rintro ⟨c1, c2, rfl, h1, c3, c4, rfl, h2, v, rfl, h3⟩
    have e1 : c1 = [.int .i64 x.1] := h1
    have e2 : c3 = [.int .i64 x.2.1] := h2
    subst e1; subst e2
    exact ⟨v, rfl, h3⟩
  · rintro ⟨v, rfl, h⟩
    exact ⟨[_], [_, _], rfl, rfl, [_], [_], rfl, rfl, v, rfl, h⟩
/-- What a gate's cells are. -/
theorem kG_cells {d : Nat} {ok : Nat → Prop} {z : GT d} {cs : List Value} (h : (kG d).rd W H ok z cs) : ∃ a l v n, cs = [.int .i64 a, .int .i64 l, v] ∧ IsSl v n := by
  cases d with
  | zero => exact h.elim
  | succ d =>
    obtain ⟨v, e, h2⟩ := kG_succ.1 h
    exact ⟨_, _, v, _, e, h2.isSl⟩
end
/-! ### Sizes, depths, forms -/
def szG : (d : Nat) → GT d → Nat
  | 0, _ => 0
  | d + 1, (_, _, ks) => 1 + (ks.map (szG d)).sum
def szL (d : Nat) (ks : List (GT d)) : Nat := (ks.map (szG d)).sum
theorem szG_succ {d : Nat} {h l : Int} {ks : List (GT d)} : szG (d + 1) (h, l, ks) = 1 + szL d ks := rfl
theorem szL_snoc {d : Nat} {ks : List (GT d)} {i : Nat} {z : GT d} (h : ks[i]? = some z) : szL d (ks.take (i + 1)) = szL d (ks.take i) + szG d z := by
  obtain ⟨hi, rfl⟩ := List.getElem?_eq_some_iff.1 h
  unfold szL
  rw [List.take_succ_eq_append_getElem hi, List.map_append, List.sum_append_nat]
  simp only [List.map_cons, List.map_nil, List.sum_cons, List.sum_nil, Nat.add_zero]
theorem szL_take {d : Nat} (ks : List (GT d)) (i : Nat) : szL d (ks.take i) ≤ szL d ks := by
  have : szL d ks = szL d (ks.take i) + szL d (ks.drop i) := by
    unfold szL
    rw [← List.sum_append_nat, ← List.map_append, List.take_append_drop]
  omega
theorem szG_pos : ∀ {d : Nat} (z : GT d), 1 ≤ szG d z
  | 0, z => (gt0 z).elim
  | d + 1, (_, _, ks) => by rw [szG_succ]; omega
theorem szL_len {d : Nat} (ks : List (GT d)) : ks.length ≤ szL d ks := by
  induction ks with
  | nil => exact Nat.zero_le _
  | cons z ks ih =>
    have := szG_pos z
    unfold szL at ih ⊢
    simp only [List.map_cons, List.sum_cons, List.length_cons]; omega
theorem szL_mem {d : Nat} {ks : List (GT d)} {z : GT d} (h : z ∈ ks) : szG d z ≤ szL d ks := by
  induction ks with
  | nil => cases h
  | cons y ks ih =>
    unfold szL at ih ⊢
    simp only [List.map_cons, List.sum_cons]
    rcases List.mem_cons.1 h with rfl | h
    · omega
    · have := ih h; omega
def mxL : List Nat → Nat
  | [] => 0
  | a :: l => max a (mxL l)
theorem mxL_snoc (l : List Nat) (a : Nat) : mxL (l ++ [a]) = max (mxL l) a := by
  induction l with
  | nil => simp [mxL]
  | cons b l ih => simp only [List.cons_append, mxL, ih]; omega
theorem mxL_le {l : List Nat} {n : Nat} : mxL l ≤ n ↔ ∀ a ∈ l, a ≤ n := by
  induction l with
  | nil => simp [mxL]
  | cons b l ih => simp only [mxL, List.mem_cons, forall_eq_or_imp, ← ih]; omega
def dpG : (d : Nat) → GT d → Nat
  | 0, _ => 0
  | d + 1, (_, _, ks) => mxL (ks.map (dpG d)) + 1
theorem dpG_snoc {d : Nat} {ks : List (GT d)} {i : Nat} {z : GT d} (h : ks[i]? = some z) : mxL ((ks.take (i + 1)).map (dpG d)) = max (mxL ((ks.take i).map (dpG d))) (dpG d z) := by
  obtain ⟨hi, rfl⟩ := List.getElem?_eq_some_iff.1 h
  rw [List.take_succ_eq_append_getElem hi, List.map_append, List.map_singleton, mxL_snoc]
theorem dpG_sz : ∀ {d : Nat} (z : GT d), dpG d z ≤ szG d z
  | 0, z => (gt0 z).elim
  | d + 1, (_, _, ks) => by
    have : mxL (ks.map (dpG d)) ≤ szL d ks := mxL_le.2 fun a ha => by
      obtain ⟨z, hz, rfl⟩ := List.mem_map.1 ha
      exact Nat.le_trans (dpG_sz z) (szL_mem hz)
    show mxL _ + 1 ≤ 1 + szL d ks
    omega
/-- The form of a gate. -/
def fmG (n : Int) : (d : Nat) → GT d → Prop
  | 0, _ => False
  | d + 1, (h, l, ks) => if ks.length = 0 then l = 0 ∧ 0 ≤ h ∧ h ≤ n - 1 else (h = -1 ∧ 1 ≤ l ∧ l ≤ (ks.length : Int)) ∧ ∀ z ∈ ks, fmG n d z
theorem fmG_succ {n : Int} {d : Nat} {h l : Int} {ks : List (GT d)} : fmG n (d + 1) (h, l, ks) ↔ if ks.length = 0 then l = 0 ∧ 0 ≤ h ∧ h ≤ n - 1 else (h = -1 ∧ 1 ≤ l ∧ l ≤ (ks.length : Int)) ∧ ∀ z ∈ ks, fmG n d z := Iff.rfl
/-- The form up to a depth. -/
def fdG (n : Int) : (d : Nat) → GT d → Nat → Prop
  | 0, _, _ => False
  | d + 1, (h, l, ks), k => k ≠ 0 ∧ if ks.length = 0 then l = 0 ∧ 0 ≤ h ∧ h ≤ n - 1 else (h = -1 ∧ 1 ≤ l ∧ l ≤ (ks.length : Int)) ∧ ∀ z ∈ ks, fdG n d z (k - 1)
theorem fd_iff {n : Int} : ∀ {d : Nat} (z : GT d) (k : Nat), fdG n d z k ↔ fmG n d z ∧ dpG d z ≤ k
  | 0, z, _ => (gt0 z).elim
  | d + 1, (h, l, ks), k => by
    have ih := fun z k => fd_iff (n := n) (d := d) z k
    show (k ≠ 0 ∧ if ks.length = 0 then _ else _) ↔ (if ks.length = 0 then _ else _) ∧ mxL (ks.map (dpG d)) + 1 ≤ k
    by_cases e : ks.length = 0
    · have : ks = [] := List.eq_nil_of_length_eq_zero e
      subst this
      simp only [List.length_nil, if_true, List.map_nil, mxL]
      constructor
      · rintro ⟨h1, h2⟩; exact ⟨h2, by omega⟩
      · rintro ⟨h1, h2⟩; exact ⟨by omega, h1⟩
    · rw [if_neg e, if_neg e]
      have hm : mxL (ks.map (dpG d)) + 1 ≤ k ↔ k ≠ 0 ∧ ∀ z ∈ ks, dpG d z ≤ k - 1 := by
        rw [show mxL (ks.map (dpG d)) + 1 ≤ k ↔ k ≠ 0 ∧ mxL (ks.map (dpG d)) ≤ k - 1 by omega, mxL_le]
        simp
      rw [hm]
      constructor
      · rintro ⟨h1, h2, h3⟩
        exact ⟨⟨h2, fun z hz => ((ih z (k - 1)).1 (h3 z hz)).1⟩, h1, fun z hz => ((ih z (k - 1)).1 (h3 z hz)).2⟩
      · rintro ⟨⟨h2, h3⟩, h1, h4⟩
        exact ⟨h1, h2, fun z hz => (ih z (k - 1)).2 ⟨h3 z hz, h4 z hz⟩⟩
/-- A gate is open. -/
noncomputable def opG (q : Nat) : (d : Nat) → GT d → Prop
  | 0, _ => False
  | d + 1, (h, l, ks) => if ks.length = 0 then q / 2 ^ h.toNat % 2 = 1 else l ≤ ((ks.filter (fun z => @decide (opG q d z) (Classical.propDecidable _))).length : Int)
noncomputable instance (q d : Nat) (z : GT d) : Decidable (opG q d z) := Classical.propDecidable _
noncomputable instance (n : Int) (d : Nat) (z : GT d) : Decidable (fmG n d z) := Classical.propDecidable _
noncomputable instance (n : Int) (d : Nat) (z : GT d) (k : Nat) : Decidable (fdG n d z k) := Classical.propDecidable _
noncomputable def opN_ (q d : Nat) (ks : List (GT d)) : Nat := (ks.filter (fun z => decide (opG q d z))).length
/-! ### Rows of raw cells -/
def kC (n : Nat) : Kd (List Value) where
  sz := n
  rd := fun _ _ _ x cs => cs = x ∧ x.length = n ∧ ∀ u ∈ x, u.oneCell' = true
  len := fun h => by rw [h.1]; exact h.2.1
  one := fun h => by rw [h.1]; exact h.2.2
  but := fun _ _ _ h => h
  okk := fun _ h => h
theorem IsSl.isSl {v : Value} {n : Nat} (h : IsSl v n) : IsSl v n := h
theorem IsSl.ext {H H' : Hp} {v : Value} {n : Nat} (h : IsSl v n) (_ : Ext H H') : IsSl v n := h
theorem fdG_succ {n : Int} {d : Nat} {h l : Int} {ks : List (GT d)} {k : Nat} : fdG n (d + 1) (h, l, ks) k ↔ k ≠ 0 ∧ if ks.length = 0 then l = 0 ∧ 0 ≤ h ∧ h ≤ n - 1 else (h = -1 ∧ 1 ≤ l ∧ l ≤ (ks.length : Int)) ∧ ∀ z ∈ ks, fdG n d z (k - 1) := Iff.rfl
theorem dpG_succ {d : Nat} {h l : Int} {ks : List (GT d)} : dpG (d + 1) (h, l, ks) = mxL (ks.map (dpG d)) + 1 := rfl
theorem mx_take {d : Nat} (ks : List (GT d)) (i : Nat) : mxL ((ks.take i).map (dpG d)) ≤ szL d ks := mxL_le.2 fun a ha => by
  obtain ⟨z, hz, rfl⟩ := List.mem_map.1 ha
  exact Nat.le_trans (dpG_sz z) (szL_mem (List.mem_of_mem_take hz))
theorem gk_isl {W : World} {H : Hp} {d : Nat} {z : GT d} {ok : Nat → Prop} {a l : Int} {v : Value} (hK : (kG d).rd W H ok z [.int .i64 a, .int .i64 l, v]) : ∃ n, IsSl v n := by
  obtain ⟨a_, l_, v_, n_, e_, h_⟩ := kG_cells hK
  cases e_
  exact ⟨n_, h_⟩
/-- A gate that counts. -/
def vG (n : Int) (d : Nat) (z : GT d) : Prop := (1 ≤ n ∧ n ≤ 7) ∧ szG d z ≤ 60 ∧ dpG d z ≤ 12 ∧ fmG n d z
noncomputable instance (n : Int) (d : Nat) (z : GT d) : Decidable (vG n d z) := Classical.propDecidable _
end Go.Proofs.Yticobjbjejpomaa.VC

