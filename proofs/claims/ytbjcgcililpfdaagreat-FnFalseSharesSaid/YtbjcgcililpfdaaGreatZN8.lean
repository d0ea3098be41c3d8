/- Walks. -/
import Derived.Test.YtbjcgcililpfdaaGreatZN7
set_option linter.unusedVariables false
set_option linter.unusedSimpArgs false
namespace Go.Proofs.YtbjcgcililpfdaaGreat.VC
open Go Go.RowKit
variable {W : World} {H : Hp}

open VI (throughM)
theorem lexI_neg : ∀ l m : List Int, lexI m l = - lexI l m
  | [], [] => rfl
  | [], _ :: _ => rfl
  | _ :: _, [] => rfl
  | a :: l, b :: m => by
    simp only [lexI]
    rcases Int.lt_trichotomy a b with h | h | h
    · rw [if_neg (by omega), if_pos h, if_pos h]; rfl
    · subst h
      simp only [Int.lt_irrefl, gt_iff_lt, if_false]
      exact lexI_neg l m
    · rw [if_pos h, if_neg (by omega), if_pos h]
theorem lexI_self : ∀ l : List Int, lexI l l = 0
  | [] => rfl
  | a :: l => by simp [lexI, lexI_self l]
theorem lexI_eq : ∀ {l m : List Int}, lexI l m = 0 → l = m
  | [], [], _ => rfl
  | [], _ :: _, h => by simp [lexI] at h
  | _ :: _, [], h => by simp [lexI] at h
  | a :: l, b :: m, h => by
    simp only [lexI] at h
    rcases Int.lt_trichotomy a b with g | g | g
    · rw [if_pos g] at h; omega
    · subst g
      simp only [Int.lt_irrefl, gt_iff_lt, if_false] at h
      rw [lexI_eq h]
    · rw [if_neg (by omega), if_pos g] at h; omega
theorem lexI_trans : ∀ {x y z : List Int}, lexI x y < 0 → lexI y z < 0 → lexI x z < 0
  | [], [], _, h, _ => by simp [lexI] at h
  | [], b :: y, [], _, h => by simp [lexI] at h
  | [], _ :: _, _ :: _, _, _ => by simp [lexI]
  | _ :: _, [], _, h, _ => by simp [lexI] at h
  | _ :: _, _ :: _, [], _, h => by simp [lexI] at h
  | a :: x, b :: y, c :: z, h, k => by
    simp only [lexI] at h k ⊢
    rcases Int.lt_trichotomy a b with g | g | g
    · rcases Int.lt_trichotomy b c with f | f | f
      · rw [if_pos (by omega)]; omega
      · rw [if_pos (by omega)]; omega
      · rw [if_neg (by omega), if_pos f] at k; omega
    · subst g
      simp only [Int.lt_irrefl, gt_iff_lt, if_false] at h
      rcases Int.lt_trichotomy a c with f | f | f
      · rw [if_pos f]; omega
      · subst f
        simp only [Int.lt_irrefl, gt_iff_lt, if_false] at k ⊢
        exact lexI_trans h k
      · rw [if_neg (by omega), if_pos f] at k; omega
    · rw [if_neg (by omega), if_pos g] at h; omega
theorem sorted_ext {α : Type} {R : α → α → Prop} (asym : ∀ x y, R x y → ¬ R y x) : ∀ {l m : List α}, l.Pairwise R → m.Pairwise R → (∀ x, x ∈ l ↔ x ∈ m) → l = m
  | [], [], _, _, _ => rfl
  | [], b :: m, _, _, h => absurd ((h b).2 List.mem_cons_self) (by simp)
  | a :: l, [], _, _, h => absurd ((h a).1 List.mem_cons_self) (by simp)
  | a :: l, b :: m, hl, hm, h => by
    rw [List.pairwise_cons] at hl hm
    have e : a = b := by
      rcases List.mem_cons.1 ((h a).1 List.mem_cons_self) with e | ha
      · exact e
      · rcases List.mem_cons.1 ((h b).2 List.mem_cons_self) with e | hb
        · exact e.symm
        · exact absurd (hl.1 b hb) (asym _ _ (hm.1 a ha))
    subst e
    rw [sorted_ext asym hl.2 hm.2 (fun x => ?_)]
    constructor
    · intro hx
      rcases List.mem_cons.1 ((h x).1 (List.mem_cons_of_mem _ hx)) with e | hx'
      · subst e; exact absurd (hl.1 _ hx) (asym _ _ (hl.1 _ hx))
      · exact hx'
    · intro hx
      rcases List.mem_cons.1 ((h x).2 (List.mem_cons_of_mem _ hx)) with e | hx'
      · subst e; exact absurd (hm.1 _ hx) (asym _ _ (hm.1 _ hx))
      · exact hx'
/-! ### What a search finds: a list in strict order, and what is in it -/
theorem lessC_irr (a : List Int) : ¬ lessC a a := fun h => h.elim (fun q => by omega) (fun q => by have := lexI_self a; have := q.2; omega)
theorem lessC_trans {a b c : List Int} (h : lessC a b) (k : lessC b c) : lessC a c := by
  rcases h with h | ⟨h, h2⟩
  · rcases k with k | ⟨k, _⟩
    · exact .inl (by omega)
    · exact .inl (by omega)
  · rcases k with k | ⟨k, k2⟩
    · exact .inl (by omega)
    · exact .inr ⟨by omega, lexI_trans h2 k2⟩
theorem lessC_tot {a b : List Int} (h : ¬ lessC a b) (hn : a ≠ b) : lessC b a := by
  by_cases h1 : a.length = b.length
  · refine .inr ⟨h1.symm, ?_⟩
    have q : ¬ lexI a b < 0 := fun e => h (.inr ⟨h1, e⟩)
    have q2 : lexI a b ≠ 0 := fun e => hn (lexI_eq e)
    have := lexI_neg a b
    omega
  · have : ¬ a.length < b.length := fun e => h (.inl e)
    exact .inl (by omega)
theorem mem_insC {c y : List Int} : ∀ {o : List (List Int)}, y ∈ insC c o ↔ y = c ∨ y ∈ o
  | [] => by simp [insC]
  | x :: t => by
    unfold insC
    split
    · rw [List.mem_cons, mem_insC, List.mem_cons]
      constructor
      · rintro (h | h | h)
        · exact .inr (.inl h)
        · exact .inl h
        · exact .inr (.inr h)
      · rintro (h | h | h)
        · exact .inr (.inl h)
        · exact .inl h
        · exact .inr (.inr h)
    · split
      · rename_i h1 h2
        rw [List.mem_cons]
        constructor
        · exact fun h => .inr h
        · rintro (h | h)
          · exact .inl (h.trans h2.symm)
          · exact h
      · rw [List.mem_cons]
theorem insC_pw {c : List Int} : ∀ {o : List (List Int)}, o.Pairwise lessC → (insC c o).Pairwise lessC
  | [], _ => by unfold insC; exact List.pairwise_singleton _ _
  | x :: t, h => by
    obtain ⟨h1, h2⟩ := List.pairwise_cons.1 h
    unfold insC
    split
    · rename_i hx
      refine List.pairwise_cons.2 ⟨fun y hy => ?_, insC_pw h2⟩
      rcases mem_insC.1 hy with rfl | hy
      · exact hx
      · exact h1 y hy
    · split
      · exact h
      · rename_i hx hn
        have hc := lessC_tot hx hn
        refine List.pairwise_cons.2 ⟨fun y hy => ?_, h⟩
        rcases List.mem_cons.1 hy with rfl | hy
        · exact hc
        · exact lessC_trans hc (h1 y hy)
theorem wkL_inv {σ ο : Type} {T : List σ → ο → ο} {m : Nat} {P : ο → Prop} (hT : ∀ ch o, P o → P (T ch o)) : ∀ (t ch : List σ) (o : ο), P o → P (wkL T m t ch o)
  | [], _, _, h => h
  | s :: t, ch, o, h => by
    unfold wkL
    refine wkL_inv hT t ch _ ?_
    split
    · exact hT _ _ h
    · exact wkL_inv hT t _ _ h
theorem wkL_mem {σ γ : Type} {T : List σ → List γ → List γ} {m : Nat} {good : γ → List σ → Prop} (hT : ∀ ch o c, c ∈ T ch o ↔ c ∈ o ∨ good c ch) : ∀ (t ch : List σ) (o : List γ) (c : γ), c ∈ wkL T m t ch o ↔ c ∈ o ∨ ∃ U, U.Sublist t ∧ U ≠ [] ∧ (ch ++ U).length = m ∧ good c (ch ++ U)
  | [], ch, o, c => by
    unfold wkL
    exact ⟨fun h => .inl h, fun h => h.elim id (fun ⟨U, h1, h2, _⟩ => absurd (List.sublist_nil.1 h1) h2)⟩
  | s :: t, ch, o, c => by
    unfold wkL
    rw [wkL_mem hT t ch]
    have hin : c ∈ (if (ch ++ [s]).length = m then T (ch ++ [s]) o else wkL T m t (ch ++ [s]) o) ↔ c ∈ o ∨ ∃ U, U.Sublist t ∧ (ch ++ s :: U).length = m ∧ good c (ch ++ s :: U) := by
      split
      · rename_i h
        rw [hT]
        constructor
        · rintro (q | q)
          · exact .inl q
          · exact .inr ⟨[], List.nil_sublist _, h, q⟩
        · rintro (q | ⟨U, h1, h2, h3⟩)
          · exact .inl q
          · have e : U = [] := List.eq_nil_of_length_eq_zero (by simp only [List.length_append, List.length_cons, List.length_nil] at h h2; omega)
            rw [e] at h3
            exact .inr h3
      · rename_i h
        rw [wkL_mem hT t (ch ++ [s])]
        constructor
        · rintro (q | ⟨U, h1, _, h2, h3⟩)
          · exact .inl q
          · rw [List.append_assoc, List.singleton_append] at h2 h3
            exact .inr ⟨U, h1, h2, h3⟩
        · rintro (q | ⟨U, h1, h2, h3⟩)
          · exact .inl q
          · refine .inr ⟨U, h1, fun e => h (by rw [e] at h2; exact h2), ?_, ?_⟩
            · rw [List.append_assoc, List.singleton_append]; exact h2
            · rw [List.append_assoc, List.singleton_append]; exact h3
    rw [hin]
    constructor
    · rintro ((q | ⟨U, h1, h2, h3⟩) | ⟨U, h1, h2, h3, h4⟩)
      · exact .inl q
      · exact .inr ⟨s :: U, h1.cons_cons s, by simp, h2, h3⟩
      · exact .inr ⟨U, h1.cons s, h2, h3, h4⟩
    · rintro (q | ⟨U, h1, h2, h3, h4⟩)
      · exact .inl (.inl q)
      · cases h1 with
        | cons _ h1 => exact .inr ⟨U, h1, h2, h3, h4⟩
        | cons_cons _ h1 => exact .inl (.inr ⟨_, h1, h3, h4⟩)
/-- The curves that are near. -/
def isNear (p : Int) (l : List (Int × Int)) (ag : Int) (m : Nat) (c : List Int) : Prop := ∃ U, U.Sublist l ∧ U.length = m ∧ c = thrC p U ∧ nearC p l ag c
def NearL (p : Int) (l : List (Int × Int)) (ag : Int) (m : Nat) (k : List (List Int)) : Prop := k.Pairwise lessC ∧ ∀ c, c ∈ k ↔ isNear p l ag m c
theorem wk_near {p : Int} {l : List (Int × Int)} {ag : Int} {m : Nat} (hm : 0 < m) : NearL p l ag m (wk (tryC p l ag) m l [] []) := by
  have e : wk (tryC p l ag) m l [] [] = wkL (tryC p l ag) m l [] [] := by unfold wk; rw [if_neg (by simp only [List.length_nil]; omega)]
  rw [e]
  refine ⟨wkL_inv (P := fun o : List (List Int) => o.Pairwise lessC) (fun ch o h => by unfold tryC; split; exact insC_pw h; exact h) _ _ _ List.Pairwise.nil, fun c => ?_⟩
  rw [wkL_mem (good := fun c ch => c = thrC p ch ∧ nearC p l ag c) (fun ch o c => by
    unfold tryC
    split
    · rename_i h
      rw [mem_insC]
      constructor
      · rintro (q | q)
        · exact .inr ⟨q, q ▸ h⟩
        · exact .inl q
      · rintro (q | q)
        · exact .inr q
        · exact .inl q.1
    · rename_i h
      exact ⟨fun q => .inl q, fun q => q.elim id (fun q => absurd (q.1 ▸ q.2) h)⟩)]
  constructor
  · rintro (q | ⟨U, h1, _, h2, h3, h4⟩)
    · cases q
    · exact ⟨U, h1, h2, h3, h4⟩
  · rintro ⟨U, h1, h2, h3, h4⟩
    exact .inr ⟨U, h1, fun e => by rw [e] at h2; simp at h2; omega, h2, h3, h4⟩
theorem near_eq {p : Int} {l : List (Int × Int)} {ag : Int} {m : Nat} {a b : List (List Int)} (ha : NearL p l ag m a) (hb : NearL p l ag m b) : a = b :=
  sorted_ext (fun x y h k => lessC_irr x (lessC_trans h k)) ha.1 hb.1 (fun c => (ha.2 c).trans (hb.2 c).symm)
end Go.Proofs.YtbjcgcililpfdaaGreat.VC

