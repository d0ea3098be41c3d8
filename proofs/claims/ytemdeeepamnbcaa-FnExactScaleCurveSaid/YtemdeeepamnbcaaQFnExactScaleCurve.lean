/- Lemmas on what the printed functions compute. -/
import Derived.Test.YtemdeeepamnbcaaM
import Derived.Test.YtemdeeepamnbcaaPFnExactScaleCurvex0
import Derived.Test.YtemdeeepamnbcaaPFnExactScaleCurvex1
import Derived.Test.YtemdeeepamnbcaaPFnExactScaleCurvex2
import Derived.Test.YtemdeeepamnbcaaPFnExactScaleCurvex3
import Derived.Test.YtemdeeepamnbcaaPFnExactScaleCurvex4
set_option linter.unusedVariables false
set_option linter.unusedSimpArgs false
set_option maxRecDepth 100000
namespace Go.Proofs.Ytemdeeepamnbcaa.PFnExactScaleCurve
open Go.RowKit Go.Proofs.YtemdeeepamnbcaaW.PrintWords Go.Proofs.YtemdeeepamnbcaaW.PrintLast Go.Proofs.Ytemdeeepamnbcaa.M

-- laws_toInt64S
theorem laws_toInt64S.ev_l (l : List Int) (hl : l.length ≤ 35184372088832) : ∀ (d i : Nat) (m : List Int), i + d = l.length → m.length = l.length → m.take i = l.take i → Ev (fun k => laws_toInt64S.l0 k l m (i : Int)) l := by
  intro d
  induction d with
  | zero =>
    intro i m hi hm ht
    refine Ev.succ ?_
    simp only [laws_toInt64S.l0]
    have : m = l := by rwa [List.take_of_length_le (by omega), List.take_of_length_le (by omega)] at ht
    rw [this]
    exact Ev.neg (by omega) (Ev.now _)
  | succ d ih =>
    intro i m hi hm ht
    refine Ev.succ ?_
    simp only [laws_toInt64S.l0]
    refine Ev.pos (by omega) (Ev.pos (by omega) (Ev.pos (by omega) ?_))
    have hlt : i < l.length := by omega
    rw [rd_get l i hlt, w64 (n := (i : Int) + 1) (by omega) (by omega)]
    refine ih (i + 1) _ (by omega) (by simpa using hm) ?_
    rw [Int.toNat_natCast, List.take_succ_eq_append_getElem hlt, List.take_succ_eq_append_getElem (by simpa [hm] using hlt), ← ht]
    rw [List.take_set_of_le (by omega), List.getElem_set_self]
theorem laws_toInt64S.ev (l : List Int) (hl : l.length ≤ 35184372088832) : Ev (fun k => laws_toInt64S.f k l) l := by
  unfold laws_toInt64S.f
  refine Ev.pos (by omega) (Ev.pos (by omega) ?_)
  exact laws_toInt64S.ev_l l hl l.length 0 _ (by omega) (by simp) (by simp)

-- laws_eqInt64S
theorem laws_eqInt64S.ev_l (a b : List Int) (hl : a.length ≤ 35184372088832) (he : a.length = b.length) : ∀ (d i : Nat), i + d = a.length → Ev (fun k => laws_eqInt64S.l0 k a b (i : Int)) (decide (a.drop i = b.drop i)) := by
  intro d
  induction d with
  | zero =>
    intro i hi
    refine Ev.succ ?_
    simp only [laws_eqInt64S.l0]
    rw [List.drop_of_length_le (by omega), List.drop_of_length_le (by omega)]
    exact Ev.neg (by omega) (Ev.now _)
  | succ d ih =>
    intro i hi
    refine Ev.succ ?_
    simp only [laws_eqInt64S.l0]
    have ha : i < a.length := by omega
    have hb : i < b.length := by omega
    refine Ev.pos (by omega) (Ev.pos (by omega) (Ev.pos (by omega) ?_))
    rw [rd_get a i ha, rd_get b i hb, w64 (n := (i : Int) + 1) (by omega) (by omega), List.drop_eq_getElem_cons ha, List.drop_eq_getElem_cons hb]
    by_cases hx : a[i] = b[i]
    · refine Ev.pos hx (Ev.eq (ih (i + 1) (by omega)) ?_)
      simp only [hx, List.cons.injEq, true_and]
    · refine Ev.neg hx (Ev.eq (Ev.now _) ?_)
      exact (decide_eq_false (fun e => hx (List.cons.inj e).1)).symm
theorem laws_eqInt64S.ev (a b : List Int) (hl : a.length ≤ 35184372088832) : Ev (fun k => laws_eqInt64S.f k a b) (decide (a = b)) := by
  unfold laws_eqInt64S.f
  by_cases he : a.length = b.length
  · refine Ev.pos (by omega) ?_
    have := laws_eqInt64S.ev_l a b hl he a.length 0 (by omega)
    simpa using this
  · refine Ev.neg (by omega) ?_
    rw [decide_eq_false (fun e => he (by rw [e]))]
    exact Ev.now _

-- laws_markInt64S
theorem laws_markInt64S.ev_l (n : Nat) (v : Int) (hn : n ≤ 35184372088832) (h0 : 0 ≤ v) (h1 : v ≤ 4611686018427387904) : ∀ (d i : Nat) (m : List Int), i + d = n → m.length = n → m.take i = (marks v n).take i → Ev (fun k => laws_markInt64S.l0 k m (v + (i : Int)) (i : Int)) (v + (n : Int), marks v n) := by
  intro d
  induction d with
  | zero =>
    intro i m hi hm ht
    refine Ev.succ ?_
    simp only [laws_markInt64S.l0]
    rw [take_all (L := marks v n) (by rw [marks_length]; omega) (by rw [marks_length]; exact hm) ht]
    have : i = n := by omega
    subst this
    exact Ev.neg (by rw [marks_length]; omega) (Ev.now _)
  | succ d ih =>
    intro i m hi hm ht
    have hlt : i < m.length := by omega
    refine Ev.succ ?_
    simp only [laws_markInt64S.l0]
    rw [w64 (n := (i : Int) + 1) (by omega) (by omega), w64 (n := v + (i : Int) + 1) (by omega) (by omega)]
    refine Ev.pos (by omega) (Ev.pos (by omega) ?_)
    have hL : i < (marks v n).length := by rw [marks_length]; omega
    have := take_set (m := m) (L := marks v n) hL (by rw [marks_length]; exact hm) ht
    rw [marks_get] at this
    have e : v + (i : Int) + 1 = v + ((i + 1 : Nat) : Int) := by omega
    rw [e]
    exact ih (i + 1) _ (by omega) (by simpa using hm) this
theorem laws_markInt64S.ev (l : List Int) (v : Int) (hn : l.length ≤ 35184372088832) (h0 : 0 ≤ v) (h1 : v ≤ 4611686018427387904) : Ev (fun k => laws_markInt64S.f k l v) (v + (l.length : Int), marks v l.length) := by
  unfold laws_markInt64S.f
  have := laws_markInt64S.ev_l l.length v hn h0 h1 l.length 0 l (by omega) rfl (by simp)
  simpa using this

-- laws_heldInt64S
theorem laws_heldInt64S.ev_l (n : Nat) (v : Int) (hn : n ≤ 35184372088832) (h0 : 0 ≤ v) (h1 : v ≤ 4611686018427387904) : ∀ (d i : Nat), i + d = n → Ev (fun k => laws_heldInt64S.l0 k (marks v n) (v + (i : Int)) (i : Int)) (v + (n : Int)) := by
  intro d
  induction d with
  | zero =>
    intro i hi
    refine Ev.succ ?_
    simp only [laws_heldInt64S.l0]
    have : i = n := by omega
    subst this
    exact Ev.neg (by rw [marks_length]; omega) (Ev.now _)
  | succ d ih =>
    intro i hi
    refine Ev.succ ?_
    simp only [laws_heldInt64S.l0]
    have hL : i < (marks v n).length := by rw [marks_length]; omega
    rw [w64 (n := (i : Int) + 1) (by omega) (by omega), w64 (n := v + (i : Int) + 1) (by omega) (by omega), rd_get _ i hL, marks_get]
    refine Ev.pos (by rw [marks_length]; omega) (Ev.pos (by omega) (Ev.pos rfl ?_))
    have e : v + (i : Int) + 1 = v + ((i + 1 : Nat) : Int) := by omega
    rw [e]
    exact ih (i + 1) (by omega)
theorem laws_heldInt64S.ev (n : Nat) (v : Int) (hn : n ≤ 35184372088832) (h0 : 0 ≤ v) (h1 : v ≤ 4611686018427387904) : Ev (fun k => laws_heldInt64S.f k (marks v n) v) (v + (n : Int)) := by
  unfold laws_heldInt64S.f
  have := laws_heldInt64S.ev_l n v hn h0 h1 n 0 (by omega)
  simpa using this

-- spec_l00In
theorem spec_l00In.eq (a b c : Int) : spec_l00In.f a b c = some (decide (b ≤ a ∧ a ≤ c)) := by
  unfold spec_l00In.f
  by_cases h : a ≥ b
  · have : b ≤ a := h
    simp [h, this]
  · have : ¬ b ≤ a := h
    simp [this]

-- spec_l05Prime
theorem spec_l05Prime.small : ∀ n : Fin 32, 2 ≤ n.val → spec_l05Prime.f 40 (n.val : Int) = some (isPr (n.val : Int)) := by decide +kernel
theorem spec_l05Prime.ev (p : Int) : Ev (fun k => spec_l05Prime.f k p) (isPr p) := by
  by_cases h : 2 ≤ p ∧ p ≤ 31
  · obtain ⟨n, rfl⟩ : ∃ n : Nat, p = n := ⟨p.toNat, by omega⟩
    exact Ev.of (fun k => spec_l05Prime.mono _ k) (spec_l05Prime.small ⟨n, by omega⟩ (by simp only; omega))
  · have e : isPr p = false := by
      rcases (show p < 2 ∨ 2 ≤ p by omega) with h1 | h1
      · exact isPr_small h1
      · exact isPr_big (by omega)
    rw [e]
    refine Ev.congr (f := fun _ => some false) (fun k => ?_) (Ev.now _)
    unfold spec_l05Prime.f
    rw [spec_l00In.eq, decide_eq_false h]
    rfl

-- spec_l05Residues
theorem spec_l05Residues.ev_l (p : Int) (hp : -9223372036854775807 ≤ p) (hp' : p ≤ 9223372036854775807) (l : List Int) (hl : l.length ≤ 9223372036854775806) : ∀ (d i : Nat), i + d = l.length → Ev (fun k => spec_l05Residues.l0 k p l (i : Int)) (allR p (l.drop i)) := by
  intro d
  induction d with
  | zero =>
    intro i hi
    refine Ev.succ ?_
    simp only [spec_l05Residues.l0]
    rw [List.drop_of_length_le (by omega)]
    exact Ev.neg (by omega) (Ev.now _)
  | succ d ih =>
    intro i hi
    refine Ev.succ ?_
    simp only [spec_l05Residues.l0, spec_l00In.eq, Option.bind_some]
    refine Ev.pos (by omega) (Ev.pos (by omega) ?_)
    have hlt : i < l.length := by omega
    rw [rd_get l i hlt, w64 (n := p - 1) (by omega) (by omega), w64 (n := (i : Int) + 1) (by omega) (by omega), List.drop_eq_getElem_cons hlt]
    simp only [allR, List.all_cons]
    have hin : inR p l[i] = decide (0 ≤ l[i] ∧ l[i] ≤ p - 1) := rfl
    rw [hin]
    by_cases hx : 0 ≤ l[i] ∧ l[i] ≤ p - 1
    · rw [decide_eq_true hx]
      refine Ev.pos rfl ?_
      rw [Bool.true_and]
      exact ih (i + 1) (by omega)
    · rw [decide_eq_false hx]
      exact Ev.neg (by decide) (Ev.now _)
theorem spec_l05Residues.ev (p : Int) (hp : -9223372036854775807 ≤ p) (hp' : p ≤ 9223372036854775807) (l : List Int) (hl : l.length ≤ 9223372036854775806) : Ev (fun k => spec_l05Residues.f k p l) (allR p l) := by
  have := spec_l05Residues.ev_l p hp hp' l hl l.length 0 (by omega)
  simpa [spec_l05Residues.f] using this

-- spec_l05Curve
theorem spec_l05Curve.ev (p : Int) (hp : -9223372036854775807 ≤ p) (hp' : p ≤ 9223372036854775807) (l : List Int) (hl : l.length ≤ 35184372088832) : Ev (fun k => spec_l05Curve.f k p l) (decide (l.length ≤ 7) && (allR p l && lastNZ l)) := by
  unfold spec_l05Curve.f
  by_cases h7 : l.length ≤ 7
  · refine Ev.pos (by omega) (Ev.bind (spec_l05Residues.ev p hp hp' l (by omega)) ?_)
    rw [decide_eq_true h7, Bool.true_and]
    cases hr : allR p l with
    | false => exact Ev.neg Bool.false_ne_true (Ev.now _)
    | true =>
      refine Ev.pos rfl ?_
      rw [Bool.true_and]
      by_cases h0 : l.length = 0
      · refine Ev.pos (by omega) ?_
        have : l = [] := List.length_eq_zero_iff.1 h0
        subst this
        exact Ev.now _
      · refine Ev.neg (by omega) ?_
        rw [w64 (by omega) (by omega)]
        refine Ev.pos (by omega) (Ev.pos (by omega) ?_)
        rw [lastNZ_rd h0]
        exact Ev.now _
  · refine Ev.neg (by omega) ?_
    rw [decide_eq_false h7]
    exact Ev.now _

-- spec_ValidCurve
theorem spec_ValidCurve.ev (p : Int) (l : List Int) (hl : l.length ≤ 35184372088832) : Ev (fun k => spec_ValidCurve.f k p l) (isCurve p l) := by
  unfold spec_ValidCurve.f isCurve
  refine Ev.bind (spec_l05Prime.ev p) ?_
  cases h : isPr p with
  | false => exact Ev.neg Bool.false_ne_true (Ev.now _)
  | true =>
    have := isPr_bd h
    refine Ev.pos rfl (Ev.bind (spec_l05Curve.ev p (by omega) (by omega) l hl) ?_)
    exact Ev.now _

-- spec_l00Own
theorem spec_l00Own.eq (l : List Int) (hl : l.length < 17592186044416) : spec_l00Own.f l = some l := by
  unfold spec_l00Own.f
  rw [Option.bind_some, if_pos (by simpa using hl), List.nil_append]

-- spec_l05Cut
theorem spec_l05Cut.ev_l (l : List Int) (hl : l.length ≤ 8796093022208) : ∀ (n : Nat), n ≤ l.length → Ev (fun k => spec_l05Cut.l0 k l (n : Int)) (cutTo l n) := by
  intro n
  induction n with
  | zero =>
    intro hn
    refine Ev.succ ?_
    simp only [spec_l05Cut.l0]
    refine Ev.neg (by omega) (Ev.pos (by omega) (Ev.pos (by omega) (Ev.bindc (spec_l00Own.eq _ (by simp)) (Ev.eq (Ev.now _) ?_))))
    simp [cutTo]
  | succ n ih =>
    intro hn
    have hlt : n < l.length := by omega
    have e : ((n + 1 : Nat) : Int) - 1 = (n : Int) := by omega
    refine Ev.succ ?_
    simp only [spec_l05Cut.l0]
    rw [w64 (n := ((n + 1 : Nat) : Int) - 1) (by omega) (by omega), e, rd_get l n hlt]
    refine Ev.pos (by omega) (Ev.pos (by omega) (Ev.pos (by omega) ?_))
    unfold cutTo
    rw [getD_get l n 0 hlt]
    by_cases h : l[n] = 0
    · rw [if_pos h]
      exact Ev.pos h (ih (by omega))
    · rw [if_neg h]
      refine Ev.neg h (Ev.pos (by omega) (Ev.pos (by omega) (Ev.bindc (spec_l00Own.eq _ (by simp; omega)) (Ev.eq (Ev.now _) ?_))))
      rfl
theorem spec_l05Cut.ev (l : List Int) (hl : l.length ≤ 8796093022208) : Ev (fun k => spec_l05Cut.f k l) (stripM l) := by
  unfold spec_l05Cut.f
  exact spec_l05Cut.ev_l l hl l.length (Nat.le_refl _)

-- spec_l05Sum
theorem spec_l05Sum.ev_l (p t : Int) (hp : 0 < p) (hp' : p ≤ 31) (ht : 0 ≤ t ∧ t < p) (a b : List Int) (ha : allR p a = true) (hb : allR p b = true) (hla : a.length ≤ 100) (hlb : b.length ≤ 100) :
    ∀ (d i : Nat) (o : List Int), i + d = b.length → o.length = max a.length i → (∀ j, o.getD j 0 = if j < i then addAt p t a b j else a.getD j 0) → Ev (fun k => spec_l05Sum.l0 k p b t o (i : Int)) (stripM (addC p t a b)) := by
  intro d
  induction d with
  | zero =>
    intro i o hi ho hv
    have e : o = addC p t a b := by
      apply List.ext_getElem
      · rw [addC_length]; omega
      · intro j h1 h2
        have := hv j
        rw [getD_get o j 0 h1] at this
        rw [this, addC_get]
        split
        · rfl
        · rename_i h
          have := allR_getD hp ha j
          unfold addAt
          rw [getD_end b j 0 (by omega), Int.zero_mul, Int.add_zero, Int.emod_eq_of_lt this.1 this.2]
    refine Ev.succ ?_
    simp only [spec_l05Sum.l0]
    rw [e]
    exact Ev.neg (by omega) (Ev.bind (spec_l05Cut.ev _ (by rw [addC_length]; omega)) (Ev.now _))
  | succ d ih =>
    intro i o hi ho hv
    have hlt : i < b.length := by omega
    have r1 := allR_get hb i hlt
    have r2 := allR_getD hp ha i
    have m := mul_bd r1.1 (show _ ≤ 31 by omega) ht.1 (show t ≤ 31 by omega)
    refine Ev.succ ?_
    simp only [spec_l05Sum.l0, Option.bind_some]
    rw [rd_get b i hlt, w64 (n := (i : Int) + 1) (by omega) (by omega), w64 (n := b[i] * t) (by omega) (by omega)]
    refine Ev.pos (by omega) ?_
    have fin : ∀ o' : List Int, i < o'.length → o'.length = max a.length (i + 1) → (∀ j, o'.getD j 0 = o.getD j 0) → rd o' (i : Int) = a.getD i 0 ∧ Ev (fun k => spec_l05Sum.l0 k p b t (o'.set (i : Int).toNat ((a.getD i 0 + b[i] * t) % p)) ((i + 1 : Nat) : Int)) (stripM (addC p t a b)) := by
      intro o' h1 h2 h3
      refine ⟨?_, ih (i + 1) _ (by omega) (by simpa using h2) ?_⟩
      · rw [rd_nat, h3, hv]
        simp
      · intro j
        rw [Int.toNat_natCast]
        by_cases hj : j = i
        · subst hj
          rw [lset_eq _ _ _ _ h1, if_pos (by omega)]
          unfold addAt
          rw [getD_get b j 0 hlt]
        · rw [lset_ne _ _ _ _ _ (fun e => hj e.symm), h3, hv]
          by_cases h : j < i
          · rw [if_pos h, if_pos (by omega)]
          · rw [if_neg h, if_neg (by omega)]
    by_cases hio : i = o.length
    · have hz : ∀ j, (o ++ [0]).getD j 0 = o.getD j 0 := by
        intro j
        rcases Nat.lt_trichotomy j o.length with h | h | h
        · simp [List.getD_eq_getElem?_getD, List.getElem?_append_left h]
        · subst h; simp
        · rw [getD_end _ _ _ (by simp; omega), getD_end _ _ _ (by omega)]
      obtain ⟨f1, f2⟩ := fin (o ++ [0]) (by simp; omega) (by simp; omega) hz
      refine Ev.pos (by omega) (Ev.pos (by omega) (Ev.pos (by omega) (Ev.pos (by simp; omega) (Ev.neg (by omega) ?_))))
      rw [f1, w64 (n := a.getD i 0 + b[i] * t) (by omega) (by omega), tmod_of (by omega)]
      exact f2
    · obtain ⟨f1, f2⟩ := fin o (by omega) (by omega) (fun _ => rfl)
      refine Ev.neg (by omega) (Ev.pos (by omega) (Ev.pos (by omega) (Ev.neg (by omega) ?_)))
      rw [f1, w64 (n := a.getD i 0 + b[i] * t) (by omega) (by omega), tmod_of (by omega)]
      exact f2
theorem spec_l05Sum.ev (p t : Int) (hp : 0 < p) (hp' : p ≤ 31) (ht : 0 ≤ t ∧ t < p) (a b : List Int) (ha : allR p a = true) (hb : allR p b = true) (hla : a.length ≤ 100) (hlb : b.length ≤ 100) : Ev (fun k => spec_l05Sum.f k p a b t) (stripM (addC p t a b)) := by
  unfold spec_l05Sum.f
  refine Ev.bindc (spec_l00Own.eq a (by omega)) ?_
  exact spec_l05Sum.ev_l p t hp hp' ht a b ha hb hla hlb b.length 0 a (by omega) (by omega) (fun j => by simp)

-- spec_ScaleCurve
def scaleM (p : Int) (a : List Int) (t : Int) : List Int × Int := if isCurve p a = true then (if 0 ≤ t ∧ t ≤ p - 1 then (stripM (addC p t [] a), 0) else ([], 2)) else ([], 1)
theorem scaleM_len (p : Int) (a : List Int) (t : Int) : (scaleM p a t).1.length ≤ 10 := by
  unfold scaleM
  split
  · rename_i h
    have h1 := (isCurve_of h).2.1
    have := stripM_le (addC p t [] a)
    rw [addC_length] at this
    split
    · simp only [List.length_nil] at this ⊢
      omega
    · simp
  · simp
theorem spec_ScaleCurve.ev (p : Int) (a : List Int) (t : Int) (ha : a.length ≤ 35184372088832) : Ev (fun k => spec_ScaleCurve.f k p a t) (scaleM p a t) := by
  unfold spec_ScaleCurve.f scaleM
  refine Ev.bind (spec_ValidCurve.ev p a ha) ?_
  by_cases h1 : isCurve p a = true
  · obtain ⟨g1, g2, g3, _⟩ := isCurve_of h1
    have hp := isPr_bd g1
    rw [if_pos h1]
    refine Ev.pos h1 (Ev.bindc (spec_l00In.eq _ _ _) ?_)
    rw [w64 (n := p - 1) (by omega) (by omega)]
    by_cases hx : 0 ≤ t ∧ t ≤ p - 1
    · rw [if_pos hx]
      exact Ev.pos (decide_eq_true hx) (Ev.bind (spec_l05Sum.ev p t (by omega) (by omega) (by omega) [] a rfl g3 (by simp) (by omega)) (Ev.now _))
    · rw [if_neg hx]
      exact Ev.neg (by rw [decide_eq_false hx]; exact Bool.false_ne_true) (Ev.now _)
  · rw [if_neg h1]
    exact Ev.neg h1 (Ev.now _)

-- impl_within
theorem impl_within.eq (a b c : Int) : impl_within.f a b c = some (decide (b ≤ a ∧ a ≤ c)) := by
  unfold impl_within.f
  by_cases h : a ≥ b
  · have : b ≤ a := h
    simp [h, this]
  · have : ¬ b ≤ a := h
    simp [this]

-- impl_IsPrime
theorem impl_IsPrime.small : ∀ n : Fin 32, 2 ≤ n.val → impl_IsPrime.f 40 (n.val : Int) = some (isPr (n.val : Int)) := by decide +kernel
theorem impl_IsPrime.ev (p : Int) : Ev (fun k => impl_IsPrime.f k p) (isPr p) := by
  by_cases h : 2 ≤ p ∧ p ≤ 31
  · obtain ⟨n, rfl⟩ : ∃ n : Nat, p = n := ⟨p.toNat, by omega⟩
    exact Ev.of (fun k => impl_IsPrime.mono _ k) (impl_IsPrime.small ⟨n, by omega⟩ (by simp only; omega))
  · have hw : impl_within.f p 2 31 = some false := by rw [impl_within.eq, decide_eq_false h]
    rcases (show p < 2 ∨ 2 ≤ p by omega) with h1 | h1
    · rw [isPr_small h1]
      refine Ev.congr (fun k => by unfold impl_IsPrime.f; rfl) (Ev.succ ?_)
      simp only [impl_IsPrime.l0]
      refine Ev.neg (by rw [w64 (by omega) (by omega)]; omega) (Ev.succ ?_)
      simp only [impl_IsPrime.j1, hw]
      exact ⟨0, fun k _ => rfl⟩
    · rw [isPr_big (by omega)]
      refine Ev.congr (fun k => by unfold impl_IsPrime.f; rfl) (Ev.succ ?_)
      simp only [impl_IsPrime.l0]
      have hd : decide (p ≤ 31) = false := decide_eq_false (by omega)
      rw [hd]
      refine Ev.pos (by rw [w64 (by omega) (by omega)]; omega) (Ev.succ ?_)
      simp only [impl_IsPrime.j1, hw]
      exact ⟨0, fun k _ => rfl⟩

-- impl_areElements_1
theorem impl_areElements_1.eq (x p : Int) (hp : -9223372036854775807 ≤ p) (hp' : p ≤ 9223372036854775807) : impl_areElements_1.f x [p] = some (!inR p x) := by
  unfold impl_areElements_1.f
  have e : rd [p] 0 = p := rfl
  rw [e, w64 (n := p - 1) (by omega) (by omega), impl_within.eq]
  rfl

-- slices_IndexFunc_int64_int64_at_impl_areElements_1
theorem slices_IndexFunc_int64_int64_at_impl_areElements_1.ev_l (p : Int) (hp : -9223372036854775807 ≤ p) (hp' : p ≤ 9223372036854775807) (l : List Int) (hl : l.length ≤ 9223372036854775806) : ∀ (d i : Nat), i + d = l.length → Ev (fun k => slices_IndexFunc_int64_int64_at_impl_areElements_1.l0 k l (l.length : Int) (i : Int) [p]) (idxFrom (fun x => !inR p x) (l.drop i) (i : Int)) := by
  intro d
  induction d with
  | zero =>
    intro i hi
    refine Ev.succ ?_
    simp only [slices_IndexFunc_int64_int64_at_impl_areElements_1.l0]
    rw [List.drop_of_length_le (by omega)]
    exact Ev.neg (by omega) (Ev.now _)
  | succ d ih =>
    intro i hi
    refine Ev.succ ?_
    simp only [slices_IndexFunc_int64_int64_at_impl_areElements_1.l0]
    refine Ev.pos (by omega) (Ev.pos (by omega) (Ev.pos (by omega) ?_))
    have hlt : i < l.length := by omega
    rw [rd_get l i hlt, impl_areElements_1.eq _ p hp hp', w64 (n := (i : Int) + 1) (by omega) (by omega), List.drop_eq_getElem_cons hlt]
    simp only [Option.bind_some, idxFrom]
    by_cases hx : (!inR p l[i]) = true
    · refine Ev.pos hx ?_
      rw [if_pos hx]
      exact Ev.now _
    · refine Ev.neg hx ?_
      rw [if_neg hx]
      exact ih (i + 1) (by omega)

-- slices_ContainsFunc_int64_int64_at_impl_areElements_1
theorem slices_ContainsFunc_int64_int64_at_impl_areElements_1.ev (p : Int) (hp : -9223372036854775807 ≤ p) (hp' : p ≤ 9223372036854775807) (l : List Int) (hl : l.length ≤ 9223372036854775806) : Ev (fun k => slices_ContainsFunc_int64_int64_at_impl_areElements_1.f k l [p]) (!allR p l) := by
  unfold slices_ContainsFunc_int64_int64_at_impl_areElements_1.f slices_IndexFunc_int64_int64_at_impl_areElements_1.f
  refine Ev.bind (slices_IndexFunc_int64_int64_at_impl_areElements_1.ev_l p hp hp' l hl l.length 0 (by omega)) ?_
  refine Ev.eq (Ev.now _) ?_
  rw [idxFrom_any _ _ _ (by omega), List.drop_zero, not_allR]

-- impl_areElements
theorem impl_areElements.ev (p : Int) (l : List Int) (hl : l.length ≤ 9223372036854775806) : Ev (fun k => impl_areElements.f k p l) (isPr p && allR p l) := by
  unfold impl_areElements.f
  refine Ev.bind (impl_IsPrime.ev p) ?_
  cases h : isPr p with
  | false => exact Ev.neg Bool.false_ne_true (Ev.now _)
  | true =>
    have := isPr_bd h
    refine Ev.pos rfl ?_
    refine Ev.bind (slices_ContainsFunc_int64_int64_at_impl_areElements_1.ev p (by omega) (by omega) l hl) ?_
    refine Ev.eq (Ev.now _) ?_
    rw [Bool.not_not, Bool.true_and]

-- impl_ValidCurve
theorem impl_ValidCurve.ev (p : Int) (l : List Int) (hl : l.length ≤ 35184372088832) : Ev (fun k => impl_ValidCurve.f k p l) (isCurve p l) := by
  unfold impl_ValidCurve.f isCurve
  refine Ev.bind (impl_areElements.ev p l (by omega)) ?_
  cases h : isPr p with
  | false => exact Ev.neg Bool.false_ne_true (Ev.now _)
  | true =>
    rw [Bool.true_and, Bool.true_and]
    cases hr : allR p l with
    | false =>
      refine Ev.neg Bool.false_ne_true ?_
      rw [Bool.false_and, Bool.and_false]
      exact Ev.now _
    | true =>
      refine Ev.pos rfl ?_
      rw [Bool.true_and]
      by_cases h7 : l.length ≤ 7
      · rw [decide_eq_true h7, Bool.true_and]
        refine Ev.pos (by omega) ?_
        by_cases h0 : l.length = 0
        · refine Ev.pos (by omega) ?_
          have : l = [] := List.length_eq_zero_iff.1 h0
          subst this
          exact Ev.now _
        · refine Ev.neg (by omega) ?_
          rw [w64 (by omega) (by omega)]
          refine Ev.pos (by omega) (Ev.pos (by omega) ?_)
          rw [lastNZ_rd h0]
          exact Ev.now _
      · refine Ev.neg (by omega) ?_
        rw [decide_eq_false h7]
        exact Ev.now _

-- impl_stripped
theorem impl_stripped.ev_l (l : List Int) (hl : l.length ≤ 8796093022208) : ∀ (n : Nat), n ≤ l.length → Ev (fun k => impl_stripped.l0 k (l.take n)) (cutTo l n) := by
  intro n
  induction n with
  | zero =>
    intro hn
    refine Ev.succ ?_
    simp only [impl_stripped.l0]
    exact Ev.neg (by simp) (Ev.eq (Ev.now _) (by simp [cutTo]))
  | succ n ih =>
    intro hn
    have hlt : n < l.length := by omega
    have hlen : (l.take (n + 1)).length = n + 1 := by simp; omega
    have e : ((n + 1 : Nat) : Int) - 1 = (n : Int) := by omega
    have eg : (l.take (n + 1))[n]'(by omega) = l[n] := by simp
    refine Ev.succ ?_
    simp only [impl_stripped.l0]
    rw [hlen, w64 (n := ((n + 1 : Nat) : Int) - 1) (by omega) (by omega), e, rd_get _ n (by omega), eg]
    refine Ev.pos (by omega) (Ev.pos (by omega) (Ev.pos (by omega) ?_))
    unfold cutTo
    rw [getD_get l n 0 hlt]
    by_cases h : l[n] = 0
    · rw [if_pos h]
      refine Ev.pos h (Ev.pos (by omega) ?_)
      rw [Int.toNat_natCast, List.take_take, Nat.min_eq_left (by omega)]
      exact ih (by omega)
    · rw [if_neg h]
      exact Ev.neg h (Ev.now _)
theorem impl_stripped.ev (l : List Int) (hl : l.length ≤ 8796093022208) : Ev (fun k => impl_stripped.f k l) (stripM l) := by
  unfold impl_stripped.f
  have := impl_stripped.ev_l l hl l.length (Nat.le_refl _)
  rwa [List.take_length] at this

-- impl_scaled
theorem impl_scaled.ev_l (p t : Int) (hp : 0 < p) (hp' : p ≤ 31) (ht : 0 ≤ t ∧ t < p) (a : List Int) (ha : allR p a = true) (hla : a.length ≤ 100) :
    ∀ (d i : Nat) (y : List Int), i + d = a.length → y.length = a.length → y.take i = (addC p t [] a).take i → (∀ j, i ≤ j → y.getD j 0 = a.getD j 0) → Ev (fun k => impl_scaled.l0 k p y t (a.length : Int) (i : Int)) (addC p t [] a) := by
  intro d
  induction d with
  | zero =>
    intro i y hi hy ht h0
    refine Ev.succ ?_
    simp only [impl_scaled.l0]
    rw [take_all (L := addC p t [] a) (by rw [addC_length]; simp; omega) (by rw [addC_length]; simp; omega) ht]
    exact Ev.neg (by omega) (Ev.now _)
  | succ d ih =>
    intro i y hi hy htk h0
    have hlt : i < y.length := by omega
    have hL : i < (addC p t [] a).length := by rw [addC_length]; simp; omega
    have r1 := allR_getD hp ha i
    have m := mul_bd r1.1 (show _ ≤ 31 by omega) ht.1 (show t ≤ 31 by omega)
    have ey : rd y (i : Int) = a.getD i 0 := by rw [rd_nat]; exact h0 i (Nat.le_refl _)
    refine Ev.succ ?_
    simp only [impl_scaled.l0]
    rw [ey, w64 (n := (i : Int) + 1) (by omega) (by omega), w64 (n := a.getD i 0 * t) (by omega) (by omega), tmod_of m.1, Int.toNat_natCast]
    refine Ev.pos (by omega) (Ev.pos (by omega) (Ev.pos (by omega) (Ev.neg (by omega) ?_)))
    refine ih (i + 1) _ (by omega) (by simpa using hy) ?_ ?_
    · have := take_set (m := y) (L := addC p t [] a) hL (by rw [addC_length]; simp; omega) htk
      rw [addC_get] at this
      have e : addAt p t [] a i = a.getD i 0 * t % p := by unfold addAt; simp
      rw [e] at this
      exact this
    · intro j hj
      rw [lset_ne _ _ _ _ _ (by omega)]
      exact h0 j (by omega)
theorem impl_scaled.ev (p t : Int) (hp : 0 < p) (hp' : p ≤ 31) (ht : 0 ≤ t ∧ t < p) (a : List Int) (ha : allR p a = true) (hla : a.length ≤ 100) : Ev (fun k => impl_scaled.f k p a t) (addC p t [] a) := by
  unfold impl_scaled.f
  exact impl_scaled.ev_l p t hp hp' ht a ha hla a.length 0 a (by omega) rfl (by simp) (fun _ _ => rfl)

-- impl_ScaleCurve
theorem impl_areElements.tat (p x : Int) (hp : isPr p = true) : (isPr p && allR p [x]) = decide (0 ≤ x ∧ x ≤ p - 1) := by
  rw [hp]; simp only [allR, List.all_cons, List.all_nil, Bool.and_true, Bool.true_and]; rfl
theorem impl_ScaleCurve.ev (p : Int) (a : List Int) (t : Int) (ha : a.length ≤ 35184372088832) : Ev (fun k => impl_ScaleCurve.f k p a t) (scaleM p a t) := by
  unfold impl_ScaleCurve.f scaleM
  refine Ev.bind (impl_ValidCurve.ev p a ha) ?_
  by_cases h1 : isCurve p a = true
  · obtain ⟨g1, g2, g3, _⟩ := isCurve_of h1
    have hp := isPr_bd g1
    rw [if_pos h1]
    refine Ev.pos h1 (Ev.bind (impl_areElements.ev p [t] (by simp)) ?_)
    rw [impl_areElements.tat p t g1]
    by_cases hx : 0 ≤ t ∧ t ≤ p - 1
    · rw [if_pos hx]
      refine Ev.pos (decide_eq_true hx) (Ev.bindc (a := a) ?_ ?_)
      · unfold slices_Clone_int64_int64.f
        rw [if_pos (by omega)]
      · exact Ev.bind (impl_scaled.ev p t (by omega) (by omega) (by omega) a g3 (by omega)) (Ev.bind (impl_stripped.ev _ (by rw [addC_length]; simp; omega)) (Ev.now _))
    · rw [if_neg hx]
      exact Ev.neg (by rw [decide_eq_false hx]; exact Bool.false_ne_true) (Ev.now _)
  · rw [if_neg h1]
    exact Ev.neg h1 (Ev.now _)

end Go.Proofs.Ytemdeeepamnbcaa.PFnExactScaleCurve
