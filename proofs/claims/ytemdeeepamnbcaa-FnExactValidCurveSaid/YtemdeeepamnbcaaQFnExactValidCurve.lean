/- Lemmas on what the printed functions compute. -/
import Derived.Test.YtemdeeepamnbcaaM
import Derived.Test.YtemdeeepamnbcaaPFnExactValidCurvex0
import Derived.Test.YtemdeeepamnbcaaPFnExactValidCurvex1
import Derived.Test.YtemdeeepamnbcaaPFnExactValidCurvex2
set_option linter.unusedVariables false
set_option linter.unusedSimpArgs false
set_option maxRecDepth 100000
namespace Go.Proofs.Ytemdeeepamnbcaa.PFnExactValidCurve
open Go.RowKit Go.Proofs.YtemdeeepamnbcaaW.PrintWords Go.Proofs.YtemdeeepamnbcaaW.PrintLast Go.Proofs.Ytemdeeepamnbcaa.M

-- spec_l00In
theorem spec_l00In.eq (a b c : Int) : spec_l00In.f a b c = some (decide (b ≤ a ∧ a ≤ c)) := by
  unfold spec_l00In.f
  by_cases h : a ≥ b
  · have : b ≤ a := h
    simp [h, this]
  · have : ¬ b ≤ a := h
    simp [this]

-- spec_l05Prime
theorem spec_l05Prime.small : ∀ n : Fin 32, 2 ≤ n.val → spec_l05Prime.f 40 (n.val : Int) = some (isPr (n.val : Int)) := by decide +kernel
theorem spec_l05Prime.ev (p : Int) : Ev (fun k => spec_l05Prime.f k p) (isPr p) := by
  by_cases h : 2 ≤ p ∧ p ≤ 31
  · obtain ⟨n, rfl⟩ : ∃ n : Nat, p = n := ⟨p.toNat, by omega⟩
    exact Ev.of (fun k => spec_l05Prime.mono _ k) (spec_l05Prime.small ⟨n, by omega⟩ (by simp only; omega))
  · have e : isPr p = false := by
      rcases (show p < 2 ∨ 2 ≤ p by omega) with h1 | h1
      · exact isPr_small h1
      · exact isPr_big (by omega)
    rw [e]
    refine Ev.congr (f := fun _ => some false) (fun k => ?_) (Ev.now _)
    unfold spec_l05Prime.f
    rw [spec_l00In.eq, decide_eq_false h]
    rfl

-- spec_l05Residues
theorem spec_l05Residues.ev_l (p : Int) (hp : -9223372036854775807 ≤ p) (hp' : p ≤ 9223372036854775807) (l : List Int) (hl : l.length ≤ 9223372036854775806) : ∀ (d i : Nat), i + d = l.length → Ev (fun k => spec_l05Residues.l0 k p l (i : Int)) (allR p (l.drop i)) := by
  intro d
  induction d with
  | zero =>
    intro i hi
    refine Ev.succ ?_
    simp only [spec_l05Residues.l0]
    rw [List.drop_of_length_le (by omega)]
    exact Ev.neg (by omega) (Ev.now _)
  | succ d ih =>
    intro i hi
    refine Ev.succ ?_
    simp only [spec_l05Residues.l0, spec_l00In.eq, Option.bind_some]
    refine Ev.pos (by omega) (Ev.pos (by omega) ?_)
    have hlt : i < l.length := by omega
    rw [rd_get l i hlt, w64 (n := p - 1) (by omega) (by omega), w64 (n := (i : Int) + 1) (by omega) (by omega), List.drop_eq_getElem_cons hlt]
    simp only [allR, List.all_cons]
    have hin : inR p l[i] = decide (0 ≤ l[i] ∧ l[i] ≤ p - 1) := rfl
    rw [hin]
    by_cases hx : 0 ≤ l[i] ∧ l[i] ≤ p - 1
    · rw [decide_eq_true hx]
      refine Ev.pos rfl ?_
      rw [Bool.true_and]
      exact ih (i + 1) (by omega)
    · rw [decide_eq_false hx]
      exact Ev.neg (by decide) (Ev.now _)
theorem spec_l05Residues.ev (p : Int) (hp : -9223372036854775807 ≤ p) (hp' : p ≤ 9223372036854775807) (l : List Int) (hl : l.length ≤ 9223372036854775806) : Ev (fun k => spec_l05Residues.f k p l) (allR p l) := by
  have := spec_l05Residues.ev_l p hp hp' l hl l.length 0 (by omega)
  simpa [spec_l05Residues.f] using this

-- spec_l05Curve
def lastNZ (l : List Int) : Bool := l.isEmpty || l.getLast? != some 0
theorem lastNZ_rd {l : List Int} (h : l.length ≠ 0) : (rd l ((l.length : Int) - 1) != 0) = lastNZ l := by
  have e : ((l.length : Int) - 1) = ((l.length - 1 : Nat) : Int) := by omega
  rw [e, rd_get l (l.length - 1) (by omega)]
  unfold lastNZ
  have h2 : l.isEmpty = false := by cases l <;> simp_all
  rw [h2, List.getLast?_eq_getElem?, List.getElem?_eq_getElem (by omega)]
  simp
  rfl
theorem spec_l05Curve.ev (p : Int) (hp : -9223372036854775807 ≤ p) (hp' : p ≤ 9223372036854775807) (l : List Int) (hl : l.length ≤ 35184372088832) : Ev (fun k => spec_l05Curve.f k p l) (decide (l.length ≤ 7) && (allR p l && lastNZ l)) := by
  unfold spec_l05Curve.f
  by_cases h7 : l.length ≤ 7
  · refine Ev.pos (by omega) (Ev.bind (spec_l05Residues.ev p hp hp' l (by omega)) ?_)
    rw [decide_eq_true h7, Bool.true_and]
    cases hr : allR p l with
    | false => exact Ev.neg Bool.false_ne_true (Ev.now _)
    | true =>
      refine Ev.pos rfl ?_
      rw [Bool.true_and]
      by_cases h0 : l.length = 0
      · refine Ev.pos (by omega) ?_
        have : l = [] := List.length_eq_zero_iff.1 h0
        subst this
        exact Ev.now _
      · refine Ev.neg (by omega) ?_
        rw [w64 (by omega) (by omega)]
        refine Ev.pos (by omega) (Ev.pos (by omega) ?_)
        rw [lastNZ_rd h0]
        exact Ev.now _
  · refine Ev.neg (by omega) ?_
    rw [decide_eq_false h7]
    exact Ev.now _

-- spec_ValidCurve
def isCurve (p : Int) (l : List Int) : Bool := isPr p && (decide (l.length ≤ 7) && (allR p l && lastNZ l))
theorem spec_ValidCurve.ev (p : Int) (l : List Int) (hl : l.length ≤ 35184372088832) : Ev (fun k => spec_ValidCurve.f k p l) (isCurve p l) := by
  unfold spec_ValidCurve.f isCurve
  refine Ev.bind (spec_l05Prime.ev p) ?_
  cases h : isPr p with
  | false => exact Ev.neg Bool.false_ne_true (Ev.now _)
  | true =>
    have := isPr_bd h
    refine Ev.pos rfl (Ev.bind (spec_l05Curve.ev p (by omega) (by omega) l hl) ?_)
    exact Ev.now _

-- laws_toInt64S
theorem laws_toInt64S.ev_l (l : List Int) (hl : l.length ≤ 35184372088832) : ∀ (d i : Nat) (m : List Int), i + d = l.length → m.length = l.length → m.take i = l.take i → Ev (fun k => laws_toInt64S.l0 k l m (i : Int)) l := by
  intro d
  induction d with
  | zero =>
    intro i m hi hm ht
    refine Ev.succ ?_
    simp only [laws_toInt64S.l0]
    have : m = l := by rwa [List.take_of_length_le (by omega), List.take_of_length_le (by omega)] at ht
    rw [this]
    exact Ev.neg (by omega) (Ev.now _)
  | succ d ih =>
    intro i m hi hm ht
    refine Ev.succ ?_
    simp only [laws_toInt64S.l0]
    refine Ev.pos (by omega) (Ev.pos (by omega) (Ev.pos (by omega) ?_))
    have hlt : i < l.length := by omega
    rw [rd_get l i hlt, w64 (n := (i : Int) + 1) (by omega) (by omega)]
    refine ih (i + 1) _ (by omega) (by simpa using hm) ?_
    rw [Int.toNat_natCast, List.take_succ_eq_append_getElem hlt, List.take_succ_eq_append_getElem (by simpa [hm] using hlt), ← ht]
    rw [List.take_set_of_le (by omega), List.getElem_set_self]
theorem laws_toInt64S.ev (l : List Int) (hl : l.length ≤ 35184372088832) : Ev (fun k => laws_toInt64S.f k l) l := by
  unfold laws_toInt64S.f
  refine Ev.pos (by omega) (Ev.pos (by omega) ?_)
  exact laws_toInt64S.ev_l l hl l.length 0 _ (by omega) (by simp) (by simp)

-- impl_within
theorem impl_within.eq (a b c : Int) : impl_within.f a b c = some (decide (b ≤ a ∧ a ≤ c)) := by
  unfold impl_within.f
  by_cases h : a ≥ b
  · have : b ≤ a := h
    simp [h, this]
  · have : ¬ b ≤ a := h
    simp [this]

-- impl_IsPrime
theorem impl_IsPrime.small : ∀ n : Fin 32, 2 ≤ n.val → impl_IsPrime.f 40 (n.val : Int) = some (isPr (n.val : Int)) := by decide +kernel
theorem impl_IsPrime.ev (p : Int) : Ev (fun k => impl_IsPrime.f k p) (isPr p) := by
  by_cases h : 2 ≤ p ∧ p ≤ 31
  · obtain ⟨n, rfl⟩ : ∃ n : Nat, p = n := ⟨p.toNat, by omega⟩
    exact Ev.of (fun k => impl_IsPrime.mono _ k) (impl_IsPrime.small ⟨n, by omega⟩ (by simp only; omega))
  · have hw : impl_within.f p 2 31 = some false := by rw [impl_within.eq, decide_eq_false h]
    rcases (show p < 2 ∨ 2 ≤ p by omega) with h1 | h1
    · rw [isPr_small h1]
      refine Ev.congr (fun k => by unfold impl_IsPrime.f; rfl) (Ev.succ ?_)
      simp only [impl_IsPrime.l0]
      refine Ev.neg (by rw [w64 (by omega) (by omega)]; omega) (Ev.succ ?_)
      simp only [impl_IsPrime.j1, hw]
      exact ⟨0, fun k _ => rfl⟩
    · rw [isPr_big (by omega)]
      refine Ev.congr (fun k => by unfold impl_IsPrime.f; rfl) (Ev.succ ?_)
      simp only [impl_IsPrime.l0]
      have hd : decide (p ≤ 31) = false := decide_eq_false (by omega)
      rw [hd]
      refine Ev.pos (by rw [w64 (by omega) (by omega)]; omega) (Ev.succ ?_)
      simp only [impl_IsPrime.j1, hw]
      exact ⟨0, fun k _ => rfl⟩

-- impl_areElements
theorem impl_areElements.any (p : Int) (hp : -9223372036854775807 ≤ p) (hp' : p ≤ 9223372036854775807) (l : List Int) : (anyO (fun a => (impl_within.f a 0 (wrap64 (p - 1))).bind fun t => some (!t)) l) = some (!allR p l) := by
  rw [w64 (n := p - 1) (by omega) (by omega)]
  induction l with
  | nil => rfl
  | cons x xs ih =>
    have e : allR p (x :: xs) = (inR p x && allR p xs) := rfl
    have hin : inR p x = decide (0 ≤ x ∧ x ≤ p - 1) := rfl
    rw [e, hin]
    unfold anyO
    rw [ih, impl_within.eq]
    cases decide (0 ≤ x ∧ x ≤ p - 1) <;> rfl
theorem impl_areElements.ev (p : Int) (l : List Int) : Ev (fun k => impl_areElements.f k p l) (isPr p && allR p l) := by
  unfold impl_areElements.f
  refine Ev.bind (impl_IsPrime.ev p) ?_
  cases h : isPr p with
  | false => exact Ev.neg Bool.false_ne_true (Ev.now _)
  | true =>
    have := isPr_bd h
    rw [impl_areElements.any p (by omega) (by omega)]
    refine Ev.pos rfl ?_
    simp only [Option.bind_some, Bool.not_not, Bool.true_and]
    exact Ev.now _

-- impl_ValidCurve
theorem impl_ValidCurve.ev (p : Int) (l : List Int) (hl : l.length ≤ 35184372088832) : Ev (fun k => impl_ValidCurve.f k p l) (isCurve p l) := by
  unfold impl_ValidCurve.f isCurve
  refine Ev.bind (impl_areElements.ev p l) ?_
  cases h : isPr p with
  | false => exact Ev.neg Bool.false_ne_true (Ev.now _)
  | true =>
    rw [Bool.true_and, Bool.true_and]
    cases hr : allR p l with
    | false =>
      refine Ev.neg Bool.false_ne_true ?_
      rw [Bool.false_and, Bool.and_false]
      exact Ev.now _
    | true =>
      refine Ev.pos rfl ?_
      rw [Bool.true_and]
      by_cases h7 : l.length ≤ 7
      · rw [decide_eq_true h7, Bool.true_and]
        refine Ev.pos (by omega) ?_
        by_cases h0 : l.length = 0
        · refine Ev.pos (by omega) ?_
          have : l = [] := List.length_eq_zero_iff.1 h0
          subst this
          exact Ev.now _
        · refine Ev.neg (by omega) ?_
          rw [w64 (by omega) (by omega)]
          refine Ev.pos (by omega) (Ev.pos (by omega) ?_)
          rw [lastNZ_rd h0]
          exact Ev.now _
      · refine Ev.neg (by omega) ?_
        rw [decide_eq_false h7]
        exact Ev.now _

-- laws_eqInt64S
theorem laws_eqInt64S.ev_l (a b : List Int) (hl : a.length ≤ 35184372088832) (he : a.length = b.length) : ∀ (d i : Nat), i + d = a.length → Ev (fun k => laws_eqInt64S.l0 k a b (i : Int)) (decide (a.drop i = b.drop i)) := by
  intro d
  induction d with
  | zero =>
    intro i hi
    refine Ev.succ ?_
    simp only [laws_eqInt64S.l0]
    rw [List.drop_of_length_le (by omega), List.drop_of_length_le (by omega)]
    exact Ev.neg (by omega) (Ev.now _)
  | succ d ih =>
    intro i hi
    refine Ev.succ ?_
    simp only [laws_eqInt64S.l0]
    have ha : i < a.length := by omega
    have hb : i < b.length := by omega
    refine Ev.pos (by omega) (Ev.pos (by omega) (Ev.pos (by omega) ?_))
    rw [rd_get a i ha, rd_get b i hb, w64 (n := (i : Int) + 1) (by omega) (by omega), List.drop_eq_getElem_cons ha, List.drop_eq_getElem_cons hb]
    by_cases hx : a[i] = b[i]
    · refine Ev.pos hx (Ev.eq (ih (i + 1) (by omega)) ?_)
      simp only [hx, List.cons.injEq, true_and]
    · refine Ev.neg hx (Ev.eq (Ev.now _) ?_)
      exact (decide_eq_false (fun e => hx (List.cons.inj e).1)).symm
theorem laws_eqInt64S.ev (a b : List Int) (hl : a.length ≤ 35184372088832) : Ev (fun k => laws_eqInt64S.f k a b) (decide (a = b)) := by
  unfold laws_eqInt64S.f
  by_cases he : a.length = b.length
  · refine Ev.pos (by omega) ?_
    have := laws_eqInt64S.ev_l a b hl he a.length 0 (by omega)
    simpa using this
  · refine Ev.neg (by omega) ?_
    rw [decide_eq_false (fun e => he (by rw [e]))]
    exact Ev.now _

end Go.Proofs.Ytemdeeepamnbcaa.PFnExactValidCurve
