/- Lemmas on what the printed functions compute. -/
import Derived.Test.YtemdeeepamnbcaaM
import Derived.Test.YtemdeeepamnbcaaPFnExactCurveAtx0
import Derived.Test.YtemdeeepamnbcaaPFnExactCurveAtx1
import Derived.Test.YtemdeeepamnbcaaPFnExactCurveAtx2
import Derived.Test.YtemdeeepamnbcaaPFnExactCurveAtx3
set_option linter.unusedVariables false
set_option linter.unusedSimpArgs false
set_option maxRecDepth 100000
namespace Go.Proofs.Ytemdeeepamnbcaa.PFnExactCurveAt
open Go.RowKit Go.Proofs.YtemdeeepamnbcaaW.PrintWords Go.Proofs.YtemdeeepamnbcaaW.PrintLast Go.Proofs.Ytemdeeepamnbcaa.M

-- laws_toInt64S
theorem laws_toInt64S.ev_l (l : List Int) (hl : l.length ≤ 35184372088832) : ∀ (d i : Nat) (m : List Int), i + d = l.length → m.length = l.length → m.take i = l.take i → Ev (fun k => laws_toInt64S.l0 k l m (i : Int)) l := by
  intro d
  induction d with
  | zero =>
    intro i m hi hm ht
    refine Ev.succ ?_
    simp only [laws_toInt64S.l0]
    have : m = l := by rwa [List.take_of_length_le (by omega), List.take_of_length_le (by omega)] at ht
    rw [this]
    exact Ev.neg (by omega) (Ev.now _)
  | succ d ih =>
    intro i m hi hm ht
    refine Ev.succ ?_
    simp only [laws_toInt64S.l0]
    refine Ev.pos (by omega) (Ev.pos (by omega) (Ev.pos (by omega) ?_))
    have hlt : i < l.length := by omega
    rw [rd_get l i hlt, w64 (n := (i : Int) + 1) (by omega) (by omega)]
    refine ih (i + 1) _ (by omega) (by simpa using hm) ?_
    rw [Int.toNat_natCast, List.take_succ_eq_append_getElem hlt, List.take_succ_eq_append_getElem (by simpa [hm] using hlt), ← ht]
    rw [List.take_set_of_le (by omega), List.getElem_set_self]
theorem laws_toInt64S.ev (l : List Int) (hl : l.length ≤ 35184372088832) : Ev (fun k => laws_toInt64S.f k l) l := by
  unfold laws_toInt64S.f
  refine Ev.pos (by omega) (Ev.pos (by omega) ?_)
  exact laws_toInt64S.ev_l l hl l.length 0 _ (by omega) (by simp) (by simp)

-- laws_eqInt64S
theorem laws_eqInt64S.ev_l (a b : List Int) (hl : a.length ≤ 35184372088832) (he : a.length = b.length) : ∀ (d i : Nat), i + d = a.length → Ev (fun k => laws_eqInt64S.l0 k a b (i : Int)) (decide (a.drop i = b.drop i)) := by
  intro d
  induction d with
  | zero =>
    intro i hi
    refine Ev.succ ?_
    simp only [laws_eqInt64S.l0]
    rw [List.drop_of_length_le (by omega), List.drop_of_length_le (by omega)]
    exact Ev.neg (by omega) (Ev.now _)
  | succ d ih =>
    intro i hi
    refine Ev.succ ?_
    simp only [laws_eqInt64S.l0]
    have ha : i < a.length := by omega
    have hb : i < b.length := by omega
    refine Ev.pos (by omega) (Ev.pos (by omega) (Ev.pos (by omega) ?_))
    rw [rd_get a i ha, rd_get b i hb, w64 (n := (i : Int) + 1) (by omega) (by omega), List.drop_eq_getElem_cons ha, List.drop_eq_getElem_cons hb]
    by_cases hx : a[i] = b[i]
    · refine Ev.pos hx (Ev.eq (ih (i + 1) (by omega)) ?_)
      simp only [hx, List.cons.injEq, true_and]
    · refine Ev.neg hx (Ev.eq (Ev.now _) ?_)
      exact (decide_eq_false (fun e => hx (List.cons.inj e).1)).symm
theorem laws_eqInt64S.ev (a b : List Int) (hl : a.length ≤ 35184372088832) : Ev (fun k => laws_eqInt64S.f k a b) (decide (a = b)) := by
  unfold laws_eqInt64S.f
  by_cases he : a.length = b.length
  · refine Ev.pos (by omega) ?_
    have := laws_eqInt64S.ev_l a b hl he a.length 0 (by omega)
    simpa using this
  · refine Ev.neg (by omega) ?_
    rw [decide_eq_false (fun e => he (by rw [e]))]
    exact Ev.now _

-- spec_l00In
theorem spec_l00In.eq (a b c : Int) : spec_l00In.f a b c = some (decide (b ≤ a ∧ a ≤ c)) := by
  unfold spec_l00In.f
  by_cases h : a ≥ b
  · have : b ≤ a := h
    simp [h, this]
  · have : ¬ b ≤ a := h
    simp [this]

-- spec_l05Prime
theorem spec_l05Prime.small : ∀ n : Fin 32, 2 ≤ n.val → spec_l05Prime.f 40 (n.val : Int) = some (isPr (n.val : Int)) := by decide +kernel
theorem spec_l05Prime.ev (p : Int) : Ev (fun k => spec_l05Prime.f k p) (isPr p) := by
  by_cases h : 2 ≤ p ∧ p ≤ 31
  · obtain ⟨n, rfl⟩ : ∃ n : Nat, p = n := ⟨p.toNat, by omega⟩
    exact Ev.of (fun k => spec_l05Prime.mono _ k) (spec_l05Prime.small ⟨n, by omega⟩ (by simp only; omega))
  · have e : isPr p = false := by
      rcases (show p < 2 ∨ 2 ≤ p by omega) with h1 | h1
      · exact isPr_small h1
      · exact isPr_big (by omega)
    rw [e]
    refine Ev.congr (f := fun _ => some false) (fun k => ?_) (Ev.now _)
    unfold spec_l05Prime.f
    rw [spec_l00In.eq, decide_eq_false h]
    rfl

-- spec_l05Residues
theorem spec_l05Residues.ev_l (p : Int) (hp : -9223372036854775807 ≤ p) (hp' : p ≤ 9223372036854775807) (l : List Int) (hl : l.length ≤ 9223372036854775806) : ∀ (d i : Nat), i + d = l.length → Ev (fun k => spec_l05Residues.l0 k p l (i : Int)) (allR p (l.drop i)) := by
  intro d
  induction d with
  | zero =>
    intro i hi
    refine Ev.succ ?_
    simp only [spec_l05Residues.l0]
    rw [List.drop_of_length_le (by omega)]
    exact Ev.neg (by omega) (Ev.now _)
  | succ d ih =>
    intro i hi
    refine Ev.succ ?_
    simp only [spec_l05Residues.l0, spec_l00In.eq, Option.bind_some]
    refine Ev.pos (by omega) (Ev.pos (by omega) ?_)
    have hlt : i < l.length := by omega
    rw [rd_get l i hlt, w64 (n := p - 1) (by omega) (by omega), w64 (n := (i : Int) + 1) (by omega) (by omega), List.drop_eq_getElem_cons hlt]
    simp only [allR, List.all_cons]
    have hin : inR p l[i] = decide (0 ≤ l[i] ∧ l[i] ≤ p - 1) := rfl
    rw [hin]
    by_cases hx : 0 ≤ l[i] ∧ l[i] ≤ p - 1
    · rw [decide_eq_true hx]
      refine Ev.pos rfl ?_
      rw [Bool.true_and]
      exact ih (i + 1) (by omega)
    · rw [decide_eq_false hx]
      exact Ev.neg (by decide) (Ev.now _)
theorem spec_l05Residues.ev (p : Int) (hp : -9223372036854775807 ≤ p) (hp' : p ≤ 9223372036854775807) (l : List Int) (hl : l.length ≤ 9223372036854775806) : Ev (fun k => spec_l05Residues.f k p l) (allR p l) := by
  have := spec_l05Residues.ev_l p hp hp' l hl l.length 0 (by omega)
  simpa [spec_l05Residues.f] using this

-- spec_l05Curve
theorem spec_l05Curve.ev (p : Int) (hp : -9223372036854775807 ≤ p) (hp' : p ≤ 9223372036854775807) (l : List Int) (hl : l.length ≤ 35184372088832) : Ev (fun k => spec_l05Curve.f k p l) (decide (l.length ≤ 7) && (allR p l && lastNZ l)) := by
  unfold spec_l05Curve.f
  by_cases h7 : l.length ≤ 7
  · refine Ev.pos (by omega) (Ev.bind (spec_l05Residues.ev p hp hp' l (by omega)) ?_)
    rw [decide_eq_true h7, Bool.true_and]
    cases hr : allR p l with
    | false => exact Ev.neg Bool.false_ne_true (Ev.now _)
    | true =>
      refine Ev.pos rfl ?_
      rw [Bool.true_and]
      by_cases h0 : l.length = 0
      · refine Ev.pos (by omega) ?_
        have : l = [] := List.length_eq_zero_iff.1 h0
        subst this
        exact Ev.now _
      · refine Ev.neg (by omega) ?_
        rw [w64 (by omega) (by omega)]
        refine Ev.pos (by omega) (Ev.pos (by omega) ?_)
        rw [lastNZ_rd h0]
        exact Ev.now _
  · refine Ev.neg (by omega) ?_
    rw [decide_eq_false h7]
    exact Ev.now _

-- spec_ValidCurve
theorem spec_ValidCurve.ev (p : Int) (l : List Int) (hl : l.length ≤ 35184372088832) : Ev (fun k => spec_ValidCurve.f k p l) (isCurve p l) := by
  unfold spec_ValidCurve.f isCurve
  refine Ev.bind (spec_l05Prime.ev p) ?_
  cases h : isPr p with
  | false => exact Ev.neg Bool.false_ne_true (Ev.now _)
  | true =>
    have := isPr_bd h
    refine Ev.pos rfl (Ev.bind (spec_l05Curve.ev p (by omega) (by omega) l hl) ?_)
    exact Ev.now _

-- spec_l05Value
theorem spec_l05Value.ev_l (p x : Int) (hp : 0 < p) (hp' : p ≤ 31) (hx : 0 ≤ x ∧ x < p) (l : List Int) (hr : allR p l = true) (hl : l.length ≤ 35184372088832) : ∀ (n : Nat) (acc : Int), n ≤ l.length → 0 ≤ acc → acc < p → Ev (fun k => spec_l05Value.l0 k p l x acc ((n : Int) - 1)) (horner p x (l.take n) acc) := by
  intro n
  induction n with
  | zero =>
    intro acc hn h0 h1
    refine Ev.succ ?_
    simp only [spec_l05Value.l0]
    exact Ev.neg (by omega) (Ev.now _)
  | succ n ih =>
    intro acc hn h0 h1
    refine Ev.succ ?_
    simp only [spec_l05Value.l0]
    have hlt : n < l.length := by omega
    have e : ((n + 1 : Nat) : Int) - 1 = (n : Int) := by omega
    have hg := allR_get hr n hlt
    have hm := mul_bd h0 (show acc ≤ 31 by omega) hx.1 (show x ≤ 31 by omega)
    rw [e, rd_get l n hlt]
    refine Ev.pos (by omega) (Ev.pos (by omega) (Ev.pos (by omega) (Ev.neg (by omega) ?_)))
    rw [w64 (n := acc * x) (by omega) (by omega), w64 (n := acc * x + l[n]) (by omega) (by omega), w64 (n := (n : Int) - 1) (by omega) (by omega), tmod_of (by omega), horner_take p x l n hlt]
    exact ih _ (by omega) (emod_bd hp _).1 (emod_bd hp _).2
theorem spec_l05Value.ev (p x : Int) (hp : 0 < p) (hp' : p ≤ 31) (hx : 0 ≤ x ∧ x < p) (l : List Int) (hr : allR p l = true) (hl : l.length ≤ 35184372088832) : Ev (fun k => spec_l05Value.f k p l x) (cval p l x) := by
  unfold spec_l05Value.f
  rw [w64 (by omega) (by omega)]
  refine Ev.eq (spec_l05Value.ev_l p x hp hp' hx l hr hl l.length 0 (Nat.le_refl _) (by omega) (by omega)) ?_
  rw [List.take_length]; rfl

-- spec_CurveAt
def curveAtM (p : Int) (l : List Int) (x : Int) : Int × Int := if isCurve p l = true then (if 0 ≤ x ∧ x ≤ p - 1 then (cval p l x, 0) else (0, 2)) else (0, 1)
theorem spec_CurveAt.ev (p : Int) (l : List Int) (x : Int) (hl : l.length ≤ 35184372088832) : Ev (fun k => spec_CurveAt.f k p l x) (curveAtM p l x) := by
  unfold spec_CurveAt.f curveAtM
  refine Ev.bind (spec_ValidCurve.ev p l hl) ?_
  by_cases hc : isCurve p l = true
  · obtain ⟨h1, h2, h3, h4⟩ := isCurve_of hc
    have hb := isPr_bd h1
    rw [if_pos hc]
    refine Ev.pos hc (Ev.bindc (spec_l00In.eq _ _ _) ?_)
    rw [w64 (n := p - 1) (by omega) (by omega)]
    by_cases hx : 0 ≤ x ∧ x ≤ p - 1
    · rw [if_pos hx]
      exact Ev.pos (decide_eq_true hx) (Ev.bind (spec_l05Value.ev p x (by omega) (by omega) (by omega) l h3 hl) (Ev.now _))
    · rw [if_neg hx]
      exact Ev.neg (by simpa using hx) (Ev.now _)
  · rw [if_neg hc]
    exact Ev.neg hc (Ev.now _)

-- impl_within
theorem impl_within.eq (a b c : Int) : impl_within.f a b c = some (decide (b ≤ a ∧ a ≤ c)) := by
  unfold impl_within.f
  by_cases h : a ≥ b
  · have : b ≤ a := h
    simp [h, this]
  · have : ¬ b ≤ a := h
    simp [this]

-- impl_IsPrime
theorem impl_IsPrime.small : ∀ n : Fin 32, 2 ≤ n.val → impl_IsPrime.f 40 (n.val : Int) = some (isPr (n.val : Int)) := by decide +kernel
theorem impl_IsPrime.ev (p : Int) : Ev (fun k => impl_IsPrime.f k p) (isPr p) := by
  by_cases h : 2 ≤ p ∧ p ≤ 31
  · obtain ⟨n, rfl⟩ : ∃ n : Nat, p = n := ⟨p.toNat, by omega⟩
    exact Ev.of (fun k => impl_IsPrime.mono _ k) (impl_IsPrime.small ⟨n, by omega⟩ (by simp only; omega))
  · have hw : impl_within.f p 2 31 = some false := by rw [impl_within.eq, decide_eq_false h]
    rcases (show p < 2 ∨ 2 ≤ p by omega) with h1 | h1
    · rw [isPr_small h1]
      refine Ev.congr (fun k => by unfold impl_IsPrime.f; rfl) (Ev.succ ?_)
      simp only [impl_IsPrime.l0]
      refine Ev.neg (by rw [w64 (by omega) (by omega)]; omega) (Ev.succ ?_)
      simp only [impl_IsPrime.j1, hw]
      exact ⟨0, fun k _ => rfl⟩
    · rw [isPr_big (by omega)]
      refine Ev.congr (fun k => by unfold impl_IsPrime.f; rfl) (Ev.succ ?_)
      simp only [impl_IsPrime.l0]
      have hd : decide (p ≤ 31) = false := decide_eq_false (by omega)
      rw [hd]
      refine Ev.pos (by rw [w64 (by omega) (by omega)]; omega) (Ev.succ ?_)
      simp only [impl_IsPrime.j1, hw]
      exact ⟨0, fun k _ => rfl⟩

-- impl_areElements_1
theorem impl_areElements_1.eq (x p : Int) (hp : -9223372036854775807 ≤ p) (hp' : p ≤ 9223372036854775807) : impl_areElements_1.f x [p] = some (!inR p x) := by
  unfold impl_areElements_1.f
  have e : rd [p] 0 = p := rfl
  rw [e, w64 (n := p - 1) (by omega) (by omega), impl_within.eq]
  rfl

-- slices_IndexFunc_int64_int64_at_impl_areElements_1
theorem slices_IndexFunc_int64_int64_at_impl_areElements_1.ev_l (p : Int) (hp : -9223372036854775807 ≤ p) (hp' : p ≤ 9223372036854775807) (l : List Int) (hl : l.length ≤ 9223372036854775806) : ∀ (d i : Nat), i + d = l.length → Ev (fun k => slices_IndexFunc_int64_int64_at_impl_areElements_1.l0 k l (l.length : Int) (i : Int) [p]) (idxFrom (fun x => !inR p x) (l.drop i) (i : Int)) := by
  intro d
  induction d with
  | zero =>
    intro i hi
    refine Ev.succ ?_
    simp only [slices_IndexFunc_int64_int64_at_impl_areElements_1.l0]
    rw [List.drop_of_length_le (by omega)]
    exact Ev.neg (by omega) (Ev.now _)
  | succ d ih =>
    intro i hi
    refine Ev.succ ?_
    simp only [slices_IndexFunc_int64_int64_at_impl_areElements_1.l0]
    refine Ev.pos (by omega) (Ev.pos (by omega) (Ev.pos (by omega) ?_))
    have hlt : i < l.length := by omega
    rw [rd_get l i hlt, impl_areElements_1.eq _ p hp hp', w64 (n := (i : Int) + 1) (by omega) (by omega), List.drop_eq_getElem_cons hlt]
    simp only [Option.bind_some, idxFrom]
    by_cases hx : (!inR p l[i]) = true
    · refine Ev.pos hx ?_
      rw [if_pos hx]
      exact Ev.now _
    · refine Ev.neg hx ?_
      rw [if_neg hx]
      exact ih (i + 1) (by omega)

-- slices_ContainsFunc_int64_int64_at_impl_areElements_1
theorem slices_ContainsFunc_int64_int64_at_impl_areElements_1.ev (p : Int) (hp : -9223372036854775807 ≤ p) (hp' : p ≤ 9223372036854775807) (l : List Int) (hl : l.length ≤ 9223372036854775806) : Ev (fun k => slices_ContainsFunc_int64_int64_at_impl_areElements_1.f k l [p]) (!allR p l) := by
  unfold slices_ContainsFunc_int64_int64_at_impl_areElements_1.f slices_IndexFunc_int64_int64_at_impl_areElements_1.f
  refine Ev.bind (slices_IndexFunc_int64_int64_at_impl_areElements_1.ev_l p hp hp' l hl l.length 0 (by omega)) ?_
  refine Ev.eq (Ev.now _) ?_
  rw [idxFrom_any _ _ _ (by omega), List.drop_zero, not_allR]

-- impl_areElements
theorem impl_areElements.ev (p : Int) (l : List Int) (hl : l.length ≤ 9223372036854775806) : Ev (fun k => impl_areElements.f k p l) (isPr p && allR p l) := by
  unfold impl_areElements.f
  refine Ev.bind (impl_IsPrime.ev p) ?_
  cases h : isPr p with
  | false => exact Ev.neg Bool.false_ne_true (Ev.now _)
  | true =>
    have := isPr_bd h
    refine Ev.pos rfl ?_
    refine Ev.bind (slices_ContainsFunc_int64_int64_at_impl_areElements_1.ev p (by omega) (by omega) l hl) ?_
    refine Ev.eq (Ev.now _) ?_
    rw [Bool.not_not, Bool.true_and]

-- impl_ValidCurve
theorem impl_ValidCurve.ev (p : Int) (l : List Int) (hl : l.length ≤ 35184372088832) : Ev (fun k => impl_ValidCurve.f k p l) (isCurve p l) := by
  unfold impl_ValidCurve.f isCurve
  refine Ev.bind (impl_areElements.ev p l (by omega)) ?_
  cases h : isPr p with
  | false => exact Ev.neg Bool.false_ne_true (Ev.now _)
  | true =>
    rw [Bool.true_and, Bool.true_and]
    cases hr : allR p l with
    | false =>
      refine Ev.neg Bool.false_ne_true ?_
      rw [Bool.false_and, Bool.and_false]
      exact Ev.now _
    | true =>
      refine Ev.pos rfl ?_
      rw [Bool.true_and]
      by_cases h7 : l.length ≤ 7
      · rw [decide_eq_true h7, Bool.true_and]
        refine Ev.pos (by omega) ?_
        by_cases h0 : l.length = 0
        · refine Ev.pos (by omega) ?_
          have : l = [] := List.length_eq_zero_iff.1 h0
          subst this
          exact Ev.now _
        · refine Ev.neg (by omega) ?_
          rw [w64 (by omega) (by omega)]
          refine Ev.pos (by omega) (Ev.pos (by omega) ?_)
          rw [lastNZ_rd h0]
          exact Ev.now _
      · refine Ev.neg (by omega) ?_
        rw [decide_eq_false h7]
        exact Ev.now _

-- impl_curveAt
theorem impl_curveAt.ev_l (p x : Int) (hp : 0 < p) (hp' : p ≤ 31) (hx : 0 ≤ x ∧ x < p) (l : List Int) (hr : allR p l = true) (hl : l.length ≤ 35184372088832) : ∀ (n : Nat) (acc : Int), n ≤ l.length → 0 ≤ acc → acc < p → Ev (fun k => impl_curveAt.l0 k p l x acc ((n : Int) - 1)) (horner p x (l.take n) acc) := by
  intro n
  induction n with
  | zero =>
    intro acc hn h0 h1
    refine Ev.succ ?_
    simp only [impl_curveAt.l0]
    exact Ev.neg (by omega) (Ev.now _)
  | succ n ih =>
    intro acc hn h0 h1
    refine Ev.succ ?_
    simp only [impl_curveAt.l0]
    have hlt : n < l.length := by omega
    have e : ((n + 1 : Nat) : Int) - 1 = (n : Int) := by omega
    have hg := allR_get hr n hlt
    have hm := mul_bd h0 (show acc ≤ 31 by omega) hx.1 (show x ≤ 31 by omega)
    rw [e, rd_get l n hlt]
    refine Ev.pos (by omega) (Ev.pos (by omega) (Ev.pos (by omega) (Ev.neg (by omega) ?_)))
    rw [w64 (n := acc * x) (by omega) (by omega), w64 (n := acc * x + l[n]) (by omega) (by omega), w64 (n := (n : Int) - 1) (by omega) (by omega), tmod_of (by omega), horner_take p x l n hlt]
    exact ih _ (by omega) (emod_bd hp _).1 (emod_bd hp _).2
theorem impl_curveAt.ev (p x : Int) (hp : 0 < p) (hp' : p ≤ 31) (hx : 0 ≤ x ∧ x < p) (l : List Int) (hr : allR p l = true) (hl : l.length ≤ 35184372088832) : Ev (fun k => impl_curveAt.f k p l x) (cval p l x) := by
  unfold impl_curveAt.f
  rw [w64 (by omega) (by omega)]
  refine Ev.eq (impl_curveAt.ev_l p x hp hp' hx l hr hl l.length 0 (Nat.le_refl _) (by omega) (by omega)) ?_
  rw [List.take_length]; rfl

-- impl_CurveAt
theorem impl_areElements.one (p x : Int) (hp : isPr p = true) : (isPr p && allR p [x]) = decide (0 ≤ x ∧ x ≤ p - 1) := by
  rw [hp]; simp only [allR, List.all_cons, List.all_nil, Bool.and_true, Bool.true_and]; rfl
theorem impl_CurveAt.ev (p : Int) (l : List Int) (x : Int) (hl : l.length ≤ 35184372088832) : Ev (fun k => impl_CurveAt.f k p l x) (if isCurve p l = true then (if 0 ≤ x ∧ x ≤ p - 1 then (cval p l x, 0) else (0, 2)) else (0, 1)) := by
  unfold impl_CurveAt.f
  refine Ev.bind (impl_ValidCurve.ev p l hl) ?_
  by_cases hc : isCurve p l = true
  · obtain ⟨h1, h2, h3, h4⟩ := isCurve_of hc
    have hb := isPr_bd h1
    rw [if_pos hc]
    refine Ev.pos hc (Ev.bind (impl_areElements.ev p [x] (by simp)) ?_)
    rw [impl_areElements.one p x h1]
    by_cases hx : 0 ≤ x ∧ x ≤ p - 1
    · rw [if_pos hx]
      exact Ev.pos (decide_eq_true hx) (Ev.bind (impl_curveAt.ev p x (by omega) (by omega) (by omega) l h3 hl) (Ev.now _))
    · rw [if_neg hx]
      exact Ev.neg (by simpa using hx) (Ev.now _)
  · rw [if_neg hc]
    exact Ev.neg hc (Ev.now _)

end Go.Proofs.Ytemdeeepamnbcaa.PFnExactCurveAt
