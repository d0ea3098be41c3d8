/- Lemmas on what the printed functions compute. -/
import Derived.Test.YtemdeeepamnbcaaM
import Derived.Test.YtemdeeepamnbcaaPFnExactDealSharesx0
import Derived.Test.YtemdeeepamnbcaaPFnExactDealSharesx1
import Derived.Test.YtemdeeepamnbcaaPFnExactDealSharesx2
import Derived.Test.YtemdeeepamnbcaaPFnExactDealSharesx3
import Derived.Test.YtemdeeepamnbcaaPFnExactDealSharesx4
import Derived.Test.YtemdeeepamnbcaaPFnExactDealSharesx5
set_option linter.unusedVariables false
set_option linter.unusedSimpArgs false
set_option maxRecDepth 100000
namespace Go.Proofs.Ytemdeeepamnbcaa.PFnExactDealShares
open Go.RowKit Go.Proofs.YtemdeeepamnbcaaW.PrintWords Go.Proofs.YtemdeeepamnbcaaW.PrintLast Go.Proofs.Ytemdeeepamnbcaa.M
theorem rd_T62_get (l : List (S62)) (i : Nat) (h : i < l.length) : rd_T62 l (i : Int) = l[i] := by simp [rd_T62, h]

-- laws_toInt64S
theorem laws_toInt64S.ev_l (l : List Int) (hl : l.length ≤ 35184372088832) : ∀ (d i : Nat) (m : List Int), i + d = l.length → m.length = l.length → m.take i = l.take i → Ev (fun k => laws_toInt64S.l0 k l m (i : Int)) l := by
  intro d
  induction d with
  | zero =>
    intro i m hi hm ht
    refine Ev.succ ?_
    simp only [laws_toInt64S.l0]
    have : m = l := by rwa [List.take_of_length_le (by omega), List.take_of_length_le (by omega)] at ht
    rw [this]
    exact Ev.neg (by omega) (Ev.now _)
  | succ d ih =>
    intro i m hi hm ht
    refine Ev.succ ?_
    simp only [laws_toInt64S.l0]
    refine Ev.pos (by omega) (Ev.pos (by omega) (Ev.pos (by omega) ?_))
    have hlt : i < l.length := by omega
    rw [rd_get l i hlt, w64 (n := (i : Int) + 1) (by omega) (by omega)]
    refine ih (i + 1) _ (by omega) (by simpa using hm) ?_
    rw [Int.toNat_natCast, List.take_succ_eq_append_getElem hlt, List.take_succ_eq_append_getElem (by simpa [hm] using hlt), ← ht]
    rw [List.take_set_of_le (by omega), List.getElem_set_self]
theorem laws_toInt64S.ev (l : List Int) (hl : l.length ≤ 35184372088832) : Ev (fun k => laws_toInt64S.f k l) l := by
  unfold laws_toInt64S.f
  refine Ev.pos (by omega) (Ev.pos (by omega) ?_)
  exact laws_toInt64S.ev_l l hl l.length 0 _ (by omega) (by simp) (by simp)

-- laws_eqInt64S
theorem laws_eqInt64S.ev_l (a b : List Int) (hl : a.length ≤ 35184372088832) (he : a.length = b.length) : ∀ (d i : Nat), i + d = a.length → Ev (fun k => laws_eqInt64S.l0 k a b (i : Int)) (decide (a.drop i = b.drop i)) := by
  intro d
  induction d with
  | zero =>
    intro i hi
    refine Ev.succ ?_
    simp only [laws_eqInt64S.l0]
    rw [List.drop_of_length_le (by omega), List.drop_of_length_le (by omega)]
    exact Ev.neg (by omega) (Ev.now _)
  | succ d ih =>
    intro i hi
    refine Ev.succ ?_
    simp only [laws_eqInt64S.l0]
    have ha : i < a.length := by omega
    have hb : i < b.length := by omega
    refine Ev.pos (by omega) (Ev.pos (by omega) (Ev.pos (by omega) ?_))
    rw [rd_get a i ha, rd_get b i hb, w64 (n := (i : Int) + 1) (by omega) (by omega), List.drop_eq_getElem_cons ha, List.drop_eq_getElem_cons hb]
    by_cases hx : a[i] = b[i]
    · refine Ev.pos hx (Ev.eq (ih (i + 1) (by omega)) ?_)
      simp only [hx, List.cons.injEq, true_and]
    · refine Ev.neg hx (Ev.eq (Ev.now _) ?_)
      exact (decide_eq_false (fun e => hx (List.cons.inj e).1)).symm
theorem laws_eqInt64S.ev (a b : List Int) (hl : a.length ≤ 35184372088832) : Ev (fun k => laws_eqInt64S.f k a b) (decide (a = b)) := by
  unfold laws_eqInt64S.f
  by_cases he : a.length = b.length
  · refine Ev.pos (by omega) ?_
    have := laws_eqInt64S.ev_l a b hl he a.length 0 (by omega)
    simpa using this
  · refine Ev.neg (by omega) ?_
    rw [decide_eq_false (fun e => he (by rw [e]))]
    exact Ev.now _

-- laws_eqShareS
theorem laws_eqShareS.ev_l (a : List S62) (hl : a.length ≤ 8796093022208) : ∀ (d i : Nat), i + d = a.length → Ev (fun k => laws_eqShareS.l0 k a a (i : Int)) true := by
  intro d
  induction d with
  | zero =>
    intro i hi
    refine Ev.succ ?_
    simp only [laws_eqShareS.l0]
    exact Ev.neg (by omega) (Ev.now _)
  | succ d ih =>
    intro i hi
    refine Ev.succ ?_
    simp only [laws_eqShareS.l0]
    refine Ev.pos (by omega) (Ev.pos (by omega) (Ev.pos (by omega) (Ev.bindc (a := true) ?_ (Ev.pos rfl ?_))))
    · simp [laws_eqShare.f]
    · rw [w64 (n := (i : Int) + 1) (by omega) (by omega)]
      exact ih (i + 1) (by omega)
theorem laws_eqShareS.ev (a : List S62) (hl : a.length ≤ 8796093022208) : Ev (fun k => laws_eqShareS.f k a a) true := by
  unfold laws_eqShareS.f
  exact Ev.pos rfl (laws_eqShareS.ev_l a hl a.length 0 (by omega))

-- laws_markInt64S
theorem laws_markInt64S.ev_l (n : Nat) (v : Int) (hn : n ≤ 35184372088832) (h0 : 0 ≤ v) (h1 : v ≤ 4611686018427387904) : ∀ (d i : Nat) (m : List Int), i + d = n → m.length = n → m.take i = (marks v n).take i → Ev (fun k => laws_markInt64S.l0 k m (v + (i : Int)) (i : Int)) (v + (n : Int), marks v n) := by
  intro d
  induction d with
  | zero =>
    intro i m hi hm ht
    refine Ev.succ ?_
    simp only [laws_markInt64S.l0]
    rw [take_all (L := marks v n) (by rw [marks_length]; omega) (by rw [marks_length]; exact hm) ht]
    have : i = n := by omega
    subst this
    exact Ev.neg (by rw [marks_length]; omega) (Ev.now _)
  | succ d ih =>
    intro i m hi hm ht
    have hlt : i < m.length := by omega
    refine Ev.succ ?_
    simp only [laws_markInt64S.l0]
    rw [w64 (n := (i : Int) + 1) (by omega) (by omega), w64 (n := v + (i : Int) + 1) (by omega) (by omega)]
    refine Ev.pos (by omega) (Ev.pos (by omega) ?_)
    have hL : i < (marks v n).length := by rw [marks_length]; omega
    have := take_set (m := m) (L := marks v n) hL (by rw [marks_length]; exact hm) ht
    rw [marks_get] at this
    have e : v + (i : Int) + 1 = v + ((i + 1 : Nat) : Int) := by omega
    rw [e]
    exact ih (i + 1) _ (by omega) (by simpa using hm) this
theorem laws_markInt64S.ev (l : List Int) (v : Int) (hn : l.length ≤ 35184372088832) (h0 : 0 ≤ v) (h1 : v ≤ 4611686018427387904) : Ev (fun k => laws_markInt64S.f k l v) (v + (l.length : Int), marks v l.length) := by
  unfold laws_markInt64S.f
  have := laws_markInt64S.ev_l l.length v hn h0 h1 l.length 0 l (by omega) rfl (by simp)
  simpa using this

-- spec_l00In
theorem spec_l00In.eq (a b c : Int) : spec_l00In.f a b c = some (decide (b ≤ a ∧ a ≤ c)) := by
  unfold spec_l00In.f
  by_cases h : a ≥ b
  · have : b ≤ a := h
    simp [h, this]
  · have : ¬ b ≤ a := h
    simp [this]

-- spec_l05Prime
theorem spec_l05Prime.small : ∀ n : Fin 32, 2 ≤ n.val → spec_l05Prime.f 40 (n.val : Int) = some (isPr (n.val : Int)) := by decide +kernel
theorem spec_l05Prime.ev (p : Int) : Ev (fun k => spec_l05Prime.f k p) (isPr p) := by
  by_cases h : 2 ≤ p ∧ p ≤ 31
  · obtain ⟨n, rfl⟩ : ∃ n : Nat, p = n := ⟨p.toNat, by omega⟩
    exact Ev.of (fun k => spec_l05Prime.mono _ k) (spec_l05Prime.small ⟨n, by omega⟩ (by simp only; omega))
  · have e : isPr p = false := by
      rcases (show p < 2 ∨ 2 ≤ p by omega) with h1 | h1
      · exact isPr_small h1
      · exact isPr_big (by omega)
    rw [e]
    refine Ev.congr (f := fun _ => some false) (fun k => ?_) (Ev.now _)
    unfold spec_l05Prime.f
    rw [spec_l00In.eq, decide_eq_false h]
    rfl

-- spec_l05Residues
theorem spec_l05Residues.ev_l (p : Int) (hp : -9223372036854775807 ≤ p) (hp' : p ≤ 9223372036854775807) (l : List Int) (hl : l.length ≤ 9223372036854775806) : ∀ (d i : Nat), i + d = l.length → Ev (fun k => spec_l05Residues.l0 k p l (i : Int)) (allR p (l.drop i)) := by
  intro d
  induction d with
  | zero =>
    intro i hi
    refine Ev.succ ?_
    simp only [spec_l05Residues.l0]
    rw [List.drop_of_length_le (by omega)]
    exact Ev.neg (by omega) (Ev.now _)
  | succ d ih =>
    intro i hi
    refine Ev.succ ?_
    simp only [spec_l05Residues.l0, spec_l00In.eq, Option.bind_some]
    refine Ev.pos (by omega) (Ev.pos (by omega) ?_)
    have hlt : i < l.length := by omega
    rw [rd_get l i hlt, w64 (n := p - 1) (by omega) (by omega), w64 (n := (i : Int) + 1) (by omega) (by omega), List.drop_eq_getElem_cons hlt]
    simp only [allR, List.all_cons]
    have hin : inR p l[i] = decide (0 ≤ l[i] ∧ l[i] ≤ p - 1) := rfl
    rw [hin]
    by_cases hx : 0 ≤ l[i] ∧ l[i] ≤ p - 1
    · rw [decide_eq_true hx]
      refine Ev.pos rfl ?_
      rw [Bool.true_and]
      exact ih (i + 1) (by omega)
    · rw [decide_eq_false hx]
      exact Ev.neg (by decide) (Ev.now _)
theorem spec_l05Residues.ev (p : Int) (hp : -9223372036854775807 ≤ p) (hp' : p ≤ 9223372036854775807) (l : List Int) (hl : l.length ≤ 9223372036854775806) : Ev (fun k => spec_l05Residues.f k p l) (allR p l) := by
  have := spec_l05Residues.ev_l p hp hp' l hl l.length 0 (by omega)
  simpa [spec_l05Residues.f] using this

-- spec_l05Curve
theorem spec_l05Curve.ev (p : Int) (hp : -9223372036854775807 ≤ p) (hp' : p ≤ 9223372036854775807) (l : List Int) (hl : l.length ≤ 35184372088832) : Ev (fun k => spec_l05Curve.f k p l) (decide (l.length ≤ 7) && (allR p l && lastNZ l)) := by
  unfold spec_l05Curve.f
  by_cases h7 : l.length ≤ 7
  · refine Ev.pos (by omega) (Ev.bind (spec_l05Residues.ev p hp hp' l (by omega)) ?_)
    rw [decide_eq_true h7, Bool.true_and]
    cases hr : allR p l with
    | false => exact Ev.neg Bool.false_ne_true (Ev.now _)
    | true =>
      refine Ev.pos rfl ?_
      rw [Bool.true_and]
      by_cases h0 : l.length = 0
      · refine Ev.pos (by omega) ?_
        have : l = [] := List.length_eq_zero_iff.1 h0
        subst this
        exact Ev.now _
      · refine Ev.neg (by omega) ?_
        rw [w64 (by omega) (by omega)]
        refine Ev.pos (by omega) (Ev.pos (by omega) ?_)
        rw [lastNZ_rd h0]
        exact Ev.now _
  · refine Ev.neg (by omega) ?_
    rw [decide_eq_false h7]
    exact Ev.now _

-- spec_ValidCurve
theorem spec_ValidCurve.ev (p : Int) (l : List Int) (hl : l.length ≤ 35184372088832) : Ev (fun k => spec_ValidCurve.f k p l) (isCurve p l) := by
  unfold spec_ValidCurve.f isCurve
  refine Ev.bind (spec_l05Prime.ev p) ?_
  cases h : isPr p with
  | false => exact Ev.neg Bool.false_ne_true (Ev.now _)
  | true =>
    have := isPr_bd h
    refine Ev.pos rfl (Ev.bind (spec_l05Curve.ev p (by omega) (by omega) l hl) ?_)
    exact Ev.now _

-- spec_l00Rises
theorem spec_l00Rises.ev_l (lo hi : Int) (l : List Int) (hl : l.length ≤ 35184372088832) : ∀ (d i : Nat), i + d = l.length → Ev (fun k => spec_l00Rises.l0 k l lo hi (i : Int)) (risesAt lo hi l i) := by
  intro d
  induction d with
  | zero =>
    intro i hi
    refine Ev.succ ?_
    simp only [spec_l00Rises.l0]
    rw [risesAt_end _ _ _ _ (by omega)]
    exact Ev.neg (by omega) (Ev.now _)
  | succ d ih =>
    intro i hd
    have hlt : i < l.length := by omega
    refine Ev.succ ?_
    simp only [spec_l00Rises.l0]
    have hn := ih (i + 1) (by omega)
    rw [rd_get l i hlt, spec_l00In.eq, w64 (n := (i : Int) + 1) (by omega) (by omega)]
    refine Ev.pos (by omega) (Ev.pos (by omega) (Ev.bindc rfl ?_))
    cases i with
    | zero =>
      rw [risesAt_zero _ _ _ hlt]
      cases hc : decide (lo ≤ l[0] ∧ l[0] ≤ hi) with
      | false => exact Ev.neg Bool.false_ne_true (Ev.now _)
      | true => exact Ev.pos rfl (Ev.neg (by omega) (by rw [Bool.true_and]; exact hn))
    | succ j =>
      rw [risesAt_succ _ _ _ _ hlt]
      cases hc : decide (lo ≤ l[j + 1] ∧ l[j + 1] ≤ hi) with
      | false => exact Ev.neg Bool.false_ne_true (Ev.now _)
      | true =>
        have e : ((j + 1 : Nat) : Int) - 1 = (j : Int) := by omega
        rw [w64 (n := ((j + 1 : Nat) : Int) - 1) (by omega) (by omega), e, rd_get l j (by omega), Bool.true_and]
        refine Ev.pos rfl (Ev.pos (by omega) (Ev.pos (by omega) (Ev.pos (by omega) ?_)))
        by_cases hx : l[j] < l[j + 1]
        · rw [decide_eq_true hx, Bool.true_and]
          exact Ev.neg (by omega) hn
        · rw [decide_eq_false hx, Bool.false_and]
          exact Ev.pos (by omega) (Ev.now _)

-- spec_l05Points
theorem isPts_at (p : Int) (l : List Int) : (decide (l.length ≤ 10) && risesAt 1 (p - 1) l 0) = isPts p l := by
  rw [risesAt_all, isPts, Bool.and_comm (l.all _)]
theorem spec_l05Points.ev (p : Int) (hp : -9223372036854775807 ≤ p) (hp' : p ≤ 9223372036854775807) (l : List Int) (hl : l.length ≤ 35184372088832) : Ev (fun k => spec_l05Points.f k p l) (isPts p l) := by
  unfold spec_l05Points.f spec_l00Rises.f
  rw [w64 (n := p - 1) (by omega) (by omega), ← isPts_at]
  by_cases h : l.length ≤ 10
  · rw [decide_eq_true h, Bool.true_and]
    exact Ev.pos (by omega) (Ev.bind (spec_l00Rises.ev_l 1 (p - 1) l hl l.length 0 (by omega)) (Ev.now _))
  · rw [decide_eq_false h, Bool.false_and]
    exact Ev.neg (by omega) (Ev.now _)

-- spec_l05Value
theorem spec_l05Value.ev_l (p x : Int) (hp : 0 < p) (hp' : p ≤ 31) (hx : 0 ≤ x ∧ x < p) (l : List Int) (hr : allR p l = true) (hl : l.length ≤ 35184372088832) : ∀ (n : Nat) (acc : Int), n ≤ l.length → 0 ≤ acc → acc < p → Ev (fun k => spec_l05Value.l0 k p l x acc ((n : Int) - 1)) (horner p x (l.take n) acc) := by
  intro n
  induction n with
  | zero =>
    intro acc hn h0 h1
    refine Ev.succ ?_
    simp only [spec_l05Value.l0]
    exact Ev.neg (by omega) (Ev.now _)
  | succ n ih =>
    intro acc hn h0 h1
    refine Ev.succ ?_
    simp only [spec_l05Value.l0]
    have hlt : n < l.length := by omega
    have e : ((n + 1 : Nat) : Int) - 1 = (n : Int) := by omega
    have hg := allR_get hr n hlt
    have hm := mul_bd h0 (show acc ≤ 31 by omega) hx.1 (show x ≤ 31 by omega)
    rw [e, rd_get l n hlt]
    refine Ev.pos (by omega) (Ev.pos (by omega) (Ev.pos (by omega) (Ev.neg (by omega) ?_)))
    rw [w64 (n := acc * x) (by omega) (by omega), w64 (n := acc * x + l[n]) (by omega) (by omega), w64 (n := (n : Int) - 1) (by omega) (by omega), tmod_of (by omega), horner_take p x l n hlt]
    exact ih _ (by omega) (emod_bd hp _).1 (emod_bd hp _).2
theorem spec_l05Value.ev (p x : Int) (hp : 0 < p) (hp' : p ≤ 31) (hx : 0 ≤ x ∧ x < p) (l : List Int) (hr : allR p l = true) (hl : l.length ≤ 35184372088832) : Ev (fun k => spec_l05Value.f k p l x) (cval p l x) := by
  unfold spec_l05Value.f
  rw [w64 (by omega) (by omega)]
  refine Ev.eq (spec_l05Value.ev_l p x hp hp' hx l hr hl l.length 0 (Nat.le_refl _) (by omega) (by omega)) ?_
  rw [List.take_length]; rfl

-- spec_l05Deal
def dealM (p : Int) (c : List Int) (x : Int) : S62 := ⟨x, cval p c x⟩
theorem spec_l05Deal.ev_l (p : Int) (c : List Int) (hc : isCurve p c = true) (l : List Int) (hl : l.length ≤ 10) (hr : ∀ x ∈ l, 0 ≤ x ∧ x < p) : ∀ (d i : Nat) (acc : List S62), i + d = l.length → acc.length = i → Ev (fun k => spec_l05Deal.l0 k p c l acc (i : Int)) (acc ++ (l.drop i).map (dealM p c)) := by
  obtain ⟨h1, h2, h3, h4⟩ := isCurve_of hc
  have hb := isPr_bd h1
  intro d
  induction d with
  | zero =>
    intro i acc hi ha
    refine Ev.succ ?_
    simp only [spec_l05Deal.l0]
    rw [drop_end (by omega), List.map_nil, List.append_nil]
    exact Ev.neg (by omega) (Ev.now _)
  | succ d ih =>
    intro i acc hi ha
    have hlt : i < l.length := by omega
    have hx := hr _ (List.getElem_mem hlt)
    refine Ev.succ ?_
    simp only [spec_l05Deal.l0]
    rw [rd_get l i hlt, w64 (n := (i : Int) + 1) (by omega) (by omega), drop_get hlt, List.map_cons]
    refine Ev.pos (by omega) (Ev.pos (by omega) (Ev.bind (spec_l05Value.ev p l[i] (by omega) (by omega) hx c h3 (by omega)) (Ev.pos (by omega) ?_)))
    refine Ev.eq (ih (i + 1) _ (by omega) (by simp [ha])) ?_
    rw [List.append_assoc]; rfl

-- spec_DealShares
def dealSM (p : Int) (c l : List Int) : List S62 × Int := if isCurve p c = true then (if isPts p l = true then (l.map (dealM p c), 0) else ([], 2)) else ([], 1)
theorem isPts_lt {p : Int} {l : List Int} (h : isPts p l = true) : l.length ≤ 10 ∧ ∀ x ∈ l, 0 ≤ x ∧ x < p := by
  simp only [isPts, Bool.and_eq_true, decide_eq_true_eq, List.all_eq_true] at h
  exact ⟨h.1, fun x hx => by have := h.2.2 x hx; omega⟩
theorem dealSM_len (p : Int) (c l : List Int) : (dealSM p c l).1.length ≤ 10 := by
  unfold dealSM
  split
  · split
    · rename_i h
      simp only [List.length_map]
      exact (isPts_lt h).1
    · simp
  · simp
theorem spec_DealShares.ev (p : Int) (c l : List Int) (hc : c.length ≤ 35184372088832) (hl : l.length ≤ 35184372088832) : Ev (fun k => spec_DealShares.f k p c l) (dealSM p c l) := by
  unfold spec_DealShares.f dealSM
  refine Ev.bind (spec_ValidCurve.ev p c hc) ?_
  by_cases h : isCurve p c = true
  · have hb := isPr_bd (isCurve_of h).1
    rw [if_pos h]
    refine Ev.pos h (Ev.bind (spec_l05Points.ev p (by omega) (by omega) l hl) ?_)
    by_cases h2 : isPts p l = true
    · rw [if_pos h2]
      unfold spec_l05Deal.f
      refine Ev.pos h2 (Ev.bind (spec_l05Deal.ev_l p c h l (isPts_lt h2).1 (isPts_lt h2).2 l.length 0 [] (by omega) rfl) (Ev.eq (Ev.now _) ?_))
      simp
    · rw [if_neg h2]
      exact Ev.neg h2 (Ev.now _)
  · rw [if_neg h]
    exact Ev.neg h (Ev.now _)

-- impl_within
theorem impl_within.eq (a b c : Int) : impl_within.f a b c = some (decide (b ≤ a ∧ a ≤ c)) := by
  unfold impl_within.f
  by_cases h : a ≥ b
  · have : b ≤ a := h
    simp [h, this]
  · have : ¬ b ≤ a := h
    simp [this]

-- impl_IsPrime
theorem impl_IsPrime.small : ∀ n : Fin 32, 2 ≤ n.val → impl_IsPrime.f 40 (n.val : Int) = some (isPr (n.val : Int)) := by decide +kernel
theorem impl_IsPrime.ev (p : Int) : Ev (fun k => impl_IsPrime.f k p) (isPr p) := by
  by_cases h : 2 ≤ p ∧ p ≤ 31
  · obtain ⟨n, rfl⟩ : ∃ n : Nat, p = n := ⟨p.toNat, by omega⟩
    exact Ev.of (fun k => impl_IsPrime.mono _ k) (impl_IsPrime.small ⟨n, by omega⟩ (by simp only; omega))
  · have hw : impl_within.f p 2 31 = some false := by rw [impl_within.eq, decide_eq_false h]
    rcases (show p < 2 ∨ 2 ≤ p by omega) with h1 | h1
    · rw [isPr_small h1]
      refine Ev.congr (fun k => by unfold impl_IsPrime.f; rfl) (Ev.succ ?_)
      simp only [impl_IsPrime.l0]
      refine Ev.neg (by rw [w64 (by omega) (by omega)]; omega) (Ev.succ ?_)
      simp only [impl_IsPrime.j1, hw]
      exact ⟨0, fun k _ => rfl⟩
    · rw [isPr_big (by omega)]
      refine Ev.congr (fun k => by unfold impl_IsPrime.f; rfl) (Ev.succ ?_)
      simp only [impl_IsPrime.l0]
      have hd : decide (p ≤ 31) = false := decide_eq_false (by omega)
      rw [hd]
      refine Ev.pos (by rw [w64 (by omega) (by omega)]; omega) (Ev.succ ?_)
      simp only [impl_IsPrime.j1, hw]
      exact ⟨0, fun k _ => rfl⟩

-- impl_areElements_1
theorem impl_areElements_1.eq (x p : Int) (hp : -9223372036854775807 ≤ p) (hp' : p ≤ 9223372036854775807) : impl_areElements_1.f x [p] = some (!inR p x) := by
  unfold impl_areElements_1.f
  have e : rd [p] 0 = p := rfl
  rw [e, w64 (n := p - 1) (by omega) (by omega), impl_within.eq]
  rfl

-- slices_IndexFunc_int64_int64_at_impl_areElements_1
theorem slices_IndexFunc_int64_int64_at_impl_areElements_1.ev_l (p : Int) (hp : -9223372036854775807 ≤ p) (hp' : p ≤ 9223372036854775807) (l : List Int) (hl : l.length ≤ 9223372036854775806) : ∀ (d i : Nat), i + d = l.length → Ev (fun k => slices_IndexFunc_int64_int64_at_impl_areElements_1.l0 k l (l.length : Int) (i : Int) [p]) (idxFrom (fun x => !inR p x) (l.drop i) (i : Int)) := by
  intro d
  induction d with
  | zero =>
    intro i hi
    refine Ev.succ ?_
    simp only [slices_IndexFunc_int64_int64_at_impl_areElements_1.l0]
    rw [List.drop_of_length_le (by omega)]
    exact Ev.neg (by omega) (Ev.now _)
  | succ d ih =>
    intro i hi
    refine Ev.succ ?_
    simp only [slices_IndexFunc_int64_int64_at_impl_areElements_1.l0]
    refine Ev.pos (by omega) (Ev.pos (by omega) (Ev.pos (by omega) ?_))
    have hlt : i < l.length := by omega
    rw [rd_get l i hlt, impl_areElements_1.eq _ p hp hp', w64 (n := (i : Int) + 1) (by omega) (by omega), List.drop_eq_getElem_cons hlt]
    simp only [Option.bind_some, idxFrom]
    by_cases hx : (!inR p l[i]) = true
    · refine Ev.pos hx ?_
      rw [if_pos hx]
      exact Ev.now _
    · refine Ev.neg hx ?_
      rw [if_neg hx]
      exact ih (i + 1) (by omega)

-- slices_ContainsFunc_int64_int64_at_impl_areElements_1
theorem slices_ContainsFunc_int64_int64_at_impl_areElements_1.ev (p : Int) (hp : -9223372036854775807 ≤ p) (hp' : p ≤ 9223372036854775807) (l : List Int) (hl : l.length ≤ 9223372036854775806) : Ev (fun k => slices_ContainsFunc_int64_int64_at_impl_areElements_1.f k l [p]) (!allR p l) := by
  unfold slices_ContainsFunc_int64_int64_at_impl_areElements_1.f slices_IndexFunc_int64_int64_at_impl_areElements_1.f
  refine Ev.bind (slices_IndexFunc_int64_int64_at_impl_areElements_1.ev_l p hp hp' l hl l.length 0 (by omega)) ?_
  refine Ev.eq (Ev.now _) ?_
  rw [idxFrom_any _ _ _ (by omega), List.drop_zero, not_allR]

-- impl_areElements
theorem impl_areElements.ev (p : Int) (l : List Int) (hl : l.length ≤ 9223372036854775806) : Ev (fun k => impl_areElements.f k p l) (isPr p && allR p l) := by
  unfold impl_areElements.f
  refine Ev.bind (impl_IsPrime.ev p) ?_
  cases h : isPr p with
  | false => exact Ev.neg Bool.false_ne_true (Ev.now _)
  | true =>
    have := isPr_bd h
    refine Ev.pos rfl ?_
    refine Ev.bind (slices_ContainsFunc_int64_int64_at_impl_areElements_1.ev p (by omega) (by omega) l hl) ?_
    refine Ev.eq (Ev.now _) ?_
    rw [Bool.not_not, Bool.true_and]

-- impl_ValidCurve
theorem impl_ValidCurve.ev (p : Int) (l : List Int) (hl : l.length ≤ 35184372088832) : Ev (fun k => impl_ValidCurve.f k p l) (isCurve p l) := by
  unfold impl_ValidCurve.f isCurve
  refine Ev.bind (impl_areElements.ev p l (by omega)) ?_
  cases h : isPr p with
  | false => exact Ev.neg Bool.false_ne_true (Ev.now _)
  | true =>
    rw [Bool.true_and, Bool.true_and]
    cases hr : allR p l with
    | false =>
      refine Ev.neg Bool.false_ne_true ?_
      rw [Bool.false_and, Bool.and_false]
      exact Ev.now _
    | true =>
      refine Ev.pos rfl ?_
      rw [Bool.true_and]
      by_cases h7 : l.length ≤ 7
      · rw [decide_eq_true h7, Bool.true_and]
        refine Ev.pos (by omega) ?_
        by_cases h0 : l.length = 0
        · refine Ev.pos (by omega) ?_
          have : l = [] := List.length_eq_zero_iff.1 h0
          subst this
          exact Ev.now _
        · refine Ev.neg (by omega) ?_
          rw [w64 (by omega) (by omega)]
          refine Ev.pos (by omega) (Ev.pos (by omega) ?_)
          rw [lastNZ_rd h0]
          exact Ev.now _
      · refine Ev.neg (by omega) ?_
        rw [decide_eq_false h7]
        exact Ev.now _

-- impl_curveAt
theorem impl_curveAt.ev_l (p x : Int) (hp : 0 < p) (hp' : p ≤ 31) (hx : 0 ≤ x ∧ x < p) (l : List Int) (hr : allR p l = true) (hl : l.length ≤ 35184372088832) : ∀ (n : Nat) (acc : Int), n ≤ l.length → 0 ≤ acc → acc < p → Ev (fun k => impl_curveAt.l0 k p l x acc ((n : Int) - 1)) (horner p x (l.take n) acc) := by
  intro n
  induction n with
  | zero =>
    intro acc hn h0 h1
    refine Ev.succ ?_
    simp only [impl_curveAt.l0]
    exact Ev.neg (by omega) (Ev.now _)
  | succ n ih =>
    intro acc hn h0 h1
    refine Ev.succ ?_
    simp only [impl_curveAt.l0]
    have hlt : n < l.length := by omega
    have e : ((n + 1 : Nat) : Int) - 1 = (n : Int) := by omega
    have hg := allR_get hr n hlt
    have hm := mul_bd h0 (show acc ≤ 31 by omega) hx.1 (show x ≤ 31 by omega)
    rw [e, rd_get l n hlt]
    refine Ev.pos (by omega) (Ev.pos (by omega) (Ev.pos (by omega) (Ev.neg (by omega) ?_)))
    rw [w64 (n := acc * x) (by omega) (by omega), w64 (n := acc * x + l[n]) (by omega) (by omega), w64 (n := (n : Int) - 1) (by omega) (by omega), tmod_of (by omega), horner_take p x l n hlt]
    exact ih _ (by omega) (emod_bd hp _).1 (emod_bd hp _).2
theorem impl_curveAt.ev (p x : Int) (hp : 0 < p) (hp' : p ≤ 31) (hx : 0 ≤ x ∧ x < p) (l : List Int) (hr : allR p l = true) (hl : l.length ≤ 35184372088832) : Ev (fun k => impl_curveAt.f k p l x) (cval p l x) := by
  unfold impl_curveAt.f
  rw [w64 (by omega) (by omega)]
  refine Ev.eq (impl_curveAt.ev_l p x hp hp' hx l hr hl l.length 0 (Nat.le_refl _) (by omega) (by omega)) ?_
  rw [List.take_length]; rfl

-- impl_arePoints
theorem impl_arePoints.ev_l (p : Int) (hp : -9223372036854775807 ≤ p) (hp' : p ≤ 9223372036854775807) (l : List Int) (hl : l.length ≤ 35184372088832) : ∀ (d i : Nat), i + d = l.length → Ev (fun k => impl_arePoints.l0 k p l l (l.length : Int) (i : Int)) (risesAt 1 (p - 1) l i && decide (l.length ≤ 10)) := by
  intro d
  induction d with
  | zero =>
    intro i hi
    refine Ev.succ ?_
    simp only [impl_arePoints.l0]
    rw [risesAt_end _ _ _ _ (by omega), Bool.true_and]
    refine Ev.neg (by omega) (Ev.eq (Ev.now _) ?_)
    exact decide_eq_decide.2 (by omega)
  | succ d ih =>
    intro i hd
    have hlt : i < l.length := by omega
    refine Ev.succ ?_
    simp only [impl_arePoints.l0]
    have hn := ih (i + 1) (by omega)
    rw [rd_get l i hlt, impl_within.eq, w64 (n := (i : Int) + 1) (by omega) (by omega), w64 (n := p - 1) (by omega) (by omega)]
    refine Ev.pos (by omega) (Ev.pos (by omega) (Ev.pos (by omega) (Ev.bindc rfl ?_)))
    cases i with
    | zero =>
      rw [risesAt_zero _ _ _ hlt]
      cases hc : decide (1 ≤ l[0] ∧ l[0] ≤ p - 1) with
      | false => exact Ev.neg Bool.false_ne_true (Ev.now _)
      | true => exact Ev.pos rfl (Ev.neg (by omega) (by rw [Bool.true_and]; exact hn))
    | succ j =>
      rw [risesAt_succ _ _ _ _ hlt]
      cases hc : decide (1 ≤ l[j + 1] ∧ l[j + 1] ≤ p - 1) with
      | false => exact Ev.neg Bool.false_ne_true (Ev.now _)
      | true =>
        have e : ((j + 1 : Nat) : Int) - 1 = (j : Int) := by omega
        rw [w64 (n := ((j + 1 : Nat) : Int) - 1) (by omega) (by omega), e, rd_get l j (by omega), Bool.true_and]
        refine Ev.pos rfl (Ev.pos (by omega) (Ev.pos (by omega) (Ev.pos (by omega) ?_)))
        by_cases hx : l[j] < l[j + 1]
        · rw [decide_eq_true hx, Bool.true_and]
          exact Ev.neg (by omega) hn
        · rw [decide_eq_false hx, Bool.false_and]
          exact Ev.pos (by omega) (Ev.now _)
theorem impl_arePoints.ev (p : Int) (hp : -9223372036854775807 ≤ p) (hp' : p ≤ 9223372036854775807) (l : List Int) (hl : l.length ≤ 35184372088832) : Ev (fun k => impl_arePoints.f k p l) (isPts p l) := by
  unfold impl_arePoints.f
  refine Ev.eq (impl_arePoints.ev_l p hp hp' l hl l.length 0 (by omega)) ?_
  rw [risesAt_all, isPts, Bool.and_comm, Bool.and_comm (l.all _)]

-- impl_DealShares
theorem impl_DealShares.ev_l (p : Int) (c : List Int) (hc : isCurve p c = true) (l : List Int) (hl : l.length ≤ 10) (hr : ∀ x ∈ l, 0 ≤ x ∧ x < p) : ∀ (d i : Nat) (acc : List S62), i + d = l.length → acc.length = i → Ev (fun k => impl_DealShares.l0 k p c acc l (l.length : Int) (i : Int)) (acc ++ (l.drop i).map (dealM p c), 0) := by
  obtain ⟨h1, h2, h3, h4⟩ := isCurve_of hc
  have hb := isPr_bd h1
  intro d
  induction d with
  | zero =>
    intro i acc hi ha
    refine Ev.succ ?_
    simp only [impl_DealShares.l0]
    rw [drop_end (by omega), List.map_nil, List.append_nil]
    exact Ev.neg (by omega) (Ev.now _)
  | succ d ih =>
    intro i acc hi ha
    have hlt : i < l.length := by omega
    have hx := hr _ (List.getElem_mem hlt)
    refine Ev.succ ?_
    simp only [impl_DealShares.l0]
    rw [rd_get l i hlt, w64 (n := (i : Int) + 1) (by omega) (by omega), drop_get hlt, List.map_cons]
    refine Ev.pos (by omega) (Ev.pos (by omega) (Ev.pos (by omega) (Ev.bind (impl_curveAt.ev p l[i] (by omega) (by omega) hx c h3 (by omega)) (Ev.pos (by omega) ?_))))
    refine Ev.eq (ih (i + 1) _ (by omega) (by simp [ha])) ?_
    rw [List.append_assoc]; rfl
theorem impl_DealShares.ev (p : Int) (c l : List Int) (hc : c.length ≤ 35184372088832) (hl : l.length ≤ 35184372088832) : Ev (fun k => impl_DealShares.f k p c l) (dealSM p c l) := by
  unfold impl_DealShares.f dealSM
  refine Ev.bind (impl_ValidCurve.ev p c hc) ?_
  by_cases h : isCurve p c = true
  · have hb := isPr_bd (isCurve_of h).1
    rw [if_pos h]
    refine Ev.pos h (Ev.bind (impl_arePoints.ev p (by omega) (by omega) l hl) ?_)
    by_cases h2 : isPts p l = true
    · rw [if_pos h2]
      refine Ev.pos h2 (Ev.eq (impl_DealShares.ev_l p c h l (isPts_lt h2).1 (isPts_lt h2).2 l.length 0 [] (by omega) rfl) ?_)
      simp
    · rw [if_neg h2]
      exact Ev.neg h2 (Ev.now _)
  · rw [if_neg h]
    exact Ev.neg h (Ev.now _)

-- laws_markShareS
def marksSh (v : Int) (n : Nat) : List S62 := (List.range n).map (fun i : Nat => ⟨v + 2 * (i : Int), v + 2 * (i : Int) + 1⟩)
theorem marksSh_length (v : Int) (n : Nat) : (marksSh v n).length = n := by simp [marksSh]
theorem marksSh_get (v : Int) (n i : Nat) (h : i < (marksSh v n).length) : (marksSh v n)[i] = ⟨v + 2 * (i : Int), v + 2 * (i : Int) + 1⟩ := by simp [marksSh]
theorem laws_markShareS.ev_l (n : Nat) (v : Int) (hn : n ≤ 35184372088832) (h0 : 0 ≤ v) (h1 : v ≤ 4611686018427387904) : ∀ (d i : Nat) (m : List S62), i + d = n → m.length = n → m.take i = (marksSh v n).take i → Ev (fun k => laws_markShareS.l0 k m (v + 2 * (i : Int)) (i : Int)) (v + 2 * (n : Int), marksSh v n) := by
  intro d
  induction d with
  | zero =>
    intro i m hi hm ht
    refine Ev.succ ?_
    simp only [laws_markShareS.l0]
    rw [take_all (L := marksSh v n) (by rw [marksSh_length]; omega) (by rw [marksSh_length]; exact hm) ht]
    have : i = n := by omega
    subst this
    exact Ev.neg (by rw [marksSh_length]; omega) (Ev.now _)
  | succ d ih =>
    intro i m hi hm ht
    have hlt : i < m.length := by omega
    refine Ev.succ ?_
    simp only [laws_markShareS.l0, Option.bind_some]
    have hg : ∀ z : S62, rd_T62 (m.set (i : Int).toNat z) (i : Int) = z := by
      intro z
      rw [rd_T62_get _ i (by simpa using hlt)]
      simp
    rw [hg, w64 (n := (i : Int) + 1) (by omega) (by omega), w64 (n := v + 2 * (i : Int) + 1) (by omega) (by omega), w64 (n := v + 2 * (i : Int) + 1 + 1) (by omega) (by omega), Int.toNat_natCast, List.set_set]
    refine Ev.pos (by omega) (Ev.pos (by omega) ?_)
    have hL : i < (marksSh v n).length := by rw [marksSh_length]; omega
    have := take_set (m := m) (L := marksSh v n) hL (by rw [marksSh_length]; exact hm) ht
    rw [marksSh_get] at this
    have e : v + 2 * (i : Int) + 1 + 1 = v + 2 * ((i + 1 : Nat) : Int) := by omega
    rw [e]
    exact ih (i + 1) _ (by omega) (by simpa using hm) this
theorem laws_markShareS.ev (l : List S62) (v : Int) (hn : l.length ≤ 35184372088832) (h0 : 0 ≤ v) (h1 : v ≤ 4611686018427387904) : Ev (fun k => laws_markShareS.f k l v) (v + 2 * (l.length : Int), marksSh v l.length) := by
  unfold laws_markShareS.f
  have := laws_markShareS.ev_l l.length v hn h0 h1 l.length 0 l (by omega) rfl (by simp)
  simpa using this

-- laws_heldShareS
theorem laws_heldShareS.ev_l (n : Nat) (v : Int) (hn : n ≤ 35184372088832) (h0 : 0 ≤ v) (h1 : v ≤ 4611686018427387904) : ∀ (d i : Nat), i + d = n → Ev (fun k => laws_heldShareS.l0 k (marksSh v n) (v + 2 * (i : Int)) (i : Int)) (v + 2 * (n : Int)) := by
  intro d
  induction d with
  | zero =>
    intro i hi
    refine Ev.succ ?_
    simp only [laws_heldShareS.l0]
    have : i = n := by omega
    subst this
    exact Ev.neg (by rw [marksSh_length]; omega) (Ev.now _)
  | succ d ih =>
    intro i hi
    refine Ev.succ ?_
    simp only [laws_heldShareS.l0]
    have hL : i < (marksSh v n).length := by rw [marksSh_length]; omega
    rw [rd_T62_get _ i hL, marksSh_get, w64 (n := (i : Int) + 1) (by omega) (by omega), w64 (n := v + 2 * (i : Int) + 1) (by omega) (by omega), w64 (n := v + 2 * (i : Int) + 1 + 1) (by omega) (by omega)]
    refine Ev.pos (by rw [marksSh_length]; omega) (Ev.pos (by omega) (Ev.pos rfl (Ev.pos rfl ?_)))
    have e : v + 2 * (i : Int) + 1 + 1 = v + 2 * ((i + 1 : Nat) : Int) := by omega
    rw [e]
    exact ih (i + 1) (by omega)
theorem laws_heldShareS.ev (n : Nat) (v : Int) (hn : n ≤ 35184372088832) (h0 : 0 ≤ v) (h1 : v ≤ 4611686018427387904) : Ev (fun k => laws_heldShareS.f k (marksSh v n) v) (v + 2 * (n : Int)) := by
  unfold laws_heldShareS.f
  have := laws_heldShareS.ev_l n v hn h0 h1 n 0 (by omega)
  simpa using this

end Go.Proofs.Ytemdeeepamnbcaa.PFnExactDealShares
