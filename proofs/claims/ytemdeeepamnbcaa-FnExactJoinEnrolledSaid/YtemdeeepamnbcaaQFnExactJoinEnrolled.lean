/- Lemmas on what the printed functions compute. -/
import Derived.Test.YtemdeeepamnbcaaM
import Derived.Test.YtemdeeepamnbcaaPFnExactJoinEnrolledx0
import Derived.Test.YtemdeeepamnbcaaPFnExactJoinEnrolledx1
import Derived.Test.YtemdeeepamnbcaaPFnExactJoinEnrolledx2
import Derived.Test.YtemdeeepamnbcaaPFnExactJoinEnrolledx3
import Derived.Test.YtemdeeepamnbcaaPFnExactJoinEnrolledx4
set_option linter.unusedVariables false
set_option linter.unusedSimpArgs false
set_option maxRecDepth 100000
namespace Go.Proofs.Ytemdeeepamnbcaa.PFnExactJoinEnrolled
open Go.RowKit Go.Proofs.YtemdeeepamnbcaaW.PrintWords Go.Proofs.YtemdeeepamnbcaaW.PrintLast Go.Proofs.Ytemdeeepamnbcaa.M
theorem rd_L1_get (l : List (List Int)) (i : Nat) (h : i < l.length) : rd_L1 l (i : Int) = l[i] := by simp [rd_L1, h]

-- laws_szInt64S
theorem laws_szInt64S.ex (l : List Int) (a : Int) : ∃ v, laws_szInt64S.f l a = some v := by
  unfold laws_szInt64S.f
  split <;> exact ⟨_, rfl⟩

-- laws_szInt64SS
theorem laws_szInt64SS.ex_l (l : List (List Int)) (hl : l.length ≤ 35184372088832) : ∀ (d i : Nat) (a : Int), i + d = l.length → ∃ v, Ev (fun k => laws_szInt64SS.l0 k l a (i : Int)) v := by
  intro d
  induction d with
  | zero =>
    intro i a hi
    refine ⟨a, Ev.succ ?_⟩
    simp only [laws_szInt64SS.l0]
    exact Ev.neg (by omega) (Ev.now _)
  | succ d ih =>
    intro i a hi
    obtain ⟨v, hv⟩ := laws_szInt64S.ex (rd_L1 l (i : Int)) a
    by_cases h : v < 0
    · refine ⟨-1, Ev.succ ?_⟩
      simp only [laws_szInt64SS.l0]
      exact Ev.pos (by omega) (Ev.pos (by omega) (Ev.bindc hv (Ev.pos h (Ev.now _))))
    · obtain ⟨u, hu⟩ := ih (i + 1) v (by omega)
      refine ⟨u, Ev.succ ?_⟩
      simp only [laws_szInt64SS.l0]
      rw [w64 (n := (i : Int) + 1) (by omega) (by omega)]
      exact Ev.pos (by omega) (Ev.pos (by omega) (Ev.bindc hv (Ev.neg h hu)))
theorem laws_szInt64SS.ex (l : List (List Int)) (a : Int) (hl : l.length ≤ 35184372088832) : ∃ v, Ev (fun k => laws_szInt64SS.f k l a) v := by
  unfold laws_szInt64SS.f
  by_cases h : wrap64 (a - (l.length : Int)) < 0
  · exact ⟨_, Ev.pos h (Ev.now _)⟩
  · obtain ⟨v, hv⟩ := laws_szInt64SS.ex_l l hl l.length 0 (wrap64 (a - (l.length : Int))) (by omega)
    exact ⟨v, Ev.neg h hv⟩

-- spec_l00In
theorem spec_l00In.eq (a b c : Int) : spec_l00In.f a b c = some (decide (b ≤ a ∧ a ≤ c)) := by
  unfold spec_l00In.f
  by_cases h : a ≥ b
  · have : b ≤ a := h
    simp [h, this]
  · have : ¬ b ≤ a := h
    simp [this]

-- spec_l05Prime
theorem spec_l05Prime.small : ∀ n : Fin 32, 2 ≤ n.val → spec_l05Prime.f 40 (n.val : Int) = some (isPr (n.val : Int)) := by decide +kernel
theorem spec_l05Prime.ev (p : Int) : Ev (fun k => spec_l05Prime.f k p) (isPr p) := by
  by_cases h : 2 ≤ p ∧ p ≤ 31
  · obtain ⟨n, rfl⟩ : ∃ n : Nat, p = n := ⟨p.toNat, by omega⟩
    exact Ev.of (fun k => spec_l05Prime.mono _ k) (spec_l05Prime.small ⟨n, by omega⟩ (by simp only; omega))
  · have e : isPr p = false := by
      rcases (show p < 2 ∨ 2 ≤ p by omega) with h1 | h1
      · exact isPr_small h1
      · exact isPr_big (by omega)
    rw [e]
    refine Ev.congr (f := fun _ => some false) (fun k => ?_) (Ev.now _)
    unfold spec_l05Prime.f
    rw [spec_l00In.eq, decide_eq_false h]
    rfl

-- spec_l05Residues
theorem spec_l05Residues.ev_l (p : Int) (hp : -9223372036854775807 ≤ p) (hp' : p ≤ 9223372036854775807) (l : List Int) (hl : l.length ≤ 9223372036854775806) : ∀ (d i : Nat), i + d = l.length → Ev (fun k => spec_l05Residues.l0 k p l (i : Int)) (allR p (l.drop i)) := by
  intro d
  induction d with
  | zero =>
    intro i hi
    refine Ev.succ ?_
    simp only [spec_l05Residues.l0]
    rw [List.drop_of_length_le (by omega)]
    exact Ev.neg (by omega) (Ev.now _)
  | succ d ih =>
    intro i hi
    refine Ev.succ ?_
    simp only [spec_l05Residues.l0, spec_l00In.eq, Option.bind_some]
    refine Ev.pos (by omega) (Ev.pos (by omega) ?_)
    have hlt : i < l.length := by omega
    rw [rd_get l i hlt, w64 (n := p - 1) (by omega) (by omega), w64 (n := (i : Int) + 1) (by omega) (by omega), List.drop_eq_getElem_cons hlt]
    simp only [allR, List.all_cons]
    have hin : inR p l[i] = decide (0 ≤ l[i] ∧ l[i] ≤ p - 1) := rfl
    rw [hin]
    by_cases hx : 0 ≤ l[i] ∧ l[i] ≤ p - 1
    · rw [decide_eq_true hx]
      refine Ev.pos rfl ?_
      rw [Bool.true_and]
      exact ih (i + 1) (by omega)
    · rw [decide_eq_false hx]
      exact Ev.neg (by decide) (Ev.now _)
theorem spec_l05Residues.ev (p : Int) (hp : -9223372036854775807 ≤ p) (hp' : p ≤ 9223372036854775807) (l : List Int) (hl : l.length ≤ 9223372036854775806) : Ev (fun k => spec_l05Residues.f k p l) (allR p l) := by
  have := spec_l05Residues.ev_l p hp hp' l hl l.length 0 (by omega)
  simpa [spec_l05Residues.f] using this

-- spec_JoinEnrolled
def rowOK (p : Int) (n : Nat) (r : List Int) : Bool := decide (r.length = n) && allR p r
def joinM (p : Int) (l : List (List Int)) : Int × Int := if isPr p = true then (if (decide (l.length ≤ 10) && l.all (rowOK p l.length)) = true then (l.flatten.sum % p, 0) else (0, 2)) else (0, 1)
theorem spec_JoinEnrolled.in_l (p : Int) (hp : 0 < p) (hp' : p ≤ 31) (l : List (List Int)) (hl : l.length ≤ 10) (i : Nat) (hi : i < l.length) (hr : allR p l[i] = true) (hn : l[i].length ≤ 10) (S : Int)
    (hout : ∀ w, 0 ≤ w → w < p → Ev (fun k => spec_JoinEnrolled.l1 k p l w ((i + 1 : Nat) : Int)) ((w + S) % p, 0)) :
    ∀ (d j : Nat) (w : Int), j + d = l[i].length → 0 ≤ w → w < p → Ev (fun k => spec_JoinEnrolled.l2 k p l w (i : Int) (j : Int)) ((w + ((l[i].drop j).sum + S)) % p, 0) := by
  intro d
  induction d with
  | zero =>
    intro j w hj h0 h1
    refine Ev.succ ?_
    simp only [spec_JoinEnrolled.l2]
    rw [rd_L1_get l i hi, drop_end (by omega), w64 (n := (i : Int) + 1) (by omega) (by omega)]
    refine Ev.pos (by omega) (Ev.pos (by omega) (Ev.neg (by omega) ?_))
    simpa using hout w h0 h1
  | succ d ih =>
    intro j w hj h0 h1
    have hlt : j < l[i].length := by omega
    have b := allR_get hr j hlt
    refine Ev.succ ?_
    simp only [spec_JoinEnrolled.l2]
    rw [rd_L1_get l i hi, rd_get l[i] j hlt, drop_get hlt, List.sum_cons, w64 (n := (j : Int) + 1) (by omega) (by omega), w64 (n := w + l[i][j]) (by omega) (by omega), tmod_of (by omega)]
    refine Ev.pos (by omega) (Ev.pos (by omega) (Ev.pos (by omega) (Ev.pos (by omega) (Ev.neg (by omega) ?_))))
    have e := emod_bd hp (w + l[i][j])
    refine Ev.eq (ih (j + 1) _ (by omega) e.1 e.2) ?_
    congr 1
    apply Cg.emod_eq
    have : w + (l[i][j] + (l[i].drop (j + 1)).sum + S) = (w + l[i][j]) + ((l[i].drop (j + 1)).sum + S) := by omega
    rw [this]
    exact (Cg.mod p _).add (Cg.refl p _)
theorem rowOK_of {p : Int} {n : Nat} {r : List Int} (h : rowOK p n r = true) : r.length = n ∧ allR p r = true := by
  simpa [rowOK] using h
theorem spec_JoinEnrolled.sum_l (p : Int) (hp : 0 < p) (hp' : p ≤ 31) (l : List (List Int)) (hl : l.length ≤ 10) (hr : l.all (rowOK p l.length) = true) : ∀ (d i : Nat) (w : Int), i + d = l.length → 0 ≤ w → w < p → Ev (fun k => spec_JoinEnrolled.l1 k p l w (i : Int)) ((w + (l.drop i).flatten.sum) % p, 0) := by
  intro d
  induction d with
  | zero =>
    intro i w hi h0 h1
    refine Ev.succ ?_
    simp only [spec_JoinEnrolled.l1]
    rw [drop_end (by omega)]
    refine Ev.neg (by omega) (Ev.eq (Ev.now _) ?_)
    simp only [List.flatten_nil, List.sum_nil, Int.add_zero, Int.emod_eq_of_lt h0 h1]
  | succ d ih =>
    intro i w hi h0 h1
    have hlt : i < l.length := by omega
    obtain ⟨r1, r2⟩ := rowOK_of (List.all_eq_true.1 hr _ (List.getElem_mem hlt))
    refine Ev.succ ?_
    simp only [spec_JoinEnrolled.l1]
    rw [drop_get hlt, List.flatten_cons, List.sum_append]
    refine Ev.pos (by omega) ?_
    have := spec_JoinEnrolled.in_l p hp hp' l hl i hlt r2 (by omega) (l.drop (i + 1)).flatten.sum (fun w a b => ih (i + 1) w (by omega) a b) l[i].length 0 w (by omega) h0 h1
    simpa using this
theorem spec_JoinEnrolled.j (p : Int) (l : List (List Int)) (b : Bool) (r : Int × Int) (h : Ev (fun k => if b = true then spec_JoinEnrolled.l1 k p l 0 0 else some (0, 2)) r) : Ev (fun k => spec_JoinEnrolled.j1 k p l b) r := by
  refine Ev.succ ?_
  simp only [spec_JoinEnrolled.j1]
  exact h
theorem spec_JoinEnrolled.ok_l (p : Int) (hp : 0 < p) (hp' : p ≤ 31) (l : List (List Int)) (hl : l.length ≤ 35184372088832) (hx : ∀ r ∈ l, r.length ≤ 35184372088832) (hg : (decide (l.length ≤ 10) && l.all (rowOK p l.length)) = true → Ev (fun k => spec_JoinEnrolled.l1 k p l 0 0) (l.flatten.sum % p, 0)) :
    ∀ (d i : Nat) (b : Bool), i + d = l.length → (b = true → l.length ≤ 10 ∧ (l.take i).all (rowOK p l.length) = true) → Ev (fun k => spec_JoinEnrolled.l0 k p l b (i : Int)) (if (b && (l.drop i).all (rowOK p l.length)) = true then (l.flatten.sum % p, 0) else (0, 2)) := by
  intro d
  induction d with
  | zero =>
    intro i b hi hb
    refine Ev.succ ?_
    simp only [spec_JoinEnrolled.l0]
    rw [drop_end (by omega)]
    refine Ev.neg (by omega) (spec_JoinEnrolled.j _ _ _ _ ?_)
    cases b with
    | false => exact Ev.neg Bool.false_ne_true (Ev.now _)
    | true =>
      have h := hb rfl
      rw [List.take_of_length_le (by omega)] at h
      exact Ev.pos rfl (Ev.eq (hg (by rw [h.2, decide_eq_true h.1]; rfl)) (by simp))
  | succ d ih =>
    intro i b hi hb
    have hlt : i < l.length := by omega
    refine Ev.succ ?_
    simp only [spec_JoinEnrolled.l0]
    refine Ev.pos (by omega) ?_
    cases b with
    | false =>
      refine Ev.neg Bool.false_ne_true (spec_JoinEnrolled.j _ _ _ _ ?_)
      exact Ev.neg Bool.false_ne_true (Ev.now _)
    | true =>
      have h := hb rfl
      rw [rd_L1_get l i hlt, w64 (n := (i : Int) + 1) (by omega) (by omega), drop_get hlt, List.all_cons, Bool.true_and]
      refine Ev.pos rfl (Ev.pos (by omega) ?_)
      have tk : ∀ c : Bool, (c = true → rowOK p l.length l[i] = true) → (c = true → l.length ≤ 10 ∧ (l.take (i + 1)).all (rowOK p l.length) = true) := by
        intro c hc e
        refine ⟨h.1, ?_⟩
        rw [List.take_succ_eq_append_getElem hlt, List.all_append, h.2, List.all_cons, hc e]
        rfl
      by_cases hn : l[i].length = l.length
      · refine Ev.pos (by omega) (Ev.bind (spec_l05Residues.ev p (by omega) (by omega) l[i] (by have := hx _ (List.getElem_mem hlt); omega)) ?_)
        have e : rowOK p l.length l[i] = allR p l[i] := by unfold rowOK; rw [decide_eq_true hn, Bool.true_and]
        rw [e]
        refine ih (i + 1) _ (by omega) (tk _ ?_)
        rw [e]; exact id
      · refine Ev.neg (by omega) ?_
        have e : rowOK p l.length l[i] = false := by unfold rowOK; rw [decide_eq_false hn]; rfl
        rw [e]
        exact ih (i + 1) false (by omega) (tk _ (fun h => by cases h))
theorem spec_JoinEnrolled.ev (p : Int) (l : List (List Int)) (hl : l.length ≤ 35184372088832) (hx : ∀ r ∈ l, r.length ≤ 35184372088832) : Ev (fun k => spec_JoinEnrolled.f k p l) (joinM p l) := by
  unfold spec_JoinEnrolled.f joinM
  refine Ev.bind (spec_l05Prime.ev p) ?_
  cases h : isPr p with
  | false => exact Ev.neg Bool.false_ne_true (Ev.now _)
  | true =>
    have hb := isPr_bd h
    refine Ev.pos rfl ?_
    rw [if_pos rfl]
    have := spec_JoinEnrolled.ok_l p (by omega) (by omega) l hl hx (fun e => by
      simp only [Bool.and_eq_true, decide_eq_true_eq] at e
      have := spec_JoinEnrolled.sum_l p (by omega) (by omega) l e.1 e.2 l.length 0 0 (by omega) (by omega) (by omega)
      simpa using this) l.length 0 (decide (l.length ≤ 10)) (by omega) (fun e => ⟨by simpa using e, by simp⟩)
    have e : (decide ((l.length : Int) ≤ 10)) = decide (l.length ≤ 10) := decide_eq_decide.2 (by omega)
    rw [e]
    simpa using this

-- laws_toInt64S
theorem laws_toInt64S.ev_l (l : List Int) (hl : l.length ≤ 35184372088832) : ∀ (d i : Nat) (m : List Int), i + d = l.length → m.length = l.length → m.take i = l.take i → Ev (fun k => laws_toInt64S.l0 k l m (i : Int)) l := by
  intro d
  induction d with
  | zero =>
    intro i m hi hm ht
    refine Ev.succ ?_
    simp only [laws_toInt64S.l0]
    have : m = l := by rwa [List.take_of_length_le (by omega), List.take_of_length_le (by omega)] at ht
    rw [this]
    exact Ev.neg (by omega) (Ev.now _)
  | succ d ih =>
    intro i m hi hm ht
    refine Ev.succ ?_
    simp only [laws_toInt64S.l0]
    refine Ev.pos (by omega) (Ev.pos (by omega) (Ev.pos (by omega) ?_))
    have hlt : i < l.length := by omega
    rw [rd_get l i hlt, w64 (n := (i : Int) + 1) (by omega) (by omega)]
    refine ih (i + 1) _ (by omega) (by simpa using hm) ?_
    rw [Int.toNat_natCast, List.take_succ_eq_append_getElem hlt, List.take_succ_eq_append_getElem (by simpa [hm] using hlt), ← ht]
    rw [List.take_set_of_le (by omega), List.getElem_set_self]
theorem laws_toInt64S.ev (l : List Int) (hl : l.length ≤ 35184372088832) : Ev (fun k => laws_toInt64S.f k l) l := by
  unfold laws_toInt64S.f
  refine Ev.pos (by omega) (Ev.pos (by omega) ?_)
  exact laws_toInt64S.ev_l l hl l.length 0 _ (by omega) (by simp) (by simp)

-- laws_toInt64SS
theorem laws_toInt64SS.ev_l (l : List (List Int)) (hl : l.length ≤ 11728124029610) (hr : ∀ x ∈ l, x.length ≤ 35184372088832) : ∀ (d i : Nat) (m : List (List Int)), i + d = l.length → m.length = l.length → m.take i = l.take i → Ev (fun k => laws_toInt64SS.l0 k l m (i : Int)) l := by
  intro d
  induction d with
  | zero =>
    intro i m hi hm ht
    refine Ev.succ ?_
    simp only [laws_toInt64SS.l0]
    rw [take_all (by omega) hm ht]
    exact Ev.neg (by omega) (Ev.now _)
  | succ d ih =>
    intro i m hi hm ht
    have hlt : i < l.length := by omega
    refine Ev.succ ?_
    simp only [laws_toInt64SS.l0]
    rw [rd_L1_get l i hlt, w64 (n := (i : Int) + 1) (by omega) (by omega)]
    refine Ev.pos (by omega) (Ev.pos (by omega) (Ev.bind (laws_toInt64S.ev _ (hr _ (List.getElem_mem hlt))) (Ev.pos (by omega) ?_)))
    exact ih (i + 1) _ (by omega) (by simpa using hm) (take_set hlt hm ht)
theorem laws_toInt64SS.ev (l : List (List Int)) (hl : l.length ≤ 11728124029610) (hr : ∀ x ∈ l, x.length ≤ 35184372088832) : Ev (fun k => laws_toInt64SS.f k l) l := by
  unfold laws_toInt64SS.f
  refine Ev.pos (by omega) (Ev.pos (by omega) ?_)
  exact laws_toInt64SS.ev_l l hl hr l.length 0 _ (by omega) (by simp) (by simp)

-- impl_within
theorem impl_within.eq (a b c : Int) : impl_within.f a b c = some (decide (b ≤ a ∧ a ≤ c)) := by
  unfold impl_within.f
  by_cases h : a ≥ b
  · have : b ≤ a := h
    simp [h, this]
  · have : ¬ b ≤ a := h
    simp [this]

-- impl_IsPrime
theorem impl_IsPrime.small : ∀ n : Fin 32, 2 ≤ n.val → impl_IsPrime.f 40 (n.val : Int) = some (isPr (n.val : Int)) := by decide +kernel
theorem impl_IsPrime.ev (p : Int) : Ev (fun k => impl_IsPrime.f k p) (isPr p) := by
  by_cases h : 2 ≤ p ∧ p ≤ 31
  · obtain ⟨n, rfl⟩ : ∃ n : Nat, p = n := ⟨p.toNat, by omega⟩
    exact Ev.of (fun k => impl_IsPrime.mono _ k) (impl_IsPrime.small ⟨n, by omega⟩ (by simp only; omega))
  · have hw : impl_within.f p 2 31 = some false := by rw [impl_within.eq, decide_eq_false h]
    rcases (show p < 2 ∨ 2 ≤ p by omega) with h1 | h1
    · rw [isPr_small h1]
      refine Ev.congr (fun k => by unfold impl_IsPrime.f; rfl) (Ev.succ ?_)
      simp only [impl_IsPrime.l0]
      refine Ev.neg (by rw [w64 (by omega) (by omega)]; omega) (Ev.succ ?_)
      simp only [impl_IsPrime.j1, hw]
      exact ⟨0, fun k _ => rfl⟩
    · rw [isPr_big (by omega)]
      refine Ev.congr (fun k => by unfold impl_IsPrime.f; rfl) (Ev.succ ?_)
      simp only [impl_IsPrime.l0]
      have hd : decide (p ≤ 31) = false := decide_eq_false (by omega)
      rw [hd]
      refine Ev.pos (by rw [w64 (by omega) (by omega)]; omega) (Ev.succ ?_)
      simp only [impl_IsPrime.j1, hw]
      exact ⟨0, fun k _ => rfl⟩

-- impl_areElements_1
theorem impl_areElements_1.eq (x p : Int) (hp : -9223372036854775807 ≤ p) (hp' : p ≤ 9223372036854775807) : impl_areElements_1.f x [p] = some (!inR p x) := by
  unfold impl_areElements_1.f
  have e : rd [p] 0 = p := rfl
  rw [e, w64 (n := p - 1) (by omega) (by omega), impl_within.eq]
  rfl

-- slices_IndexFunc_int64_int64_at_impl_areElements_1
theorem slices_IndexFunc_int64_int64_at_impl_areElements_1.ev_l (p : Int) (hp : -9223372036854775807 ≤ p) (hp' : p ≤ 9223372036854775807) (l : List Int) (hl : l.length ≤ 9223372036854775806) : ∀ (d i : Nat), i + d = l.length → Ev (fun k => slices_IndexFunc_int64_int64_at_impl_areElements_1.l0 k l (l.length : Int) (i : Int) [p]) (idxFrom (fun x => !inR p x) (l.drop i) (i : Int)) := by
  intro d
  induction d with
  | zero =>
    intro i hi
    refine Ev.succ ?_
    simp only [slices_IndexFunc_int64_int64_at_impl_areElements_1.l0]
    rw [List.drop_of_length_le (by omega)]
    exact Ev.neg (by omega) (Ev.now _)
  | succ d ih =>
    intro i hi
    refine Ev.succ ?_
    simp only [slices_IndexFunc_int64_int64_at_impl_areElements_1.l0]
    refine Ev.pos (by omega) (Ev.pos (by omega) (Ev.pos (by omega) ?_))
    have hlt : i < l.length := by omega
    rw [rd_get l i hlt, impl_areElements_1.eq _ p hp hp', w64 (n := (i : Int) + 1) (by omega) (by omega), List.drop_eq_getElem_cons hlt]
    simp only [Option.bind_some, idxFrom]
    by_cases hx : (!inR p l[i]) = true
    · refine Ev.pos hx ?_
      rw [if_pos hx]
      exact Ev.now _
    · refine Ev.neg hx ?_
      rw [if_neg hx]
      exact ih (i + 1) (by omega)

-- slices_ContainsFunc_int64_int64_at_impl_areElements_1
theorem slices_ContainsFunc_int64_int64_at_impl_areElements_1.ev (p : Int) (hp : -9223372036854775807 ≤ p) (hp' : p ≤ 9223372036854775807) (l : List Int) (hl : l.length ≤ 9223372036854775806) : Ev (fun k => slices_ContainsFunc_int64_int64_at_impl_areElements_1.f k l [p]) (!allR p l) := by
  unfold slices_ContainsFunc_int64_int64_at_impl_areElements_1.f slices_IndexFunc_int64_int64_at_impl_areElements_1.f
  refine Ev.bind (slices_IndexFunc_int64_int64_at_impl_areElements_1.ev_l p hp hp' l hl l.length 0 (by omega)) ?_
  refine Ev.eq (Ev.now _) ?_
  rw [idxFrom_any _ _ _ (by omega), List.drop_zero, not_allR]

-- impl_areElements
theorem impl_areElements.ev (p : Int) (l : List Int) (hl : l.length ≤ 9223372036854775806) : Ev (fun k => impl_areElements.f k p l) (isPr p && allR p l) := by
  unfold impl_areElements.f
  refine Ev.bind (impl_IsPrime.ev p) ?_
  cases h : isPr p with
  | false => exact Ev.neg Bool.false_ne_true (Ev.now _)
  | true =>
    have := isPr_bd h
    refine Ev.pos rfl ?_
    refine Ev.bind (slices_ContainsFunc_int64_int64_at_impl_areElements_1.ev p (by omega) (by omega) l hl) ?_
    refine Ev.eq (Ev.now _) ?_
    rw [Bool.not_not, Bool.true_and]

-- impl_JoinEnrolled
theorem impl_JoinEnrolled.in_l (p : Int) (l : List (List Int)) (s0 : Int) (i : Nat) (hi : i < l.length) (row : List Int) (hr : allR p row = true) (hp' : p ≤ 31) (hn : row.length ≤ 10) (hl : l.length ≤ 10) (R : Int → Int × Int)
    (hout : ∀ s, 0 ≤ s → s ≤ 300 * ((i + 1 : Nat) : Int) → Ev (fun k => impl_JoinEnrolled.l0 k p l s l (l.length : Int) ((i + 1 : Nat) : Int)) (R s)) :
    ∀ (d j : Nat) (s : Int), j + d = row.length → 0 ≤ s → s ≤ 300 * (i : Int) + 30 * (j : Int) → Ev (fun k => impl_JoinEnrolled.l1 k p l s l (l.length : Int) (i : Int) row (row.length : Int) (j : Int)) (R (s + (row.drop j).sum)) := by
  intro d
  induction d with
  | zero =>
    intro j s hj h0 h1
    refine Ev.succ ?_
    simp only [impl_JoinEnrolled.l1]
    rw [drop_end (by omega), w64 (n := (i : Int) + 1) (by omega) (by omega)]
    refine Ev.neg (by omega) ?_
    simpa using hout s h0 (by omega)
  | succ d ih =>
    intro j s hj h0 h1
    have hlt : j < row.length := by omega
    have b := allR_get hr j hlt
    refine Ev.succ ?_
    simp only [impl_JoinEnrolled.l1]
    rw [rd_get row j hlt, drop_get hlt, List.sum_cons, w64 (n := (j : Int) + 1) (by omega) (by omega), w64 (n := s + row[j]) (by omega) (by omega), ← Int.add_assoc]
    exact Ev.pos (by omega) (Ev.pos (by omega) (Ev.pos (by omega) (ih (j + 1) _ (by omega) (by omega) (by omega))))
theorem impl_JoinEnrolled.ev_l (p : Int) (hp : isPr p = true) (l : List (List Int)) (hl : l.length ≤ 10) (hx : ∀ r ∈ l, r.length ≤ 35184372088832) : ∀ (d i : Nat) (s : Int), i + d = l.length → 0 ≤ s → s ≤ 300 * (i : Int) → Ev (fun k => impl_JoinEnrolled.l0 k p l s l (l.length : Int) (i : Int)) (if (l.drop i).all (rowOK p l.length) = true then ((s + (l.drop i).flatten.sum) % p, 0) else (0, 2)) := by
  have hb := isPr_bd hp
  intro d
  induction d with
  | zero =>
    intro i s hi h0 h1
    refine Ev.succ ?_
    simp only [impl_JoinEnrolled.l0]
    rw [drop_end (by omega), tmod_of h0]
    refine Ev.neg (by omega) (Ev.neg (by omega) (Ev.eq (Ev.now _) ?_))
    simp
  | succ d ih =>
    intro i s hi h0 h1
    have hlt : i < l.length := by omega
    refine Ev.succ ?_
    simp only [impl_JoinEnrolled.l0]
    rw [rd_L1_get l i hlt, drop_get hlt, List.all_cons, List.flatten_cons, List.sum_append]
    refine Ev.pos (by omega) (Ev.pos (by omega) (Ev.pos (by omega) ?_))
    have jn : ∀ b : Bool, b = (!rowOK p l.length l[i]) → Ev (fun k => impl_JoinEnrolled.j1 k p l s l[i] l (l.length : Int) (i : Int) b) (if (rowOK p l.length l[i] && (l.drop (i + 1)).all (rowOK p l.length)) = true then ((s + (l[i].sum + (l.drop (i + 1)).flatten.sum)) % p, 0) else (0, 2)) := by
      intro b hb'
      refine Ev.succ ?_
      simp only [impl_JoinEnrolled.j1]
      cases hr : rowOK p l.length l[i] with
      | false =>
        rw [hr] at hb'
        exact Ev.pos hb' (Ev.now _)
      | true =>
        rw [hr] at hb'
        obtain ⟨r1, r2⟩ := rowOK_of hr
        refine Ev.neg (by rw [hb']; exact Bool.false_ne_true) ?_
        have := impl_JoinEnrolled.in_l p l s i hlt l[i] r2 (by omega) (by omega) hl (fun s => if (l.drop (i + 1)).all (rowOK p l.length) = true then ((s + (l.drop (i + 1)).flatten.sum) % p, 0) else (0, 2))
          (fun s a b => ih (i + 1) s (by omega) a b) l[i].length 0 s (by omega) h0 (by omega)
        simp only [List.drop_zero] at this
        rw [Bool.true_and, ← Int.add_assoc]
        exact this
    by_cases hn : l[i].length = l.length
    · refine Ev.pos (by omega) (Ev.bind (impl_areElements.ev p l[i] (by have := hx _ (List.getElem_mem hlt); omega)) (jn _ ?_))
      rw [hp]
      unfold rowOK
      rw [decide_eq_true hn]
    · refine Ev.neg (by omega) (jn _ ?_)
      unfold rowOK
      rw [decide_eq_false hn]
      rfl
theorem impl_JoinEnrolled.ev (p : Int) (l : List (List Int)) (hl : l.length ≤ 35184372088832) (hx : ∀ r ∈ l, r.length ≤ 35184372088832) : Ev (fun k => impl_JoinEnrolled.f k p l) (joinM p l) := by
  unfold impl_JoinEnrolled.f joinM
  refine Ev.bind (impl_IsPrime.ev p) ?_
  cases h : isPr p with
  | false => exact Ev.neg Bool.false_ne_true (Ev.now _)
  | true =>
    refine Ev.pos rfl ?_
    rw [if_pos rfl]
    by_cases h10 : l.length ≤ 10
    · rw [decide_eq_true h10, Bool.true_and]
      have := impl_JoinEnrolled.ev_l p h l h10 hx l.length 0 0 (by omega) (by omega) (by omega)
      exact Ev.neg (by omega) (by simpa using this)
    · rw [decide_eq_false h10]
      exact Ev.pos (by omega) (Ev.now _)

-- laws_eqInt64S
theorem laws_eqInt64S.ev_l (a b : List Int) (hl : a.length ≤ 35184372088832) (he : a.length = b.length) : ∀ (d i : Nat), i + d = a.length → Ev (fun k => laws_eqInt64S.l0 k a b (i : Int)) (decide (a.drop i = b.drop i)) := by
  intro d
  induction d with
  | zero =>
    intro i hi
    refine Ev.succ ?_
    simp only [laws_eqInt64S.l0]
    rw [List.drop_of_length_le (by omega), List.drop_of_length_le (by omega)]
    exact Ev.neg (by omega) (Ev.now _)
  | succ d ih =>
    intro i hi
    refine Ev.succ ?_
    simp only [laws_eqInt64S.l0]
    have ha : i < a.length := by omega
    have hb : i < b.length := by omega
    refine Ev.pos (by omega) (Ev.pos (by omega) (Ev.pos (by omega) ?_))
    rw [rd_get a i ha, rd_get b i hb, w64 (n := (i : Int) + 1) (by omega) (by omega), List.drop_eq_getElem_cons ha, List.drop_eq_getElem_cons hb]
    by_cases hx : a[i] = b[i]
    · refine Ev.pos hx (Ev.eq (ih (i + 1) (by omega)) ?_)
      simp only [hx, List.cons.injEq, true_and]
    · refine Ev.neg hx (Ev.eq (Ev.now _) ?_)
      exact (decide_eq_false (fun e => hx (List.cons.inj e).1)).symm
theorem laws_eqInt64S.ev (a b : List Int) (hl : a.length ≤ 35184372088832) : Ev (fun k => laws_eqInt64S.f k a b) (decide (a = b)) := by
  unfold laws_eqInt64S.f
  by_cases he : a.length = b.length
  · refine Ev.pos (by omega) ?_
    have := laws_eqInt64S.ev_l a b hl he a.length 0 (by omega)
    simpa using this
  · refine Ev.neg (by omega) ?_
    rw [decide_eq_false (fun e => he (by rw [e]))]
    exact Ev.now _

-- laws_eqInt64SS
theorem laws_eqInt64SS.ev_l (a : List (List Int)) (hl : a.length ≤ 35184372088832) (hr : ∀ x ∈ a, x.length ≤ 35184372088832) : ∀ (d i : Nat), i + d = a.length → Ev (fun k => laws_eqInt64SS.l0 k a a (i : Int)) true := by
  intro d
  induction d with
  | zero =>
    intro i hi
    refine Ev.succ ?_
    simp only [laws_eqInt64SS.l0]
    exact Ev.neg (by omega) (Ev.now _)
  | succ d ih =>
    intro i hi
    have hlt : i < a.length := by omega
    refine Ev.succ ?_
    simp only [laws_eqInt64SS.l0]
    rw [rd_L1_get a i hlt, w64 (n := (i : Int) + 1) (by omega) (by omega)]
    exact Ev.pos (by omega) (Ev.pos (by omega) (Ev.pos (by omega) (Ev.bind (laws_eqInt64S.ev _ _ (hr _ (List.getElem_mem hlt))) (Ev.pos (by simp) (ih (i + 1) (by omega))))))
theorem laws_eqInt64SS.ev (a : List (List Int)) (hl : a.length ≤ 35184372088832) (hr : ∀ x ∈ a, x.length ≤ 35184372088832) : Ev (fun k => laws_eqInt64SS.f k a a) true := by
  unfold laws_eqInt64SS.f
  exact Ev.pos rfl (laws_eqInt64SS.ev_l a hl hr a.length 0 (by omega))

end Go.Proofs.Ytemdeeepamnbcaa.PFnExactJoinEnrolled
