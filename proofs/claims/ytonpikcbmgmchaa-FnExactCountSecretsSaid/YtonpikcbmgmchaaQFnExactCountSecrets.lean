/- Lemmas on what the printed functions compute. -/
import Derived.Test.YtonpikcbmgmchaaM
import Derived.Test.YtonpikcbmgmchaaPFnExactCountSecretsx0
import Derived.Test.YtonpikcbmgmchaaPFnExactCountSecretsx1
import Derived.Test.YtonpikcbmgmchaaPFnExactCountSecretsx2
import Derived.Test.YtonpikcbmgmchaaPFnExactCountSecretsx3
import Derived.Test.YtonpikcbmgmchaaPFnExactCountSecretsx4
import Derived.Test.YtonpikcbmgmchaaPFnExactCountSecretsx5
import Derived.Test.YtonpikcbmgmchaaPFnExactCountSecretsx6
import Derived.Test.YtonpikcbmgmchaaPFnExactCountSecretsx7
import Derived.Test.YtonpikcbmgmchaaPFnExactCountSecretsx8
import Derived.Test.YtonpikcbmgmchaaPFnExactCountSecretsx9
import Derived.Test.YtonpikcbmgmchaaPFnExactCountSecretsx10
import Derived.Test.YtonpikcbmgmchaaPFnExactCountSecretsx11
import Derived.Test.YtonpikcbmgmchaaPFnExactCountSecretsx12
set_option linter.unusedVariables false
set_option linter.unusedSimpArgs false
set_option maxRecDepth 100000
namespace Go.Proofs.Ytonpikcbmgmchaa.PFnExactCountSecrets
open Go.RowKit Go.Proofs.YtonpikcbmgmchaaW.PrintWords Go.Proofs.YtonpikcbmgmchaaW.PrintLast Go.Proofs.Ytonpikcbmgmchaa.M
theorem rd_T73_get (l : List (S73)) (i : Nat) (h : i < l.length) : rd_T73 l (i : Int) = l[i] := by simp [rd_T73, h]
theorem rd_T68_get (l : List (S68)) (i : Nat) (h : i < l.length) : rd_T68 l (i : Int) = l[i] := by simp [rd_T68, h]

-- laws_szShareS
theorem laws_szShareS.ex (l : List S73) (a : Int) : ∃ v, laws_szShareS.f l a = some v := by
  unfold laws_szShareS.f
  split <;> exact ⟨_, rfl⟩

-- laws_toShareS
def toSh (x : S73) : S68 := ⟨x.f0, x.f1⟩
theorem laws_toShareS.ev_l (l : List S73) (hl : l.length ≤ 8796093022208) : ∀ (d i : Nat) (m : List S68), i + d = l.length → m.length = (l.map toSh).length → m.take i = (l.map toSh).take i → Ev (fun k => laws_toShareS.l0 k l m (i : Int)) (l.map toSh) := by
  intro d
  induction d with
  | zero =>
    intro i m hi hm ht
    refine Ev.succ ?_
    simp only [laws_toShareS.l0]
    rw [take_all (by simp; omega) hm ht]
    exact Ev.neg (by omega) (Ev.now _)
  | succ d ih =>
    intro i m hi hm ht
    have hm' : m.length = l.length := by simpa using hm
    have hlt : i < l.length := by omega
    refine Ev.succ ?_
    simp only [laws_toShareS.l0]
    refine Ev.pos (by omega) (Ev.pos (by omega) (Ev.bindc rfl (Ev.pos (by omega) ?_)))
    rw [rd_T73_get l i hlt, w64 (n := (i : Int) + 1) (by omega) (by omega)]
    refine ih (i + 1) _ (by omega) (by simpa using hm') ?_
    have e : (l.map toSh)[i]'(by simpa using hlt) = toSh l[i] := by simp
    have := take_set (m := m) (L := l.map toSh) (i := i) (by simpa using hlt) hm ht
    rw [e] at this
    exact this
theorem laws_toShareS.ev (l : List S73) (hl : l.length ≤ 8796093022208) : Ev (fun k => laws_toShareS.f k l) (l.map toSh) := by
  unfold laws_toShareS.f
  refine Ev.pos (by omega) (Ev.pos (by omega) ?_)
  exact laws_toShareS.ev_l l hl l.length 0 _ (by omega) (by simp) (by simp)

-- laws_eqInt64S
theorem laws_eqInt64S.ev_l (a b : List Int) (hl : a.length ≤ 35184372088832) (he : a.length = b.length) : ∀ (d i : Nat), i + d = a.length → Ev (fun k => laws_eqInt64S.l0 k a b (i : Int)) (decide (a.drop i = b.drop i)) := by
  intro d
  induction d with
  | zero =>
    intro i hi
    refine Ev.succ ?_
    simp only [laws_eqInt64S.l0]
    rw [List.drop_of_length_le (by omega), List.drop_of_length_le (by omega)]
    exact Ev.neg (by omega) (Ev.now _)
  | succ d ih =>
    intro i hi
    refine Ev.succ ?_
    simp only [laws_eqInt64S.l0]
    have ha : i < a.length := by omega
    have hb : i < b.length := by omega
    refine Ev.pos (by omega) (Ev.pos (by omega) (Ev.pos (by omega) ?_))
    rw [rd_get a i ha, rd_get b i hb, w64 (n := (i : Int) + 1) (by omega) (by omega), List.drop_eq_getElem_cons ha, List.drop_eq_getElem_cons hb]
    by_cases hx : a[i] = b[i]
    · refine Ev.pos hx (Ev.eq (ih (i + 1) (by omega)) ?_)
      simp only [hx, List.cons.injEq, true_and]
    · refine Ev.neg hx (Ev.eq (Ev.now _) ?_)
      exact (decide_eq_false (fun e => hx (List.cons.inj e).1)).symm
theorem laws_eqInt64S.ev (a b : List Int) (hl : a.length ≤ 35184372088832) : Ev (fun k => laws_eqInt64S.f k a b) (decide (a = b)) := by
  unfold laws_eqInt64S.f
  by_cases he : a.length = b.length
  · refine Ev.pos (by omega) ?_
    have := laws_eqInt64S.ev_l a b hl he a.length 0 (by omega)
    simpa using this
  · refine Ev.neg (by omega) ?_
    rw [decide_eq_false (fun e => he (by rw [e]))]
    exact Ev.now _

-- laws_eqShareS
theorem laws_eqShareS.ev_l (a : List S68) (hl : a.length ≤ 8796093022208) : ∀ (d i : Nat), i + d = a.length → Ev (fun k => laws_eqShareS.l0 k a a (i : Int)) true := by
  intro d
  induction d with
  | zero =>
    intro i hi
    refine Ev.succ ?_
    simp only [laws_eqShareS.l0]
    exact Ev.neg (by omega) (Ev.now _)
  | succ d ih =>
    intro i hi
    refine Ev.succ ?_
    simp only [laws_eqShareS.l0]
    refine Ev.pos (by omega) (Ev.pos (by omega) (Ev.pos (by omega) (Ev.bindc (a := true) ?_ (Ev.pos rfl ?_))))
    · simp [laws_eqShare.f]
    · rw [w64 (n := (i : Int) + 1) (by omega) (by omega)]
      exact ih (i + 1) (by omega)
theorem laws_eqShareS.ev (a : List S68) (hl : a.length ≤ 8796093022208) : Ev (fun k => laws_eqShareS.f k a a) true := by
  unfold laws_eqShareS.f
  exact Ev.pos rfl (laws_eqShareS.ev_l a hl a.length 0 (by omega))

-- laws_markShareS
def marksSh (v : Int) (n : Nat) : List S68 := (List.range n).map (fun i : Nat => ⟨v + 2 * (i : Int), v + 2 * (i : Int) + 1⟩)
theorem marksSh_length (v : Int) (n : Nat) : (marksSh v n).length = n := by simp [marksSh]
theorem marksSh_get (v : Int) (n i : Nat) (h : i < (marksSh v n).length) : (marksSh v n)[i] = ⟨v + 2 * (i : Int), v + 2 * (i : Int) + 1⟩ := by simp [marksSh]
theorem laws_markShareS.ev_l (n : Nat) (v : Int) (hn : n ≤ 35184372088832) (h0 : 0 ≤ v) (h1 : v ≤ 4611686018427387904) : ∀ (d i : Nat) (m : List S68), i + d = n → m.length = n → m.take i = (marksSh v n).take i → Ev (fun k => laws_markShareS.l0 k m (v + 2 * (i : Int)) (i : Int)) (v + 2 * (n : Int), marksSh v n) := by
  intro d
  induction d with
  | zero =>
    intro i m hi hm ht
    refine Ev.succ ?_
    simp only [laws_markShareS.l0]
    rw [take_all (L := marksSh v n) (by rw [marksSh_length]; omega) (by rw [marksSh_length]; exact hm) ht]
    have : i = n := by omega
    subst this
    exact Ev.neg (by rw [marksSh_length]; omega) (Ev.now _)
  | succ d ih =>
    intro i m hi hm ht
    have hlt : i < m.length := by omega
    refine Ev.succ ?_
    simp only [laws_markShareS.l0, Option.bind_some]
    have hg : ∀ z : S68, rd_T68 (m.set (i : Int).toNat z) (i : Int) = z := by
      intro z
      rw [rd_T68_get _ i (by simpa using hlt)]
      simp
    rw [hg, w64 (n := (i : Int) + 1) (by omega) (by omega), w64 (n := v + 2 * (i : Int) + 1) (by omega) (by omega), w64 (n := v + 2 * (i : Int) + 1 + 1) (by omega) (by omega), Int.toNat_natCast, List.set_set]
    refine Ev.pos (by omega) (Ev.pos (by omega) ?_)
    have hL : i < (marksSh v n).length := by rw [marksSh_length]; omega
    have := take_set (m := m) (L := marksSh v n) hL (by rw [marksSh_length]; exact hm) ht
    rw [marksSh_get] at this
    have e : v + 2 * (i : Int) + 1 + 1 = v + 2 * ((i + 1 : Nat) : Int) := by omega
    rw [e]
    exact ih (i + 1) _ (by omega) (by simpa using hm) this
theorem laws_markShareS.ev (l : List S68) (v : Int) (hn : l.length ≤ 35184372088832) (h0 : 0 ≤ v) (h1 : v ≤ 4611686018427387904) : Ev (fun k => laws_markShareS.f k l v) (v + 2 * (l.length : Int), marksSh v l.length) := by
  unfold laws_markShareS.f
  have := laws_markShareS.ev_l l.length v hn h0 h1 l.length 0 l (by omega) rfl (by simp)
  simpa using this

-- laws_markInt64S
theorem laws_markInt64S.ev_l (n : Nat) (v : Int) (hn : n ≤ 35184372088832) (h0 : 0 ≤ v) (h1 : v ≤ 4611686018427387904) : ∀ (d i : Nat) (m : List Int), i + d = n → m.length = n → m.take i = (marks v n).take i → Ev (fun k => laws_markInt64S.l0 k m (v + (i : Int)) (i : Int)) (v + (n : Int), marks v n) := by
  intro d
  induction d with
  | zero =>
    intro i m hi hm ht
    refine Ev.succ ?_
    simp only [laws_markInt64S.l0]
    rw [take_all (L := marks v n) (by rw [marks_length]; omega) (by rw [marks_length]; exact hm) ht]
    have : i = n := by omega
    subst this
    exact Ev.neg (by rw [marks_length]; omega) (Ev.now _)
  | succ d ih =>
    intro i m hi hm ht
    have hlt : i < m.length := by omega
    refine Ev.succ ?_
    simp only [laws_markInt64S.l0]
    rw [w64 (n := (i : Int) + 1) (by omega) (by omega), w64 (n := v + (i : Int) + 1) (by omega) (by omega)]
    refine Ev.pos (by omega) (Ev.pos (by omega) ?_)
    have hL : i < (marks v n).length := by rw [marks_length]; omega
    have := take_set (m := m) (L := marks v n) hL (by rw [marks_length]; exact hm) ht
    rw [marks_get] at this
    have e : v + (i : Int) + 1 = v + ((i + 1 : Nat) : Int) := by omega
    rw [e]
    exact ih (i + 1) _ (by omega) (by simpa using hm) this
theorem laws_markInt64S.ev (l : List Int) (v : Int) (hn : l.length ≤ 35184372088832) (h0 : 0 ≤ v) (h1 : v ≤ 4611686018427387904) : Ev (fun k => laws_markInt64S.f k l v) (v + (l.length : Int), marks v l.length) := by
  unfold laws_markInt64S.f
  have := laws_markInt64S.ev_l l.length v hn h0 h1 l.length 0 l (by omega) rfl (by simp)
  simpa using this

-- laws_heldInt64S
theorem laws_heldInt64S.ev_l (n : Nat) (v : Int) (hn : n ≤ 35184372088832) (h0 : 0 ≤ v) (h1 : v ≤ 4611686018427387904) : ∀ (d i : Nat), i + d = n → Ev (fun k => laws_heldInt64S.l0 k (marks v n) (v + (i : Int)) (i : Int)) (v + (n : Int)) := by
  intro d
  induction d with
  | zero =>
    intro i hi
    refine Ev.succ ?_
    simp only [laws_heldInt64S.l0]
    have : i = n := by omega
    subst this
    exact Ev.neg (by rw [marks_length]; omega) (Ev.now _)
  | succ d ih =>
    intro i hi
    refine Ev.succ ?_
    simp only [laws_heldInt64S.l0]
    have hL : i < (marks v n).length := by rw [marks_length]; omega
    rw [w64 (n := (i : Int) + 1) (by omega) (by omega), w64 (n := v + (i : Int) + 1) (by omega) (by omega), rd_get _ i hL, marks_get]
    refine Ev.pos (by rw [marks_length]; omega) (Ev.pos (by omega) (Ev.pos rfl ?_))
    have e : v + (i : Int) + 1 = v + ((i + 1 : Nat) : Int) := by omega
    rw [e]
    exact ih (i + 1) (by omega)
theorem laws_heldInt64S.ev (n : Nat) (v : Int) (hn : n ≤ 35184372088832) (h0 : 0 ≤ v) (h1 : v ≤ 4611686018427387904) : Ev (fun k => laws_heldInt64S.f k (marks v n) v) (v + (n : Int)) := by
  unfold laws_heldInt64S.f
  have := laws_heldInt64S.ev_l n v hn h0 h1 n 0 (by omega)
  simpa using this

-- spec_l05Places
theorem spec_l05Places.ev_l (l : List S68) (hl : l.length ≤ 8796093022208) : ∀ (d i : Nat) (acc : List Int), i + d = l.length → acc.length = i → Ev (fun k => spec_l05Places.l0 k l acc (i : Int)) (acc ++ (l.drop i).map (·.f0)) := by
  intro d
  induction d with
  | zero =>
    intro i acc hi ha
    refine Ev.succ ?_
    simp only [spec_l05Places.l0]
    rw [drop_end (by omega), List.map_nil, List.append_nil]
    exact Ev.neg (by omega) (Ev.now _)
  | succ d ih =>
    intro i acc hi ha
    have hlt : i < l.length := by omega
    refine Ev.succ ?_
    simp only [spec_l05Places.l0]
    refine Ev.pos (by omega) (Ev.pos (by omega) (Ev.pos (by omega) ?_))
    rw [rd_T68_get l i hlt, w64 (n := (i : Int) + 1) (by omega) (by omega), drop_get hlt, List.map_cons]
    refine Ev.eq (ih (i + 1) _ (by omega) (by simp [ha])) ?_
    rw [List.append_assoc]; rfl
theorem spec_l05Places.ev (l : List S68) (hl : l.length ≤ 8796093022208) : Ev (fun k => spec_l05Places.f k l) (l.map (·.f0)) := by
  unfold spec_l05Places.f
  exact Ev.eq (spec_l05Places.ev_l l hl l.length 0 [] (by omega) rfl) (by simp)

-- spec_l05Values
theorem spec_l05Values.ev_l (l : List S68) (hl : l.length ≤ 8796093022208) : ∀ (d i : Nat) (acc : List Int), i + d = l.length → acc.length = i → Ev (fun k => spec_l05Values.l0 k l acc (i : Int)) (acc ++ (l.drop i).map (·.f1)) := by
  intro d
  induction d with
  | zero =>
    intro i acc hi ha
    refine Ev.succ ?_
    simp only [spec_l05Values.l0]
    rw [drop_end (by omega), List.map_nil, List.append_nil]
    exact Ev.neg (by omega) (Ev.now _)
  | succ d ih =>
    intro i acc hi ha
    have hlt : i < l.length := by omega
    refine Ev.succ ?_
    simp only [spec_l05Values.l0]
    refine Ev.pos (by omega) (Ev.pos (by omega) (Ev.pos (by omega) ?_))
    rw [rd_T68_get l i hlt, w64 (n := (i : Int) + 1) (by omega) (by omega), drop_get hlt, List.map_cons]
    refine Ev.eq (ih (i + 1) _ (by omega) (by simp [ha])) ?_
    rw [List.append_assoc]; rfl
theorem spec_l05Values.ev (l : List S68) (hl : l.length ≤ 8796093022208) : Ev (fun k => spec_l05Values.f k l) (l.map (·.f1)) := by
  unfold spec_l05Values.f
  exact Ev.eq (spec_l05Values.ev_l l hl l.length 0 [] (by omega) rfl) (by simp)

-- spec_l00In
theorem spec_l00In.eq (a b c : Int) : spec_l00In.f a b c = some (decide (b ≤ a ∧ a ≤ c)) := by
  unfold spec_l00In.f
  by_cases h : a ≥ b
  · have : b ≤ a := h
    simp [h, this]
  · have : ¬ b ≤ a := h
    simp [this]

-- spec_l05Residues
theorem spec_l05Residues.ev_l (p : Int) (hp : -9223372036854775807 ≤ p) (hp' : p ≤ 9223372036854775807) (l : List Int) (hl : l.length ≤ 9223372036854775806) : ∀ (d i : Nat), i + d = l.length → Ev (fun k => spec_l05Residues.l0 k p l (i : Int)) (allR p (l.drop i)) := by
  intro d
  induction d with
  | zero =>
    intro i hi
    refine Ev.succ ?_
    simp only [spec_l05Residues.l0]
    rw [List.drop_of_length_le (by omega)]
    exact Ev.neg (by omega) (Ev.now _)
  | succ d ih =>
    intro i hi
    refine Ev.succ ?_
    simp only [spec_l05Residues.l0, spec_l00In.eq, Option.bind_some]
    refine Ev.pos (by omega) (Ev.pos (by omega) ?_)
    have hlt : i < l.length := by omega
    rw [rd_get l i hlt, w64 (n := p - 1) (by omega) (by omega), w64 (n := (i : Int) + 1) (by omega) (by omega), List.drop_eq_getElem_cons hlt]
    simp only [allR, List.all_cons]
    have hin : inR p l[i] = decide (0 ≤ l[i] ∧ l[i] ≤ p - 1) := rfl
    rw [hin]
    by_cases hx : 0 ≤ l[i] ∧ l[i] ≤ p - 1
    · rw [decide_eq_true hx]
      refine Ev.pos rfl ?_
      rw [Bool.true_and]
      exact ih (i + 1) (by omega)
    · rw [decide_eq_false hx]
      exact Ev.neg (by decide) (Ev.now _)
theorem spec_l05Residues.ev (p : Int) (hp : -9223372036854775807 ≤ p) (hp' : p ≤ 9223372036854775807) (l : List Int) (hl : l.length ≤ 9223372036854775806) : Ev (fun k => spec_l05Residues.f k p l) (allR p l) := by
  have := spec_l05Residues.ev_l p hp hp' l hl l.length 0 (by omega)
  simpa [spec_l05Residues.f] using this

-- spec_l00Rises
theorem spec_l00Rises.ev_l (lo hi : Int) (l : List Int) (hl : l.length ≤ 35184372088832) : ∀ (d i : Nat), i + d = l.length → Ev (fun k => spec_l00Rises.l0 k l lo hi (i : Int)) (risesAt lo hi l i) := by
  intro d
  induction d with
  | zero =>
    intro i hi
    refine Ev.succ ?_
    simp only [spec_l00Rises.l0]
    rw [risesAt_end _ _ _ _ (by omega)]
    exact Ev.neg (by omega) (Ev.now _)
  | succ d ih =>
    intro i hd
    have hlt : i < l.length := by omega
    refine Ev.succ ?_
    simp only [spec_l00Rises.l0]
    have hn := ih (i + 1) (by omega)
    rw [rd_get l i hlt, spec_l00In.eq, w64 (n := (i : Int) + 1) (by omega) (by omega)]
    refine Ev.pos (by omega) (Ev.pos (by omega) (Ev.bindc rfl ?_))
    cases i with
    | zero =>
      rw [risesAt_zero _ _ _ hlt]
      cases hc : decide (lo ≤ l[0] ∧ l[0] ≤ hi) with
      | false => exact Ev.neg Bool.false_ne_true (Ev.now _)
      | true => exact Ev.pos rfl (Ev.neg (by omega) (by rw [Bool.true_and]; exact hn))
    | succ j =>
      rw [risesAt_succ _ _ _ _ hlt]
      cases hc : decide (lo ≤ l[j + 1] ∧ l[j + 1] ≤ hi) with
      | false => exact Ev.neg Bool.false_ne_true (Ev.now _)
      | true =>
        have e : ((j + 1 : Nat) : Int) - 1 = (j : Int) := by omega
        rw [w64 (n := ((j + 1 : Nat) : Int) - 1) (by omega) (by omega), e, rd_get l j (by omega), Bool.true_and]
        refine Ev.pos rfl (Ev.pos (by omega) (Ev.pos (by omega) (Ev.pos (by omega) ?_)))
        by_cases hx : l[j] < l[j + 1]
        · rw [decide_eq_true hx, Bool.true_and]
          exact Ev.neg (by omega) hn
        · rw [decide_eq_false hx, Bool.false_and]
          exact Ev.pos (by omega) (Ev.now _)

-- spec_l05Points
theorem isPts_at (p : Int) (l : List Int) : (decide (l.length ≤ 10) && risesAt 1 (p - 1) l 0) = isPts p l := by
  rw [risesAt_all, isPts, Bool.and_comm (l.all _)]
theorem spec_l05Points.ev (p : Int) (hp : -9223372036854775807 ≤ p) (hp' : p ≤ 9223372036854775807) (l : List Int) (hl : l.length ≤ 35184372088832) : Ev (fun k => spec_l05Points.f k p l) (isPts p l) := by
  unfold spec_l05Points.f spec_l00Rises.f
  rw [w64 (n := p - 1) (by omega) (by omega), ← isPts_at]
  by_cases h : l.length ≤ 10
  · rw [decide_eq_true h, Bool.true_and]
    exact Ev.pos (by omega) (Ev.bind (spec_l00Rises.ev_l 1 (p - 1) l hl l.length 0 (by omega)) (Ev.now _))
  · rw [decide_eq_false h, Bool.false_and]
    exact Ev.neg (by omega) (Ev.now _)

-- spec_l05Prime
theorem spec_l05Prime.small : ∀ n : Fin 32, 2 ≤ n.val → spec_l05Prime.f 40 (n.val : Int) = some (isPr (n.val : Int)) := by decide +kernel
theorem spec_l05Prime.ev (p : Int) : Ev (fun k => spec_l05Prime.f k p) (isPr p) := by
  by_cases h : 2 ≤ p ∧ p ≤ 31
  · obtain ⟨n, rfl⟩ : ∃ n : Nat, p = n := ⟨p.toNat, by omega⟩
    exact Ev.of (fun k => spec_l05Prime.mono _ k) (spec_l05Prime.small ⟨n, by omega⟩ (by simp only; omega))
  · have e : isPr p = false := by
      rcases (show p < 2 ∨ 2 ≤ p by omega) with h1 | h1
      · exact isPr_small h1
      · exact isPr_big (by omega)
    rw [e]
    refine Ev.congr (f := fun _ => some false) (fun k => ?_) (Ev.now _)
    unfold spec_l05Prime.f
    rw [spec_l00In.eq, decide_eq_false h]
    rfl

-- spec_ValidShares
def isSh (p : Int) (l : List S68) : Bool := isPr p && (isPts p (l.map (·.f0)) && allR p (l.map (·.f1)))
theorem isSh_of {p : Int} {l : List S68} (h : isSh p l = true) : isPr p = true ∧ isPts p (l.map (·.f0)) = true ∧ allR p (l.map (·.f1)) = true ∧ l.length ≤ 10 := by
  simp only [isSh, Bool.and_eq_true] at h
  refine ⟨h.1, h.2.1, h.2.2, ?_⟩
  have := h.2.1
  simp only [isPts, Bool.and_eq_true, decide_eq_true_eq, List.length_map] at this
  exact this.1
theorem spec_ValidShares.ev (p : Int) (l : List S68) (hl : l.length ≤ 8796093022208) : Ev (fun k => spec_ValidShares.f k p l) (isSh p l) := by
  unfold spec_ValidShares.f isSh
  refine Ev.bind (spec_l05Prime.ev p) ?_
  cases h : isPr p with
  | false => exact Ev.neg Bool.false_ne_true (Ev.now _)
  | true =>
    have := isPr_bd h
    refine Ev.pos rfl (Ev.bind (spec_l05Places.ev l hl) (Ev.bind (spec_l05Points.ev p (by omega) (by omega) _ (by simp; omega)) ?_))
    cases h2 : isPts p (l.map (·.f0)) with
    | false => exact Ev.neg Bool.false_ne_true (Ev.now _)
    | true => exact Ev.pos rfl (Ev.bind (spec_l05Values.ev l hl) (Ev.bind (spec_l05Residues.ev p (by omega) (by omega) _ (by simp; omega)) (Ev.now _)))

-- spec_l05Rest
theorem spec_l05Rest.eq (a p : Int) (hp : 0 < p) (hp' : p ≤ 31) : spec_l05Rest.f a p = some (a % p) := by
  unfold spec_l05Rest.f
  rw [if_neg (by omega), rest_eq hp hp']

-- spec_l00Own
theorem spec_l00Own.eq (l : List Int) (hl : l.length < 17592186044416) : spec_l00Own.f l = some l := by
  unfold spec_l00Own.f
  rw [Option.bind_some, if_pos (by simpa using hl), List.nil_append]

-- spec_l05Cut
theorem spec_l05Cut.ev_l (l : List Int) (hl : l.length ≤ 8796093022208) : ∀ (n : Nat), n ≤ l.length → Ev (fun k => spec_l05Cut.l0 k l (n : Int)) (cutTo l n) := by
  intro n
  induction n with
  | zero =>
    intro hn
    refine Ev.succ ?_
    simp only [spec_l05Cut.l0]
    refine Ev.neg (by omega) (Ev.pos (by omega) (Ev.pos (by omega) (Ev.bindc (spec_l00Own.eq _ (by simp)) (Ev.eq (Ev.now _) ?_))))
    simp [cutTo]
  | succ n ih =>
    intro hn
    have hlt : n < l.length := by omega
    have e : ((n + 1 : Nat) : Int) - 1 = (n : Int) := by omega
    refine Ev.succ ?_
    simp only [spec_l05Cut.l0]
    rw [w64 (n := ((n + 1 : Nat) : Int) - 1) (by omega) (by omega), e, rd_get l n hlt]
    refine Ev.pos (by omega) (Ev.pos (by omega) (Ev.pos (by omega) ?_))
    unfold cutTo
    rw [getD_get l n 0 hlt]
    by_cases h : l[n] = 0
    · rw [if_pos h]
      exact Ev.pos h (ih (by omega))
    · rw [if_neg h]
      refine Ev.neg h (Ev.pos (by omega) (Ev.pos (by omega) (Ev.bindc (spec_l00Own.eq _ (by simp; omega)) (Ev.eq (Ev.now _) ?_))))
      rfl
theorem spec_l05Cut.ev (l : List Int) (hl : l.length ≤ 8796093022208) : Ev (fun k => spec_l05Cut.f k l) (stripM l) := by
  unfold spec_l05Cut.f
  exact spec_l05Cut.ev_l l hl l.length (Nat.le_refl _)

-- spec_l05Inverse
theorem spec_l05Inverse.small : ∀ p a : Fin 32, isPr (p.val : Int) = true → a.val < p.val → spec_l05Inverse.f 40 (a.val : Int) (p.val : Int) = some (invM p.val a.val) := by decide +kernel
theorem spec_l05Inverse.ev {p a : Int} (hp : isPr p = true) (h0 : 0 ≤ a) (h1 : a < p) : Ev (fun k => spec_l05Inverse.f k a p) (invM p a) := by
  have hb := isPr_bd hp
  obtain ⟨p, rfl⟩ : ∃ n : Nat, p = n := ⟨p.toNat, by omega⟩
  obtain ⟨a, rfl⟩ : ∃ n : Nat, a = n := ⟨a.toNat, by omega⟩
  exact Ev.of (fun k => spec_l05Inverse.mono _ _ k) (spec_l05Inverse.small ⟨p, by omega⟩ ⟨a, by omega⟩ hp (by simp only; omega))

-- spec_l05Padded
theorem spec_l05Padded.ev_l (p t : Int) (hp : 0 < p) (hp' : p ≤ 31) (ht : 0 ≤ t ∧ t < p) (a b : List Int) (ha : allR p a = true) (hb : allR p b = true) (hla : a.length ≤ 100) (hlb : b.length ≤ 100) :
    ∀ (d i : Nat) (o : List Int), i + d = b.length → o.length = max a.length i → (∀ j, o.getD j 0 = if j < i then addAt p t a b j else a.getD j 0) → Ev (fun k => spec_l05Padded.l0 k p b t o (i : Int)) (addC p t a b) := by
  intro d
  induction d with
  | zero =>
    intro i o hi ho hv
    have e : o = addC p t a b := by
      apply List.ext_getElem
      · rw [addC_length]; omega
      · intro j h1 h2
        have := hv j
        rw [getD_get o j 0 h1] at this
        rw [this, addC_get]
        split
        · rfl
        · rename_i h
          have := allR_getD hp ha j
          unfold addAt
          rw [getD_end b j 0 (by omega), Int.zero_mul, Int.add_zero, Int.emod_eq_of_lt this.1 this.2]
    refine Ev.succ ?_
    simp only [spec_l05Padded.l0]
    rw [e]
    exact Ev.neg (by omega) (Ev.now _)
  | succ d ih =>
    intro i o hi ho hv
    have hlt : i < b.length := by omega
    have r1 := allR_get hb i hlt
    have r2 := allR_getD hp ha i
    have m := mul_bd r1.1 (show _ ≤ 31 by omega) ht.1 (show t ≤ 31 by omega)
    refine Ev.succ ?_
    simp only [spec_l05Padded.l0, Option.bind_some]
    rw [rd_get b i hlt, w64 (n := (i : Int) + 1) (by omega) (by omega), w64 (n := b[i] * t) (by omega) (by omega)]
    refine Ev.pos (by omega) ?_
    have fin : ∀ o' : List Int, i < o'.length → o'.length = max a.length (i + 1) → (∀ j, o'.getD j 0 = o.getD j 0) → rd o' (i : Int) = a.getD i 0 ∧ Ev (fun k => spec_l05Padded.l0 k p b t (o'.set (i : Int).toNat ((a.getD i 0 + b[i] * t) % p)) ((i + 1 : Nat) : Int)) (addC p t a b) := by
      intro o' h1 h2 h3
      refine ⟨?_, ih (i + 1) _ (by omega) (by simpa using h2) ?_⟩
      · rw [rd_nat, h3, hv]
        simp
      · intro j
        rw [Int.toNat_natCast]
        by_cases hj : j = i
        · subst hj
          rw [lset_eq _ _ _ _ h1, if_pos (by omega)]
          unfold addAt
          rw [getD_get b j 0 hlt]
        · rw [lset_ne _ _ _ _ _ (fun e => hj e.symm), h3, hv]
          by_cases h : j < i
          · rw [if_pos h, if_pos (by omega)]
          · rw [if_neg h, if_neg (by omega)]
    by_cases hio : i = o.length
    · have hz : ∀ j, (o ++ [0]).getD j 0 = o.getD j 0 := by
        intro j
        rcases Nat.lt_trichotomy j o.length with h | h | h
        · simp [List.getD_eq_getElem?_getD, List.getElem?_append_left h]
        · subst h; simp
        · rw [getD_end _ _ _ (by simp; omega), getD_end _ _ _ (by omega)]
      obtain ⟨f1, f2⟩ := fin (o ++ [0]) (by simp; omega) (by simp; omega) hz
      refine Ev.pos (by omega) (Ev.pos (by omega) (Ev.pos (by omega) (Ev.pos (by simp; omega) (Ev.neg (by omega) ?_))))
      rw [f1, w64 (n := a.getD i 0 + b[i] * t) (by omega) (by omega), tmod_of (by omega)]
      exact f2
    · obtain ⟨f1, f2⟩ := fin o (by omega) (by omega) (fun _ => rfl)
      refine Ev.neg (by omega) (Ev.pos (by omega) (Ev.pos (by omega) (Ev.neg (by omega) ?_)))
      rw [f1, w64 (n := a.getD i 0 + b[i] * t) (by omega) (by omega), tmod_of (by omega)]
      exact f2
theorem spec_l05Padded.ev (p t : Int) (hp : 0 < p) (hp' : p ≤ 31) (ht : 0 ≤ t ∧ t < p) (a b : List Int) (ha : allR p a = true) (hb : allR p b = true) (hla : a.length ≤ 100) (hlb : b.length ≤ 100) : Ev (fun k => spec_l05Padded.f k p a b t) (addC p t a b) := by
  unfold spec_l05Padded.f
  refine Ev.bindc (spec_l00Own.eq a (by omega)) ?_
  exact spec_l05Padded.ev_l p t hp hp' ht a b ha hb hla hlb b.length 0 a (by omega) (by omega) (fun j => by simp)

-- spec_l05Through
theorem spec_l05Through.mul_l (p : Int) (hp : isPr p = true) (P V : List Int) (hP : Dst p P) (o part : List Int) (i x : Nat) (hi : i < P.length) (hx : x < P.length) (b : Int) (h0 : 0 ≤ b) (h1 : b < p) (hr : allR p part = true) (hl : part.length ≤ 50) (R : List Int)
    (hout : Ev (fun k => spec_l05Through.l1 k p P V o (i : Int) (mulLin p part P[x]) (byS p P[i] b P[x]) ((x + 1 : Nat) : Int)) R) :
    ∀ (d j : Nat) (n : List Int), j + d = part.length → n.length = part.length + 1 → (∀ m, n.getD m 0 = if m < j then mulAt p P[x] part m else if m = j then (if j = 0 then 0 else part.getD (j - 1) 0) else 0) → Ev (fun k => spec_l05Through.l2 k p P V o (i : Int) part b (x : Int) n (j : Int)) R := by
  have hb := isPr_bd hp
  obtain ⟨hl10, hris, hmem⟩ := id hP
  have c1 := hmem _ (List.getElem_mem hx)
  have c2 := hmem _ (List.getElem_mem hi)
  intro d
  induction d with
  | zero =>
    intro j n hj hn hv
    refine Ev.succ ?_
    simp only [spec_l05Through.l2]
    have e : n = mulLin p part P[x] := by
      apply ext_getD
      · rw [mulLin_length, hn]
      · intro m hm
        rw [mulLin_getD _ _ _ _ (by omega), hv m]
        split
        · rfl
        · rw [if_pos (by omega)]
          unfold mulAt
          have : part.getD m 0 = 0 := getD_end _ _ _ (by omega)
          rw [this, Int.zero_mul, Int.add_zero]
          have hm2 : m = j := by omega
          subst hm2
          split
          · rfl
          · have := allR_getD (p := p) (by omega) hr (m - 1)
            rw [Int.emod_eq_of_lt this.1 this.2]
    have e2 := emod_bd (p := p) (by omega) (P[i] - P[x])
    have e3 := invM_bd hp e2.1 e2.2
    have m2 := mul_bd h0 (show b ≤ 31 by omega) e3.1 (show _ ≤ 31 by omega)
    rw [rd_get P i hi, rd_get P x hx, w64 (n := P[i] - P[x]) (by omega) (by omega), w64 (n := (x : Int) + 1) (by omega) (by omega)]
    refine Ev.neg (by omega) (Ev.pos (by omega) (Ev.pos (by omega) (Ev.pos (by omega) (Ev.pos (by omega) (Ev.bindc (spec_l05Rest.eq _ _ (by omega) (by omega)) (Ev.bind (spec_l05Inverse.ev hp e2.1 e2.2) (Ev.neg (by omega) ?_)))))))
    rw [w64 (by omega) (by omega), tmod_of m2.1, e]
    exact hout
  | succ d ih =>
    intro j n hj hn hv
    have hlt : j < part.length := by omega
    have r1 := allR_get hr j hlt
    have e1 := emod_bd (p := p) (by omega) (-P[x])
    have m1 := mul_bd r1.1 (show _ ≤ 31 by omega) e1.1 (show _ ≤ 31 by omega)
    have hj1 : rd n ((j : Int) + 1) = 0 := by
      have : ((j : Int) + 1) = ((j + 1 : Nat) : Int) := by omega
      rw [this, rd_nat, hv]
      rw [if_neg (by omega), if_neg (by omega)]
    have hset : (n.set (j + 1) part[j]).length = n.length := by simp
    have hj0 : rd (n.set (j + 1) part[j]) (j : Int) = if j = 0 then 0 else part.getD (j - 1) 0 := by
      rw [rd_nat, lset_ne _ _ _ _ _ (by omega), hv, if_neg (by omega), if_pos rfl]
    have b0 : 0 ≤ (if j = 0 then (0 : Int) else part.getD (j - 1) 0) ∧ (if j = 0 then (0 : Int) else part.getD (j - 1) 0) < p := by
      split
      · omega
      · exact allR_getD (by omega) hr _
    refine Ev.succ ?_
    simp only [spec_l05Through.l2, Option.bind_some]
    rw [rd_get part j hlt, rd_get P x hx, w64 (n := (j : Int) + 1) (by omega) (by omega), hj1, Int.zero_add, w64 (n := part[j]) (by omega) (by omega), tmod_of r1.1, Int.emod_eq_of_lt r1.1 r1.2, show ((j : Int) + 1).toNat = j + 1 by omega, Int.toNat_natCast, hj0, w64 (n := -P[x]) (by omega) (by omega)]
    refine Ev.pos (by omega) (Ev.pos (by omega) (Ev.pos (by omega) (Ev.pos (by omega) (Ev.neg (by omega) (Ev.pos (by omega) (Ev.pos (by omega) (Ev.pos (by omega) (Ev.bindc (spec_l05Rest.eq _ _ (by omega) (by omega)) ?_))))))))
    rw [w64 (n := part[j] * ((-P[x]) % p)) (by omega) (by omega), w64 (by omega) (by omega), tmod_of (by omega)]
    refine ih (j + 1) _ (by omega) (by simpa using hn) ?_
    intro m
    by_cases hm : m = j
    · subst hm
      rw [lset_eq _ _ _ _ (by simp; omega), if_pos (show m < m + 1 by omega)]
      unfold mulAt
      rw [getD_get part m 0 hlt]
    · rw [lset_ne _ _ _ _ _ (fun e => hm e.symm)]
      by_cases hm1 : m = j + 1
      · subst hm1
        rw [lset_eq _ _ _ _ (by omega), if_neg (by omega), if_pos rfl, if_neg (by omega), Nat.add_sub_cancel, getD_get part j 0 hlt]
      · rw [lset_ne _ _ _ _ _ (fun e => hm1 e.symm), hv]
        by_cases h : m < j
        · rw [if_pos h, if_pos (by omega)]
        · rw [if_neg h, if_neg hm, if_neg (by omega), if_neg hm1]
theorem spec_l05Through.in_l (p : Int) (hp : isPr p = true) (P V : List Int) (hP : Dst p P) (o : List Int) (ho : allR p o = true) (hlo : o.length ≤ 50) (i : Nat) (hi : i < P.length) (R : List Int → Int → List Int)
    (hout : ∀ part b, allR p part = true → part.length ≤ P.length + 1 → 0 ≤ b → b < p → Ev (fun k => spec_l05Through.l0 k p P V (addC p b o part) ((i + 1 : Nat) : Int)) (R part b)) :
    ∀ (d j : Nat) (part : List Int) (b : Int), j + d = P.length → allR p part = true → part.length ≤ j + 1 → 0 ≤ b → b < p → Ev (fun k => spec_l05Through.l1 k p P V o (i : Int) part b (j : Int)) (R (skipFold (mulLin p) i j (P.drop j) part) (skipFold (byS p (P.getD i 0)) i j (P.drop j) b)) := by
  have hb := isPr_bd hp
  obtain ⟨hl10, hris, hmem⟩ := id hP
  intro d
  induction d with
  | zero =>
    intro j part b hj hr hl h0 h1
    refine Ev.succ ?_
    simp only [spec_l05Through.l1]
    rw [drop_end (by omega), w64 (n := (i : Int) + 1) (by omega) (by omega)]
    exact Ev.neg (by omega) (Ev.bind (spec_l05Padded.ev p b (by omega) (by omega) ⟨h0, h1⟩ o part ho hr (by omega) (by omega)) (hout part b hr (by omega) h0 h1))
  | succ d ih =>
    intro j part b hj hr hl h0 h1
    have hlt : j < P.length := by omega
    refine Ev.succ ?_
    simp only [spec_l05Through.l1]
    rw [drop_get hlt, skipFold_cons, skipFold_cons]
    refine Ev.pos (by omega) ?_
    by_cases hji : j = i
    · rw [if_pos hji, if_pos hji, w64 (n := (j : Int) + 1) (by omega) (by omega)]
      exact Ev.pos (by omega) (ih (j + 1) part b (by omega) hr (by omega) h0 h1)
    · rw [if_neg hji, if_neg hji]
      rw [w64 (n := (part.length : Int) + 1) (by omega) (by omega), show ((part.length : Int) + 1).toNat = part.length + 1 by omega]
      refine Ev.neg (by omega) (Ev.pos (by omega) (Ev.pos (by omega) ?_))
      have e2 := emod_bd (p := p) (by omega) (b * invM p ((P[i] - P[j]) % p))
      have hgi : P.getD i 0 = P[i] := getD_get _ _ _ hi
      refine spec_l05Through.mul_l p hp P V hP o part i j hi hlt b h0 h1 hr (by omega) _ ?_ part.length 0 _ (by omega) (by simp) ?_
      · rw [hgi] at ih ⊢
        exact ih (j + 1) _ _ (by omega) (mulLin_all (by omega) _ _) (by rw [mulLin_length]; omega) e2.1 e2.2
      · intro m
        rcases Nat.lt_or_ge m (part.length + 1) with h | h
        · rw [getD_get _ _ _ (by simpa using h)]; simp
        · rw [getD_end _ _ _ (by simpa using h)]; simp
theorem spec_l05Through.ev_l (p : Int) (hp : isPr p = true) (P V : List Int) (hP : Dst p P) (hV : allR p V = true) (hl : P.length = V.length) :
    ∀ (d i : Nat) (o : List Int), i + d = P.length → allR p o = true → o.length ≤ P.length + 1 → Ev (fun k => spec_l05Through.l0 k p P V o (i : Int)) (stripM (thrFrom p P V d i o)) := by
  have hb := isPr_bd hp
  obtain ⟨hl10, hris, hmem⟩ := id hP
  intro d
  induction d with
  | zero =>
    intro i o hi ho hlo
    refine Ev.succ ?_
    simp only [spec_l05Through.l0]
    exact Ev.neg (by omega) (Ev.bind (spec_l05Cut.ev o (by omega)) (Ev.now _))
  | succ d ih =>
    intro i o hi ho hlo
    refine Ev.succ ?_
    simp only [spec_l05Through.l0]
    have hv : i < V.length := by omega
    have r := allR_get hV i hv
    rw [rd_get V i hv]
    refine Ev.pos (by omega) (Ev.pos (by omega) (Ev.pos (by omega) ?_))
    have hgv : V.getD i 0 = V[i] := getD_get _ _ _ hv
    have := spec_l05Through.in_l p hp P V hP o ho (by omega) i (by omega) (fun part b => stripM (thrFrom p P V d (i + 1) (addC p b o part)))
      (fun part b h1 h2 h3 h4 => ih (i + 1) _ (by omega) (addC_all (by omega) _ _ _) (by rw [addC_length]; omega)) P.length 0 [1] V[i] (by omega) (by simp [allR, inR]; omega) (by simp) r.1 r.2
    rw [← hgv] at this
    rw [← hgv]
    exact this
theorem spec_l05Through.ev (p : Int) (hp : isPr p = true) (P V : List Int) (hP : Dst p P) (hV : allR p V = true) (hl : P.length = V.length) : Ev (fun k => spec_l05Through.f k p P V) (throughM p P V) := by
  unfold spec_l05Through.f
  exact spec_l05Through.ev_l p hp P V hP hV hl P.length 0 [] (by omega) rfl (by simp)

-- spec_l05Lies
theorem spec_l05Lies.ev (p : Int) (hp : isPr p = true) (P V : List Int) (hP : Dst p P) (hV : allR p V = true) (hl : P.length = V.length) (g : Int) (h0 : -1 ≤ g) (h1 : g ≤ 6) : Ev (fun k => spec_l05Lies.f k p P V g) (decide (((throughM p P V).length : Int) ≤ g + 1)) := by
  unfold spec_l05Lies.f
  rw [w64 (n := g + 1) (by omega) (by omega)]
  exact Ev.bind (spec_l05Through.ev p hp P V hP hV hl) (Ev.now _)

-- spec_CountSecrets
def cntAt (p : Int) (l : List S68) (g : Int) (s : Nat) : Int := if (l.length : Int) ≤ g then p ^ (g - (l.length : Int)).toNat else if ((throughM p ((0 : Int) :: l.map (·.f0)) ((s : Int) :: l.map (·.f1))).length : Int) ≤ g + 1 then 1 else 0
def countM (p : Int) (l : List S68) (g : Int) : List Int × Int := if isSh p l = true then (if 0 ≤ g ∧ g ≤ 6 then ((List.range p.toNat).map (cntAt p l g), 0) else ([], 2)) else ([], 1)
theorem countM_len (p : Int) (l : List S68) (g : Int) : (countM p l g).1.length ≤ 40 := by
  unfold countM
  split
  · rename_i h
    have := isPr_bd (isSh_of h).1
    split
    · simp; omega
    · simp
  · simp
theorem dst0 {p : Int} {l : List Int} (h : isPts p l = true) (hp : 2 ≤ p) : Dst p ((0 : Int) :: l) := by
  obtain ⟨h1, h2, h3⟩ := isPts_of h
  obtain ⟨_, k2, _⟩ := Dst.of_pts h
  refine ⟨by simp; omega, List.Pairwise.cons (fun x hx => by have := h3 x hx; omega) k2, fun x hx => ?_⟩
  rcases List.mem_cons.1 hx with rfl | hx
  · omega
  · have := h3 x hx; omega
theorem allR_consI {p a : Int} {l : List Int} (h0 : 0 ≤ a) (h1 : a < p) (h : allR p l = true) : allR p (a :: l) = true := by
  unfold allR at *
  rw [List.all_cons, h, Bool.and_true]
  simp only [inR, decide_eq_true_eq]
  omega
theorem pow_bd {p : Int} (h0 : 0 ≤ p) (h1 : p ≤ 31) : ∀ e : Nat, 0 ≤ p ^ e ∧ p ^ e ≤ 31 ^ e
  | 0 => by simp
  | e + 1 => by
    have := pow_bd h0 h1 e
    rw [Int.pow_succ, Int.pow_succ]
    exact mul_bd this.1 this.2 h0 h1
theorem pow7 : ∀ e : Fin 8, (31 : Int) ^ e.val ≤ 27512614111 := by decide
theorem pow_bd7 {p : Int} (h0 : 0 ≤ p) (h1 : p ≤ 31) (e : Nat) (he : e ≤ 7) : 0 ≤ p ^ e ∧ p ^ e ≤ 27512614111 := by
  have := pow_bd h0 h1 e
  have h7 := pow7 ⟨e, by omega⟩
  simp only at h7
  exact ⟨this.1, Int.le_trans this.2 h7⟩
theorem spec_CountSecrets.l1_ev (p : Int) (l : List S68) (g : Int) (hs : isSh p l = true) (hg : 0 ≤ g ∧ g ≤ 6) (w : Int) (hw : w = if (l.length : Int) ≤ g then p ^ (g - (l.length : Int)).toNat else 1) :
    ∀ (d i : Nat) (acc : List Int), i + d = p.toNat → acc.length = i → Ev (fun k => spec_CountSecrets.l1 k p l g (l.length : Int) w ([0] ++ l.map (·.f0)) acc (i : Int)) (acc ++ ((List.range p.toNat).map (cntAt p l g)).drop i, 0) := by
  obtain ⟨h1, h2, h3, h4⟩ := isSh_of hs
  have hb := isPr_bd h1
  intro d
  induction d with
  | zero =>
    intro i acc hi ha
    refine Ev.succ ?_
    simp only [spec_CountSecrets.l1]
    rw [drop_end (by simp; omega), List.append_nil]
    exact Ev.neg (by omega) (Ev.now _)
  | succ d ih =>
    intro i acc hi ha
    have nx : ∀ v, v = cntAt p l g i → Ev (fun k => spec_CountSecrets.l1 k p l g (l.length : Int) w ([0] ++ l.map (·.f0)) (acc ++ [v]) ((i + 1 : Nat) : Int)) (acc ++ ((List.range p.toNat).map (cntAt p l g)).drop i, 0) := by
      intro v hv
      refine Ev.eq (ih (i + 1) _ (by omega) (by simp [ha])) ?_
      rw [range_map_drop (cntAt p l g) p.toNat i (by omega), List.append_assoc, hv]
      rfl
    refine Ev.succ ?_
    simp only [spec_CountSecrets.l1, Option.bind_some]
    rw [w64 (n := (i : Int) + 1) (by omega) (by omega)]
    refine Ev.pos (by omega) ?_
    by_cases hlg : (l.length : Int) ≥ g
    · have len2 := through_len2 p ((0 : Int) :: l.map (·.f0)) ((i : Int) :: l.map (·.f1))
      simp only [List.length_cons, List.length_map] at len2
      refine Ev.pos hlg (Ev.bind (spec_l05Values.ev l (by omega)) (Ev.pos (by simp; omega) (Ev.bind (spec_l05Lies.ev p h1 _ _ (dst0 h2 (by omega)) (allR_consI (by omega) (by omega) h3) (by simp) g (by omega) (by omega)) ?_)))
      by_cases ht : ((throughM p ((0 : Int) :: l.map (·.f0)) ((i : Int) :: l.map (·.f1))).length : Int) ≤ g + 1
      · refine Ev.pos (decide_eq_true ht) (Ev.pos (by omega) (nx _ ?_))
        unfold cntAt
        rw [hw]
        split
        · rfl
        · first | rfl | rw [if_pos ht]
      · refine Ev.neg (by rw [decide_eq_false ht]; exact Bool.false_ne_true) (Ev.pos (by omega) (nx _ ?_))
        unfold cntAt
        rw [if_neg (by omega), if_neg ht]
    · refine Ev.neg hlg (Ev.pos (by omega) (nx _ ?_))
      unfold cntAt
      rw [hw, if_pos (by omega), if_pos (by omega)]
theorem spec_CountSecrets.l0_ev (p : Int) (l : List S68) (g : Int) (hg6 : g ≤ 6) (hs : isSh p l = true) (w : Int) (R : List Int × Int) (hout : Ev (fun k => spec_CountSecrets.l1 k p l g (l.length : Int) w ([0] ++ l.map (·.f0)) [] 0) R) :
    ∀ (d e i : Nat), (((i + d : Nat) : Int) = g ∨ (d = 0 ∧ g ≤ (i : Int))) → e + d ≤ 7 → p ^ (e + d) = w → Ev (fun k => spec_CountSecrets.l0 k p l g (l.length : Int) (p ^ e) (i : Int)) R := by
  obtain ⟨h1, h2, h3, h4⟩ := isSh_of hs
  have hb := isPr_bd h1
  intro d
  induction d with
  | zero =>
    intro e i hi he hw
    refine Ev.succ ?_
    simp only [spec_CountSecrets.l0, Option.bind_some]
    rw [Nat.add_zero] at hw
    rw [hw]
    exact Ev.neg (by omega) (Ev.bind (spec_l05Places.ev l (by omega)) (Ev.pos (by simp; omega) hout))
  | succ d ih =>
    intro e i hi he hw
    have b := pow_bd7 (p := p) (by omega) (by omega) (e + 1) (by omega)
    refine Ev.succ ?_
    simp only [spec_CountSecrets.l0]
    rw [Int.pow_succ] at b
    rw [w64 (n := (i : Int) + 1) (by omega) (by omega), w64 (n := p ^ e * p) (by omega) (by omega), ← Int.pow_succ]
    exact Ev.pos (by omega) (ih (e + 1) (i + 1) (by omega) (by omega) (by rw [← hw]; congr 1; omega))
theorem spec_CountSecrets.ev (p : Int) (l : List S68) (g : Int) (hl : l.length ≤ 8796093022208) : Ev (fun k => spec_CountSecrets.f k p l g) (countM p l g) := by
  unfold spec_CountSecrets.f countM
  refine Ev.bind (spec_ValidShares.ev p l hl) ?_
  by_cases hc : isSh p l = true
  · obtain ⟨h1, h2, h3, h4⟩ := isSh_of hc
    have hb := isPr_bd h1
    rw [if_pos hc]
    refine Ev.pos hc (Ev.bindc (spec_l00In.eq _ _ _) ?_)
    by_cases hx : 0 ≤ g ∧ g ≤ 6
    · rw [if_pos hx]
      refine Ev.pos (decide_eq_true hx) ?_
      have one : (1 : Int) = p ^ 0 := by simp
      rw [one]
      by_cases hlg : (l.length : Int) ≤ g
      · refine spec_CountSecrets.l0_ev p l g hx.2 hc (p ^ (g - (l.length : Int)).toNat) _ ?_ (g - (l.length : Int)).toNat 0 l.length (by omega) (by omega) (by rw [Nat.zero_add])
        have := spec_CountSecrets.l1_ev p l g hc hx (p ^ (g - (l.length : Int)).toNat) (by rw [if_pos hlg]) p.toNat 0 [] (by omega) rfl
        simpa using this
      · refine spec_CountSecrets.l0_ev p l g hx.2 hc 1 _ ?_ 0 0 l.length (by omega) (by omega) (by simp)
        have := spec_CountSecrets.l1_ev p l g hc hx 1 (by rw [if_neg hlg]) p.toNat 0 [] (by omega) rfl
        simpa using this
    · rw [if_neg hx]
      exact Ev.neg (by rw [decide_eq_false hx]; exact Bool.false_ne_true) (Ev.now _)
  · rw [if_neg hc]
    exact Ev.neg hc (Ev.now _)

-- impl_within
theorem impl_within.eq (a b c : Int) : impl_within.f a b c = some (decide (b ≤ a ∧ a ≤ c)) := by
  unfold impl_within.f
  by_cases h : a ≥ b
  · have : b ≤ a := h
    simp [h, this]
  · have : ¬ b ≤ a := h
    simp [this]

-- impl_IsPrime
theorem impl_IsPrime.small : ∀ n : Fin 32, 2 ≤ n.val → impl_IsPrime.f 40 (n.val : Int) = some (isPr (n.val : Int)) := by decide +kernel
theorem impl_IsPrime.ev (p : Int) : Ev (fun k => impl_IsPrime.f k p) (isPr p) := by
  by_cases h : 2 ≤ p ∧ p ≤ 31
  · obtain ⟨n, rfl⟩ : ∃ n : Nat, p = n := ⟨p.toNat, by omega⟩
    exact Ev.of (fun k => impl_IsPrime.mono _ k) (impl_IsPrime.small ⟨n, by omega⟩ (by simp only; omega))
  · have hw : impl_within.f p 2 31 = some false := by rw [impl_within.eq, decide_eq_false h]
    rcases (show p < 2 ∨ 2 ≤ p by omega) with h1 | h1
    · rw [isPr_small h1]
      refine Ev.congr (fun k => by unfold impl_IsPrime.f; rfl) (Ev.succ ?_)
      simp only [impl_IsPrime.l0]
      refine Ev.neg (by rw [w64 (by omega) (by omega)]; omega) (Ev.succ ?_)
      simp only [impl_IsPrime.j1, hw]
      exact ⟨0, fun k _ => rfl⟩
    · rw [isPr_big (by omega)]
      refine Ev.congr (fun k => by unfold impl_IsPrime.f; rfl) (Ev.succ ?_)
      simp only [impl_IsPrime.l0]
      have hd : decide (p ≤ 31) = false := decide_eq_false (by omega)
      rw [hd]
      refine Ev.pos (by rw [w64 (by omega) (by omega)]; omega) (Ev.succ ?_)
      simp only [impl_IsPrime.j1, hw]
      exact ⟨0, fun k _ => rfl⟩

-- impl_areElements_1
theorem impl_areElements_1.eq (x p : Int) (hp : -9223372036854775807 ≤ p) (hp' : p ≤ 9223372036854775807) : impl_areElements_1.f x [p] = some (!inR p x) := by
  unfold impl_areElements_1.f
  have e : rd [p] 0 = p := rfl
  rw [e, w64 (n := p - 1) (by omega) (by omega), impl_within.eq]
  rfl

-- slices_IndexFunc_int64_int64_at_impl_areElements_1
theorem slices_IndexFunc_int64_int64_at_impl_areElements_1.ev_l (p : Int) (hp : -9223372036854775807 ≤ p) (hp' : p ≤ 9223372036854775807) (l : List Int) (hl : l.length ≤ 9223372036854775806) : ∀ (d i : Nat), i + d = l.length → Ev (fun k => slices_IndexFunc_int64_int64_at_impl_areElements_1.l0 k l (l.length : Int) (i : Int) [p]) (idxFrom (fun x => !inR p x) (l.drop i) (i : Int)) := by
  intro d
  induction d with
  | zero =>
    intro i hi
    refine Ev.succ ?_
    simp only [slices_IndexFunc_int64_int64_at_impl_areElements_1.l0]
    rw [List.drop_of_length_le (by omega)]
    exact Ev.neg (by omega) (Ev.now _)
  | succ d ih =>
    intro i hi
    refine Ev.succ ?_
    simp only [slices_IndexFunc_int64_int64_at_impl_areElements_1.l0]
    refine Ev.pos (by omega) (Ev.pos (by omega) (Ev.pos (by omega) ?_))
    have hlt : i < l.length := by omega
    rw [rd_get l i hlt, impl_areElements_1.eq _ p hp hp', w64 (n := (i : Int) + 1) (by omega) (by omega), List.drop_eq_getElem_cons hlt]
    simp only [Option.bind_some, idxFrom]
    by_cases hx : (!inR p l[i]) = true
    · refine Ev.pos hx ?_
      rw [if_pos hx]
      exact Ev.now _
    · refine Ev.neg hx ?_
      rw [if_neg hx]
      exact ih (i + 1) (by omega)

-- slices_ContainsFunc_int64_int64_at_impl_areElements_1
theorem slices_ContainsFunc_int64_int64_at_impl_areElements_1.ev (p : Int) (hp : -9223372036854775807 ≤ p) (hp' : p ≤ 9223372036854775807) (l : List Int) (hl : l.length ≤ 9223372036854775806) : Ev (fun k => slices_ContainsFunc_int64_int64_at_impl_areElements_1.f k l [p]) (!allR p l) := by
  unfold slices_ContainsFunc_int64_int64_at_impl_areElements_1.f slices_IndexFunc_int64_int64_at_impl_areElements_1.f
  refine Ev.bind (slices_IndexFunc_int64_int64_at_impl_areElements_1.ev_l p hp hp' l hl l.length 0 (by omega)) ?_
  refine Ev.eq (Ev.now _) ?_
  rw [idxFrom_any _ _ _ (by omega), List.drop_zero, not_allR]

-- impl_areElements
theorem impl_areElements.ev (p : Int) (l : List Int) (hl : l.length ≤ 9223372036854775806) : Ev (fun k => impl_areElements.f k p l) (isPr p && allR p l) := by
  unfold impl_areElements.f
  refine Ev.bind (impl_IsPrime.ev p) ?_
  cases h : isPr p with
  | false => exact Ev.neg Bool.false_ne_true (Ev.now _)
  | true =>
    have := isPr_bd h
    refine Ev.pos rfl ?_
    refine Ev.bind (slices_ContainsFunc_int64_int64_at_impl_areElements_1.ev p (by omega) (by omega) l hl) ?_
    refine Ev.eq (Ev.now _) ?_
    rw [Bool.not_not, Bool.true_and]

-- impl_pointsOf
theorem impl_pointsOf.ev_l (l : List S68) (hl : l.length ≤ 8796093022208) : ∀ (d i : Nat) (a b : List Int), i + d = l.length → a.length = i → b.length = i → Ev (fun k => impl_pointsOf.l0 k a b l (l.length : Int) (i : Int)) (a ++ (l.drop i).map (·.f0), b ++ (l.drop i).map (·.f1)) := by
  intro d
  induction d with
  | zero =>
    intro i a b hi ha hb
    refine Ev.succ ?_
    simp only [impl_pointsOf.l0]
    rw [drop_end (by omega), List.map_nil, List.map_nil, List.append_nil, List.append_nil]
    exact Ev.neg (by omega) (Ev.now _)
  | succ d ih =>
    intro i a b hi ha hb
    have hlt : i < l.length := by omega
    refine Ev.succ ?_
    simp only [impl_pointsOf.l0, Option.bind_some, List.length_singleton]
    refine Ev.pos (by omega) (Ev.pos (by omega) (Ev.pos (by omega) (Ev.pos (by omega) (Ev.pos (by omega) ?_))))
    rw [rd_T68_get l i hlt, w64 (n := (i : Int) + 1) (by omega) (by omega), drop_get hlt, List.map_cons, List.map_cons]
    refine Ev.eq (ih (i + 1) _ _ (by omega) (by simp [ha]) (by simp [hb])) ?_
    rw [List.append_assoc, List.append_assoc]; rfl
theorem impl_pointsOf.ev (l : List S68) (hl : l.length ≤ 8796093022208) : Ev (fun k => impl_pointsOf.f k l) (l.map (·.f0), l.map (·.f1)) := by
  unfold impl_pointsOf.f
  exact Ev.eq (impl_pointsOf.ev_l l hl l.length 0 [] [] (by omega) rfl rfl) (by simp)

-- impl_arePoints
theorem impl_arePoints.ev_l (p : Int) (hp : -9223372036854775807 ≤ p) (hp' : p ≤ 9223372036854775807) (l : List Int) (hl : l.length ≤ 35184372088832) : ∀ (d i : Nat), i + d = l.length → Ev (fun k => impl_arePoints.l0 k p l l (l.length : Int) (i : Int)) (risesAt 1 (p - 1) l i && decide (l.length ≤ 10)) := by
  intro d
  induction d with
  | zero =>
    intro i hi
    refine Ev.succ ?_
    simp only [impl_arePoints.l0]
    rw [risesAt_end _ _ _ _ (by omega), Bool.true_and]
    refine Ev.neg (by omega) (Ev.eq (Ev.now _) ?_)
    exact decide_eq_decide.2 (by omega)
  | succ d ih =>
    intro i hd
    have hlt : i < l.length := by omega
    refine Ev.succ ?_
    simp only [impl_arePoints.l0]
    have hn := ih (i + 1) (by omega)
    rw [rd_get l i hlt, impl_within.eq, w64 (n := (i : Int) + 1) (by omega) (by omega), w64 (n := p - 1) (by omega) (by omega)]
    refine Ev.pos (by omega) (Ev.pos (by omega) (Ev.pos (by omega) (Ev.bindc rfl ?_)))
    cases i with
    | zero =>
      rw [risesAt_zero _ _ _ hlt]
      cases hc : decide (1 ≤ l[0] ∧ l[0] ≤ p - 1) with
      | false => exact Ev.neg Bool.false_ne_true (Ev.now _)
      | true => exact Ev.pos rfl (Ev.neg (by omega) (by rw [Bool.true_and]; exact hn))
    | succ j =>
      rw [risesAt_succ _ _ _ _ hlt]
      cases hc : decide (1 ≤ l[j + 1] ∧ l[j + 1] ≤ p - 1) with
      | false => exact Ev.neg Bool.false_ne_true (Ev.now _)
      | true =>
        have e : ((j + 1 : Nat) : Int) - 1 = (j : Int) := by omega
        rw [w64 (n := ((j + 1 : Nat) : Int) - 1) (by omega) (by omega), e, rd_get l j (by omega), Bool.true_and]
        refine Ev.pos rfl (Ev.pos (by omega) (Ev.pos (by omega) (Ev.pos (by omega) ?_)))
        by_cases hx : l[j] < l[j + 1]
        · rw [decide_eq_true hx, Bool.true_and]
          exact Ev.neg (by omega) hn
        · rw [decide_eq_false hx, Bool.false_and]
          exact Ev.pos (by omega) (Ev.now _)
theorem impl_arePoints.ev (p : Int) (hp : -9223372036854775807 ≤ p) (hp' : p ≤ 9223372036854775807) (l : List Int) (hl : l.length ≤ 35184372088832) : Ev (fun k => impl_arePoints.f k p l) (isPts p l) := by
  unfold impl_arePoints.f
  refine Ev.eq (impl_arePoints.ev_l p hp hp' l hl l.length 0 (by omega)) ?_
  rw [risesAt_all, isPts, Bool.and_comm, Bool.and_comm (l.all _)]

-- impl_ValidShares
theorem impl_ValidShares.ev (p : Int) (l : List S68) (hl : l.length ≤ 8796093022208) : Ev (fun k => impl_ValidShares.f k p l) (isSh p l) := by
  unfold impl_ValidShares.f isSh
  refine Ev.bind (impl_pointsOf.ev l hl) (Ev.bind (impl_areElements.ev p _ (by simp; omega)) ?_)
  cases h : isPr p with
  | false => exact Ev.neg Bool.false_ne_true (Ev.now _)
  | true =>
    have := isPr_bd h
    rw [Bool.true_and, Bool.true_and]
    cases h2 : allR p (l.map (·.f1)) with
    | false => rw [Bool.and_false]; exact Ev.neg Bool.false_ne_true (Ev.now _)
    | true => rw [Bool.and_true]; exact Ev.pos rfl (Ev.bind (impl_arePoints.ev p (by omega) (by omega) _ (by simp; omega)) (Ev.now _))

-- impl_stripped
theorem impl_stripped.ev_l (l : List Int) (hl : l.length ≤ 8796093022208) : ∀ (n : Nat), n ≤ l.length → Ev (fun k => impl_stripped.l0 k (l.take n)) (cutTo l n) := by
  intro n
  induction n with
  | zero =>
    intro hn
    refine Ev.succ ?_
    simp only [impl_stripped.l0]
    exact Ev.neg (by simp) (Ev.eq (Ev.now _) (by simp [cutTo]))
  | succ n ih =>
    intro hn
    have hlt : n < l.length := by omega
    have hlen : (l.take (n + 1)).length = n + 1 := by simp; omega
    have e : ((n + 1 : Nat) : Int) - 1 = (n : Int) := by omega
    have eg : (l.take (n + 1))[n]'(by omega) = l[n] := by simp
    refine Ev.succ ?_
    simp only [impl_stripped.l0]
    rw [hlen, w64 (n := ((n + 1 : Nat) : Int) - 1) (by omega) (by omega), e, rd_get _ n (by omega), eg]
    refine Ev.pos (by omega) (Ev.pos (by omega) (Ev.pos (by omega) ?_))
    unfold cutTo
    rw [getD_get l n 0 hlt]
    by_cases h : l[n] = 0
    · rw [if_pos h]
      refine Ev.pos h (Ev.pos (by omega) ?_)
      rw [Int.toNat_natCast, List.take_take, Nat.min_eq_left (by omega)]
      exact ih (by omega)
    · rw [if_neg h]
      exact Ev.neg h (Ev.now _)
theorem impl_stripped.ev (l : List Int) (hl : l.length ≤ 8796093022208) : Ev (fun k => impl_stripped.f k l) (stripM l) := by
  unfold impl_stripped.f
  have := impl_stripped.ev_l l hl l.length (Nat.le_refl _)
  rwa [List.take_length] at this

-- impl_addCurves
theorem impl_addCurves.ev_l (p : Int) (hp : 0 < p) (hp' : p ≤ 31) (a b : List Int) (ha : allR p a = true) (hb : allR p b = true) (hla : a.length ≤ 100) (hlb : b.length ≤ 100) (n : Nat) (hn : n = max a.length b.length) :
    ∀ (d i : Nat) (y : List Int), i + d = n → y.length = n → y.take i = (addC p 1 a b).take i → (∀ j, i ≤ j → y.getD j 0 = 0) → Ev (fun k => impl_addCurves.l0 k p a b y (n : Int) (i : Int)) (addC p 1 a b) := by
  intro d
  induction d with
  | zero =>
    intro i y hi hy ht h0
    refine Ev.succ ?_
    simp only [impl_addCurves.l0]
    rw [take_all (L := addC p 1 a b) (by rw [addC_length]; omega) (by rw [addC_length]; omega) ht]
    exact Ev.neg (by omega) (Ev.now _)
  | succ d ih =>
    intro i y hi hy ht h0
    have hlt : i < y.length := by omega
    have hL : i < (addC p 1 a b).length := by rw [addC_length]; omega
    have r1 := allR_getD hp ha i
    have r2 := allR_getD hp hb i
    have ey : rd y (i : Int) = 0 := by rw [rd_nat]; exact h0 i (Nat.le_refl _)
    have nxt : ∀ v, v = addAt p 1 a b i → Ev (fun k => impl_addCurves.l0 k p a b (y.set i v) (n : Int) ((i + 1 : Nat) : Int)) (addC p 1 a b) := by
      intro v hv
      refine ih (i + 1) _ (by omega) (by simpa using hy) ?_ ?_
      · have := take_set (m := y) (L := addC p 1 a b) hL (by rw [addC_length]; omega) ht
        rw [addC_get, ← hv] at this
        exact this
      · intro j hj
        rw [lset_ne _ _ _ _ _ (by omega)]
        exact h0 j (by omega)
    refine Ev.succ ?_
    simp only [impl_addCurves.l0, Option.bind_some]
    rw [ey, w64 (n := (i : Int) + 1) (by omega) (by omega)]
    refine Ev.pos (by omega) ?_
    have hA : i < a.length → rd a (i : Int) = a.getD i 0 := fun h => by rw [rd_nat]
    have hB : i < b.length → rd b (i : Int) = b.getD i 0 := fun h => by rw [rd_nat]
    by_cases h1 : i < a.length
    · rw [hA h1, w64 (n := 0 + a.getD i 0) (by omega) (by omega), rd_set y i _ hlt]
      refine Ev.pos (by omega) (Ev.pos (by omega) (Ev.pos (by omega) ?_))
      by_cases h2 : i < b.length
      · rw [hB h2, w64 (n := 0 + a.getD i 0 + b.getD i 0) (by omega) (by omega), tmod_of (by omega), Int.toNat_natCast, List.set_set, List.set_set]
        exact Ev.pos (by omega) (Ev.neg (by omega) (nxt _ (by unfold addAt; rw [Int.zero_add, Int.mul_one])))
      · refine Ev.neg (by omega) (Ev.neg (by omega) ?_)
        rw [tmod_of (by omega), Int.toNat_natCast, List.set_set]
        exact nxt _ (by unfold addAt; rw [getD_end b i 0 (by omega), Int.zero_add, Int.zero_mul, Int.add_zero])
    · have h2 : i < b.length := by omega
      rw [hB h2, w64 (n := 0 + b.getD i 0) (by omega) (by omega)]
      refine Ev.neg (by omega) (Ev.pos (by omega) (Ev.pos (by omega) (Ev.pos (by omega) (Ev.neg (by omega) ?_))))
      rw [tmod_of (by omega), Int.toNat_natCast, List.set_set]
      exact nxt _ (by unfold addAt; rw [getD_end a i 0 (by omega), Int.mul_one])
theorem mx_nat (a b : Nat) : mx (a : Int) (b : Int) = ((max a b : Nat) : Int) := by
  unfold mx
  split <;> omega
theorem impl_addCurves.ev (p : Int) (hp : 0 < p) (hp' : p ≤ 31) (a b : List Int) (ha : allR p a = true) (hb : allR p b = true) (hla : a.length ≤ 100) (hlb : b.length ≤ 100) : Ev (fun k => impl_addCurves.f k p a b) (addC p 1 a b) := by
  unfold impl_addCurves.f
  rw [mx_nat, Int.toNat_natCast]
  refine Ev.pos (by omega) (Ev.pos (by omega) (Ev.bindc rfl ?_))
  rw [List.length_replicate]
  refine impl_addCurves.ev_l p hp hp' a b ha hb hla hlb _ rfl (max a.length b.length) 0 _ (by omega) (by simp) (by simp) ?_
  intro j _
  rcases Nat.lt_or_ge j (max a.length b.length) with h | h
  · rw [getD_get _ _ _ (by simpa using h)]; simp
  · rw [getD_end _ _ _ (by simpa using h)]

-- impl_scaled
theorem impl_scaled.ev_l (p t : Int) (hp : 0 < p) (hp' : p ≤ 31) (ht : 0 ≤ t ∧ t < p) (a : List Int) (ha : allR p a = true) (hla : a.length ≤ 100) :
    ∀ (d i : Nat) (y : List Int), i + d = a.length → y.length = a.length → y.take i = (addC p t [] a).take i → (∀ j, i ≤ j → y.getD j 0 = a.getD j 0) → Ev (fun k => impl_scaled.l0 k p y t (a.length : Int) (i : Int)) (addC p t [] a) := by
  intro d
  induction d with
  | zero =>
    intro i y hi hy ht h0
    refine Ev.succ ?_
    simp only [impl_scaled.l0]
    rw [take_all (L := addC p t [] a) (by rw [addC_length]; simp; omega) (by rw [addC_length]; simp; omega) ht]
    exact Ev.neg (by omega) (Ev.now _)
  | succ d ih =>
    intro i y hi hy htk h0
    have hlt : i < y.length := by omega
    have hL : i < (addC p t [] a).length := by rw [addC_length]; simp; omega
    have r1 := allR_getD hp ha i
    have m := mul_bd r1.1 (show _ ≤ 31 by omega) ht.1 (show t ≤ 31 by omega)
    have ey : rd y (i : Int) = a.getD i 0 := by rw [rd_nat]; exact h0 i (Nat.le_refl _)
    refine Ev.succ ?_
    simp only [impl_scaled.l0]
    rw [ey, w64 (n := (i : Int) + 1) (by omega) (by omega), w64 (n := a.getD i 0 * t) (by omega) (by omega), tmod_of m.1, Int.toNat_natCast]
    refine Ev.pos (by omega) (Ev.pos (by omega) (Ev.pos (by omega) (Ev.neg (by omega) ?_)))
    refine ih (i + 1) _ (by omega) (by simpa using hy) ?_ ?_
    · have := take_set (m := y) (L := addC p t [] a) hL (by rw [addC_length]; simp; omega) htk
      rw [addC_get] at this
      have e : addAt p t [] a i = a.getD i 0 * t % p := by unfold addAt; simp
      rw [e] at this
      exact this
    · intro j hj
      rw [lset_ne _ _ _ _ _ (by omega)]
      exact h0 j (by omega)
theorem impl_scaled.ev (p t : Int) (hp : 0 < p) (hp' : p ≤ 31) (ht : 0 ≤ t ∧ t < p) (a : List Int) (ha : allR p a = true) (hla : a.length ≤ 100) : Ev (fun k => impl_scaled.f k p a t) (addC p t [] a) := by
  unfold impl_scaled.f
  exact impl_scaled.ev_l p t hp hp' ht a ha hla a.length 0 a (by omega) rfl (by simp) (fun _ _ => rfl)

-- impl_inverse
theorem impl_inverse.small : ∀ p a : Fin 32, isPr (p.val : Int) = true → 1 ≤ a.val → a.val < p.val → impl_inverse.f 40 (p.val : Int) (a.val : Int) = some (invM p.val a.val) := by decide +kernel
theorem impl_inverse.ev {p a : Int} (hp : isPr p = true) (h0 : 1 ≤ a) (h1 : a < p) : Ev (fun k => impl_inverse.f k p a) (invM p a) := by
  have hb := isPr_bd hp
  obtain ⟨p, rfl⟩ : ∃ n : Nat, p = n := ⟨p.toNat, by omega⟩
  obtain ⟨a, rfl⟩ : ∃ n : Nat, a = n := ⟨a.toNat, by omega⟩
  exact Ev.of (fun k => impl_inverse.mono _ _ k) (impl_inverse.small ⟨p, by omega⟩ ⟨a, by omega⟩ hp (by simp only; omega) (by simp only; omega))

-- impl_takeOff_cut
theorem impl_takeOff_cut.ev_l (p x : Int) (hp : 0 < p) (hp' : p ≤ 31) (hx : 0 ≤ x ∧ x < p) (c : List Int) (hr : allR p c = true) (hl : c.length ≤ 50) :
    ∀ (d i : Nat) (y : List Int), i + d = c.length → y.length = c.length + 1 → (∀ m, y.getD m 0 = if m < i then mulAt p x c m else ((0 : Int) :: c).getD m 0) → Ev (fun k => impl_takeOff_cut.l0 k p y x c (c.length : Int) (i : Int) (c.length : Int)) (mulLin p c x) := by
  intro d
  induction d with
  | zero =>
    intro i y hi hy hv
    refine Ev.succ ?_
    simp only [impl_takeOff_cut.l0]
    have e : y = mulLin p c x := by
      apply ext_getD
      · rw [mulLin_length, hy]
      · intro m hm
        rw [mulLin_getD _ _ _ _ (by omega), hv m]
        split
        · rfl
        · have hm2 : m = c.length := by omega
          subst hm2
          unfold mulAt
          rw [getD_end c c.length 0 (Nat.le_refl _), Int.zero_mul, Int.add_zero]
          cases c with
          | nil => simp
          | cons z zs =>
            have := allR_getD hp hr ((z :: zs).length - 1)
            rw [if_neg (by simp), Int.emod_eq_of_lt this.1 this.2]
            simp
    rw [e]
    exact Ev.neg (by omega) (Ev.now _)
  | succ d ih =>
    intro i y hi hy hv
    have hlt : i < c.length := by omega
    have r1 := allR_get hr i hlt
    have m1 := mul_bd (show 0 ≤ p - x by omega) (show p - x ≤ 31 by omega) r1.1 (show _ ≤ 31 by omega)
    have e0 : rd y (i : Int) = if i = 0 then 0 else c.getD (i - 1) 0 := by
      rw [rd_nat, hv, if_neg (by omega)]
      cases i with
      | zero => rfl
      | succ n => rw [if_neg (by omega)]; simp
    have b0 : 0 ≤ (if i = 0 then (0 : Int) else c.getD (i - 1) 0) ∧ (if i = 0 then (0 : Int) else c.getD (i - 1) 0) < p := by
      split
      · omega
      · exact allR_getD hp hr _
    refine Ev.succ ?_
    simp only [impl_takeOff_cut.l0]
    rw [rd_get c i hlt, e0, w64 (n := p - x) (by omega) (by omega), w64 (n := (p - x) * c[i]) (by omega) (by omega), w64 (n := (i : Int) + 1) (by omega) (by omega), w64 (by omega) (by omega), tmod_of (by omega), Int.toNat_natCast]
    refine Ev.pos (by omega) (Ev.pos (by omega) (Ev.pos (by omega) (Ev.pos (by omega) (Ev.neg (by omega) ?_))))
    refine ih (i + 1) _ (by omega) (by simpa using hy) ?_
    intro m
    by_cases hm : m = i
    · subst hm
      rw [lset_eq _ _ _ _ (by omega), if_pos (show m < m + 1 by omega)]
      unfold mulAt
      rw [getD_get c m 0 hlt]
      apply Cg.emod_eq
      refine (Cg.refl p _).add ?_
      rw [Int.mul_comm]
      exact (Cg.refl p _).mul ((Cg.of_eq (by omega : p - x = -x + p)).trans ((Cg.plus p _).trans (Cg.mod p _).symm))
    · rw [lset_ne _ _ _ _ _ (fun e => hm e.symm), hv]
      by_cases h : m < i
      · rw [if_pos h, if_pos (by omega)]
      · rw [if_neg h, if_neg (by omega)]
theorem impl_takeOff_cut.ev (p x : Int) (hp : 0 < p) (hp' : p ≤ 31) (hx : 0 ≤ x ∧ x < p) (c : List Int) (hr : allR p c = true) (hl : c.length ≤ 50) : Ev (fun k => impl_takeOff_cut.f k p ([0] ++ c) (c.length : Int) c x) (mulLin p c x) := by
  unfold impl_takeOff_cut.f
  refine Ev.pos (by omega) (Ev.pos (by simp; omega) ?_)
  exact impl_takeOff_cut.ev_l p x hp hp' hx c hr hl c.length 0 _ (by omega) (by simp) (fun m => by simp)

-- impl_through
theorem impl_through.in_l (p : Int) (hp : isPr p = true) (l : List S68) (hP : Dst p (l.map (·.f0))) (hV : allR p (l.map (·.f1)) = true) (o : List Int) (ho : allR p o = true) (hlo : o.length ≤ 50) (i : Nat) (hi : i < l.length) (R : List Int → Int → List Int)
    (hout : ∀ part b, allR p part = true → part.length ≤ l.length + 1 → 0 ≤ b → b < p → Ev (fun k => impl_through.l0 k p l (addC p b o part) l (l.length : Int) ((i + 1 : Nat) : Int)) (R part b)) :
    ∀ (d j : Nat) (part : List Int) (w b : Int), j + d = l.length → allR p part = true → part.length ≤ j + 1 → 0 ≤ w → w < p → 1 ≤ b → b < p → Cg p (w * b) l[i].f1 →
      Ev (fun k => impl_through.l1 k p l o (i : Int) part b l (l.length : Int) (i : Int) l (l.length : Int) (j : Int) l[i].f0 l[i].f1) (R (skipFold (mulLin p) i j ((l.map (·.f0)).drop j) part) (skipFold (byS p ((l.map (·.f0)).getD i 0)) i j ((l.map (·.f0)).drop j) w)) := by
  have hb := isPr_bd hp
  have hl10 : l.length ≤ 20 := by have := hP.1; simpa using this
  obtain ⟨_, hris, hmem⟩ := id hP
  have hv := allR_get hV i (by simpa using hi)
  simp only [List.getElem_map] at hv
  have c2 := hmem l[i].f0 (List.mem_map.2 ⟨l[i], List.getElem_mem hi, rfl⟩)
  have hgi : (l.map (·.f0)).getD i 0 = l[i].f0 := by rw [getD_get _ _ _ (by simpa using hi)]; simp
  intro d
  induction d with
  | zero =>
    intro j part w b hj hr hl h0 h1 b0 b1 hc
    refine Ev.succ ?_
    simp only [impl_through.l1]
    have e3 := invM_bd hp (show 0 ≤ b by omega) b1
    have m2 := mul_bd e3.1 (show _ ≤ 31 by omega) hv.1 (show _ ≤ 31 by omega)
    refine Ev.neg (by omega) (Ev.bind (impl_inverse.ev hp b0 b1) (Ev.neg (by omega) ?_))
    rw [drop_end (by simp; omega), w64 (n := (i : Int) + 1) (by omega) (by omega), w64 (by omega) (by omega), tmod_of m2.1, by_end hp ⟨b0, b1⟩ ⟨h0, h1⟩ hc]
    refine Ev.bind (impl_scaled.ev p w (by omega) (by omega) ⟨h0, h1⟩ part hr (by omega)) (Ev.bind (impl_addCurves.ev p (by omega) (by omega) o _ ho (addC_all (by omega) _ _ _) (by omega) (by rw [addC_length]; simp; omega)) ?_)
    rw [add_scaled (by omega)]
    exact hout part w hr (by omega) h0 h1
  | succ d ih =>
    intro j part w b hj hr hl h0 h1 b0 b1 hc
    have hlt : j < l.length := by omega
    have hltm : j < (l.map (·.f0)).length := by simpa using hlt
    have c1 := hmem l[j].f0 (List.mem_map.2 ⟨l[j], List.getElem_mem hlt, rfl⟩)
    refine Ev.succ ?_
    simp only [impl_through.l1, Option.bind_some]
    rw [drop_get hltm, skipFold_cons, skipFold_cons, rd_T68_get l j hlt, w64 (n := (j : Int) + 1) (by omega) (by omega)]
    simp only [List.getElem_map]
    refine Ev.pos (by omega) (Ev.pos (by omega) (Ev.pos (by omega) ?_))
    by_cases hji : j = i
    · rw [if_pos hji, if_pos hji]
      exact Ev.pos (by omega) (ih (j + 1) part w b (by omega) hr (by omega) h0 h1 b0 b1 hc)
    · rw [if_neg hji, if_neg hji]
      have hne : l[j].f0 ≠ l[i].f0 := by
        have := Dst.ne hris (by simpa using hi) hltm hji
        simpa using this
      have st := byS_step hp c2 c1 hne ⟨b0, b1⟩ hc
      have e2 := emod_bd (p := p) (by omega) (w * invM p ((l[i].f0 - l[j].f0) % p))
      have m1 := mul_bd (show 0 ≤ b by omega) (show b ≤ 31 by omega) (show 0 ≤ l[i].f0 - l[j].f0 + p by omega) (show _ ≤ 62 by omega)
      refine Ev.neg (by omega) (Ev.pos (by simp; omega) (Ev.pos (by omega) (Ev.pos (by simp; omega) (Ev.bind (impl_takeOff_cut.ev p l[j].f0 (by omega) (by omega) (by omega) part hr (by omega)) (Ev.neg (by omega) ?_)))))
      rw [w64 (n := l[i].f0 - l[j].f0) (by omega) (by omega), w64 (n := l[i].f0 - l[j].f0 + p) (by omega) (by omega), w64 (by omega) (by omega), tmod_of m1.1]
      rw [hgi] at ih ⊢
      exact ih (j + 1) _ _ _ (by omega) (mulLin_all (by omega) _ _) (by rw [mulLin_length]; omega) e2.1 e2.2 st.2.1 st.2.2 st.1
theorem impl_through.ev_l (p : Int) (hp : isPr p = true) (l : List S68) (hP : Dst p (l.map (·.f0))) (hV : allR p (l.map (·.f1)) = true) :
    ∀ (d i : Nat) (o : List Int), i + d = l.length → allR p o = true → o.length ≤ l.length + 1 → Ev (fun k => impl_through.l0 k p l o l (l.length : Int) (i : Int)) (stripM (thrFrom p (l.map (·.f0)) (l.map (·.f1)) d i o)) := by
  have hb := isPr_bd hp
  have hl10 : l.length ≤ 20 := by have := hP.1; simpa using this
  intro d
  induction d with
  | zero =>
    intro i o hi ho hlo
    refine Ev.succ ?_
    simp only [impl_through.l0]
    exact Ev.neg (by omega) (Ev.bind (impl_stripped.ev o (by omega)) (Ev.now _))
  | succ d ih =>
    intro i o hi ho hlo
    have hlt : i < l.length := by omega
    have r := allR_get hV i (by simpa using hlt)
    simp only [List.getElem_map] at r
    refine Ev.succ ?_
    simp only [impl_through.l0]
    rw [rd_T68_get l i hlt]
    refine Ev.pos (by omega) (Ev.pos (by omega) (Ev.pos (by omega) ?_))
    have hgv : (l.map (·.f1)).getD i 0 = l[i].f1 := by rw [getD_get _ _ _ (by simpa using hlt)]; simp
    have := impl_through.in_l p hp l hP hV o ho (by omega) i hlt (fun part b => stripM (thrFrom p (l.map (·.f0)) (l.map (·.f1)) d (i + 1) (addC p b o part)))
      (fun part b h1 h2 h3 h4 => ih (i + 1) _ (by omega) (addC_all (by omega) _ _ _) (by rw [addC_length]; omega)) l.length 0 [1] l[i].f1 1 (by omega) (by simp [allR, inR]; omega) (by simp) r.1 r.2 (by omega) (by omega) (Cg.of_eq (by omega))
    refine Ev.eq this ?_
    simp only [thrFrom, partAt, byAt]
    rw [hgv]
    rfl
theorem impl_through.ev (p : Int) (hp : isPr p = true) (l : List S68) (hP : Dst p (l.map (·.f0))) (hV : allR p (l.map (·.f1)) = true) : Ev (fun k => impl_through.f k p l) (throughM p (l.map (·.f0)) (l.map (·.f1))) := by
  unfold impl_through.f
  refine Ev.eq (impl_through.ev_l p hp l hP hV l.length 0 [] (by omega) rfl (by simp)) ?_
  unfold throughM
  rw [List.length_map]

-- impl_times
theorem impl_times.ev_l (p : Int) (h0 : 0 ≤ p) (h1 : p ≤ 31) (n : Nat) (hn : n ≤ 7) : ∀ (d i : Nat), i + d = n → Ev (fun k => impl_times.l0 k p 1099511627776 (p ^ i) (n : Int) (i : Int)) (p ^ n) := by
  intro d
  induction d with
  | zero =>
    intro i hi
    refine Ev.succ ?_
    simp only [impl_times.l0]
    have : i = n := by omega
    subst this
    exact Ev.neg (by omega) (Ev.now _)
  | succ d ih =>
    intro i hi
    have b := pow_bd7 (p := p) h0 h1 (i + 1) (by omega)
    refine Ev.succ ?_
    simp only [impl_times.l0]
    rw [Int.pow_succ] at b
    have e : mn (wrap64 (1099511627776 + 1)) (wrap64 (p ^ i * p)) = p ^ (i + 1) := by
      rw [w64 (n := (1099511627776 : Int) + 1) (by omega) (by omega), w64 (n := p ^ i * p) (by omega) (by omega), Int.pow_succ]
      unfold mn
      split <;> omega
    rw [e, w64 (n := (i : Int) + 1) (by omega) (by omega)]
    exact Ev.pos (by omega) (ih (i + 1) (by omega))
theorem impl_times.ev (p : Int) (h0 : 0 ≤ p) (h1 : p ≤ 31) (n : Nat) (hn : n ≤ 7) : Ev (fun k => impl_times.f k p (n : Int) 1099511627776) (p ^ n) := by
  unfold impl_times.f
  have := impl_times.ev_l p h0 h1 n hn n 0 (by omega)
  simpa using this

-- impl_CountSecrets
theorem impl_CountSecrets.ev_l (p : Int) (l : List S68) (g : Int) (hs : isSh p l = true) (hg : 0 ≤ g ∧ g ≤ 6) :
    ∀ (d i : Nat) (acc : List Int), i + d = p.toNat → acc.length = i → Ev (fun k => impl_CountSecrets.l0 k p l g acc p (i : Int)) (acc ++ ((List.range p.toNat).map (cntAt p l g)).drop i, 0) := by
  obtain ⟨h1, h2, h3, h4⟩ := isSh_of hs
  have hb := isPr_bd h1
  intro d
  induction d with
  | zero =>
    intro i acc hi ha
    refine Ev.succ ?_
    simp only [impl_CountSecrets.l0]
    rw [drop_end (by simp; omega), List.append_nil]
    exact Ev.neg (by omega) (Ev.now _)
  | succ d ih =>
    intro i acc hi ha
    have nx : ∀ v, v = cntAt p l g i → Ev (fun k => impl_CountSecrets.l0 k p l g (acc ++ [v]) p ((i + 1 : Nat) : Int)) (acc ++ ((List.range p.toNat).map (cntAt p l g)).drop i, 0) := by
      intro v hv
      refine Ev.eq (ih (i + 1) _ (by omega) (by simp [ha])) ?_
      rw [range_map_drop (cntAt p l g) p.toNat i (by omega), List.append_assoc, hv]
      rfl
    have hlen : (([⟨0, (i : Int)⟩] : List S68) ++ l).length = l.length + 1 := by simp
    refine Ev.succ ?_
    simp only [impl_CountSecrets.l0, Option.bind_some]
    rw [hlen, w64 (n := (i : Int) + 1) (by omega) (by omega), w64 (n := g + 1) (by omega) (by omega)]
    refine Ev.pos (by omega) (Ev.pos (by simp; omega) ?_)
    by_cases hlg : (l.length : Int) ≤ g
    · rw [w64 (n := g + 1 - ((l.length + 1 : Nat) : Int)) (by omega) (by omega), show g + 1 - ((l.length + 1 : Nat) : Int) = (((g - (l.length : Int)).toNat : Nat) : Int) by omega]
      refine Ev.pos (by omega) (Ev.bind (impl_times.ev p (by omega) (by omega) _ (by omega)) (Ev.pos (by omega) (nx _ ?_)))
      unfold cntAt
      rw [if_pos hlg]
    · refine Ev.neg (by omega) (Ev.bind (impl_through.ev p h1 (([⟨0, (i : Int)⟩] : List S68) ++ l) (dst0 h2 (by omega)) (allR_consI (a := (i : Int)) (by omega) (by omega) h3)) ?_)
      have e : (throughM p ((([⟨0, (i : Int)⟩] : List S68) ++ l).map (·.f0)) ((([⟨0, (i : Int)⟩] : List S68) ++ l).map (·.f1))) = throughM p ((0 : Int) :: l.map (·.f0)) ((i : Int) :: l.map (·.f1)) := rfl
      rw [e]
      by_cases ht : ((throughM p ((0 : Int) :: l.map (·.f0)) ((i : Int) :: l.map (·.f1))).length : Int) ≤ g + 1
      · refine Ev.pos ht (Ev.pos (by omega) (nx _ ?_))
        unfold cntAt
        rw [if_neg hlg, if_pos ht]
      · refine Ev.neg ht (Ev.pos (by omega) (nx _ ?_))
        unfold cntAt
        rw [if_neg hlg, if_neg ht]
theorem impl_CountSecrets.ev (p : Int) (l : List S68) (g : Int) (hl : l.length ≤ 8796093022208) : Ev (fun k => impl_CountSecrets.f k p l g) (countM p l g) := by
  unfold impl_CountSecrets.f countM
  refine Ev.bind (impl_ValidShares.ev p l hl) ?_
  by_cases hc : isSh p l = true
  · rw [if_pos hc]
    refine Ev.pos hc (Ev.bindc (impl_within.eq _ _ _) ?_)
    by_cases hx : 0 ≤ g ∧ g ≤ 6
    · rw [if_pos hx]
      refine Ev.pos (decide_eq_true hx) ?_
      have := impl_CountSecrets.ev_l p l g hc hx p.toNat 0 [] (by omega) rfl
      simpa using this
    · rw [if_neg hx]
      exact Ev.neg (by rw [decide_eq_false hx]; exact Bool.false_ne_true) (Ev.now _)
  · rw [if_neg hc]
    exact Ev.neg hc (Ev.now _)

end Go.Proofs.Ytonpikcbmgmchaa.PFnExactCountSecrets
