/- Lemmas on what the printed functions compute. -/
import Derived.Test.YtemdeeepamnbcaaM
import Derived.Test.YtemdeeepamnbcaaPFnExactMultiplySharesx0
import Derived.Test.YtemdeeepamnbcaaPFnExactMultiplySharesx1
import Derived.Test.YtemdeeepamnbcaaPFnExactMultiplySharesx2
import Derived.Test.YtemdeeepamnbcaaPFnExactMultiplySharesx3
import Derived.Test.YtemdeeepamnbcaaPFnExactMultiplySharesx4
import Derived.Test.YtemdeeepamnbcaaPFnExactMultiplySharesx5
import Derived.Test.YtemdeeepamnbcaaPFnExactMultiplySharesx6
import Derived.Test.YtemdeeepamnbcaaPFnExactMultiplySharesx7
set_option linter.unusedVariables false
set_option linter.unusedSimpArgs false
set_option maxRecDepth 100000
namespace Go.Proofs.Ytemdeeepamnbcaa.PFnExactMultiplyShares
open Go.RowKit Go.Proofs.YtemdeeepamnbcaaW.PrintWords Go.Proofs.YtemdeeepamnbcaaW.PrintLast Go.Proofs.Ytemdeeepamnbcaa.M
theorem rd_T64_get (l : List (S64)) (i : Nat) (h : i < l.length) : rd_T64 l (i : Int) = l[i] := by simp [rd_T64, h]
theorem rd_T62_get (l : List (S62)) (i : Nat) (h : i < l.length) : rd_T62 l (i : Int) = l[i] := by simp [rd_T62, h]

-- laws_szShareS
theorem laws_szShareS.ex (l : List S64) (a : Int) : ∃ v, laws_szShareS.f l a = some v := by
  unfold laws_szShareS.f
  split <;> exact ⟨_, rfl⟩

-- laws_toShareS
def toSh (x : S64) : S62 := ⟨x.f0, x.f1⟩
theorem laws_toShareS.ev_l (l : List S64) (hl : l.length ≤ 8796093022208) : ∀ (d i : Nat) (m : List S62), i + d = l.length → m.length = (l.map toSh).length → m.take i = (l.map toSh).take i → Ev (fun k => laws_toShareS.l0 k l m (i : Int)) (l.map toSh) := by
  intro d
  induction d with
  | zero =>
    intro i m hi hm ht
    refine Ev.succ ?_
    simp only [laws_toShareS.l0]
    rw [take_all (by simp; omega) hm ht]
    exact Ev.neg (by omega) (Ev.now _)
  | succ d ih =>
    intro i m hi hm ht
    have hm' : m.length = l.length := by simpa using hm
    have hlt : i < l.length := by omega
    refine Ev.succ ?_
    simp only [laws_toShareS.l0]
    refine Ev.pos (by omega) (Ev.pos (by omega) (Ev.bindc rfl (Ev.pos (by omega) ?_)))
    rw [rd_T64_get l i hlt, w64 (n := (i : Int) + 1) (by omega) (by omega)]
    refine ih (i + 1) _ (by omega) (by simpa using hm') ?_
    have e : (l.map toSh)[i]'(by simpa using hlt) = toSh l[i] := by simp
    have := take_set (m := m) (L := l.map toSh) (i := i) (by simpa using hlt) hm ht
    rw [e] at this
    exact this
theorem laws_toShareS.ev (l : List S64) (hl : l.length ≤ 8796093022208) : Ev (fun k => laws_toShareS.f k l) (l.map toSh) := by
  unfold laws_toShareS.f
  refine Ev.pos (by omega) (Ev.pos (by omega) ?_)
  exact laws_toShareS.ev_l l hl l.length 0 _ (by omega) (by simp) (by simp)

-- laws_eqShareS
theorem laws_eqShareS.ev_l (a : List S62) (hl : a.length ≤ 8796093022208) : ∀ (d i : Nat), i + d = a.length → Ev (fun k => laws_eqShareS.l0 k a a (i : Int)) true := by
  intro d
  induction d with
  | zero =>
    intro i hi
    refine Ev.succ ?_
    simp only [laws_eqShareS.l0]
    exact Ev.neg (by omega) (Ev.now _)
  | succ d ih =>
    intro i hi
    refine Ev.succ ?_
    simp only [laws_eqShareS.l0]
    refine Ev.pos (by omega) (Ev.pos (by omega) (Ev.pos (by omega) (Ev.bindc (a := true) ?_ (Ev.pos rfl ?_))))
    · simp [laws_eqShare.f]
    · rw [w64 (n := (i : Int) + 1) (by omega) (by omega)]
      exact ih (i + 1) (by omega)
theorem laws_eqShareS.ev (a : List S62) (hl : a.length ≤ 8796093022208) : Ev (fun k => laws_eqShareS.f k a a) true := by
  unfold laws_eqShareS.f
  exact Ev.pos rfl (laws_eqShareS.ev_l a hl a.length 0 (by omega))

-- laws_markShareS
def marksSh (v : Int) (n : Nat) : List S62 := (List.range n).map (fun i : Nat => ⟨v + 2 * (i : Int), v + 2 * (i : Int) + 1⟩)
theorem marksSh_length (v : Int) (n : Nat) : (marksSh v n).length = n := by simp [marksSh]
theorem marksSh_get (v : Int) (n i : Nat) (h : i < (marksSh v n).length) : (marksSh v n)[i] = ⟨v + 2 * (i : Int), v + 2 * (i : Int) + 1⟩ := by simp [marksSh]
theorem laws_markShareS.ev_l (n : Nat) (v : Int) (hn : n ≤ 35184372088832) (h0 : 0 ≤ v) (h1 : v ≤ 4611686018427387904) : ∀ (d i : Nat) (m : List S62), i + d = n → m.length = n → m.take i = (marksSh v n).take i → Ev (fun k => laws_markShareS.l0 k m (v + 2 * (i : Int)) (i : Int)) (v + 2 * (n : Int), marksSh v n) := by
  intro d
  induction d with
  | zero =>
    intro i m hi hm ht
    refine Ev.succ ?_
    simp only [laws_markShareS.l0]
    rw [take_all (L := marksSh v n) (by rw [marksSh_length]; omega) (by rw [marksSh_length]; exact hm) ht]
    have : i = n := by omega
    subst this
    exact Ev.neg (by rw [marksSh_length]; omega) (Ev.now _)
  | succ d ih =>
    intro i m hi hm ht
    have hlt : i < m.length := by omega
    refine Ev.succ ?_
    simp only [laws_markShareS.l0, Option.bind_some]
    have hg : ∀ z : S62, rd_T62 (m.set (i : Int).toNat z) (i : Int) = z := by
      intro z
      rw [rd_T62_get _ i (by simpa using hlt)]
      simp
    rw [hg, w64 (n := (i : Int) + 1) (by omega) (by omega), w64 (n := v + 2 * (i : Int) + 1) (by omega) (by omega), w64 (n := v + 2 * (i : Int) + 1 + 1) (by omega) (by omega), Int.toNat_natCast, List.set_set]
    refine Ev.pos (by omega) (Ev.pos (by omega) ?_)
    have hL : i < (marksSh v n).length := by rw [marksSh_length]; omega
    have := take_set (m := m) (L := marksSh v n) hL (by rw [marksSh_length]; exact hm) ht
    rw [marksSh_get] at this
    have e : v + 2 * (i : Int) + 1 + 1 = v + 2 * ((i + 1 : Nat) : Int) := by omega
    rw [e]
    exact ih (i + 1) _ (by omega) (by simpa using hm) this
theorem laws_markShareS.ev (l : List S62) (v : Int) (hn : l.length ≤ 35184372088832) (h0 : 0 ≤ v) (h1 : v ≤ 4611686018427387904) : Ev (fun k => laws_markShareS.f k l v) (v + 2 * (l.length : Int), marksSh v l.length) := by
  unfold laws_markShareS.f
  have := laws_markShareS.ev_l l.length v hn h0 h1 l.length 0 l (by omega) rfl (by simp)
  simpa using this

-- laws_heldShareS
theorem laws_heldShareS.ev_l (n : Nat) (v : Int) (hn : n ≤ 35184372088832) (h0 : 0 ≤ v) (h1 : v ≤ 4611686018427387904) : ∀ (d i : Nat), i + d = n → Ev (fun k => laws_heldShareS.l0 k (marksSh v n) (v + 2 * (i : Int)) (i : Int)) (v + 2 * (n : Int)) := by
  intro d
  induction d with
  | zero =>
    intro i hi
    refine Ev.succ ?_
    simp only [laws_heldShareS.l0]
    have : i = n := by omega
    subst this
    exact Ev.neg (by rw [marksSh_length]; omega) (Ev.now _)
  | succ d ih =>
    intro i hi
    refine Ev.succ ?_
    simp only [laws_heldShareS.l0]
    have hL : i < (marksSh v n).length := by rw [marksSh_length]; omega
    rw [rd_T62_get _ i hL, marksSh_get, w64 (n := (i : Int) + 1) (by omega) (by omega), w64 (n := v + 2 * (i : Int) + 1) (by omega) (by omega), w64 (n := v + 2 * (i : Int) + 1 + 1) (by omega) (by omega)]
    refine Ev.pos (by rw [marksSh_length]; omega) (Ev.pos (by omega) (Ev.pos rfl (Ev.pos rfl ?_)))
    have e : v + 2 * (i : Int) + 1 + 1 = v + 2 * ((i + 1 : Nat) : Int) := by omega
    rw [e]
    exact ih (i + 1) (by omega)
theorem laws_heldShareS.ev (n : Nat) (v : Int) (hn : n ≤ 35184372088832) (h0 : 0 ≤ v) (h1 : v ≤ 4611686018427387904) : Ev (fun k => laws_heldShareS.f k (marksSh v n) v) (v + 2 * (n : Int)) := by
  unfold laws_heldShareS.f
  have := laws_heldShareS.ev_l n v hn h0 h1 n 0 (by omega)
  simpa using this

-- spec_l00In
theorem spec_l00In.eq (a b c : Int) : spec_l00In.f a b c = some (decide (b ≤ a ∧ a ≤ c)) := by
  unfold spec_l00In.f
  by_cases h : a ≥ b
  · have : b ≤ a := h
    simp [h, this]
  · have : ¬ b ≤ a := h
    simp [this]

-- spec_l05Prime
theorem spec_l05Prime.small : ∀ n : Fin 32, 2 ≤ n.val → spec_l05Prime.f 40 (n.val : Int) = some (isPr (n.val : Int)) := by decide +kernel
theorem spec_l05Prime.ev (p : Int) : Ev (fun k => spec_l05Prime.f k p) (isPr p) := by
  by_cases h : 2 ≤ p ∧ p ≤ 31
  · obtain ⟨n, rfl⟩ : ∃ n : Nat, p = n := ⟨p.toNat, by omega⟩
    exact Ev.of (fun k => spec_l05Prime.mono _ k) (spec_l05Prime.small ⟨n, by omega⟩ (by simp only; omega))
  · have e : isPr p = false := by
      rcases (show p < 2 ∨ 2 ≤ p by omega) with h1 | h1
      · exact isPr_small h1
      · exact isPr_big (by omega)
    rw [e]
    refine Ev.congr (f := fun _ => some false) (fun k => ?_) (Ev.now _)
    unfold spec_l05Prime.f
    rw [spec_l00In.eq, decide_eq_false h]
    rfl

-- spec_l00Rises
theorem spec_l00Rises.ev_l (lo hi : Int) (l : List Int) (hl : l.length ≤ 35184372088832) : ∀ (d i : Nat), i + d = l.length → Ev (fun k => spec_l00Rises.l0 k l lo hi (i : Int)) (risesAt lo hi l i) := by
  intro d
  induction d with
  | zero =>
    intro i hi
    refine Ev.succ ?_
    simp only [spec_l00Rises.l0]
    rw [risesAt_end _ _ _ _ (by omega)]
    exact Ev.neg (by omega) (Ev.now _)
  | succ d ih =>
    intro i hd
    have hlt : i < l.length := by omega
    refine Ev.succ ?_
    simp only [spec_l00Rises.l0]
    have hn := ih (i + 1) (by omega)
    rw [rd_get l i hlt, spec_l00In.eq, w64 (n := (i : Int) + 1) (by omega) (by omega)]
    refine Ev.pos (by omega) (Ev.pos (by omega) (Ev.bindc rfl ?_))
    cases i with
    | zero =>
      rw [risesAt_zero _ _ _ hlt]
      cases hc : decide (lo ≤ l[0] ∧ l[0] ≤ hi) with
      | false => exact Ev.neg Bool.false_ne_true (Ev.now _)
      | true => exact Ev.pos rfl (Ev.neg (by omega) (by rw [Bool.true_and]; exact hn))
    | succ j =>
      rw [risesAt_succ _ _ _ _ hlt]
      cases hc : decide (lo ≤ l[j + 1] ∧ l[j + 1] ≤ hi) with
      | false => exact Ev.neg Bool.false_ne_true (Ev.now _)
      | true =>
        have e : ((j + 1 : Nat) : Int) - 1 = (j : Int) := by omega
        rw [w64 (n := ((j + 1 : Nat) : Int) - 1) (by omega) (by omega), e, rd_get l j (by omega), Bool.true_and]
        refine Ev.pos rfl (Ev.pos (by omega) (Ev.pos (by omega) (Ev.pos (by omega) ?_)))
        by_cases hx : l[j] < l[j + 1]
        · rw [decide_eq_true hx, Bool.true_and]
          exact Ev.neg (by omega) hn
        · rw [decide_eq_false hx, Bool.false_and]
          exact Ev.pos (by omega) (Ev.now _)

-- spec_l05Points
theorem isPts_at (p : Int) (l : List Int) : (decide (l.length ≤ 10) && risesAt 1 (p - 1) l 0) = isPts p l := by
  rw [risesAt_all, isPts, Bool.and_comm (l.all _)]
theorem spec_l05Points.ev (p : Int) (hp : -9223372036854775807 ≤ p) (hp' : p ≤ 9223372036854775807) (l : List Int) (hl : l.length ≤ 35184372088832) : Ev (fun k => spec_l05Points.f k p l) (isPts p l) := by
  unfold spec_l05Points.f spec_l00Rises.f
  rw [w64 (n := p - 1) (by omega) (by omega), ← isPts_at]
  by_cases h : l.length ≤ 10
  · rw [decide_eq_true h, Bool.true_and]
    exact Ev.pos (by omega) (Ev.bind (spec_l00Rises.ev_l 1 (p - 1) l hl l.length 0 (by omega)) (Ev.now _))
  · rw [decide_eq_false h, Bool.false_and]
    exact Ev.neg (by omega) (Ev.now _)

-- spec_l05Places
theorem spec_l05Places.ev_l (l : List S62) (hl : l.length ≤ 8796093022208) : ∀ (d i : Nat) (acc : List Int), i + d = l.length → acc.length = i → Ev (fun k => spec_l05Places.l0 k l acc (i : Int)) (acc ++ (l.drop i).map (·.f0)) := by
  intro d
  induction d with
  | zero =>
    intro i acc hi ha
    refine Ev.succ ?_
    simp only [spec_l05Places.l0]
    rw [drop_end (by omega), List.map_nil, List.append_nil]
    exact Ev.neg (by omega) (Ev.now _)
  | succ d ih =>
    intro i acc hi ha
    have hlt : i < l.length := by omega
    refine Ev.succ ?_
    simp only [spec_l05Places.l0]
    refine Ev.pos (by omega) (Ev.pos (by omega) (Ev.pos (by omega) ?_))
    rw [rd_T62_get l i hlt, w64 (n := (i : Int) + 1) (by omega) (by omega), drop_get hlt, List.map_cons]
    refine Ev.eq (ih (i + 1) _ (by omega) (by simp [ha])) ?_
    rw [List.append_assoc]; rfl
theorem spec_l05Places.ev (l : List S62) (hl : l.length ≤ 8796093022208) : Ev (fun k => spec_l05Places.f k l) (l.map (·.f0)) := by
  unfold spec_l05Places.f
  exact Ev.eq (spec_l05Places.ev_l l hl l.length 0 [] (by omega) rfl) (by simp)

-- spec_l05Residues
theorem spec_l05Residues.ev_l (p : Int) (hp : -9223372036854775807 ≤ p) (hp' : p ≤ 9223372036854775807) (l : List Int) (hl : l.length ≤ 9223372036854775806) : ∀ (d i : Nat), i + d = l.length → Ev (fun k => spec_l05Residues.l0 k p l (i : Int)) (allR p (l.drop i)) := by
  intro d
  induction d with
  | zero =>
    intro i hi
    refine Ev.succ ?_
    simp only [spec_l05Residues.l0]
    rw [List.drop_of_length_le (by omega)]
    exact Ev.neg (by omega) (Ev.now _)
  | succ d ih =>
    intro i hi
    refine Ev.succ ?_
    simp only [spec_l05Residues.l0, spec_l00In.eq, Option.bind_some]
    refine Ev.pos (by omega) (Ev.pos (by omega) ?_)
    have hlt : i < l.length := by omega
    rw [rd_get l i hlt, w64 (n := p - 1) (by omega) (by omega), w64 (n := (i : Int) + 1) (by omega) (by omega), List.drop_eq_getElem_cons hlt]
    simp only [allR, List.all_cons]
    have hin : inR p l[i] = decide (0 ≤ l[i] ∧ l[i] ≤ p - 1) := rfl
    rw [hin]
    by_cases hx : 0 ≤ l[i] ∧ l[i] ≤ p - 1
    · rw [decide_eq_true hx]
      refine Ev.pos rfl ?_
      rw [Bool.true_and]
      exact ih (i + 1) (by omega)
    · rw [decide_eq_false hx]
      exact Ev.neg (by decide) (Ev.now _)
theorem spec_l05Residues.ev (p : Int) (hp : -9223372036854775807 ≤ p) (hp' : p ≤ 9223372036854775807) (l : List Int) (hl : l.length ≤ 9223372036854775806) : Ev (fun k => spec_l05Residues.f k p l) (allR p l) := by
  have := spec_l05Residues.ev_l p hp hp' l hl l.length 0 (by omega)
  simpa [spec_l05Residues.f] using this

-- spec_l05Values
theorem spec_l05Values.ev_l (l : List S62) (hl : l.length ≤ 8796093022208) : ∀ (d i : Nat) (acc : List Int), i + d = l.length → acc.length = i → Ev (fun k => spec_l05Values.l0 k l acc (i : Int)) (acc ++ (l.drop i).map (·.f1)) := by
  intro d
  induction d with
  | zero =>
    intro i acc hi ha
    refine Ev.succ ?_
    simp only [spec_l05Values.l0]
    rw [drop_end (by omega), List.map_nil, List.append_nil]
    exact Ev.neg (by omega) (Ev.now _)
  | succ d ih =>
    intro i acc hi ha
    have hlt : i < l.length := by omega
    refine Ev.succ ?_
    simp only [spec_l05Values.l0]
    refine Ev.pos (by omega) (Ev.pos (by omega) (Ev.pos (by omega) ?_))
    rw [rd_T62_get l i hlt, w64 (n := (i : Int) + 1) (by omega) (by omega), drop_get hlt, List.map_cons]
    refine Ev.eq (ih (i + 1) _ (by omega) (by simp [ha])) ?_
    rw [List.append_assoc]; rfl
theorem spec_l05Values.ev (l : List S62) (hl : l.length ≤ 8796093022208) : Ev (fun k => spec_l05Values.f k l) (l.map (·.f1)) := by
  unfold spec_l05Values.f
  exact Ev.eq (spec_l05Values.ev_l l hl l.length 0 [] (by omega) rfl) (by simp)

-- spec_ValidShares
def isSh (p : Int) (l : List S62) : Bool := isPr p && (isPts p (l.map (·.f0)) && allR p (l.map (·.f1)))
theorem isSh_of {p : Int} {l : List S62} (h : isSh p l = true) : isPr p = true ∧ isPts p (l.map (·.f0)) = true ∧ allR p (l.map (·.f1)) = true ∧ l.length ≤ 10 := by
  simp only [isSh, Bool.and_eq_true] at h
  refine ⟨h.1, h.2.1, h.2.2, ?_⟩
  have := h.2.1
  simp only [isPts, Bool.and_eq_true, decide_eq_true_eq, List.length_map] at this
  exact this.1
theorem spec_ValidShares.ev (p : Int) (l : List S62) (hl : l.length ≤ 8796093022208) : Ev (fun k => spec_ValidShares.f k p l) (isSh p l) := by
  unfold spec_ValidShares.f isSh
  refine Ev.bind (spec_l05Prime.ev p) ?_
  cases h : isPr p with
  | false => exact Ev.neg Bool.false_ne_true (Ev.now _)
  | true =>
    have := isPr_bd h
    refine Ev.pos rfl (Ev.bind (spec_l05Places.ev l hl) (Ev.bind (spec_l05Points.ev p (by omega) (by omega) _ (by simp; omega)) ?_))
    cases h2 : isPts p (l.map (·.f0)) with
    | false => exact Ev.neg Bool.false_ne_true (Ev.now _)
    | true => exact Ev.pos rfl (Ev.bind (spec_l05Values.ev l hl) (Ev.bind (spec_l05Residues.ev p (by omega) (by omega) _ (by simp; omega)) (Ev.now _)))

-- spec_l00Same
theorem spec_l00Same.ev_l (a b : List Int) (hl : a.length ≤ 35184372088832) (he : a.length = b.length) : ∀ (d i : Nat), i + d = a.length → Ev (fun k => spec_l00Same.l0 k a b (i : Int)) (decide (a.drop i = b.drop i)) := by
  intro d
  induction d with
  | zero =>
    intro i hi
    refine Ev.succ ?_
    simp only [spec_l00Same.l0]
    rw [List.drop_of_length_le (by omega), List.drop_of_length_le (by omega)]
    exact Ev.neg (by omega) (Ev.now _)
  | succ d ih =>
    intro i hi
    refine Ev.succ ?_
    simp only [spec_l00Same.l0]
    have ha : i < a.length := by omega
    have hb : i < b.length := by omega
    refine Ev.pos (by omega) (Ev.pos (by omega) (Ev.pos (by omega) ?_))
    rw [rd_get a i ha, rd_get b i hb, w64 (n := (i : Int) + 1) (by omega) (by omega), List.drop_eq_getElem_cons ha, List.drop_eq_getElem_cons hb]
    by_cases hx : a[i] = b[i]
    · refine Ev.pos hx (Ev.eq (ih (i + 1) (by omega)) ?_)
      simp only [hx, List.cons.injEq, true_and]
    · refine Ev.neg hx (Ev.eq (Ev.now _) ?_)
      exact (decide_eq_false (fun e => hx (List.cons.inj e).1)).symm
theorem spec_l00Same.ev (a b : List Int) (hl : a.length ≤ 35184372088832) : Ev (fun k => spec_l00Same.f k a b) (decide (a = b)) := by
  unfold spec_l00Same.f
  by_cases he : a.length = b.length
  · refine Ev.pos (by omega) ?_
    have := spec_l00Same.ev_l a b hl he a.length 0 (by omega)
    simpa using this
  · refine Ev.neg (by omega) ?_
    rw [decide_eq_false (fun e => he (by rw [e]))]
    exact Ev.now _

-- spec_MultiplyShares
def mulSh (p : Int) (x y : S62) : S62 := ⟨x.f0, x.f1 * y.f1 % p⟩
def mulM (p : Int) (a b : List S62) : List S62 × Int := if isSh p a = true ∧ isSh p b = true then (if a.map (·.f0) = b.map (·.f0) then (List.zipWith (mulSh p) a b, 0) else ([], 4)) else ([], 1)
theorem mulM_len (p : Int) (a b : List S62) : (mulM p a b).1.length ≤ 10 := by
  unfold mulM
  split
  · split
    · rename_i h _
      have := (isSh_of h.1).2.2.2
      simp only [List.length_zipWith]
      omega
    · simp
  · simp
theorem zip_drop {α β γ : Type} (f : α → β → γ) {a : List α} {b : List β} {i : Nat} (ha : i < a.length) (hb : i < b.length) : (List.zipWith f a b).drop i = f a[i] b[i] :: (List.zipWith f a b).drop (i + 1) := by
  rw [List.drop_eq_getElem_cons (by simp; omega)]; simp
theorem spec_MultiplyShares.ev_l (p : Int) (hp : 0 < p) (hp' : p ≤ 31) (a b : List S62) (hl : a.length ≤ 10) (he : a.length = b.length) (ra : allR p (a.map (·.f1)) = true) (rb : allR p (b.map (·.f1)) = true) : ∀ (d i : Nat) (acc : List S62), i + d = a.length → acc.length = i → Ev (fun k => spec_MultiplyShares.l0 k p a b acc (i : Int)) (acc ++ (List.zipWith (mulSh p) a b).drop i, 0) := by
  intro d
  induction d with
  | zero =>
    intro i acc hi hacc
    refine Ev.succ ?_
    simp only [spec_MultiplyShares.l0]
    rw [drop_end (by simp; omega), List.append_nil]
    exact Ev.neg (by omega) (Ev.now _)
  | succ d ih =>
    intro i acc hi hacc
    have ha : i < a.length := by omega
    have hb : i < b.length := by omega
    have b1 := allR_get ra i (by simpa using ha)
    have b2 := allR_get rb i (by simpa using hb)
    simp only [List.getElem_map] at b1 b2
    have m := mul_bd b1.1 (show _ ≤ 31 by omega) b2.1 (show _ ≤ 31 by omega)
    refine Ev.succ ?_
    simp only [spec_MultiplyShares.l0]
    rw [rd_T62_get a i ha, rd_T62_get b i hb, w64 (n := (i : Int) + 1) (by omega) (by omega), w64 (n := a[i].f1 * b[i].f1) (by omega) (by omega), tmod_of m.1, zip_drop _ ha hb]
    refine Ev.pos (by omega) (Ev.pos (by omega) (Ev.pos (by omega) (Ev.neg (by omega) (Ev.pos (by omega) ?_))))
    refine Ev.eq (ih (i + 1) _ (by omega) (by simp [hacc])) ?_
    rw [List.append_assoc]; rfl
theorem spec_MultiplyShares.ev (p : Int) (a b : List S62) (hla : a.length ≤ 8796093022208) (hlb : b.length ≤ 8796093022208) : Ev (fun k => spec_MultiplyShares.f k p a b) (mulM p a b) := by
  unfold spec_MultiplyShares.f mulM
  refine Ev.bind (spec_ValidShares.ev p a hla) ?_
  cases h1 : isSh p a with
  | false =>
    rw [if_neg (by simp)]
    refine Ev.neg Bool.false_ne_true (Ev.succ ?_)
    simp only [spec_MultiplyShares.j0]
    exact Ev.pos (by simp) (Ev.now _)
  | true =>
    refine Ev.pos rfl (Ev.bind (spec_ValidShares.ev p b hlb) (Ev.succ ?_))
    simp only [spec_MultiplyShares.j0]
    cases h2 : isSh p b with
    | false =>
      rw [if_neg (by simp)]
      exact Ev.pos (by simp) (Ev.now _)
    | true =>
      obtain ⟨g1, g2, g3, g4⟩ := isSh_of h1
      obtain ⟨_, _, k3, k4⟩ := isSh_of h2
      have hb := isPr_bd g1
      rw [if_pos (by simp)]
      refine Ev.neg (by simp) (Ev.bind (spec_l05Places.ev a hla) (Ev.bind (spec_l05Places.ev b hlb) (Ev.bind (spec_l00Same.ev _ _ (by simp; omega)) ?_)))
      by_cases he : a.map (·.f0) = b.map (·.f0)
      · rw [if_pos he]
        have hlen : a.length = b.length := by simpa using congrArg List.length he
        refine Ev.pos (decide_eq_true he) (Ev.eq (spec_MultiplyShares.ev_l p (by omega) (by omega) a b g4 hlen g3 k3 a.length 0 [] (by omega) rfl) ?_)
        simp
      · rw [if_neg he]
        exact Ev.neg (by rw [decide_eq_false he]; exact Bool.false_ne_true) (Ev.now _)

-- impl_within
theorem impl_within.eq (a b c : Int) : impl_within.f a b c = some (decide (b ≤ a ∧ a ≤ c)) := by
  unfold impl_within.f
  by_cases h : a ≥ b
  · have : b ≤ a := h
    simp [h, this]
  · have : ¬ b ≤ a := h
    simp [this]

-- impl_IsPrime
theorem impl_IsPrime.small : ∀ n : Fin 32, 2 ≤ n.val → impl_IsPrime.f 40 (n.val : Int) = some (isPr (n.val : Int)) := by decide +kernel
theorem impl_IsPrime.ev (p : Int) : Ev (fun k => impl_IsPrime.f k p) (isPr p) := by
  by_cases h : 2 ≤ p ∧ p ≤ 31
  · obtain ⟨n, rfl⟩ : ∃ n : Nat, p = n := ⟨p.toNat, by omega⟩
    exact Ev.of (fun k => impl_IsPrime.mono _ k) (impl_IsPrime.small ⟨n, by omega⟩ (by simp only; omega))
  · have hw : impl_within.f p 2 31 = some false := by rw [impl_within.eq, decide_eq_false h]
    rcases (show p < 2 ∨ 2 ≤ p by omega) with h1 | h1
    · rw [isPr_small h1]
      refine Ev.congr (fun k => by unfold impl_IsPrime.f; rfl) (Ev.succ ?_)
      simp only [impl_IsPrime.l0]
      refine Ev.neg (by rw [w64 (by omega) (by omega)]; omega) (Ev.succ ?_)
      simp only [impl_IsPrime.j1, hw]
      exact ⟨0, fun k _ => rfl⟩
    · rw [isPr_big (by omega)]
      refine Ev.congr (fun k => by unfold impl_IsPrime.f; rfl) (Ev.succ ?_)
      simp only [impl_IsPrime.l0]
      have hd : decide (p ≤ 31) = false := decide_eq_false (by omega)
      rw [hd]
      refine Ev.pos (by rw [w64 (by omega) (by omega)]; omega) (Ev.succ ?_)
      simp only [impl_IsPrime.j1, hw]
      exact ⟨0, fun k _ => rfl⟩

-- impl_areElements_1
theorem impl_areElements_1.eq (x p : Int) (hp : -9223372036854775807 ≤ p) (hp' : p ≤ 9223372036854775807) : impl_areElements_1.f x [p] = some (!inR p x) := by
  unfold impl_areElements_1.f
  have e : rd [p] 0 = p := rfl
  rw [e, w64 (n := p - 1) (by omega) (by omega), impl_within.eq]
  rfl

-- slices_IndexFunc_int64_int64_at_impl_areElements_1
theorem slices_IndexFunc_int64_int64_at_impl_areElements_1.ev_l (p : Int) (hp : -9223372036854775807 ≤ p) (hp' : p ≤ 9223372036854775807) (l : List Int) (hl : l.length ≤ 9223372036854775806) : ∀ (d i : Nat), i + d = l.length → Ev (fun k => slices_IndexFunc_int64_int64_at_impl_areElements_1.l0 k l (l.length : Int) (i : Int) [p]) (idxFrom (fun x => !inR p x) (l.drop i) (i : Int)) := by
  intro d
  induction d with
  | zero =>
    intro i hi
    refine Ev.succ ?_
    simp only [slices_IndexFunc_int64_int64_at_impl_areElements_1.l0]
    rw [List.drop_of_length_le (by omega)]
    exact Ev.neg (by omega) (Ev.now _)
  | succ d ih =>
    intro i hi
    refine Ev.succ ?_
    simp only [slices_IndexFunc_int64_int64_at_impl_areElements_1.l0]
    refine Ev.pos (by omega) (Ev.pos (by omega) (Ev.pos (by omega) ?_))
    have hlt : i < l.length := by omega
    rw [rd_get l i hlt, impl_areElements_1.eq _ p hp hp', w64 (n := (i : Int) + 1) (by omega) (by omega), List.drop_eq_getElem_cons hlt]
    simp only [Option.bind_some, idxFrom]
    by_cases hx : (!inR p l[i]) = true
    · refine Ev.pos hx ?_
      rw [if_pos hx]
      exact Ev.now _
    · refine Ev.neg hx ?_
      rw [if_neg hx]
      exact ih (i + 1) (by omega)

-- slices_ContainsFunc_int64_int64_at_impl_areElements_1
theorem slices_ContainsFunc_int64_int64_at_impl_areElements_1.ev (p : Int) (hp : -9223372036854775807 ≤ p) (hp' : p ≤ 9223372036854775807) (l : List Int) (hl : l.length ≤ 9223372036854775806) : Ev (fun k => slices_ContainsFunc_int64_int64_at_impl_areElements_1.f k l [p]) (!allR p l) := by
  unfold slices_ContainsFunc_int64_int64_at_impl_areElements_1.f slices_IndexFunc_int64_int64_at_impl_areElements_1.f
  refine Ev.bind (slices_IndexFunc_int64_int64_at_impl_areElements_1.ev_l p hp hp' l hl l.length 0 (by omega)) ?_
  refine Ev.eq (Ev.now _) ?_
  rw [idxFrom_any _ _ _ (by omega), List.drop_zero, not_allR]

-- impl_areElements
theorem impl_areElements.ev (p : Int) (l : List Int) (hl : l.length ≤ 9223372036854775806) : Ev (fun k => impl_areElements.f k p l) (isPr p && allR p l) := by
  unfold impl_areElements.f
  refine Ev.bind (impl_IsPrime.ev p) ?_
  cases h : isPr p with
  | false => exact Ev.neg Bool.false_ne_true (Ev.now _)
  | true =>
    have := isPr_bd h
    refine Ev.pos rfl ?_
    refine Ev.bind (slices_ContainsFunc_int64_int64_at_impl_areElements_1.ev p (by omega) (by omega) l hl) ?_
    refine Ev.eq (Ev.now _) ?_
    rw [Bool.not_not, Bool.true_and]

-- impl_pointsOf
theorem impl_pointsOf.ev_l (l : List S62) (hl : l.length ≤ 8796093022208) : ∀ (d i : Nat) (a b : List Int), i + d = l.length → a.length = i → b.length = i → Ev (fun k => impl_pointsOf.l0 k a b l (l.length : Int) (i : Int)) (a ++ (l.drop i).map (·.f0), b ++ (l.drop i).map (·.f1)) := by
  intro d
  induction d with
  | zero =>
    intro i a b hi ha hb
    refine Ev.succ ?_
    simp only [impl_pointsOf.l0]
    rw [drop_end (by omega), List.map_nil, List.map_nil, List.append_nil, List.append_nil]
    exact Ev.neg (by omega) (Ev.now _)
  | succ d ih =>
    intro i a b hi ha hb
    have hlt : i < l.length := by omega
    refine Ev.succ ?_
    simp only [impl_pointsOf.l0, Option.bind_some, List.length_singleton]
    refine Ev.pos (by omega) (Ev.pos (by omega) (Ev.pos (by omega) (Ev.pos (by omega) (Ev.pos (by omega) ?_))))
    rw [rd_T62_get l i hlt, w64 (n := (i : Int) + 1) (by omega) (by omega), drop_get hlt, List.map_cons, List.map_cons]
    refine Ev.eq (ih (i + 1) _ _ (by omega) (by simp [ha]) (by simp [hb])) ?_
    rw [List.append_assoc, List.append_assoc]; rfl
theorem impl_pointsOf.ev (l : List S62) (hl : l.length ≤ 8796093022208) : Ev (fun k => impl_pointsOf.f k l) (l.map (·.f0), l.map (·.f1)) := by
  unfold impl_pointsOf.f
  exact Ev.eq (impl_pointsOf.ev_l l hl l.length 0 [] [] (by omega) rfl rfl) (by simp)

-- impl_arePoints
theorem impl_arePoints.ev_l (p : Int) (hp : -9223372036854775807 ≤ p) (hp' : p ≤ 9223372036854775807) (l : List Int) (hl : l.length ≤ 35184372088832) : ∀ (d i : Nat), i + d = l.length → Ev (fun k => impl_arePoints.l0 k p l l (l.length : Int) (i : Int)) (risesAt 1 (p - 1) l i && decide (l.length ≤ 10)) := by
  intro d
  induction d with
  | zero =>
    intro i hi
    refine Ev.succ ?_
    simp only [impl_arePoints.l0]
    rw [risesAt_end _ _ _ _ (by omega), Bool.true_and]
    refine Ev.neg (by omega) (Ev.eq (Ev.now _) ?_)
    exact decide_eq_decide.2 (by omega)
  | succ d ih =>
    intro i hd
    have hlt : i < l.length := by omega
    refine Ev.succ ?_
    simp only [impl_arePoints.l0]
    have hn := ih (i + 1) (by omega)
    rw [rd_get l i hlt, impl_within.eq, w64 (n := (i : Int) + 1) (by omega) (by omega), w64 (n := p - 1) (by omega) (by omega)]
    refine Ev.pos (by omega) (Ev.pos (by omega) (Ev.pos (by omega) (Ev.bindc rfl ?_)))
    cases i with
    | zero =>
      rw [risesAt_zero _ _ _ hlt]
      cases hc : decide (1 ≤ l[0] ∧ l[0] ≤ p - 1) with
      | false => exact Ev.neg Bool.false_ne_true (Ev.now _)
      | true => exact Ev.pos rfl (Ev.neg (by omega) (by rw [Bool.true_and]; exact hn))
    | succ j =>
      rw [risesAt_succ _ _ _ _ hlt]
      cases hc : decide (1 ≤ l[j + 1] ∧ l[j + 1] ≤ p - 1) with
      | false => exact Ev.neg Bool.false_ne_true (Ev.now _)
      | true =>
        have e : ((j + 1 : Nat) : Int) - 1 = (j : Int) := by omega
        rw [w64 (n := ((j + 1 : Nat) : Int) - 1) (by omega) (by omega), e, rd_get l j (by omega), Bool.true_and]
        refine Ev.pos rfl (Ev.pos (by omega) (Ev.pos (by omega) (Ev.pos (by omega) ?_)))
        by_cases hx : l[j] < l[j + 1]
        · rw [decide_eq_true hx, Bool.true_and]
          exact Ev.neg (by omega) hn
        · rw [decide_eq_false hx, Bool.false_and]
          exact Ev.pos (by omega) (Ev.now _)
theorem impl_arePoints.ev (p : Int) (hp : -9223372036854775807 ≤ p) (hp' : p ≤ 9223372036854775807) (l : List Int) (hl : l.length ≤ 35184372088832) : Ev (fun k => impl_arePoints.f k p l) (isPts p l) := by
  unfold impl_arePoints.f
  refine Ev.eq (impl_arePoints.ev_l p hp hp' l hl l.length 0 (by omega)) ?_
  rw [risesAt_all, isPts, Bool.and_comm, Bool.and_comm (l.all _)]

-- impl_ValidShares
theorem impl_ValidShares.ev (p : Int) (l : List S62) (hl : l.length ≤ 8796093022208) : Ev (fun k => impl_ValidShares.f k p l) (isSh p l) := by
  unfold impl_ValidShares.f isSh
  refine Ev.bind (impl_pointsOf.ev l hl) (Ev.bind (impl_areElements.ev p _ (by simp; omega)) ?_)
  cases h : isPr p with
  | false => exact Ev.neg Bool.false_ne_true (Ev.now _)
  | true =>
    have := isPr_bd h
    rw [Bool.true_and, Bool.true_and]
    cases h2 : allR p (l.map (·.f1)) with
    | false => rw [Bool.and_false]; exact Ev.neg Bool.false_ne_true (Ev.now _)
    | true => rw [Bool.and_true]; exact Ev.pos rfl (Ev.bind (impl_arePoints.ev p (by omega) (by omega) _ (by simp; omega)) (Ev.now _))

-- impl_Share_at_impl_MultiplyShares_1
theorem impl_Share_at_impl_MultiplyShares_1.ev_l (a b : List S62) (hl : a.length ≤ 8796093022208) (he : a.length = b.length) : ∀ (d i : Nat), i + d = a.length → Ev (fun k => impl_Share_at_impl_MultiplyShares_1.l0 k b a (a.length : Int) (i : Int)) (decide ((a.drop i).map (·.f0) = (b.drop i).map (·.f0))) := by
  intro d
  induction d with
  | zero =>
    intro i hi
    refine Ev.succ ?_
    simp only [impl_Share_at_impl_MultiplyShares_1.l0]
    rw [List.drop_of_length_le (by omega), List.drop_of_length_le (by omega)]
    exact Ev.neg (by omega) (Ev.now _)
  | succ d ih =>
    intro i hi
    refine Ev.succ ?_
    simp only [impl_Share_at_impl_MultiplyShares_1.l0]
    have ha : i < a.length := by omega
    have hb : i < b.length := by omega
    rw [rd_T62_get a i ha, rd_T62_get b i hb, w64 (n := (i : Int) + 1) (by omega) (by omega), drop_get ha, drop_get hb, List.map_cons, List.map_cons]
    refine Ev.pos (by omega) (Ev.pos (by omega) (Ev.pos (by omega) (Ev.pos (by omega) (Ev.bindc rfl ?_))))
    by_cases hx : a[i].f0 = b[i].f0
    · refine Ev.pos (beq_iff_eq.2 hx) (Ev.eq (ih (i + 1) (by omega)) ?_)
      simp only [hx, List.cons.injEq, true_and]
    · refine Ev.neg (fun e => hx (beq_iff_eq.1 e)) (Ev.eq (Ev.now _) ?_)
      exact (decide_eq_false (fun e => hx (List.cons.inj e).1)).symm
theorem impl_Share_at_impl_MultiplyShares_1.ev (a b : List S62) (hl : a.length ≤ 8796093022208) : Ev (fun k => impl_Share_at_impl_MultiplyShares_1.f k a b) (decide (a.map (·.f0) = b.map (·.f0))) := by
  unfold impl_Share_at_impl_MultiplyShares_1.f
  by_cases he : a.length = b.length
  · refine Ev.pos (by omega) ?_
    have := impl_Share_at_impl_MultiplyShares_1.ev_l a b hl he a.length 0 (by omega)
    simpa using this
  · refine Ev.neg (by omega) ?_
    rw [decide_eq_false (fun e => he (by simpa using congrArg List.length e))]
    exact Ev.now _

-- impl_MultiplyShares
theorem impl_MultiplyShares.ev_l (p : Int) (hp : 0 < p) (hp' : p ≤ 31) (a b : List S62) (hl : a.length ≤ 10) (he : a.length = b.length) (ra : allR p (a.map (·.f1)) = true) (rb : allR p (b.map (·.f1)) = true) : ∀ (d i : Nat) (m : List S62), i + d = a.length → m.length = a.length → m.take i = (List.zipWith (mulSh p) a b).take i → m.drop i = a.drop i → Ev (fun k => impl_MultiplyShares.l0 k p a b m (a.length : Int) (i : Int)) (List.zipWith (mulSh p) a b, 0) := by
  intro d
  induction d with
  | zero =>
    intro i m hi hm ht hd
    refine Ev.succ ?_
    simp only [impl_MultiplyShares.l0]
    rw [take_all (L := List.zipWith (mulSh p) a b) (by simp; omega) (by simp; omega) ht]
    exact Ev.neg (by omega) (Ev.now _)
  | succ d ih =>
    intro i m hi hm ht hd
    have ha : i < a.length := by omega
    have hb : i < b.length := by omega
    have hmi : i < m.length := by omega
    have b1 := allR_get ra i (by simpa using ha)
    have b2 := allR_get rb i (by simpa using hb)
    simp only [List.getElem_map] at b1 b2
    have mm := mul_bd b1.1 (show _ ≤ 31 by omega) b2.1 (show _ ≤ 31 by omega)
    refine Ev.succ ?_
    simp only [impl_MultiplyShares.l0]
    rw [drop_get hmi, drop_get ha] at hd
    have hd1 := (List.cons.inj hd).1
    have hd2 := (List.cons.inj hd).2
    rw [rd_T62_get a i ha, rd_T62_get b i hb, rd_T62_get m i hmi, hd1, w64 (n := (i : Int) + 1) (by omega) (by omega), w64 (n := a[i].f1 * b[i].f1) (by omega) (by omega), tmod_of mm.1]
    refine Ev.pos (by omega) (Ev.pos (by omega) (Ev.pos (by omega) (Ev.pos (by omega) (Ev.neg (by omega) (Ev.pos (by omega) ?_)))))
    have hZ : i < (List.zipWith (mulSh p) a b).length := by simp; omega
    have := take_set (m := m) (L := List.zipWith (mulSh p) a b) hZ (by simp; omega) ht
    have e : (List.zipWith (mulSh p) a b)[i] = mulSh p a[i] b[i] := by simp
    rw [e] at this
    refine ih (i + 1) _ (by omega) (by simpa using hm) this ?_
    rw [Int.toNat_natCast, List.drop_set_of_lt (by omega)]
    exact hd2
theorem impl_MultiplyShares.ev (p : Int) (a b : List S62) (hla : a.length ≤ 8796093022208) (hlb : b.length ≤ 8796093022208) : Ev (fun k => impl_MultiplyShares.f k p a b) (mulM p a b) := by
  unfold impl_MultiplyShares.f mulM
  refine Ev.bind (impl_ValidShares.ev p a hla) ?_
  cases h1 : isSh p a with
  | false =>
    rw [if_neg (by simp)]
    refine Ev.neg Bool.false_ne_true (Ev.succ ?_)
    simp only [impl_MultiplyShares.j0]
    exact Ev.pos (by simp) (Ev.now _)
  | true =>
    refine Ev.pos rfl (Ev.bind (impl_ValidShares.ev p b hlb) (Ev.succ ?_))
    simp only [impl_MultiplyShares.j0]
    cases h2 : isSh p b with
    | false =>
      rw [if_neg (by simp)]
      exact Ev.pos (by simp) (Ev.now _)
    | true =>
      obtain ⟨g1, g2, g3, g4⟩ := isSh_of h1
      obtain ⟨_, _, k3, k4⟩ := isSh_of h2
      have hb := isPr_bd g1
      rw [if_pos (by simp)]
      refine Ev.neg (by simp) (Ev.bind (impl_Share_at_impl_MultiplyShares_1.ev a b hla) ?_)
      by_cases he : a.map (·.f0) = b.map (·.f0)
      · rw [if_pos he]
        have hlen : a.length = b.length := by simpa using congrArg List.length he
        refine Ev.pos (decide_eq_true he) (Ev.bindc (a := a) ?_ ?_)
        · unfold impl_Share_78.f
          rw [if_pos (by omega)]
        · exact impl_MultiplyShares.ev_l p (by omega) (by omega) a b g4 hlen g3 k3 a.length 0 a (by omega) rfl (by simp) (by simp)
      · rw [if_neg he]
        exact Ev.neg (by rw [decide_eq_false he]; exact Bool.false_ne_true) (Ev.now _)

end Go.Proofs.Ytemdeeepamnbcaa.PFnExactMultiplyShares
