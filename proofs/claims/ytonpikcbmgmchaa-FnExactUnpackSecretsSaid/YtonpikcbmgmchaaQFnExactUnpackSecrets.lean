/- Lemmas on what the printed functions compute. -/
import Derived.Test.YtonpikcbmgmchaaM
import Derived.Test.YtonpikcbmgmchaaPFnExactUnpackSecretsx0
import Derived.Test.YtonpikcbmgmchaaPFnExactUnpackSecretsx1
import Derived.Test.YtonpikcbmgmchaaPFnExactUnpackSecretsx2
import Derived.Test.YtonpikcbmgmchaaPFnExactUnpackSecretsx3
import Derived.Test.YtonpikcbmgmchaaPFnExactUnpackSecretsx4
import Derived.Test.YtonpikcbmgmchaaPFnExactUnpackSecretsx5
import Derived.Test.YtonpikcbmgmchaaPFnExactUnpackSecretsx6
import Derived.Test.YtonpikcbmgmchaaPFnExactUnpackSecretsx7
set_option linter.unusedVariables false
set_option linter.unusedSimpArgs false
set_option maxRecDepth 100000
namespace Go.Proofs.Ytonpikcbmgmchaa.PFnExactUnpackSecrets
open Go.RowKit Go.Proofs.YtonpikcbmgmchaaW.PrintWords Go.Proofs.YtonpikcbmgmchaaW.PrintLast Go.Proofs.Ytonpikcbmgmchaa.M
theorem rd_T73_get (l : List (S73)) (i : Nat) (h : i < l.length) : rd_T73 l (i : Int) = l[i] := by simp [rd_T73, h]
theorem rd_T68_get (l : List (S68)) (i : Nat) (h : i < l.length) : rd_T68 l (i : Int) = l[i] := by simp [rd_T68, h]

-- laws_szShareS
theorem laws_szShareS.ex (l : List S73) (a : Int) : ∃ v, laws_szShareS.f l a = some v := by
  unfold laws_szShareS.f
  split <;> exact ⟨_, rfl⟩

-- spec_l05Places
theorem spec_l05Places.ev_l (l : List S68) (hl : l.length ≤ 8796093022208) : ∀ (d i : Nat) (acc : List Int), i + d = l.length → acc.length = i → Ev (fun k => spec_l05Places.l0 k l acc (i : Int)) (acc ++ (l.drop i).map (·.f0)) := by
  intro d
  induction d with
  | zero =>
    intro i acc hi ha
    refine Ev.succ ?_
    simp only [spec_l05Places.l0]
    rw [drop_end (by omega), List.map_nil, List.append_nil]
    exact Ev.neg (by omega) (Ev.now _)
  | succ d ih =>
    intro i acc hi ha
    have hlt : i < l.length := by omega
    refine Ev.succ ?_
    simp only [spec_l05Places.l0]
    refine Ev.pos (by omega) (Ev.pos (by omega) (Ev.pos (by omega) ?_))
    rw [rd_T68_get l i hlt, w64 (n := (i : Int) + 1) (by omega) (by omega), drop_get hlt, List.map_cons]
    refine Ev.eq (ih (i + 1) _ (by omega) (by simp [ha])) ?_
    rw [List.append_assoc]; rfl
theorem spec_l05Places.ev (l : List S68) (hl : l.length ≤ 8796093022208) : Ev (fun k => spec_l05Places.f k l) (l.map (·.f0)) := by
  unfold spec_l05Places.f
  exact Ev.eq (spec_l05Places.ev_l l hl l.length 0 [] (by omega) rfl) (by simp)

-- spec_l05Values
theorem spec_l05Values.ev_l (l : List S68) (hl : l.length ≤ 8796093022208) : ∀ (d i : Nat) (acc : List Int), i + d = l.length → acc.length = i → Ev (fun k => spec_l05Values.l0 k l acc (i : Int)) (acc ++ (l.drop i).map (·.f1)) := by
  intro d
  induction d with
  | zero =>
    intro i acc hi ha
    refine Ev.succ ?_
    simp only [spec_l05Values.l0]
    rw [drop_end (by omega), List.map_nil, List.append_nil]
    exact Ev.neg (by omega) (Ev.now _)
  | succ d ih =>
    intro i acc hi ha
    have hlt : i < l.length := by omega
    refine Ev.succ ?_
    simp only [spec_l05Values.l0]
    refine Ev.pos (by omega) (Ev.pos (by omega) (Ev.pos (by omega) ?_))
    rw [rd_T68_get l i hlt, w64 (n := (i : Int) + 1) (by omega) (by omega), drop_get hlt, List.map_cons]
    refine Ev.eq (ih (i + 1) _ (by omega) (by simp [ha])) ?_
    rw [List.append_assoc]; rfl
theorem spec_l05Values.ev (l : List S68) (hl : l.length ≤ 8796093022208) : Ev (fun k => spec_l05Values.f k l) (l.map (·.f1)) := by
  unfold spec_l05Values.f
  exact Ev.eq (spec_l05Values.ev_l l hl l.length 0 [] (by omega) rfl) (by simp)

-- spec_l00In
theorem spec_l00In.eq (a b c : Int) : spec_l00In.f a b c = some (decide (b ≤ a ∧ a ≤ c)) := by
  unfold spec_l00In.f
  by_cases h : a ≥ b
  · have : b ≤ a := h
    simp [h, this]
  · have : ¬ b ≤ a := h
    simp [this]

-- spec_l05Residues
theorem spec_l05Residues.ev_l (p : Int) (hp : -9223372036854775807 ≤ p) (hp' : p ≤ 9223372036854775807) (l : List Int) (hl : l.length ≤ 9223372036854775806) : ∀ (d i : Nat), i + d = l.length → Ev (fun k => spec_l05Residues.l0 k p l (i : Int)) (allR p (l.drop i)) := by
  intro d
  induction d with
  | zero =>
    intro i hi
    refine Ev.succ ?_
    simp only [spec_l05Residues.l0]
    rw [List.drop_of_length_le (by omega)]
    exact Ev.neg (by omega) (Ev.now _)
  | succ d ih =>
    intro i hi
    refine Ev.succ ?_
    simp only [spec_l05Residues.l0, spec_l00In.eq, Option.bind_some]
    refine Ev.pos (by omega) (Ev.pos (by omega) ?_)
    have hlt : i < l.length := by omega
    rw [rd_get l i hlt, w64 (n := p - 1) (by omega) (by omega), w64 (n := (i : Int) + 1) (by omega) (by omega), List.drop_eq_getElem_cons hlt]
    simp only [allR, List.all_cons]
    have hin : inR p l[i] = decide (0 ≤ l[i] ∧ l[i] ≤ p - 1) := rfl
    rw [hin]
    by_cases hx : 0 ≤ l[i] ∧ l[i] ≤ p - 1
    · rw [decide_eq_true hx]
      refine Ev.pos rfl ?_
      rw [Bool.true_and]
      exact ih (i + 1) (by omega)
    · rw [decide_eq_false hx]
      exact Ev.neg (by decide) (Ev.now _)
theorem spec_l05Residues.ev (p : Int) (hp : -9223372036854775807 ≤ p) (hp' : p ≤ 9223372036854775807) (l : List Int) (hl : l.length ≤ 9223372036854775806) : Ev (fun k => spec_l05Residues.f k p l) (allR p l) := by
  have := spec_l05Residues.ev_l p hp hp' l hl l.length 0 (by omega)
  simpa [spec_l05Residues.f] using this

-- spec_l00Rises
theorem spec_l00Rises.ev_l (lo hi : Int) (l : List Int) (hl : l.length ≤ 35184372088832) : ∀ (d i : Nat), i + d = l.length → Ev (fun k => spec_l00Rises.l0 k l lo hi (i : Int)) (risesAt lo hi l i) := by
  intro d
  induction d with
  | zero =>
    intro i hi
    refine Ev.succ ?_
    simp only [spec_l00Rises.l0]
    rw [risesAt_end _ _ _ _ (by omega)]
    exact Ev.neg (by omega) (Ev.now _)
  | succ d ih =>
    intro i hd
    have hlt : i < l.length := by omega
    refine Ev.succ ?_
    simp only [spec_l00Rises.l0]
    have hn := ih (i + 1) (by omega)
    rw [rd_get l i hlt, spec_l00In.eq, w64 (n := (i : Int) + 1) (by omega) (by omega)]
    refine Ev.pos (by omega) (Ev.pos (by omega) (Ev.bindc rfl ?_))
    cases i with
    | zero =>
      rw [risesAt_zero _ _ _ hlt]
      cases hc : decide (lo ≤ l[0] ∧ l[0] ≤ hi) with
      | false => exact Ev.neg Bool.false_ne_true (Ev.now _)
      | true => exact Ev.pos rfl (Ev.neg (by omega) (by rw [Bool.true_and]; exact hn))
    | succ j =>
      rw [risesAt_succ _ _ _ _ hlt]
      cases hc : decide (lo ≤ l[j + 1] ∧ l[j + 1] ≤ hi) with
      | false => exact Ev.neg Bool.false_ne_true (Ev.now _)
      | true =>
        have e : ((j + 1 : Nat) : Int) - 1 = (j : Int) := by omega
        rw [w64 (n := ((j + 1 : Nat) : Int) - 1) (by omega) (by omega), e, rd_get l j (by omega), Bool.true_and]
        refine Ev.pos rfl (Ev.pos (by omega) (Ev.pos (by omega) (Ev.pos (by omega) ?_)))
        by_cases hx : l[j] < l[j + 1]
        · rw [decide_eq_true hx, Bool.true_and]
          exact Ev.neg (by omega) hn
        · rw [decide_eq_false hx, Bool.false_and]
          exact Ev.pos (by omega) (Ev.now _)

-- spec_l05Points
theorem isPts_at (p : Int) (l : List Int) : (decide (l.length ≤ 10) && risesAt 1 (p - 1) l 0) = isPts p l := by
  rw [risesAt_all, isPts, Bool.and_comm (l.all _)]
theorem spec_l05Points.ev (p : Int) (hp : -9223372036854775807 ≤ p) (hp' : p ≤ 9223372036854775807) (l : List Int) (hl : l.length ≤ 35184372088832) : Ev (fun k => spec_l05Points.f k p l) (isPts p l) := by
  unfold spec_l05Points.f spec_l00Rises.f
  rw [w64 (n := p - 1) (by omega) (by omega), ← isPts_at]
  by_cases h : l.length ≤ 10
  · rw [decide_eq_true h, Bool.true_and]
    exact Ev.pos (by omega) (Ev.bind (spec_l00Rises.ev_l 1 (p - 1) l hl l.length 0 (by omega)) (Ev.now _))
  · rw [decide_eq_false h, Bool.false_and]
    exact Ev.neg (by omega) (Ev.now _)

-- spec_l05Prime
theorem spec_l05Prime.small : ∀ n : Fin 32, 2 ≤ n.val → spec_l05Prime.f 40 (n.val : Int) = some (isPr (n.val : Int)) := by decide +kernel
theorem spec_l05Prime.ev (p : Int) : Ev (fun k => spec_l05Prime.f k p) (isPr p) := by
  by_cases h : 2 ≤ p ∧ p ≤ 31
  · obtain ⟨n, rfl⟩ : ∃ n : Nat, p = n := ⟨p.toNat, by omega⟩
    exact Ev.of (fun k => spec_l05Prime.mono _ k) (spec_l05Prime.small ⟨n, by omega⟩ (by simp only; omega))
  · have e : isPr p = false := by
      rcases (show p < 2 ∨ 2 ≤ p by omega) with h1 | h1
      · exact isPr_small h1
      · exact isPr_big (by omega)
    rw [e]
    refine Ev.congr (f := fun _ => some false) (fun k => ?_) (Ev.now _)
    unfold spec_l05Prime.f
    rw [spec_l00In.eq, decide_eq_false h]
    rfl

-- spec_ValidShares
def isSh (p : Int) (l : List S68) : Bool := isPr p && (isPts p (l.map (·.f0)) && allR p (l.map (·.f1)))
theorem isSh_of {p : Int} {l : List S68} (h : isSh p l = true) : isPr p = true ∧ isPts p (l.map (·.f0)) = true ∧ allR p (l.map (·.f1)) = true ∧ l.length ≤ 10 := by
  simp only [isSh, Bool.and_eq_true] at h
  refine ⟨h.1, h.2.1, h.2.2, ?_⟩
  have := h.2.1
  simp only [isPts, Bool.and_eq_true, decide_eq_true_eq, List.length_map] at this
  exact this.1
theorem spec_ValidShares.ev (p : Int) (l : List S68) (hl : l.length ≤ 8796093022208) : Ev (fun k => spec_ValidShares.f k p l) (isSh p l) := by
  unfold spec_ValidShares.f isSh
  refine Ev.bind (spec_l05Prime.ev p) ?_
  cases h : isPr p with
  | false => exact Ev.neg Bool.false_ne_true (Ev.now _)
  | true =>
    have := isPr_bd h
    refine Ev.pos rfl (Ev.bind (spec_l05Places.ev l hl) (Ev.bind (spec_l05Points.ev p (by omega) (by omega) _ (by simp; omega)) ?_))
    cases h2 : isPts p (l.map (·.f0)) with
    | false => exact Ev.neg Bool.false_ne_true (Ev.now _)
    | true => exact Ev.pos rfl (Ev.bind (spec_l05Values.ev l hl) (Ev.bind (spec_l05Residues.ev p (by omega) (by omega) _ (by simp; omega)) (Ev.now _)))

-- spec_l05Rest
theorem spec_l05Rest.eq (a p : Int) (hp : 0 < p) (hp' : p ≤ 31) : spec_l05Rest.f a p = some (a % p) := by
  unfold spec_l05Rest.f
  rw [if_neg (by omega), rest_eq hp hp']

-- spec_l05Inverse
theorem spec_l05Inverse.small : ∀ p a : Fin 32, isPr (p.val : Int) = true → a.val < p.val → spec_l05Inverse.f 40 (a.val : Int) (p.val : Int) = some (invM p.val a.val) := by decide +kernel
theorem spec_l05Inverse.ev {p a : Int} (hp : isPr p = true) (h0 : 0 ≤ a) (h1 : a < p) : Ev (fun k => spec_l05Inverse.f k a p) (invM p a) := by
  have hb := isPr_bd hp
  obtain ⟨p, rfl⟩ : ∃ n : Nat, p = n := ⟨p.toNat, by omega⟩
  obtain ⟨a, rfl⟩ : ∃ n : Nat, a = n := ⟨a.toNat, by omega⟩
  exact Ev.of (fun k => spec_l05Inverse.mono _ _ k) (spec_l05Inverse.small ⟨p, by omega⟩ ⟨a, by omega⟩ hp (by simp only; omega))

-- spec_l05Weights
theorem isPts_of {p : Int} {l : List Int} (h : isPts p l = true) : l.length ≤ 10 ∧ rises l = true ∧ ∀ x ∈ l, 1 ≤ x ∧ x ≤ p - 1 := by
  simp only [isPts, Bool.and_eq_true, decide_eq_true_eq, List.all_eq_true] at h
  exact ⟨h.1, h.2.1, h.2.2⟩
theorem invM_bd {p a : Int} (hp : isPr p = true) (h0 : 0 ≤ a) (h1 : a < p) : 0 ≤ invM p a ∧ invM p a < p := by
  have hb := isPr_bd hp
  rcases (show a = 0 ∨ 1 ≤ a by omega) with rfl | h
  · have : invM p 0 = 0 := by
      have : ∀ p : Fin 32, invM (p.val : Int) 0 = 0 := by decide +kernel
      have := this ⟨p.toNat, by omega⟩
      simp only at this
      rwa [show ((p.toNat : Nat) : Int) = p by omega] at this
    omega
  · have := invM_spec hp h h1
    omega
theorem spec_l05Weights.in_l (p x : Int) (hp : isPr p = true) (hx : 0 ≤ x ∧ x ≤ p - 1) (l : List Int) (hl : isPts p l = true) (i : Nat) (hi : i < l.length) (acc : List Int) (hacc : acc.length = i) (R : Int → List Int)
    (hout : ∀ w, Ev (fun k => spec_l05Weights.l0 k p l x (acc ++ [w]) ((i + 1 : Nat) : Int)) (R w)) :
    ∀ (d j : Nat) (w : Int), j + d = l.length → 0 ≤ w → w < p → Ev (fun k => spec_l05Weights.l1 k p l x acc (i : Int) w (j : Int)) (R (skipFold (wS p x (l.getD i 0)) i j (l.drop j) w)) := by
  have hb := isPr_bd hp
  obtain ⟨hl10, _, hmem⟩ := isPts_of hl
  have hgi : l.getD i 0 = l[i] := by simp [hi]
  intro d
  induction d with
  | zero =>
    intro j w hj h0 h1
    refine Ev.succ ?_
    simp only [spec_l05Weights.l1]
    rw [drop_end (by omega), w64 (n := (i : Int) + 1) (by omega) (by omega)]
    exact Ev.neg (by omega) (Ev.pos (by omega) (hout w))
  | succ d ih =>
    intro j w hj h0 h1
    have hlt : j < l.length := by omega
    refine Ev.succ ?_
    simp only [spec_l05Weights.l1]
    rw [drop_get hlt, skipFold_cons, rd_get l j hlt, rd_get l i hi, w64 (n := (j : Int) + 1) (by omega) (by omega)]
    have b1 := hmem _ (List.getElem_mem hlt)
    have b2 := hmem _ (List.getElem_mem hi)
    refine Ev.pos (by omega) ?_
    by_cases hji : j = i
    · rw [if_pos hji]
      exact Ev.pos (by omega) (ih (j + 1) w (by omega) h0 h1)
    · rw [if_neg hji]
      refine Ev.neg (by omega) (Ev.pos (by omega) ?_)
      rw [w64 (n := x - l[j]) (by omega) (by omega), w64 (n := l[i] - l[j]) (by omega) (by omega)]
      refine Ev.bindc (spec_l05Rest.eq _ _ (by omega) (by omega)) (Ev.neg (by omega) (Ev.pos (by omega) (Ev.pos (by omega) (Ev.bindc (spec_l05Rest.eq _ _ (by omega) (by omega)) ?_))))
      have e1 := emod_bd (p := p) (by omega) (x - l[j])
      have e2 := emod_bd (p := p) (by omega) (l[i] - l[j])
      have e3 := invM_bd hp e2.1 e2.2
      refine Ev.bind (spec_l05Inverse.ev hp e2.1 e2.2) ?_
      have m1 := mul_bd h0 (show w ≤ 31 by omega) e1.1 (show _ ≤ 31 by omega)
      have e4 := emod_bd (p := p) (by omega) (w * ((x - l[j]) % p))
      have m2 := mul_bd e4.1 (show _ ≤ 31 by omega) e3.1 (show _ ≤ 31 by omega)
      rw [w64 (n := w * ((x - l[j]) % p)) (by omega) (by omega), tmod_of m1.1, w64 (by omega) (by omega), tmod_of m2.1]
      have hs := wS_bd (p := p) (by omega) x l[i] w l[j]
      rw [hgi]
      rw [hgi] at ih
      exact ih (j + 1) _ (by omega) hs.1 hs.2
theorem spec_l05Weights.ev_l (p x : Int) (hp : isPr p = true) (hx : 0 ≤ x ∧ x ≤ p - 1) (l : List Int) (hl : isPts p l = true) : ∀ (d i : Nat) (acc : List Int), i + d = l.length → acc.length = i → Ev (fun k => spec_l05Weights.l0 k p l x acc (i : Int)) (acc ++ (wM p l x).drop i) := by
  obtain ⟨hl10, _, hmem⟩ := isPts_of hl
  have hb := isPr_bd hp
  intro d
  induction d with
  | zero =>
    intro i acc hi ha
    refine Ev.succ ?_
    simp only [spec_l05Weights.l0]
    rw [drop_end (by rw [wM_length]; omega), List.append_nil]
    exact Ev.neg (by omega) (Ev.now _)
  | succ d ih =>
    intro i acc hi ha
    refine Ev.succ ?_
    simp only [spec_l05Weights.l0]
    refine Ev.pos (by omega) ?_
    have := spec_l05Weights.in_l p x hp hx l hl i (by omega) acc ha (fun w => (acc ++ [w]) ++ (wM p l x).drop (i + 1)) (fun w => ih (i + 1) _ (by omega) (by simp [ha])) l.length 0 1 (by omega) (by omega) (by omega)
    refine Ev.eq this ?_
    unfold wM
    rw [range_map_drop (wAt p l x) l.length i (by omega), List.append_assoc]
    rfl
theorem spec_l05Weights.ev (p x : Int) (hp : isPr p = true) (hx : 0 ≤ x ∧ x ≤ p - 1) (l : List Int) (hl : isPts p l = true) : Ev (fun k => spec_l05Weights.f k p l x) (wM p l x) := by
  unfold spec_l05Weights.f
  exact Ev.eq (spec_l05Weights.ev_l p x hp hx l hl l.length 0 [] (by omega) rfl) (by simp)

-- spec_l05Open
theorem spec_l05Open.ev_l (p : Int) (hp : 0 < p) (hp' : p ≤ 31) (W V : List Int) (hW : allR p W = true) (hV : allR p V = true) (hl : W.length ≤ V.length) (hl' : V.length ≤ 35184372088832) : ∀ (d i : Nat) (acc : Int), i + d = W.length → 0 ≤ acc → acc < p → Ev (fun k => spec_l05Open.l0 k p V W acc (i : Int)) ((acc + sumM (W.drop i) (V.drop i)) % p) := by
  intro d
  induction d with
  | zero =>
    intro i acc hi h0 h1
    refine Ev.succ ?_
    simp only [spec_l05Open.l0]
    rw [drop_end (l := W) (by omega)]
    refine Ev.neg (by omega) (Ev.eq (Ev.now _) ?_)
    simp only [sumM, Int.add_zero]
    exact (Int.emod_eq_of_lt h0 h1).symm
  | succ d ih =>
    intro i acc hi h0 h1
    have hw : i < W.length := by omega
    have hv : i < V.length := by omega
    refine Ev.succ ?_
    simp only [spec_l05Open.l0]
    have b1 := allR_get hW i hw
    have b2 := allR_get hV i hv
    have m := mul_bd b1.1 (show _ ≤ 31 by omega) b2.1 (show _ ≤ 31 by omega)
    rw [rd_get W i hw, rd_get V i hv, drop_get hw, drop_get hv, w64 (n := (i : Int) + 1) (by omega) (by omega), w64 (n := W[i] * V[i]) (by omega) (by omega), w64 (n := acc + W[i] * V[i]) (by omega) (by omega), tmod_of (by omega)]
    refine Ev.pos (by omega) (Ev.pos (by omega) (Ev.pos (by omega) (Ev.neg (by omega) ?_)))
    have e := emod_bd (p := p) (by omega) (acc + W[i] * V[i])
    refine Ev.eq (ih (i + 1) _ (by omega) e.1 e.2) ?_
    simp only [sumM]
    apply Cg.emod_eq
    rw [← Int.add_assoc]
    exact (Cg.mod p _).add (Cg.refl p _)
theorem spec_l05Open.ev (p x : Int) (hp : isPr p = true) (hx : 0 ≤ x ∧ x ≤ p - 1) (P V : List Int) (hP : isPts p P = true) (hV : allR p V = true) (hl : P.length = V.length) : Ev (fun k => spec_l05Open.f k p P V x) (dotM p (wM p P x) V) := by
  have hb := isPr_bd hp
  have := isPts_of hP
  unfold spec_l05Open.f
  refine Ev.bind (spec_l05Weights.ev p x hp hx P hP) ?_
  refine Ev.eq (spec_l05Open.ev_l p (by omega) (by omega) _ V (wM_all (by omega) P x) hV (by rw [wM_length]; omega) (by omega) (wM p P x).length 0 0 (by omega) (by omega) (by omega)) ?_
  simp [dotM]

-- spec_UnpackSecrets
def openV (p : Int) (l : List S68) (x : Int) : Int := dotM p (wM p (l.map (·.f0)) x) (l.map (·.f1))
def unpackM (p : Int) (l : List S68) (n : Int) : List Int × Int := if isSh p l = true then (if 0 ≤ n ∧ n ≤ 7 then (if l.length = 0 ∨ n > p - 1 then ([], 4) else ((List.range n.toNat).map (fun i : Nat => openV p l (p - 1 - (i : Int))), 0)) else ([], 2)) else ([], 1)
theorem unpackM_len (p : Int) (l : List S68) (n : Int) : (unpackM p l n).1.length ≤ 10 := by
  unfold unpackM
  split
  · split
    · split
      · simp
      · simp; omega
    · simp
  · simp
theorem spec_UnpackSecrets.ev_l (p : Int) (l : List S68) (hl : isSh p l = true) (n : Nat) (hn : (n : Int) ≤ p - 1) : ∀ (d i : Nat) (acc : List Int), i + d = n → acc.length = i → Ev (fun k => spec_UnpackSecrets.l0 k p l (n : Int) acc (i : Int)) (acc ++ ((List.range n).map (fun i : Nat => openV p l (p - 1 - (i : Int)))).drop i, 0) := by
  obtain ⟨h1, h2, h3, h4⟩ := isSh_of hl
  have hb := isPr_bd h1
  intro d
  induction d with
  | zero =>
    intro i acc hi ha
    refine Ev.succ ?_
    simp only [spec_UnpackSecrets.l0]
    rw [drop_end (by simp; omega), List.append_nil]
    exact Ev.neg (by omega) (Ev.now _)
  | succ d ih =>
    intro i acc hi ha
    refine Ev.succ ?_
    simp only [spec_UnpackSecrets.l0]
    rw [w64 (n := p - 1) (by omega) (by omega), w64 (n := p - 1 - (i : Int)) (by omega) (by omega), w64 (n := (i : Int) + 1) (by omega) (by omega)]
    refine Ev.pos (by omega) (Ev.bind (spec_l05Places.ev l (by omega)) (Ev.bind (spec_l05Values.ev l (by omega)) (Ev.bind (spec_l05Open.ev p _ h1 (by omega) _ _ h2 h3 (by simp)) (Ev.pos (by omega) ?_))))
    refine Ev.eq (ih (i + 1) _ (by omega) (by simp [ha])) ?_
    rw [range_map_drop (fun i : Nat => openV p l (p - 1 - (i : Int))) n i (by omega), List.append_assoc]
    rfl
theorem spec_UnpackSecrets.ev (p : Int) (l : List S68) (n : Int) (hl : l.length ≤ 8796093022208) : Ev (fun k => spec_UnpackSecrets.f k p l n) (unpackM p l n) := by
  unfold spec_UnpackSecrets.f unpackM
  refine Ev.bind (spec_ValidShares.ev p l hl) ?_
  by_cases hc : isSh p l = true
  · have hb := isPr_bd (isSh_of hc).1
    rw [if_pos hc]
    refine Ev.pos hc (Ev.bindc (spec_l00In.eq _ _ _) ?_)
    by_cases hx : 0 ≤ n ∧ n ≤ 7
    · rw [if_pos hx]
      refine Ev.pos (decide_eq_true hx) ?_
      rw [w64 (n := p - 1) (by omega) (by omega)]
      by_cases h0 : l.length = 0
      · rw [if_pos (Or.inl h0)]
        refine Ev.pos (by omega) (Ev.succ ?_)
        simp only [spec_UnpackSecrets.j0]
        exact Ev.pos (by simp) (Ev.now _)
      · refine Ev.neg (by omega) (Ev.succ ?_)
        simp only [spec_UnpackSecrets.j0]
        by_cases hn : n > p - 1
        · rw [if_pos (Or.inr hn)]
          exact Ev.pos (decide_eq_true hn) (Ev.now _)
        · rw [if_neg (fun e => e.elim h0 hn)]
          refine Ev.neg (by rw [decide_eq_false hn]; exact Bool.false_ne_true) ?_
          have := spec_UnpackSecrets.ev_l p l hc n.toNat (by omega) n.toNat 0 [] (by omega) rfl
          rw [show ((n.toNat : Nat) : Int) = n by omega] at this
          simpa using this
    · rw [if_neg hx]
      exact Ev.neg (by rw [decide_eq_false hx]; exact Bool.false_ne_true) (Ev.now _)
  · rw [if_neg hc]
    exact Ev.neg hc (Ev.now _)

-- laws_toShareS
def toSh (x : S73) : S68 := ⟨x.f0, x.f1⟩
theorem laws_toShareS.ev_l (l : List S73) (hl : l.length ≤ 8796093022208) : ∀ (d i : Nat) (m : List S68), i + d = l.length → m.length = (l.map toSh).length → m.take i = (l.map toSh).take i → Ev (fun k => laws_toShareS.l0 k l m (i : Int)) (l.map toSh) := by
  intro d
  induction d with
  | zero =>
    intro i m hi hm ht
    refine Ev.succ ?_
    simp only [laws_toShareS.l0]
    rw [take_all (by simp; omega) hm ht]
    exact Ev.neg (by omega) (Ev.now _)
  | succ d ih =>
    intro i m hi hm ht
    have hm' : m.length = l.length := by simpa using hm
    have hlt : i < l.length := by omega
    refine Ev.succ ?_
    simp only [laws_toShareS.l0]
    refine Ev.pos (by omega) (Ev.pos (by omega) (Ev.bindc rfl (Ev.pos (by omega) ?_)))
    rw [rd_T73_get l i hlt, w64 (n := (i : Int) + 1) (by omega) (by omega)]
    refine ih (i + 1) _ (by omega) (by simpa using hm') ?_
    have e : (l.map toSh)[i]'(by simpa using hlt) = toSh l[i] := by simp
    have := take_set (m := m) (L := l.map toSh) (i := i) (by simpa using hlt) hm ht
    rw [e] at this
    exact this
theorem laws_toShareS.ev (l : List S73) (hl : l.length ≤ 8796093022208) : Ev (fun k => laws_toShareS.f k l) (l.map toSh) := by
  unfold laws_toShareS.f
  refine Ev.pos (by omega) (Ev.pos (by omega) ?_)
  exact laws_toShareS.ev_l l hl l.length 0 _ (by omega) (by simp) (by simp)

-- impl_within
theorem impl_within.eq (a b c : Int) : impl_within.f a b c = some (decide (b ≤ a ∧ a ≤ c)) := by
  unfold impl_within.f
  by_cases h : a ≥ b
  · have : b ≤ a := h
    simp [h, this]
  · have : ¬ b ≤ a := h
    simp [this]

-- impl_IsPrime
theorem impl_IsPrime.small : ∀ n : Fin 32, 2 ≤ n.val → impl_IsPrime.f 40 (n.val : Int) = some (isPr (n.val : Int)) := by decide +kernel
theorem impl_IsPrime.ev (p : Int) : Ev (fun k => impl_IsPrime.f k p) (isPr p) := by
  by_cases h : 2 ≤ p ∧ p ≤ 31
  · obtain ⟨n, rfl⟩ : ∃ n : Nat, p = n := ⟨p.toNat, by omega⟩
    exact Ev.of (fun k => impl_IsPrime.mono _ k) (impl_IsPrime.small ⟨n, by omega⟩ (by simp only; omega))
  · have hw : impl_within.f p 2 31 = some false := by rw [impl_within.eq, decide_eq_false h]
    rcases (show p < 2 ∨ 2 ≤ p by omega) with h1 | h1
    · rw [isPr_small h1]
      refine Ev.congr (fun k => by unfold impl_IsPrime.f; rfl) (Ev.succ ?_)
      simp only [impl_IsPrime.l0]
      refine Ev.neg (by rw [w64 (by omega) (by omega)]; omega) (Ev.succ ?_)
      simp only [impl_IsPrime.j1, hw]
      exact ⟨0, fun k _ => rfl⟩
    · rw [isPr_big (by omega)]
      refine Ev.congr (fun k => by unfold impl_IsPrime.f; rfl) (Ev.succ ?_)
      simp only [impl_IsPrime.l0]
      have hd : decide (p ≤ 31) = false := decide_eq_false (by omega)
      rw [hd]
      refine Ev.pos (by rw [w64 (by omega) (by omega)]; omega) (Ev.succ ?_)
      simp only [impl_IsPrime.j1, hw]
      exact ⟨0, fun k _ => rfl⟩

-- impl_areElements_1
theorem impl_areElements_1.eq (x p : Int) (hp : -9223372036854775807 ≤ p) (hp' : p ≤ 9223372036854775807) : impl_areElements_1.f x [p] = some (!inR p x) := by
  unfold impl_areElements_1.f
  have e : rd [p] 0 = p := rfl
  rw [e, w64 (n := p - 1) (by omega) (by omega), impl_within.eq]
  rfl

-- slices_IndexFunc_int64_int64_at_impl_areElements_1
theorem slices_IndexFunc_int64_int64_at_impl_areElements_1.ev_l (p : Int) (hp : -9223372036854775807 ≤ p) (hp' : p ≤ 9223372036854775807) (l : List Int) (hl : l.length ≤ 9223372036854775806) : ∀ (d i : Nat), i + d = l.length → Ev (fun k => slices_IndexFunc_int64_int64_at_impl_areElements_1.l0 k l (l.length : Int) (i : Int) [p]) (idxFrom (fun x => !inR p x) (l.drop i) (i : Int)) := by
  intro d
  induction d with
  | zero =>
    intro i hi
    refine Ev.succ ?_
    simp only [slices_IndexFunc_int64_int64_at_impl_areElements_1.l0]
    rw [List.drop_of_length_le (by omega)]
    exact Ev.neg (by omega) (Ev.now _)
  | succ d ih =>
    intro i hi
    refine Ev.succ ?_
    simp only [slices_IndexFunc_int64_int64_at_impl_areElements_1.l0]
    refine Ev.pos (by omega) (Ev.pos (by omega) (Ev.pos (by omega) ?_))
    have hlt : i < l.length := by omega
    rw [rd_get l i hlt, impl_areElements_1.eq _ p hp hp', w64 (n := (i : Int) + 1) (by omega) (by omega), List.drop_eq_getElem_cons hlt]
    simp only [Option.bind_some, idxFrom]
    by_cases hx : (!inR p l[i]) = true
    · refine Ev.pos hx ?_
      rw [if_pos hx]
      exact Ev.now _
    · refine Ev.neg hx ?_
      rw [if_neg hx]
      exact ih (i + 1) (by omega)

-- slices_ContainsFunc_int64_int64_at_impl_areElements_1
theorem slices_ContainsFunc_int64_int64_at_impl_areElements_1.ev (p : Int) (hp : -9223372036854775807 ≤ p) (hp' : p ≤ 9223372036854775807) (l : List Int) (hl : l.length ≤ 9223372036854775806) : Ev (fun k => slices_ContainsFunc_int64_int64_at_impl_areElements_1.f k l [p]) (!allR p l) := by
  unfold slices_ContainsFunc_int64_int64_at_impl_areElements_1.f slices_IndexFunc_int64_int64_at_impl_areElements_1.f
  refine Ev.bind (slices_IndexFunc_int64_int64_at_impl_areElements_1.ev_l p hp hp' l hl l.length 0 (by omega)) ?_
  refine Ev.eq (Ev.now _) ?_
  rw [idxFrom_any _ _ _ (by omega), List.drop_zero, not_allR]

-- impl_areElements
theorem impl_areElements.ev (p : Int) (l : List Int) (hl : l.length ≤ 9223372036854775806) : Ev (fun k => impl_areElements.f k p l) (isPr p && allR p l) := by
  unfold impl_areElements.f
  refine Ev.bind (impl_IsPrime.ev p) ?_
  cases h : isPr p with
  | false => exact Ev.neg Bool.false_ne_true (Ev.now _)
  | true =>
    have := isPr_bd h
    refine Ev.pos rfl ?_
    refine Ev.bind (slices_ContainsFunc_int64_int64_at_impl_areElements_1.ev p (by omega) (by omega) l hl) ?_
    refine Ev.eq (Ev.now _) ?_
    rw [Bool.not_not, Bool.true_and]

-- impl_pointsOf
theorem impl_pointsOf.ev_l (l : List S68) (hl : l.length ≤ 8796093022208) : ∀ (d i : Nat) (a b : List Int), i + d = l.length → a.length = i → b.length = i → Ev (fun k => impl_pointsOf.l0 k a b l (l.length : Int) (i : Int)) (a ++ (l.drop i).map (·.f0), b ++ (l.drop i).map (·.f1)) := by
  intro d
  induction d with
  | zero =>
    intro i a b hi ha hb
    refine Ev.succ ?_
    simp only [impl_pointsOf.l0]
    rw [drop_end (by omega), List.map_nil, List.map_nil, List.append_nil, List.append_nil]
    exact Ev.neg (by omega) (Ev.now _)
  | succ d ih =>
    intro i a b hi ha hb
    have hlt : i < l.length := by omega
    refine Ev.succ ?_
    simp only [impl_pointsOf.l0, Option.bind_some, List.length_singleton]
    refine Ev.pos (by omega) (Ev.pos (by omega) (Ev.pos (by omega) (Ev.pos (by omega) (Ev.pos (by omega) ?_))))
    rw [rd_T68_get l i hlt, w64 (n := (i : Int) + 1) (by omega) (by omega), drop_get hlt, List.map_cons, List.map_cons]
    refine Ev.eq (ih (i + 1) _ _ (by omega) (by simp [ha]) (by simp [hb])) ?_
    rw [List.append_assoc, List.append_assoc]; rfl
theorem impl_pointsOf.ev (l : List S68) (hl : l.length ≤ 8796093022208) : Ev (fun k => impl_pointsOf.f k l) (l.map (·.f0), l.map (·.f1)) := by
  unfold impl_pointsOf.f
  exact Ev.eq (impl_pointsOf.ev_l l hl l.length 0 [] [] (by omega) rfl rfl) (by simp)

-- impl_arePoints
theorem impl_arePoints.ev_l (p : Int) (hp : -9223372036854775807 ≤ p) (hp' : p ≤ 9223372036854775807) (l : List Int) (hl : l.length ≤ 35184372088832) : ∀ (d i : Nat), i + d = l.length → Ev (fun k => impl_arePoints.l0 k p l l (l.length : Int) (i : Int)) (risesAt 1 (p - 1) l i && decide (l.length ≤ 10)) := by
  intro d
  induction d with
  | zero =>
    intro i hi
    refine Ev.succ ?_
    simp only [impl_arePoints.l0]
    rw [risesAt_end _ _ _ _ (by omega), Bool.true_and]
    refine Ev.neg (by omega) (Ev.eq (Ev.now _) ?_)
    exact decide_eq_decide.2 (by omega)
  | succ d ih =>
    intro i hd
    have hlt : i < l.length := by omega
    refine Ev.succ ?_
    simp only [impl_arePoints.l0]
    have hn := ih (i + 1) (by omega)
    rw [rd_get l i hlt, impl_within.eq, w64 (n := (i : Int) + 1) (by omega) (by omega), w64 (n := p - 1) (by omega) (by omega)]
    refine Ev.pos (by omega) (Ev.pos (by omega) (Ev.pos (by omega) (Ev.bindc rfl ?_)))
    cases i with
    | zero =>
      rw [risesAt_zero _ _ _ hlt]
      cases hc : decide (1 ≤ l[0] ∧ l[0] ≤ p - 1) with
      | false => exact Ev.neg Bool.false_ne_true (Ev.now _)
      | true => exact Ev.pos rfl (Ev.neg (by omega) (by rw [Bool.true_and]; exact hn))
    | succ j =>
      rw [risesAt_succ _ _ _ _ hlt]
      cases hc : decide (1 ≤ l[j + 1] ∧ l[j + 1] ≤ p - 1) with
      | false => exact Ev.neg Bool.false_ne_true (Ev.now _)
      | true =>
        have e : ((j + 1 : Nat) : Int) - 1 = (j : Int) := by omega
        rw [w64 (n := ((j + 1 : Nat) : Int) - 1) (by omega) (by omega), e, rd_get l j (by omega), Bool.true_and]
        refine Ev.pos rfl (Ev.pos (by omega) (Ev.pos (by omega) (Ev.pos (by omega) ?_)))
        by_cases hx : l[j] < l[j + 1]
        · rw [decide_eq_true hx, Bool.true_and]
          exact Ev.neg (by omega) hn
        · rw [decide_eq_false hx, Bool.false_and]
          exact Ev.pos (by omega) (Ev.now _)
theorem impl_arePoints.ev (p : Int) (hp : -9223372036854775807 ≤ p) (hp' : p ≤ 9223372036854775807) (l : List Int) (hl : l.length ≤ 35184372088832) : Ev (fun k => impl_arePoints.f k p l) (isPts p l) := by
  unfold impl_arePoints.f
  refine Ev.eq (impl_arePoints.ev_l p hp hp' l hl l.length 0 (by omega)) ?_
  rw [risesAt_all, isPts, Bool.and_comm, Bool.and_comm (l.all _)]

-- impl_ValidShares
theorem impl_ValidShares.ev (p : Int) (l : List S68) (hl : l.length ≤ 8796093022208) : Ev (fun k => impl_ValidShares.f k p l) (isSh p l) := by
  unfold impl_ValidShares.f isSh
  refine Ev.bind (impl_pointsOf.ev l hl) (Ev.bind (impl_areElements.ev p _ (by simp; omega)) ?_)
  cases h : isPr p with
  | false => exact Ev.neg Bool.false_ne_true (Ev.now _)
  | true =>
    have := isPr_bd h
    rw [Bool.true_and, Bool.true_and]
    cases h2 : allR p (l.map (·.f1)) with
    | false => rw [Bool.and_false]; exact Ev.neg Bool.false_ne_true (Ev.now _)
    | true => rw [Bool.and_true]; exact Ev.pos rfl (Ev.bind (impl_arePoints.ev p (by omega) (by omega) _ (by simp; omega)) (Ev.now _))

-- impl_inverse
theorem impl_inverse.small : ∀ p a : Fin 32, isPr (p.val : Int) = true → 1 ≤ a.val → a.val < p.val → impl_inverse.f 40 (p.val : Int) (a.val : Int) = some (invM p.val a.val) := by decide +kernel
theorem impl_inverse.ev {p a : Int} (hp : isPr p = true) (h0 : 1 ≤ a) (h1 : a < p) : Ev (fun k => impl_inverse.f k p a) (invM p a) := by
  have hb := isPr_bd hp
  obtain ⟨p, rfl⟩ : ∃ n : Nat, p = n := ⟨p.toNat, by omega⟩
  obtain ⟨a, rfl⟩ : ∃ n : Nat, a = n := ⟨a.toNat, by omega⟩
  exact Ev.of (fun k => impl_inverse.mono _ _ k) (impl_inverse.small ⟨p, by omega⟩ ⟨a, by omega⟩ hp (by simp only; omega) (by simp only; omega))

-- impl_weights
theorem pts_ne {l : List Int} (h : rises l = true) {i j : Nat} (hi : i < l.length) (hj : j < l.length) (hne : j ≠ i) : l[j] ≠ l[i] := by
  have hp := rises_pairwise h
  rw [List.pairwise_iff_getElem] at hp
  rcases Nat.lt_or_gt_of_ne hne with h1 | h1
  · have := hp j i hj hi h1
    omega
  · have := hp i j hi hj h1
    omega
theorem impl_weights.in_l (p x : Int) (hp : isPr p = true) (hx : 0 ≤ x ∧ x ≤ p - 1) (l : List Int) (hl : isPts p l = true) (i : Nat) (hi : i < l.length) (acc : List Int) (hacc : acc.length = i) (R : Int → List Int)
    (hout : ∀ w, Ev (fun k => impl_weights.l0 k p l x (acc ++ [w]) l (l.length : Int) ((i + 1 : Nat) : Int)) (R w)) :
    ∀ (d j : Nat) (w a b : Int), j + d = l.length → 0 ≤ w → w < p → 0 ≤ a → a < p → 1 ≤ b → b < p → Cg p (w * b) a → Ev (fun k => impl_weights.l1 k p l x acc (i : Int) l[i] a b l (l.length : Int) (i : Int) l (l.length : Int) (j : Int)) (R (skipFold (wS p x (l.getD i 0)) i j (l.drop j) w)) := by
  have hb := isPr_bd hp
  obtain ⟨hl10, hris, hmem⟩ := isPts_of hl
  have hgi : l.getD i 0 = l[i] := by simp [hi]
  intro d
  induction d with
  | zero =>
    intro j w a b hj h0 h1 a0 a1 b0 b1 hc
    refine Ev.succ ?_
    simp only [impl_weights.l1]
    have e3 := invM_bd hp (show 0 ≤ b by omega) b1
    have m2 := mul_bd a0 (show a ≤ 31 by omega) e3.1 (show _ ≤ 31 by omega)
    refine Ev.neg (by omega) (Ev.bind (impl_inverse.ev hp b0 b1) (Ev.neg (by omega) (Ev.pos (by omega) ?_)))
    rw [drop_end (by omega), w64 (n := (i : Int) + 1) (by omega) (by omega), w64 (by omega) (by omega), tmod_of m2.1, wS_end hp ⟨b0, b1⟩ ⟨h0, h1⟩ hc]
    exact hout w
  | succ d ih =>
    intro j w a b hj h0 h1 a0 a1 b0 b1 hc
    have hlt : j < l.length := by omega
    refine Ev.succ ?_
    simp only [impl_weights.l1]
    rw [drop_get hlt, skipFold_cons, rd_get l j hlt, w64 (n := (j : Int) + 1) (by omega) (by omega)]
    have c1 := hmem _ (List.getElem_mem hlt)
    have c2 := hmem _ (List.getElem_mem hi)
    refine Ev.pos (by omega) (Ev.pos (by omega) (Ev.pos (by omega) ?_))
    by_cases hji : j = i
    · rw [if_pos hji]
      exact Ev.pos (by omega) (ih (j + 1) w a b (by omega) h0 h1 a0 a1 b0 b1 hc)
    · rw [if_neg hji]
      refine Ev.neg (by omega) (Ev.neg (by omega) ?_)
      have m1 := mul_bd a0 (show a ≤ 31 by omega) (show 0 ≤ x - l[j] + p by omega) (show _ ≤ 62 by omega)
      have m2 := mul_bd (show 0 ≤ b by omega) (show b ≤ 31 by omega) (show 0 ≤ l[i] - l[j] + p by omega) (show _ ≤ 62 by omega)
      rw [w64 (n := x - l[j]) (by omega) (by omega), w64 (n := l[i] - l[j]) (by omega) (by omega), w64 (n := x - l[j] + p) (by omega) (by omega), w64 (n := l[i] - l[j] + p) (by omega) (by omega),
        w64 (n := a * (x - l[j] + p)) (by omega) (by omega), w64 (n := b * (l[i] - l[j] + p)) (by omega) (by omega), tmod_of m1.1, tmod_of m2.1]
      have hs := wS_bd (p := p) (by omega) x l[i] w l[j]
      have st := wS_step (x := x) hp c2 c1 (pts_ne hris hi hlt hji) ⟨b0, b1⟩ hc
      have ea := emod_bd (p := p) (by omega) (a * (x - l[j] + p))
      rw [hgi]
      rw [hgi] at ih
      exact ih (j + 1) _ _ _ (by omega) hs.1 hs.2 ea.1 ea.2 st.2.1 st.2.2 st.1
theorem impl_weights.ev_l (p x : Int) (hp : isPr p = true) (hx : 0 ≤ x ∧ x ≤ p - 1) (l : List Int) (hl : isPts p l = true) : ∀ (d i : Nat) (acc : List Int), i + d = l.length → acc.length = i → Ev (fun k => impl_weights.l0 k p l x acc l (l.length : Int) (i : Int)) (acc ++ (wM p l x).drop i) := by
  obtain ⟨hl10, _, hmem⟩ := isPts_of hl
  have hb := isPr_bd hp
  intro d
  induction d with
  | zero =>
    intro i acc hi ha
    refine Ev.succ ?_
    simp only [impl_weights.l0]
    rw [drop_end (by rw [wM_length]; omega), List.append_nil]
    exact Ev.neg (by omega) (Ev.now _)
  | succ d ih =>
    intro i acc hi ha
    refine Ev.succ ?_
    simp only [impl_weights.l0]
    rw [rd_get l i (by omega)]
    refine Ev.pos (by omega) (Ev.pos (by omega) (Ev.pos (by omega) ?_))
    have := impl_weights.in_l p x hp hx l hl i (by omega) acc ha (fun w => (acc ++ [w]) ++ (wM p l x).drop (i + 1)) (fun w => ih (i + 1) _ (by omega) (by simp [ha])) l.length 0 1 1 1 (by omega) (by omega) (by omega) (by omega) (by omega) (by omega) (by omega) (Cg.refl _ _)
    refine Ev.eq this ?_
    unfold wM
    rw [range_map_drop (wAt p l x) l.length i (by omega), List.append_assoc]
    rfl
theorem impl_weights.ev (p x : Int) (hp : isPr p = true) (hx : 0 ≤ x ∧ x ≤ p - 1) (l : List Int) (hl : isPts p l = true) : Ev (fun k => impl_weights.f k p l x) (wM p l x) := by
  unfold impl_weights.f
  exact Ev.eq (impl_weights.ev_l p x hp hx l hl l.length 0 [] (by omega) rfl) (by simp)

-- impl_dot
theorem impl_dot.ev_l (p : Int) (hp : 0 < p) (hp' : p ≤ 31) (W V : List Int) (hW : allR p W = true) (hV : allR p V = true) (hl : W.length ≤ V.length) (hl' : V.length ≤ 35184372088832) : ∀ (d i : Nat) (acc : Int), i + d = W.length → 0 ≤ acc → acc ≤ 900 * i → Ev (fun k => impl_dot.l0 k p V acc W (W.length : Int) (i : Int)) ((acc + sumM (W.drop i) (V.drop i)) % p) := by
  intro d
  induction d with
  | zero =>
    intro i acc hi h0 h1
    refine Ev.succ ?_
    simp only [impl_dot.l0]
    rw [drop_end (l := W) (by omega), tmod_of h0]
    refine Ev.neg (by omega) (Ev.neg (by omega) (Ev.eq (Ev.now _) ?_))
    simp only [sumM, Int.add_zero]
  | succ d ih =>
    intro i acc hi h0 h1
    have hw : i < W.length := by omega
    have hv : i < V.length := by omega
    refine Ev.succ ?_
    simp only [impl_dot.l0]
    have b1 := allR_get hW i hw
    have b2 := allR_get hV i hv
    have m := mul_bd b1.1 (show _ ≤ 30 by omega) b2.1 (show _ ≤ 30 by omega)
    rw [rd_get W i hw, rd_get V i hv, drop_get hw, drop_get hv, w64 (n := (i : Int) + 1) (by omega) (by omega), w64 (n := W[i] * V[i]) (by omega) (by omega), w64 (n := acc + W[i] * V[i]) (by omega) (by omega)]
    refine Ev.pos (by omega) (Ev.pos (by omega) (Ev.pos (by omega) (Ev.pos (by omega) ?_)))
    refine Ev.eq (ih (i + 1) _ (by omega) (by omega) (by omega)) ?_
    simp only [sumM]
    rw [← Int.add_assoc]
theorem impl_dot.ev (p : Int) (hp : 0 < p) (hp' : p ≤ 31) (W V : List Int) (hW : allR p W = true) (hV : allR p V = true) (hl : W.length ≤ V.length) (hl' : V.length ≤ 35184372088832) : Ev (fun k => impl_dot.f k p W V) (dotM p W V) := by
  unfold impl_dot.f
  exact Ev.eq (impl_dot.ev_l p hp hp' W V hW hV hl hl' W.length 0 0 (by omega) (by omega) (by omega)) (by simp [dotM])

-- impl_openAt
theorem impl_openAt.ev (p x : Int) (hx : 0 ≤ x ∧ x ≤ p - 1) (l : List S68) (hl : isSh p l = true) : Ev (fun k => impl_openAt.f k p l x) (dotM p (wM p (l.map (·.f0)) x) (l.map (·.f1))) := by
  obtain ⟨h1, h2, h3, h4⟩ := isSh_of hl
  have hb := isPr_bd h1
  unfold impl_openAt.f
  refine Ev.bind (impl_pointsOf.ev l (by omega)) (Ev.bind (impl_weights.ev p x h1 hx _ h2) (Ev.bind (impl_dot.ev p (by omega) (by omega) _ _ (wM_all (by omega) _ x) h3 (by rw [wM_length]; simp) (by simp; omega)) (Ev.now _)))

-- impl_UnpackSecrets
theorem impl_UnpackSecrets.ev_l (p : Int) (l : List S68) (hl : isSh p l = true) (n : Nat) (hn : (n : Int) ≤ p - 1) : ∀ (d i : Nat) (acc : List Int), i + d = n → acc.length = i → Ev (fun k => impl_UnpackSecrets.l0 k p l acc (n : Int) (i : Int)) (acc ++ ((List.range n).map (fun i : Nat => openV p l (p - 1 - (i : Int)))).drop i, 0) := by
  obtain ⟨h1, h2, h3, h4⟩ := isSh_of hl
  have hb := isPr_bd h1
  intro d
  induction d with
  | zero =>
    intro i acc hi ha
    refine Ev.succ ?_
    simp only [impl_UnpackSecrets.l0]
    rw [drop_end (by simp; omega), List.append_nil]
    exact Ev.neg (by omega) (Ev.now _)
  | succ d ih =>
    intro i acc hi ha
    refine Ev.succ ?_
    simp only [impl_UnpackSecrets.l0]
    rw [w64 (n := p - 1) (by omega) (by omega), w64 (n := p - 1 - (i : Int)) (by omega) (by omega), w64 (n := (i : Int) + 1) (by omega) (by omega)]
    refine Ev.pos (by omega) (Ev.bind (impl_openAt.ev p _ (by omega) l hl) (Ev.pos (by omega) ?_))
    refine Ev.eq (ih (i + 1) _ (by omega) (by simp [ha])) ?_
    rw [range_map_drop (fun i : Nat => openV p l (p - 1 - (i : Int))) n i (by omega), List.append_assoc]
    rfl
theorem impl_UnpackSecrets.ev (p : Int) (l : List S68) (n : Int) (hl : l.length ≤ 8796093022208) : Ev (fun k => impl_UnpackSecrets.f k p l n) (unpackM p l n) := by
  unfold impl_UnpackSecrets.f unpackM
  refine Ev.bind (impl_ValidShares.ev p l hl) ?_
  by_cases hc : isSh p l = true
  · have hb := isPr_bd (isSh_of hc).1
    rw [if_pos hc]
    refine Ev.pos hc (Ev.bindc (impl_within.eq _ _ _) ?_)
    by_cases hx : 0 ≤ n ∧ n ≤ 7
    · rw [if_pos hx]
      refine Ev.pos (decide_eq_true hx) ?_
      rw [w64 (n := p - 1) (by omega) (by omega)]
      by_cases h0 : l.length = 0
      · rw [if_pos (Or.inl h0)]
        exact Ev.pos (by omega) (Ev.now _)
      · refine Ev.neg (by omega) ?_
        by_cases hn : n > p - 1
        · rw [if_pos (Or.inr hn)]
          exact Ev.pos hn (Ev.now _)
        · rw [if_neg (fun e => e.elim h0 hn)]
          refine Ev.neg hn ?_
          have := impl_UnpackSecrets.ev_l p l hc n.toNat (by omega) n.toNat 0 [] (by omega) rfl
          rw [show ((n.toNat : Nat) : Int) = n by omega] at this
          simpa using this
    · rw [if_neg hx]
      exact Ev.neg (by rw [decide_eq_false hx]; exact Bool.false_ne_true) (Ev.now _)
  · rw [if_neg hc]
    exact Ev.neg hc (Ev.now _)

-- laws_eqInt64S
theorem laws_eqInt64S.ev_l (a b : List Int) (hl : a.length ≤ 35184372088832) (he : a.length = b.length) : ∀ (d i : Nat), i + d = a.length → Ev (fun k => laws_eqInt64S.l0 k a b (i : Int)) (decide (a.drop i = b.drop i)) := by
  intro d
  induction d with
  | zero =>
    intro i hi
    refine Ev.succ ?_
    simp only [laws_eqInt64S.l0]
    rw [List.drop_of_length_le (by omega), List.drop_of_length_le (by omega)]
    exact Ev.neg (by omega) (Ev.now _)
  | succ d ih =>
    intro i hi
    refine Ev.succ ?_
    simp only [laws_eqInt64S.l0]
    have ha : i < a.length := by omega
    have hb : i < b.length := by omega
    refine Ev.pos (by omega) (Ev.pos (by omega) (Ev.pos (by omega) ?_))
    rw [rd_get a i ha, rd_get b i hb, w64 (n := (i : Int) + 1) (by omega) (by omega), List.drop_eq_getElem_cons ha, List.drop_eq_getElem_cons hb]
    by_cases hx : a[i] = b[i]
    · refine Ev.pos hx (Ev.eq (ih (i + 1) (by omega)) ?_)
      simp only [hx, List.cons.injEq, true_and]
    · refine Ev.neg hx (Ev.eq (Ev.now _) ?_)
      exact (decide_eq_false (fun e => hx (List.cons.inj e).1)).symm
theorem laws_eqInt64S.ev (a b : List Int) (hl : a.length ≤ 35184372088832) : Ev (fun k => laws_eqInt64S.f k a b) (decide (a = b)) := by
  unfold laws_eqInt64S.f
  by_cases he : a.length = b.length
  · refine Ev.pos (by omega) ?_
    have := laws_eqInt64S.ev_l a b hl he a.length 0 (by omega)
    simpa using this
  · refine Ev.neg (by omega) ?_
    rw [decide_eq_false (fun e => he (by rw [e]))]
    exact Ev.now _

-- laws_eqShareS
theorem laws_eqShareS.ev_l (a : List S68) (hl : a.length ≤ 8796093022208) : ∀ (d i : Nat), i + d = a.length → Ev (fun k => laws_eqShareS.l0 k a a (i : Int)) true := by
  intro d
  induction d with
  | zero =>
    intro i hi
    refine Ev.succ ?_
    simp only [laws_eqShareS.l0]
    exact Ev.neg (by omega) (Ev.now _)
  | succ d ih =>
    intro i hi
    refine Ev.succ ?_
    simp only [laws_eqShareS.l0]
    refine Ev.pos (by omega) (Ev.pos (by omega) (Ev.pos (by omega) (Ev.bindc (a := true) ?_ (Ev.pos rfl ?_))))
    · simp [laws_eqShare.f]
    · rw [w64 (n := (i : Int) + 1) (by omega) (by omega)]
      exact ih (i + 1) (by omega)
theorem laws_eqShareS.ev (a : List S68) (hl : a.length ≤ 8796093022208) : Ev (fun k => laws_eqShareS.f k a a) true := by
  unfold laws_eqShareS.f
  exact Ev.pos rfl (laws_eqShareS.ev_l a hl a.length 0 (by omega))

-- laws_markShareS
def marksSh (v : Int) (n : Nat) : List S68 := (List.range n).map (fun i : Nat => ⟨v + 2 * (i : Int), v + 2 * (i : Int) + 1⟩)
theorem marksSh_length (v : Int) (n : Nat) : (marksSh v n).length = n := by simp [marksSh]
theorem marksSh_get (v : Int) (n i : Nat) (h : i < (marksSh v n).length) : (marksSh v n)[i] = ⟨v + 2 * (i : Int), v + 2 * (i : Int) + 1⟩ := by simp [marksSh]
theorem laws_markShareS.ev_l (n : Nat) (v : Int) (hn : n ≤ 35184372088832) (h0 : 0 ≤ v) (h1 : v ≤ 4611686018427387904) : ∀ (d i : Nat) (m : List S68), i + d = n → m.length = n → m.take i = (marksSh v n).take i → Ev (fun k => laws_markShareS.l0 k m (v + 2 * (i : Int)) (i : Int)) (v + 2 * (n : Int), marksSh v n) := by
  intro d
  induction d with
  | zero =>
    intro i m hi hm ht
    refine Ev.succ ?_
    simp only [laws_markShareS.l0]
    rw [take_all (L := marksSh v n) (by rw [marksSh_length]; omega) (by rw [marksSh_length]; exact hm) ht]
    have : i = n := by omega
    subst this
    exact Ev.neg (by rw [marksSh_length]; omega) (Ev.now _)
  | succ d ih =>
    intro i m hi hm ht
    have hlt : i < m.length := by omega
    refine Ev.succ ?_
    simp only [laws_markShareS.l0, Option.bind_some]
    have hg : ∀ z : S68, rd_T68 (m.set (i : Int).toNat z) (i : Int) = z := by
      intro z
      rw [rd_T68_get _ i (by simpa using hlt)]
      simp
    rw [hg, w64 (n := (i : Int) + 1) (by omega) (by omega), w64 (n := v + 2 * (i : Int) + 1) (by omega) (by omega), w64 (n := v + 2 * (i : Int) + 1 + 1) (by omega) (by omega), Int.toNat_natCast, List.set_set]
    refine Ev.pos (by omega) (Ev.pos (by omega) ?_)
    have hL : i < (marksSh v n).length := by rw [marksSh_length]; omega
    have := take_set (m := m) (L := marksSh v n) hL (by rw [marksSh_length]; exact hm) ht
    rw [marksSh_get] at this
    have e : v + 2 * (i : Int) + 1 + 1 = v + 2 * ((i + 1 : Nat) : Int) := by omega
    rw [e]
    exact ih (i + 1) _ (by omega) (by simpa using hm) this
theorem laws_markShareS.ev (l : List S68) (v : Int) (hn : l.length ≤ 35184372088832) (h0 : 0 ≤ v) (h1 : v ≤ 4611686018427387904) : Ev (fun k => laws_markShareS.f k l v) (v + 2 * (l.length : Int), marksSh v l.length) := by
  unfold laws_markShareS.f
  have := laws_markShareS.ev_l l.length v hn h0 h1 l.length 0 l (by omega) rfl (by simp)
  simpa using this

-- laws_markInt64S
theorem laws_markInt64S.ev_l (n : Nat) (v : Int) (hn : n ≤ 35184372088832) (h0 : 0 ≤ v) (h1 : v ≤ 4611686018427387904) : ∀ (d i : Nat) (m : List Int), i + d = n → m.length = n → m.take i = (marks v n).take i → Ev (fun k => laws_markInt64S.l0 k m (v + (i : Int)) (i : Int)) (v + (n : Int), marks v n) := by
  intro d
  induction d with
  | zero =>
    intro i m hi hm ht
    refine Ev.succ ?_
    simp only [laws_markInt64S.l0]
    rw [take_all (L := marks v n) (by rw [marks_length]; omega) (by rw [marks_length]; exact hm) ht]
    have : i = n := by omega
    subst this
    exact Ev.neg (by rw [marks_length]; omega) (Ev.now _)
  | succ d ih =>
    intro i m hi hm ht
    have hlt : i < m.length := by omega
    refine Ev.succ ?_
    simp only [laws_markInt64S.l0]
    rw [w64 (n := (i : Int) + 1) (by omega) (by omega), w64 (n := v + (i : Int) + 1) (by omega) (by omega)]
    refine Ev.pos (by omega) (Ev.pos (by omega) ?_)
    have hL : i < (marks v n).length := by rw [marks_length]; omega
    have := take_set (m := m) (L := marks v n) hL (by rw [marks_length]; exact hm) ht
    rw [marks_get] at this
    have e : v + (i : Int) + 1 = v + ((i + 1 : Nat) : Int) := by omega
    rw [e]
    exact ih (i + 1) _ (by omega) (by simpa using hm) this
theorem laws_markInt64S.ev (l : List Int) (v : Int) (hn : l.length ≤ 35184372088832) (h0 : 0 ≤ v) (h1 : v ≤ 4611686018427387904) : Ev (fun k => laws_markInt64S.f k l v) (v + (l.length : Int), marks v l.length) := by
  unfold laws_markInt64S.f
  have := laws_markInt64S.ev_l l.length v hn h0 h1 l.length 0 l (by omega) rfl (by simp)
  simpa using this

-- laws_heldInt64S
theorem laws_heldInt64S.ev_l (n : Nat) (v : Int) (hn : n ≤ 35184372088832) (h0 : 0 ≤ v) (h1 : v ≤ 4611686018427387904) : ∀ (d i : Nat), i + d = n → Ev (fun k => laws_heldInt64S.l0 k (marks v n) (v + (i : Int)) (i : Int)) (v + (n : Int)) := by
  intro d
  induction d with
  | zero =>
    intro i hi
    refine Ev.succ ?_
    simp only [laws_heldInt64S.l0]
    have : i = n := by omega
    subst this
    exact Ev.neg (by rw [marks_length]; omega) (Ev.now _)
  | succ d ih =>
    intro i hi
    refine Ev.succ ?_
    simp only [laws_heldInt64S.l0]
    have hL : i < (marks v n).length := by rw [marks_length]; omega
    rw [w64 (n := (i : Int) + 1) (by omega) (by omega), w64 (n := v + (i : Int) + 1) (by omega) (by omega), rd_get _ i hL, marks_get]
    refine Ev.pos (by rw [marks_length]; omega) (Ev.pos (by omega) (Ev.pos rfl ?_))
    have e : v + (i : Int) + 1 = v + ((i + 1 : Nat) : Int) := by omega
    rw [e]
    exact ih (i + 1) (by omega)
theorem laws_heldInt64S.ev (n : Nat) (v : Int) (hn : n ≤ 35184372088832) (h0 : 0 ≤ v) (h1 : v ≤ 4611686018427387904) : Ev (fun k => laws_heldInt64S.f k (marks v n) v) (v + (n : Int)) := by
  unfold laws_heldInt64S.f
  have := laws_heldInt64S.ev_l n v hn h0 h1 n 0 (by omega)
  simpa using this

end Go.Proofs.Ytonpikcbmgmchaa.PFnExactUnpackSecrets
