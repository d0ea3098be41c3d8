/- Lemmas on what the printed functions compute. -/
import Derived.Test.YtonpikcbmgmchaaMFnSecrecy
import Derived.Test.YtonpikcbmgmchaaIFnSecrecy
import Derived.Test.YtonpikcbmgmchaaPFnSecrecyx0
import Derived.Test.YtonpikcbmgmchaaPFnSecrecyx1
import Derived.Test.YtonpikcbmgmchaaPFnSecrecyx2
import Derived.Test.YtonpikcbmgmchaaPFnSecrecyx3
import Derived.Test.YtonpikcbmgmchaaPFnSecrecyx4
import Derived.Test.YtonpikcbmgmchaaPFnSecrecyx5
import Derived.Test.YtonpikcbmgmchaaPFnSecrecyx6
import Derived.Test.YtonpikcbmgmchaaPFnSecrecyx7
import Derived.Test.YtonpikcbmgmchaaPFnSecrecyx8
import Derived.Test.YtonpikcbmgmchaaPFnSecrecyx9
import Derived.Test.YtonpikcbmgmchaaPFnSecrecyx10
import Derived.Test.YtonpikcbmgmchaaPFnSecrecyx11
import Derived.Test.YtonpikcbmgmchaaPFnSecrecyx12
import Derived.Test.YtonpikcbmgmchaaPFnSecrecyx13
import Derived.Test.YtonpikcbmgmchaaPFnSecrecyx14
set_option linter.unusedVariables false
set_option linter.unusedSimpArgs false
set_option maxRecDepth 100000
namespace Go.Proofs.Ytonpikcbmgmchaa.PFnSecrecy
open Go.RowKit Go.Proofs.YtonpikcbmgmchaaW.PrintWords Go.Proofs.YtonpikcbmgmchaaW.PrintLast Go.Proofs.Ytonpikcbmgmchaa.M
theorem rd_T68_get (l : List (S68)) (i : Nat) (h : i < l.length) : rd_T68 l (i : Int) = l[i] := by simp [rd_T68, h]

-- words
theorem isPts_at (p : Int) (l : List Int) : (decide (l.length ≤ 10) && risesAt 1 (p - 1) l 0) = isPts p l := by
  rw [risesAt_all, isPts, Bool.and_comm (l.all _)]
def isSh (p : Int) (l : List S68) : Bool := isPr p && (isPts p (l.map (·.f0)) && allR p (l.map (·.f1)))
theorem isSh_of {p : Int} {l : List S68} (h : isSh p l = true) : isPr p = true ∧ isPts p (l.map (·.f0)) = true ∧ allR p (l.map (·.f1)) = true ∧ l.length ≤ 10 := by
  simp only [isSh, Bool.and_eq_true] at h
  refine ⟨h.1, h.2.1, h.2.2, ?_⟩
  have := h.2.1
  simp only [isPts, Bool.and_eq_true, decide_eq_true_eq, List.length_map] at this
  exact this.1
def dealM (p : Int) (c : List Int) (x : Int) : S68 := ⟨x, cval p c x⟩
def dealSM (p : Int) (c l : List Int) : List S68 × Int := if isCurve p c = true then (if isPts p l = true then (l.map (dealM p c), 0) else ([], 2)) else ([], 1)
theorem isPts_lt {p : Int} {l : List Int} (h : isPts p l = true) : l.length ≤ 10 ∧ ∀ x ∈ l, 0 ≤ x ∧ x < p := by
  simp only [isPts, Bool.and_eq_true, decide_eq_true_eq, List.all_eq_true] at h
  exact ⟨h.1, fun x hx => by have := h.2.2 x hx; omega⟩
theorem dealSM_len (p : Int) (c l : List Int) : (dealSM p c l).1.length ≤ 10 := by
  unfold dealSM
  split
  · split
    · rename_i h
      simp only [List.length_map]
      exact (isPts_lt h).1
    · simp
  · simp
def isBytes (l : List Int) : Prop := ∀ x ∈ l, 0 ≤ x ∧ x ≤ 255
theorem isBytes_of {l : List Int} (h : ∀ x ∈ l, (Lit.int .u8 x).wf = true) : isBytes l := fun x hx => wf8 (h x hx)
def inP (p : Int) (l : List Int) : Prop := l.Pairwise (· < ·) ∧ ∀ x ∈ l, 1 ≤ x ∧ x ≤ p - 1
theorem inP_put {p x : Int} {l : List Int} (h : inP p l) (hx : 1 ≤ x ∧ x ≤ p - 1) : inP p (putM l x) := by
  refine ⟨putM_pairwise x h.1, fun z hz => ?_⟩
  rcases (putM_mem z x l).1 hz with rfl | hz
  · exact hx
  · exact h.2 z hz
theorem mx_nat (a b : Nat) : mx (a : Int) (b : Int) = ((max a b : Nat) : Int) := by
  unfold mx
  split <;> omega
def openAtM (p : Int) (l : List S68) (x : Int) : Int × Int := if isSh p l = true then (if 0 ≤ x ∧ x ≤ p - 1 then (if l.length = 0 then (0, 4) else (dotM p (wM p (l.map (·.f0)) x) (l.map (·.f1)), 0)) else (0, 2)) else (0, 1)
theorem impl_areElements.at (p x : Int) (hp : isPr p = true) : (isPr p && allR p [x]) = decide (0 ≤ x ∧ x ≤ p - 1) := by
  rw [hp]; simp only [allR, List.all_cons, List.all_nil, Bool.and_true, Bool.true_and]; rfl
def cntAt (p : Int) (l : List S68) (g : Int) (s : Nat) : Int := if (l.length : Int) ≤ g then p ^ (g - (l.length : Int)).toNat else if ((throughM p ((0 : Int) :: l.map (·.f0)) ((s : Int) :: l.map (·.f1))).length : Int) ≤ g + 1 then 1 else 0
def countM (p : Int) (l : List S68) (g : Int) : List Int × Int := if isSh p l = true then (if 0 ≤ g ∧ g ≤ 6 then ((List.range p.toNat).map (cntAt p l g), 0) else ([], 2)) else ([], 1)
theorem countM_len (p : Int) (l : List S68) (g : Int) : (countM p l g).1.length ≤ 40 := by
  unfold countM
  split
  · rename_i h
    have := isPr_bd (isSh_of h).1
    split
    · simp; omega
    · simp
  · simp
theorem dst0 {p : Int} {l : List Int} (h : isPts p l = true) (hp : 2 ≤ p) : Dst p ((0 : Int) :: l) := by
  obtain ⟨h1, h2, h3⟩ := isPts_of h
  obtain ⟨_, k2, _⟩ := Dst.of_pts h
  refine ⟨by simp; omega, List.Pairwise.cons (fun x hx => by have := h3 x hx; omega) k2, fun x hx => ?_⟩
  rcases List.mem_cons.1 hx with rfl | hx
  · omega
  · have := h3 x hx; omega
theorem allR_consI {p a : Int} {l : List Int} (h0 : 0 ≤ a) (h1 : a < p) (h : allR p l = true) : allR p (a :: l) = true := by
  unfold allR at *
  rw [List.all_cons, h, Bool.and_true]
  simp only [inR, decide_eq_true_eq]
  omega
theorem pow_bd {p : Int} (h0 : 0 ≤ p) (h1 : p ≤ 31) : ∀ e : Nat, 0 ≤ p ^ e ∧ p ^ e ≤ 31 ^ e
  | 0 => by simp
  | e + 1 => by
    have := pow_bd h0 h1 e
    rw [Int.pow_succ, Int.pow_succ]
    exact mul_bd this.1 this.2 h0 h1
theorem pow7 : ∀ e : Fin 8, (31 : Int) ^ e.val ≤ 27512614111 := by decide
theorem pow_bd7 {p : Int} (h0 : 0 ≤ p) (h1 : p ≤ 31) (e : Nat) (he : e ≤ 7) : 0 ≤ p ^ e ∧ p ^ e ≤ 27512614111 := by
  have := pow_bd h0 h1 e
  have h7 := pow7 ⟨e, by omega⟩
  simp only at h7
  exact ⟨this.1, Int.le_trans this.2 h7⟩

-- spec_l05Places
theorem spec_l05Places.ev_l (l : List S68) (hl : l.length ≤ 8796093022208) : ∀ (d i : Nat) (acc : List Int), i + d = l.length → acc.length = i → Ev (fun k => spec_l05Places.l0 k l acc (i : Int)) (acc ++ (l.drop i).map (·.f0)) := by
  intro d
  induction d with
  | zero =>
    intro i acc hi ha
    refine Ev.succ ?_
    simp only [spec_l05Places.l0]
    rw [drop_end (by omega), List.map_nil, List.append_nil]
    exact Ev.neg (by omega) (Ev.now _)
  | succ d ih =>
    intro i acc hi ha
    have hlt : i < l.length := by omega
    refine Ev.succ ?_
    simp only [spec_l05Places.l0]
    refine Ev.pos (by omega) (Ev.pos (by omega) (Ev.pos (by omega) ?_))
    rw [rd_T68_get l i hlt, w64 (n := (i : Int) + 1) (by omega) (by omega), drop_get hlt, List.map_cons]
    refine Ev.eq (ih (i + 1) _ (by omega) (by simp [ha])) ?_
    rw [List.append_assoc]; rfl
theorem spec_l05Places.ev (l : List S68) (hl : l.length ≤ 8796093022208) : Ev (fun k => spec_l05Places.f k l) (l.map (·.f0)) := by
  unfold spec_l05Places.f
  exact Ev.eq (spec_l05Places.ev_l l hl l.length 0 [] (by omega) rfl) (by simp)

-- spec_l05Values
theorem spec_l05Values.ev_l (l : List S68) (hl : l.length ≤ 8796093022208) : ∀ (d i : Nat) (acc : List Int), i + d = l.length → acc.length = i → Ev (fun k => spec_l05Values.l0 k l acc (i : Int)) (acc ++ (l.drop i).map (·.f1)) := by
  intro d
  induction d with
  | zero =>
    intro i acc hi ha
    refine Ev.succ ?_
    simp only [spec_l05Values.l0]
    rw [drop_end (by omega), List.map_nil, List.append_nil]
    exact Ev.neg (by omega) (Ev.now _)
  | succ d ih =>
    intro i acc hi ha
    have hlt : i < l.length := by omega
    refine Ev.succ ?_
    simp only [spec_l05Values.l0]
    refine Ev.pos (by omega) (Ev.pos (by omega) (Ev.pos (by omega) ?_))
    rw [rd_T68_get l i hlt, w64 (n := (i : Int) + 1) (by omega) (by omega), drop_get hlt, List.map_cons]
    refine Ev.eq (ih (i + 1) _ (by omega) (by simp [ha])) ?_
    rw [List.append_assoc]; rfl
theorem spec_l05Values.ev (l : List S68) (hl : l.length ≤ 8796093022208) : Ev (fun k => spec_l05Values.f k l) (l.map (·.f1)) := by
  unfold spec_l05Values.f
  exact Ev.eq (spec_l05Values.ev_l l hl l.length 0 [] (by omega) rfl) (by simp)

-- spec_l00In
theorem spec_l00In.eq (a b c : Int) : spec_l00In.f a b c = some (decide (b ≤ a ∧ a ≤ c)) := by
  unfold spec_l00In.f
  by_cases h : a ≥ b
  · have : b ≤ a := h
    simp [h, this]
  · have : ¬ b ≤ a := h
    simp [this]

-- spec_l05Residues
theorem spec_l05Residues.ev_l (p : Int) (hp : -9223372036854775807 ≤ p) (hp' : p ≤ 9223372036854775807) (l : List Int) (hl : l.length ≤ 9223372036854775806) : ∀ (d i : Nat), i + d = l.length → Ev (fun k => spec_l05Residues.l0 k p l (i : Int)) (allR p (l.drop i)) := by
  intro d
  induction d with
  | zero =>
    intro i hi
    refine Ev.succ ?_
    simp only [spec_l05Residues.l0]
    rw [List.drop_of_length_le (by omega)]
    exact Ev.neg (by omega) (Ev.now _)
  | succ d ih =>
    intro i hi
    refine Ev.succ ?_
    simp only [spec_l05Residues.l0, spec_l00In.eq, Option.bind_some]
    refine Ev.pos (by omega) (Ev.pos (by omega) ?_)
    have hlt : i < l.length := by omega
    rw [rd_get l i hlt, w64 (n := p - 1) (by omega) (by omega), w64 (n := (i : Int) + 1) (by omega) (by omega), List.drop_eq_getElem_cons hlt]
    simp only [allR, List.all_cons]
    have hin : inR p l[i] = decide (0 ≤ l[i] ∧ l[i] ≤ p - 1) := rfl
    rw [hin]
    by_cases hx : 0 ≤ l[i] ∧ l[i] ≤ p - 1
    · rw [decide_eq_true hx]
      refine Ev.pos rfl ?_
      rw [Bool.true_and]
      exact ih (i + 1) (by omega)
    · rw [decide_eq_false hx]
      exact Ev.neg (by decide) (Ev.now _)
theorem spec_l05Residues.ev (p : Int) (hp : -9223372036854775807 ≤ p) (hp' : p ≤ 9223372036854775807) (l : List Int) (hl : l.length ≤ 9223372036854775806) : Ev (fun k => spec_l05Residues.f k p l) (allR p l) := by
  have := spec_l05Residues.ev_l p hp hp' l hl l.length 0 (by omega)
  simpa [spec_l05Residues.f] using this

-- spec_l00Rises
theorem spec_l00Rises.ev_l (lo hi : Int) (l : List Int) (hl : l.length ≤ 35184372088832) : ∀ (d i : Nat), i + d = l.length → Ev (fun k => spec_l00Rises.l0 k l lo hi (i : Int)) (risesAt lo hi l i) := by
  intro d
  induction d with
  | zero =>
    intro i hi
    refine Ev.succ ?_
    simp only [spec_l00Rises.l0]
    rw [risesAt_end _ _ _ _ (by omega)]
    exact Ev.neg (by omega) (Ev.now _)
  | succ d ih =>
    intro i hd
    have hlt : i < l.length := by omega
    refine Ev.succ ?_
    simp only [spec_l00Rises.l0]
    have hn := ih (i + 1) (by omega)
    rw [rd_get l i hlt, spec_l00In.eq, w64 (n := (i : Int) + 1) (by omega) (by omega)]
    refine Ev.pos (by omega) (Ev.pos (by omega) (Ev.bindc rfl ?_))
    cases i with
    | zero =>
      rw [risesAt_zero _ _ _ hlt]
      cases hc : decide (lo ≤ l[0] ∧ l[0] ≤ hi) with
      | false => exact Ev.neg Bool.false_ne_true (Ev.now _)
      | true => exact Ev.pos rfl (Ev.neg (by omega) (by rw [Bool.true_and]; exact hn))
    | succ j =>
      rw [risesAt_succ _ _ _ _ hlt]
      cases hc : decide (lo ≤ l[j + 1] ∧ l[j + 1] ≤ hi) with
      | false => exact Ev.neg Bool.false_ne_true (Ev.now _)
      | true =>
        have e : ((j + 1 : Nat) : Int) - 1 = (j : Int) := by omega
        rw [w64 (n := ((j + 1 : Nat) : Int) - 1) (by omega) (by omega), e, rd_get l j (by omega), Bool.true_and]
        refine Ev.pos rfl (Ev.pos (by omega) (Ev.pos (by omega) (Ev.pos (by omega) ?_)))
        by_cases hx : l[j] < l[j + 1]
        · rw [decide_eq_true hx, Bool.true_and]
          exact Ev.neg (by omega) hn
        · rw [decide_eq_false hx, Bool.false_and]
          exact Ev.pos (by omega) (Ev.now _)

-- spec_l05Points
theorem spec_l05Points.ev (p : Int) (hp : -9223372036854775807 ≤ p) (hp' : p ≤ 9223372036854775807) (l : List Int) (hl : l.length ≤ 35184372088832) : Ev (fun k => spec_l05Points.f k p l) (isPts p l) := by
  unfold spec_l05Points.f spec_l00Rises.f
  rw [w64 (n := p - 1) (by omega) (by omega), ← isPts_at]
  by_cases h : l.length ≤ 10
  · rw [decide_eq_true h, Bool.true_and]
    exact Ev.pos (by omega) (Ev.bind (spec_l00Rises.ev_l 1 (p - 1) l hl l.length 0 (by omega)) (Ev.now _))
  · rw [decide_eq_false h, Bool.false_and]
    exact Ev.neg (by omega) (Ev.now _)

-- spec_l05Prime
theorem spec_l05Prime.small : ∀ n : Fin 32, 2 ≤ n.val → spec_l05Prime.f 40 (n.val : Int) = some (isPr (n.val : Int)) := by decide +kernel
theorem spec_l05Prime.ev (p : Int) : Ev (fun k => spec_l05Prime.f k p) (isPr p) := by
  by_cases h : 2 ≤ p ∧ p ≤ 31
  · obtain ⟨n, rfl⟩ : ∃ n : Nat, p = n := ⟨p.toNat, by omega⟩
    exact Ev.of (fun k => spec_l05Prime.mono _ k) (spec_l05Prime.small ⟨n, by omega⟩ (by simp only; omega))
  · have e : isPr p = false := by
      rcases (show p < 2 ∨ 2 ≤ p by omega) with h1 | h1
      · exact isPr_small h1
      · exact isPr_big (by omega)
    rw [e]
    refine Ev.congr (f := fun _ => some false) (fun k => ?_) (Ev.now _)
    unfold spec_l05Prime.f
    rw [spec_l00In.eq, decide_eq_false h]
    rfl

-- spec_ValidShares
theorem spec_ValidShares.ev (p : Int) (l : List S68) (hl : l.length ≤ 8796093022208) : Ev (fun k => spec_ValidShares.f k p l) (isSh p l) := by
  unfold spec_ValidShares.f isSh
  refine Ev.bind (spec_l05Prime.ev p) ?_
  cases h : isPr p with
  | false => exact Ev.neg Bool.false_ne_true (Ev.now _)
  | true =>
    have := isPr_bd h
    refine Ev.pos rfl (Ev.bind (spec_l05Places.ev l hl) (Ev.bind (spec_l05Points.ev p (by omega) (by omega) _ (by simp; omega)) ?_))
    cases h2 : isPts p (l.map (·.f0)) with
    | false => exact Ev.neg Bool.false_ne_true (Ev.now _)
    | true => exact Ev.pos rfl (Ev.bind (spec_l05Values.ev l hl) (Ev.bind (spec_l05Residues.ev p (by omega) (by omega) _ (by simp; omega)) (Ev.now _)))

-- spec_l05Rest
theorem spec_l05Rest.eq (a p : Int) (hp : 0 < p) (hp' : p ≤ 31) : spec_l05Rest.f a p = some (a % p) := by
  unfold spec_l05Rest.f
  rw [if_neg (by omega), rest_eq hp hp']

-- spec_l00Own
theorem spec_l00Own.eq (l : List Int) (hl : l.length < 17592186044416) : spec_l00Own.f l = some l := by
  unfold spec_l00Own.f
  rw [Option.bind_some, if_pos (by simpa using hl), List.nil_append]

-- spec_l05Cut
theorem spec_l05Cut.ev_l (l : List Int) (hl : l.length ≤ 8796093022208) : ∀ (n : Nat), n ≤ l.length → Ev (fun k => spec_l05Cut.l0 k l (n : Int)) (cutTo l n) := by
  intro n
  induction n with
  | zero =>
    intro hn
    refine Ev.succ ?_
    simp only [spec_l05Cut.l0]
    refine Ev.neg (by omega) (Ev.pos (by omega) (Ev.pos (by omega) (Ev.bindc (spec_l00Own.eq _ (by simp)) (Ev.eq (Ev.now _) ?_))))
    simp [cutTo]
  | succ n ih =>
    intro hn
    have hlt : n < l.length := by omega
    have e : ((n + 1 : Nat) : Int) - 1 = (n : Int) := by omega
    refine Ev.succ ?_
    simp only [spec_l05Cut.l0]
    rw [w64 (n := ((n + 1 : Nat) : Int) - 1) (by omega) (by omega), e, rd_get l n hlt]
    refine Ev.pos (by omega) (Ev.pos (by omega) (Ev.pos (by omega) ?_))
    unfold cutTo
    rw [getD_get l n 0 hlt]
    by_cases h : l[n] = 0
    · rw [if_pos h]
      exact Ev.pos h (ih (by omega))
    · rw [if_neg h]
      refine Ev.neg h (Ev.pos (by omega) (Ev.pos (by omega) (Ev.bindc (spec_l00Own.eq _ (by simp; omega)) (Ev.eq (Ev.now _) ?_))))
      rfl
theorem spec_l05Cut.ev (l : List Int) (hl : l.length ≤ 8796093022208) : Ev (fun k => spec_l05Cut.f k l) (stripM l) := by
  unfold spec_l05Cut.f
  exact spec_l05Cut.ev_l l hl l.length (Nat.le_refl _)

-- spec_l05Inverse
theorem spec_l05Inverse.small : ∀ p a : Fin 32, isPr (p.val : Int) = true → a.val < p.val → spec_l05Inverse.f 40 (a.val : Int) (p.val : Int) = some (invM p.val a.val) := by decide +kernel
theorem spec_l05Inverse.ev {p a : Int} (hp : isPr p = true) (h0 : 0 ≤ a) (h1 : a < p) : Ev (fun k => spec_l05Inverse.f k a p) (invM p a) := by
  have hb := isPr_bd hp
  obtain ⟨p, rfl⟩ : ∃ n : Nat, p = n := ⟨p.toNat, by omega⟩
  obtain ⟨a, rfl⟩ : ∃ n : Nat, a = n := ⟨a.toNat, by omega⟩
  exact Ev.of (fun k => spec_l05Inverse.mono _ _ k) (spec_l05Inverse.small ⟨p, by omega⟩ ⟨a, by omega⟩ hp (by simp only; omega))

-- spec_l05Padded
theorem spec_l05Padded.ev_l (p t : Int) (hp : 0 < p) (hp' : p ≤ 31) (ht : 0 ≤ t ∧ t < p) (a b : List Int) (ha : allR p a = true) (hb : allR p b = true) (hla : a.length ≤ 100) (hlb : b.length ≤ 100) :
    ∀ (d i : Nat) (o : List Int), i + d = b.length → o.length = max a.length i → (∀ j, o.getD j 0 = if j < i then addAt p t a b j else a.getD j 0) → Ev (fun k => spec_l05Padded.l0 k p b t o (i : Int)) (addC p t a b) := by
  intro d
  induction d with
  | zero =>
    intro i o hi ho hv
    have e : o = addC p t a b := by
      apply List.ext_getElem
      · rw [addC_length]; omega
      · intro j h1 h2
        have := hv j
        rw [getD_get o j 0 h1] at this
        rw [this, addC_get]
        split
        · rfl
        · rename_i h
          have := allR_getD hp ha j
          unfold addAt
          rw [getD_end b j 0 (by omega), Int.zero_mul, Int.add_zero, Int.emod_eq_of_lt this.1 this.2]
    refine Ev.succ ?_
    simp only [spec_l05Padded.l0]
    rw [e]
    exact Ev.neg (by omega) (Ev.now _)
  | succ d ih =>
    intro i o hi ho hv
    have hlt : i < b.length := by omega
    have r1 := allR_get hb i hlt
    have r2 := allR_getD hp ha i
    have m := mul_bd r1.1 (show _ ≤ 31 by omega) ht.1 (show t ≤ 31 by omega)
    refine Ev.succ ?_
    simp only [spec_l05Padded.l0, Option.bind_some]
    rw [rd_get b i hlt, w64 (n := (i : Int) + 1) (by omega) (by omega), w64 (n := b[i] * t) (by omega) (by omega)]
    refine Ev.pos (by omega) ?_
    have fin : ∀ o' : List Int, i < o'.length → o'.length = max a.length (i + 1) → (∀ j, o'.getD j 0 = o.getD j 0) → rd o' (i : Int) = a.getD i 0 ∧ Ev (fun k => spec_l05Padded.l0 k p b t (o'.set (i : Int).toNat ((a.getD i 0 + b[i] * t) % p)) ((i + 1 : Nat) : Int)) (addC p t a b) := by
      intro o' h1 h2 h3
      refine ⟨?_, ih (i + 1) _ (by omega) (by simpa using h2) ?_⟩
      · rw [rd_nat, h3, hv]
        simp
      · intro j
        rw [Int.toNat_natCast]
        by_cases hj : j = i
        · subst hj
          rw [lset_eq _ _ _ _ h1, if_pos (by omega)]
          unfold addAt
          rw [getD_get b j 0 hlt]
        · rw [lset_ne _ _ _ _ _ (fun e => hj e.symm), h3, hv]
          by_cases h : j < i
          · rw [if_pos h, if_pos (by omega)]
          · rw [if_neg h, if_neg (by omega)]
    by_cases hio : i = o.length
    · have hz : ∀ j, (o ++ [0]).getD j 0 = o.getD j 0 := by
        intro j
        rcases Nat.lt_trichotomy j o.length with h | h | h
        · simp [List.getD_eq_getElem?_getD, List.getElem?_append_left h]
        · subst h; simp
        · rw [getD_end _ _ _ (by simp; omega), getD_end _ _ _ (by omega)]
      obtain ⟨f1, f2⟩ := fin (o ++ [0]) (by simp; omega) (by simp; omega) hz
      refine Ev.pos (by omega) (Ev.pos (by omega) (Ev.pos (by omega) (Ev.pos (by simp; omega) (Ev.neg (by omega) ?_))))
      rw [f1, w64 (n := a.getD i 0 + b[i] * t) (by omega) (by omega), tmod_of (by omega)]
      exact f2
    · obtain ⟨f1, f2⟩ := fin o (by omega) (by omega) (fun _ => rfl)
      refine Ev.neg (by omega) (Ev.pos (by omega) (Ev.pos (by omega) (Ev.neg (by omega) ?_)))
      rw [f1, w64 (n := a.getD i 0 + b[i] * t) (by omega) (by omega), tmod_of (by omega)]
      exact f2
theorem spec_l05Padded.ev (p t : Int) (hp : 0 < p) (hp' : p ≤ 31) (ht : 0 ≤ t ∧ t < p) (a b : List Int) (ha : allR p a = true) (hb : allR p b = true) (hla : a.length ≤ 100) (hlb : b.length ≤ 100) : Ev (fun k => spec_l05Padded.f k p a b t) (addC p t a b) := by
  unfold spec_l05Padded.f
  refine Ev.bindc (spec_l00Own.eq a (by omega)) ?_
  exact spec_l05Padded.ev_l p t hp hp' ht a b ha hb hla hlb b.length 0 a (by omega) (by omega) (fun j => by simp)

-- spec_l05Through
theorem spec_l05Through.mul_l (p : Int) (hp : isPr p = true) (P V : List Int) (hP : Dst p P) (o part : List Int) (i x : Nat) (hi : i < P.length) (hx : x < P.length) (b : Int) (h0 : 0 ≤ b) (h1 : b < p) (hr : allR p part = true) (hl : part.length ≤ 50) (R : List Int)
    (hout : Ev (fun k => spec_l05Through.l1 k p P V o (i : Int) (mulLin p part P[x]) (byS p P[i] b P[x]) ((x + 1 : Nat) : Int)) R) :
    ∀ (d j : Nat) (n : List Int), j + d = part.length → n.length = part.length + 1 → (∀ m, n.getD m 0 = if m < j then mulAt p P[x] part m else if m = j then (if j = 0 then 0 else part.getD (j - 1) 0) else 0) → Ev (fun k => spec_l05Through.l2 k p P V o (i : Int) part b (x : Int) n (j : Int)) R := by
  have hb := isPr_bd hp
  obtain ⟨hl10, hris, hmem⟩ := id hP
  have c1 := hmem _ (List.getElem_mem hx)
  have c2 := hmem _ (List.getElem_mem hi)
  intro d
  induction d with
  | zero =>
    intro j n hj hn hv
    refine Ev.succ ?_
    simp only [spec_l05Through.l2]
    have e : n = mulLin p part P[x] := by
      apply ext_getD
      · rw [mulLin_length, hn]
      · intro m hm
        rw [mulLin_getD _ _ _ _ (by omega), hv m]
        split
        · rfl
        · rw [if_pos (by omega)]
          unfold mulAt
          have : part.getD m 0 = 0 := getD_end _ _ _ (by omega)
          rw [this, Int.zero_mul, Int.add_zero]
          have hm2 : m = j := by omega
          subst hm2
          split
          · rfl
          · have := allR_getD (p := p) (by omega) hr (m - 1)
            rw [Int.emod_eq_of_lt this.1 this.2]
    have e2 := emod_bd (p := p) (by omega) (P[i] - P[x])
    have e3 := invM_bd hp e2.1 e2.2
    have m2 := mul_bd h0 (show b ≤ 31 by omega) e3.1 (show _ ≤ 31 by omega)
    rw [rd_get P i hi, rd_get P x hx, w64 (n := P[i] - P[x]) (by omega) (by omega), w64 (n := (x : Int) + 1) (by omega) (by omega)]
    refine Ev.neg (by omega) (Ev.pos (by omega) (Ev.pos (by omega) (Ev.pos (by omega) (Ev.pos (by omega) (Ev.bindc (spec_l05Rest.eq _ _ (by omega) (by omega)) (Ev.bind (spec_l05Inverse.ev hp e2.1 e2.2) (Ev.neg (by omega) ?_)))))))
    rw [w64 (by omega) (by omega), tmod_of m2.1, e]
    exact hout
  | succ d ih =>
    intro j n hj hn hv
    have hlt : j < part.length := by omega
    have r1 := allR_get hr j hlt
    have e1 := emod_bd (p := p) (by omega) (-P[x])
    have m1 := mul_bd r1.1 (show _ ≤ 31 by omega) e1.1 (show _ ≤ 31 by omega)
    have hj1 : rd n ((j : Int) + 1) = 0 := by
      have : ((j : Int) + 1) = ((j + 1 : Nat) : Int) := by omega
      rw [this, rd_nat, hv]
      rw [if_neg (by omega), if_neg (by omega)]
    have hset : (n.set (j + 1) part[j]).length = n.length := by simp
    have hj0 : rd (n.set (j + 1) part[j]) (j : Int) = if j = 0 then 0 else part.getD (j - 1) 0 := by
      rw [rd_nat, lset_ne _ _ _ _ _ (by omega), hv, if_neg (by omega), if_pos rfl]
    have b0 : 0 ≤ (if j = 0 then (0 : Int) else part.getD (j - 1) 0) ∧ (if j = 0 then (0 : Int) else part.getD (j - 1) 0) < p := by
      split
      · omega
      · exact allR_getD (by omega) hr _
    refine Ev.succ ?_
    simp only [spec_l05Through.l2, Option.bind_some]
    rw [rd_get part j hlt, rd_get P x hx, w64 (n := (j : Int) + 1) (by omega) (by omega), hj1, Int.zero_add, w64 (n := part[j]) (by omega) (by omega), tmod_of r1.1, Int.emod_eq_of_lt r1.1 r1.2, show ((j : Int) + 1).toNat = j + 1 by omega, Int.toNat_natCast, hj0, w64 (n := -P[x]) (by omega) (by omega)]
    refine Ev.pos (by omega) (Ev.pos (by omega) (Ev.pos (by omega) (Ev.pos (by omega) (Ev.neg (by omega) (Ev.pos (by omega) (Ev.pos (by omega) (Ev.pos (by omega) (Ev.bindc (spec_l05Rest.eq _ _ (by omega) (by omega)) ?_))))))))
    rw [w64 (n := part[j] * ((-P[x]) % p)) (by omega) (by omega), w64 (by omega) (by omega), tmod_of (by omega)]
    refine ih (j + 1) _ (by omega) (by simpa using hn) ?_
    intro m
    by_cases hm : m = j
    · subst hm
      rw [lset_eq _ _ _ _ (by simp; omega), if_pos (show m < m + 1 by omega)]
      unfold mulAt
      rw [getD_get part m 0 hlt]
    · rw [lset_ne _ _ _ _ _ (fun e => hm e.symm)]
      by_cases hm1 : m = j + 1
      · subst hm1
        rw [lset_eq _ _ _ _ (by omega), if_neg (by omega), if_pos rfl, if_neg (by omega), Nat.add_sub_cancel, getD_get part j 0 hlt]
      · rw [lset_ne _ _ _ _ _ (fun e => hm1 e.symm), hv]
        by_cases h : m < j
        · rw [if_pos h, if_pos (by omega)]
        · rw [if_neg h, if_neg hm, if_neg (by omega), if_neg hm1]
theorem spec_l05Through.in_l (p : Int) (hp : isPr p = true) (P V : List Int) (hP : Dst p P) (o : List Int) (ho : allR p o = true) (hlo : o.length ≤ 50) (i : Nat) (hi : i < P.length) (R : List Int → Int → List Int)
    (hout : ∀ part b, allR p part = true → part.length ≤ P.length + 1 → 0 ≤ b → b < p → Ev (fun k => spec_l05Through.l0 k p P V (addC p b o part) ((i + 1 : Nat) : Int)) (R part b)) :
    ∀ (d j : Nat) (part : List Int) (b : Int), j + d = P.length → allR p part = true → part.length ≤ j + 1 → 0 ≤ b → b < p → Ev (fun k => spec_l05Through.l1 k p P V o (i : Int) part b (j : Int)) (R (skipFold (mulLin p) i j (P.drop j) part) (skipFold (byS p (P.getD i 0)) i j (P.drop j) b)) := by
  have hb := isPr_bd hp
  obtain ⟨hl10, hris, hmem⟩ := id hP
  intro d
  induction d with
  | zero =>
    intro j part b hj hr hl h0 h1
    refine Ev.succ ?_
    simp only [spec_l05Through.l1]
    rw [drop_end (by omega), w64 (n := (i : Int) + 1) (by omega) (by omega)]
    exact Ev.neg (by omega) (Ev.bind (spec_l05Padded.ev p b (by omega) (by omega) ⟨h0, h1⟩ o part ho hr (by omega) (by omega)) (hout part b hr (by omega) h0 h1))
  | succ d ih =>
    intro j part b hj hr hl h0 h1
    have hlt : j < P.length := by omega
    refine Ev.succ ?_
    simp only [spec_l05Through.l1]
    rw [drop_get hlt, skipFold_cons, skipFold_cons]
    refine Ev.pos (by omega) ?_
    by_cases hji : j = i
    · rw [if_pos hji, if_pos hji, w64 (n := (j : Int) + 1) (by omega) (by omega)]
      exact Ev.pos (by omega) (ih (j + 1) part b (by omega) hr (by omega) h0 h1)
    · rw [if_neg hji, if_neg hji]
      rw [w64 (n := (part.length : Int) + 1) (by omega) (by omega), show ((part.length : Int) + 1).toNat = part.length + 1 by omega]
      refine Ev.neg (by omega) (Ev.pos (by omega) (Ev.pos (by omega) ?_))
      have e2 := emod_bd (p := p) (by omega) (b * invM p ((P[i] - P[j]) % p))
      have hgi : P.getD i 0 = P[i] := getD_get _ _ _ hi
      refine spec_l05Through.mul_l p hp P V hP o part i j hi hlt b h0 h1 hr (by omega) _ ?_ part.length 0 _ (by omega) (by simp) ?_
      · rw [hgi] at ih ⊢
        exact ih (j + 1) _ _ (by omega) (mulLin_all (by omega) _ _) (by rw [mulLin_length]; omega) e2.1 e2.2
      · intro m
        rcases Nat.lt_or_ge m (part.length + 1) with h | h
        · rw [getD_get _ _ _ (by simpa using h)]; simp
        · rw [getD_end _ _ _ (by simpa using h)]; simp
theorem spec_l05Through.ev_l (p : Int) (hp : isPr p = true) (P V : List Int) (hP : Dst p P) (hV : allR p V = true) (hl : P.length = V.length) :
    ∀ (d i : Nat) (o : List Int), i + d = P.length → allR p o = true → o.length ≤ P.length + 1 → Ev (fun k => spec_l05Through.l0 k p P V o (i : Int)) (stripM (thrFrom p P V d i o)) := by
  have hb := isPr_bd hp
  obtain ⟨hl10, hris, hmem⟩ := id hP
  intro d
  induction d with
  | zero =>
    intro i o hi ho hlo
    refine Ev.succ ?_
    simp only [spec_l05Through.l0]
    exact Ev.neg (by omega) (Ev.bind (spec_l05Cut.ev o (by omega)) (Ev.now _))
  | succ d ih =>
    intro i o hi ho hlo
    refine Ev.succ ?_
    simp only [spec_l05Through.l0]
    have hv : i < V.length := by omega
    have r := allR_get hV i hv
    rw [rd_get V i hv]
    refine Ev.pos (by omega) (Ev.pos (by omega) (Ev.pos (by omega) ?_))
    have hgv : V.getD i 0 = V[i] := getD_get _ _ _ hv
    have := spec_l05Through.in_l p hp P V hP o ho (by omega) i (by omega) (fun part b => stripM (thrFrom p P V d (i + 1) (addC p b o part)))
      (fun part b h1 h2 h3 h4 => ih (i + 1) _ (by omega) (addC_all (by omega) _ _ _) (by rw [addC_length]; omega)) P.length 0 [1] V[i] (by omega) (by simp [allR, inR]; omega) (by simp) r.1 r.2
    rw [← hgv] at this
    rw [← hgv]
    exact this
theorem spec_l05Through.ev (p : Int) (hp : isPr p = true) (P V : List Int) (hP : Dst p P) (hV : allR p V = true) (hl : P.length = V.length) : Ev (fun k => spec_l05Through.f k p P V) (throughM p P V) := by
  unfold spec_l05Through.f
  exact spec_l05Through.ev_l p hp P V hP hV hl P.length 0 [] (by omega) rfl (by simp)

-- spec_l05Lies
theorem spec_l05Lies.ev (p : Int) (hp : isPr p = true) (P V : List Int) (hP : Dst p P) (hV : allR p V = true) (hl : P.length = V.length) (g : Int) (h0 : -1 ≤ g) (h1 : g ≤ 6) : Ev (fun k => spec_l05Lies.f k p P V g) (decide (((throughM p P V).length : Int) ≤ g + 1)) := by
  unfold spec_l05Lies.f
  rw [w64 (n := g + 1) (by omega) (by omega)]
  exact Ev.bind (spec_l05Through.ev p hp P V hP hV hl) (Ev.now _)

-- spec_CountSecrets
theorem spec_CountSecrets.l1_ev (p : Int) (l : List S68) (g : Int) (hs : isSh p l = true) (hg : 0 ≤ g ∧ g ≤ 6) (w : Int) (hw : w = if (l.length : Int) ≤ g then p ^ (g - (l.length : Int)).toNat else 1) :
    ∀ (d i : Nat) (acc : List Int), i + d = p.toNat → acc.length = i → Ev (fun k => spec_CountSecrets.l1 k p l g (l.length : Int) w ([0] ++ l.map (·.f0)) acc (i : Int)) (acc ++ ((List.range p.toNat).map (cntAt p l g)).drop i, 0) := by
  obtain ⟨h1, h2, h3, h4⟩ := isSh_of hs
  have hb := isPr_bd h1
  intro d
  induction d with
  | zero =>
    intro i acc hi ha
    refine Ev.succ ?_
    simp only [spec_CountSecrets.l1]
    rw [drop_end (by simp; omega), List.append_nil]
    exact Ev.neg (by omega) (Ev.now _)
  | succ d ih =>
    intro i acc hi ha
    have nx : ∀ v, v = cntAt p l g i → Ev (fun k => spec_CountSecrets.l1 k p l g (l.length : Int) w ([0] ++ l.map (·.f0)) (acc ++ [v]) ((i + 1 : Nat) : Int)) (acc ++ ((List.range p.toNat).map (cntAt p l g)).drop i, 0) := by
      intro v hv
      refine Ev.eq (ih (i + 1) _ (by omega) (by simp [ha])) ?_
      rw [range_map_drop (cntAt p l g) p.toNat i (by omega), List.append_assoc, hv]
      rfl
    refine Ev.succ ?_
    simp only [spec_CountSecrets.l1, Option.bind_some]
    rw [w64 (n := (i : Int) + 1) (by omega) (by omega)]
    refine Ev.pos (by omega) ?_
    by_cases hlg : (l.length : Int) ≥ g
    · have len2 := through_len2 p ((0 : Int) :: l.map (·.f0)) ((i : Int) :: l.map (·.f1))
      simp only [List.length_cons, List.length_map] at len2
      refine Ev.pos hlg (Ev.bind (spec_l05Values.ev l (by omega)) (Ev.pos (by simp; omega) (Ev.bind (spec_l05Lies.ev p h1 _ _ (dst0 h2 (by omega)) (allR_consI (by omega) (by omega) h3) (by simp) g (by omega) (by omega)) ?_)))
      by_cases ht : ((throughM p ((0 : Int) :: l.map (·.f0)) ((i : Int) :: l.map (·.f1))).length : Int) ≤ g + 1
      · refine Ev.pos (decide_eq_true ht) (Ev.pos (by omega) (nx _ ?_))
        unfold cntAt
        rw [hw]
        split
        · rfl
        · first | rfl | rw [if_pos ht]
      · refine Ev.neg (by rw [decide_eq_false ht]; exact Bool.false_ne_true) (Ev.pos (by omega) (nx _ ?_))
        unfold cntAt
        rw [if_neg (by omega), if_neg ht]
    · refine Ev.neg hlg (Ev.pos (by omega) (nx _ ?_))
      unfold cntAt
      rw [hw, if_pos (by omega), if_pos (by omega)]
theorem spec_CountSecrets.l0_ev (p : Int) (l : List S68) (g : Int) (hg6 : g ≤ 6) (hs : isSh p l = true) (w : Int) (R : List Int × Int) (hout : Ev (fun k => spec_CountSecrets.l1 k p l g (l.length : Int) w ([0] ++ l.map (·.f0)) [] 0) R) :
    ∀ (d e i : Nat), (((i + d : Nat) : Int) = g ∨ (d = 0 ∧ g ≤ (i : Int))) → e + d ≤ 7 → p ^ (e + d) = w → Ev (fun k => spec_CountSecrets.l0 k p l g (l.length : Int) (p ^ e) (i : Int)) R := by
  obtain ⟨h1, h2, h3, h4⟩ := isSh_of hs
  have hb := isPr_bd h1
  intro d
  induction d with
  | zero =>
    intro e i hi he hw
    refine Ev.succ ?_
    simp only [spec_CountSecrets.l0, Option.bind_some]
    rw [Nat.add_zero] at hw
    rw [hw]
    exact Ev.neg (by omega) (Ev.bind (spec_l05Places.ev l (by omega)) (Ev.pos (by simp; omega) hout))
  | succ d ih =>
    intro e i hi he hw
    have b := pow_bd7 (p := p) (by omega) (by omega) (e + 1) (by omega)
    refine Ev.succ ?_
    simp only [spec_CountSecrets.l0]
    rw [Int.pow_succ] at b
    rw [w64 (n := (i : Int) + 1) (by omega) (by omega), w64 (n := p ^ e * p) (by omega) (by omega), ← Int.pow_succ]
    exact Ev.pos (by omega) (ih (e + 1) (i + 1) (by omega) (by omega) (by rw [← hw]; congr 1; omega))
theorem spec_CountSecrets.ev (p : Int) (l : List S68) (g : Int) (hl : l.length ≤ 8796093022208) : Ev (fun k => spec_CountSecrets.f k p l g) (countM p l g) := by
  unfold spec_CountSecrets.f countM
  refine Ev.bind (spec_ValidShares.ev p l hl) ?_
  by_cases hc : isSh p l = true
  · obtain ⟨h1, h2, h3, h4⟩ := isSh_of hc
    have hb := isPr_bd h1
    rw [if_pos hc]
    refine Ev.pos hc (Ev.bindc (spec_l00In.eq _ _ _) ?_)
    by_cases hx : 0 ≤ g ∧ g ≤ 6
    · rw [if_pos hx]
      refine Ev.pos (decide_eq_true hx) ?_
      have one : (1 : Int) = p ^ 0 := by simp
      rw [one]
      by_cases hlg : (l.length : Int) ≤ g
      · refine spec_CountSecrets.l0_ev p l g hx.2 hc (p ^ (g - (l.length : Int)).toNat) _ ?_ (g - (l.length : Int)).toNat 0 l.length (by omega) (by omega) (by rw [Nat.zero_add])
        have := spec_CountSecrets.l1_ev p l g hc hx (p ^ (g - (l.length : Int)).toNat) (by rw [if_pos hlg]) p.toNat 0 [] (by omega) rfl
        simpa using this
      · refine spec_CountSecrets.l0_ev p l g hx.2 hc 1 _ ?_ 0 0 l.length (by omega) (by omega) (by simp)
        have := spec_CountSecrets.l1_ev p l g hc hx 1 (by rw [if_neg hlg]) p.toNat 0 [] (by omega) rfl
        simpa using this
    · rw [if_neg hx]
      exact Ev.neg (by rw [decide_eq_false hx]; exact Bool.false_ne_true) (Ev.now _)
  · rw [if_neg hc]
    exact Ev.neg hc (Ev.now _)

-- impl_within
theorem impl_within.eq (a b c : Int) : impl_within.f a b c = some (decide (b ≤ a ∧ a ≤ c)) := by
  unfold impl_within.f
  by_cases h : a ≥ b
  · have : b ≤ a := h
    simp [h, this]
  · have : ¬ b ≤ a := h
    simp [this]

-- impl_IsPrime
theorem impl_IsPrime.small : ∀ n : Fin 32, 2 ≤ n.val → impl_IsPrime.f 40 (n.val : Int) = some (isPr (n.val : Int)) := by decide +kernel
theorem impl_IsPrime.ev (p : Int) : Ev (fun k => impl_IsPrime.f k p) (isPr p) := by
  by_cases h : 2 ≤ p ∧ p ≤ 31
  · obtain ⟨n, rfl⟩ : ∃ n : Nat, p = n := ⟨p.toNat, by omega⟩
    exact Ev.of (fun k => impl_IsPrime.mono _ k) (impl_IsPrime.small ⟨n, by omega⟩ (by simp only; omega))
  · have hw : impl_within.f p 2 31 = some false := by rw [impl_within.eq, decide_eq_false h]
    rcases (show p < 2 ∨ 2 ≤ p by omega) with h1 | h1
    · rw [isPr_small h1]
      refine Ev.congr (fun k => by unfold impl_IsPrime.f; rfl) (Ev.succ ?_)
      simp only [impl_IsPrime.l0]
      refine Ev.neg (by rw [w64 (by omega) (by omega)]; omega) (Ev.succ ?_)
      simp only [impl_IsPrime.j1, hw]
      exact ⟨0, fun k _ => rfl⟩
    · rw [isPr_big (by omega)]
      refine Ev.congr (fun k => by unfold impl_IsPrime.f; rfl) (Ev.succ ?_)
      simp only [impl_IsPrime.l0]
      have hd : decide (p ≤ 31) = false := decide_eq_false (by omega)
      rw [hd]
      refine Ev.pos (by rw [w64 (by omega) (by omega)]; omega) (Ev.succ ?_)
      simp only [impl_IsPrime.j1, hw]
      exact ⟨0, fun k _ => rfl⟩

-- impl_areElements_1
theorem impl_areElements_1.eq (x p : Int) (hp : -9223372036854775807 ≤ p) (hp' : p ≤ 9223372036854775807) : impl_areElements_1.f x [p] = some (!inR p x) := by
  unfold impl_areElements_1.f
  have e : rd [p] 0 = p := rfl
  rw [e, w64 (n := p - 1) (by omega) (by omega), impl_within.eq]
  rfl

-- slices_IndexFunc_int64_int64_at_impl_areElements_1
theorem slices_IndexFunc_int64_int64_at_impl_areElements_1.ev_l (p : Int) (hp : -9223372036854775807 ≤ p) (hp' : p ≤ 9223372036854775807) (l : List Int) (hl : l.length ≤ 9223372036854775806) : ∀ (d i : Nat), i + d = l.length → Ev (fun k => slices_IndexFunc_int64_int64_at_impl_areElements_1.l0 k l (l.length : Int) (i : Int) [p]) (idxFrom (fun x => !inR p x) (l.drop i) (i : Int)) := by
  intro d
  induction d with
  | zero =>
    intro i hi
    refine Ev.succ ?_
    simp only [slices_IndexFunc_int64_int64_at_impl_areElements_1.l0]
    rw [List.drop_of_length_le (by omega)]
    exact Ev.neg (by omega) (Ev.now _)
  | succ d ih =>
    intro i hi
    refine Ev.succ ?_
    simp only [slices_IndexFunc_int64_int64_at_impl_areElements_1.l0]
    refine Ev.pos (by omega) (Ev.pos (by omega) (Ev.pos (by omega) ?_))
    have hlt : i < l.length := by omega
    rw [rd_get l i hlt, impl_areElements_1.eq _ p hp hp', w64 (n := (i : Int) + 1) (by omega) (by omega), List.drop_eq_getElem_cons hlt]
    simp only [Option.bind_some, idxFrom]
    by_cases hx : (!inR p l[i]) = true
    · refine Ev.pos hx ?_
      rw [if_pos hx]
      exact Ev.now _
    · refine Ev.neg hx ?_
      rw [if_neg hx]
      exact ih (i + 1) (by omega)

-- slices_ContainsFunc_int64_int64_at_impl_areElements_1
theorem slices_ContainsFunc_int64_int64_at_impl_areElements_1.ev (p : Int) (hp : -9223372036854775807 ≤ p) (hp' : p ≤ 9223372036854775807) (l : List Int) (hl : l.length ≤ 9223372036854775806) : Ev (fun k => slices_ContainsFunc_int64_int64_at_impl_areElements_1.f k l [p]) (!allR p l) := by
  unfold slices_ContainsFunc_int64_int64_at_impl_areElements_1.f slices_IndexFunc_int64_int64_at_impl_areElements_1.f
  refine Ev.bind (slices_IndexFunc_int64_int64_at_impl_areElements_1.ev_l p hp hp' l hl l.length 0 (by omega)) ?_
  refine Ev.eq (Ev.now _) ?_
  rw [idxFrom_any _ _ _ (by omega), List.drop_zero, not_allR]

-- impl_areElements
theorem impl_areElements.ev (p : Int) (l : List Int) (hl : l.length ≤ 9223372036854775806) : Ev (fun k => impl_areElements.f k p l) (isPr p && allR p l) := by
  unfold impl_areElements.f
  refine Ev.bind (impl_IsPrime.ev p) ?_
  cases h : isPr p with
  | false => exact Ev.neg Bool.false_ne_true (Ev.now _)
  | true =>
    have := isPr_bd h
    refine Ev.pos rfl ?_
    refine Ev.bind (slices_ContainsFunc_int64_int64_at_impl_areElements_1.ev p (by omega) (by omega) l hl) ?_
    refine Ev.eq (Ev.now _) ?_
    rw [Bool.not_not, Bool.true_and]

-- impl_pointsOf
theorem impl_pointsOf.ev_l (l : List S68) (hl : l.length ≤ 8796093022208) : ∀ (d i : Nat) (a b : List Int), i + d = l.length → a.length = i → b.length = i → Ev (fun k => impl_pointsOf.l0 k a b l (l.length : Int) (i : Int)) (a ++ (l.drop i).map (·.f0), b ++ (l.drop i).map (·.f1)) := by
  intro d
  induction d with
  | zero =>
    intro i a b hi ha hb
    refine Ev.succ ?_
    simp only [impl_pointsOf.l0]
    rw [drop_end (by omega), List.map_nil, List.map_nil, List.append_nil, List.append_nil]
    exact Ev.neg (by omega) (Ev.now _)
  | succ d ih =>
    intro i a b hi ha hb
    have hlt : i < l.length := by omega
    refine Ev.succ ?_
    simp only [impl_pointsOf.l0, Option.bind_some, List.length_singleton]
    refine Ev.pos (by omega) (Ev.pos (by omega) (Ev.pos (by omega) (Ev.pos (by omega) (Ev.pos (by omega) ?_))))
    rw [rd_T68_get l i hlt, w64 (n := (i : Int) + 1) (by omega) (by omega), drop_get hlt, List.map_cons, List.map_cons]
    refine Ev.eq (ih (i + 1) _ _ (by omega) (by simp [ha]) (by simp [hb])) ?_
    rw [List.append_assoc, List.append_assoc]; rfl
theorem impl_pointsOf.ev (l : List S68) (hl : l.length ≤ 8796093022208) : Ev (fun k => impl_pointsOf.f k l) (l.map (·.f0), l.map (·.f1)) := by
  unfold impl_pointsOf.f
  exact Ev.eq (impl_pointsOf.ev_l l hl l.length 0 [] [] (by omega) rfl rfl) (by simp)

-- impl_arePoints
theorem impl_arePoints.ev_l (p : Int) (hp : -9223372036854775807 ≤ p) (hp' : p ≤ 9223372036854775807) (l : List Int) (hl : l.length ≤ 35184372088832) : ∀ (d i : Nat), i + d = l.length → Ev (fun k => impl_arePoints.l0 k p l l (l.length : Int) (i : Int)) (risesAt 1 (p - 1) l i && decide (l.length ≤ 10)) := by
  intro d
  induction d with
  | zero =>
    intro i hi
    refine Ev.succ ?_
    simp only [impl_arePoints.l0]
    rw [risesAt_end _ _ _ _ (by omega), Bool.true_and]
    refine Ev.neg (by omega) (Ev.eq (Ev.now _) ?_)
    exact decide_eq_decide.2 (by omega)
  | succ d ih =>
    intro i hd
    have hlt : i < l.length := by omega
    refine Ev.succ ?_
    simp only [impl_arePoints.l0]
    have hn := ih (i + 1) (by omega)
    rw [rd_get l i hlt, impl_within.eq, w64 (n := (i : Int) + 1) (by omega) (by omega), w64 (n := p - 1) (by omega) (by omega)]
    refine Ev.pos (by omega) (Ev.pos (by omega) (Ev.pos (by omega) (Ev.bindc rfl ?_)))
    cases i with
    | zero =>
      rw [risesAt_zero _ _ _ hlt]
      cases hc : decide (1 ≤ l[0] ∧ l[0] ≤ p - 1) with
      | false => exact Ev.neg Bool.false_ne_true (Ev.now _)
      | true => exact Ev.pos rfl (Ev.neg (by omega) (by rw [Bool.true_and]; exact hn))
    | succ j =>
      rw [risesAt_succ _ _ _ _ hlt]
      cases hc : decide (1 ≤ l[j + 1] ∧ l[j + 1] ≤ p - 1) with
      | false => exact Ev.neg Bool.false_ne_true (Ev.now _)
      | true =>
        have e : ((j + 1 : Nat) : Int) - 1 = (j : Int) := by omega
        rw [w64 (n := ((j + 1 : Nat) : Int) - 1) (by omega) (by omega), e, rd_get l j (by omega), Bool.true_and]
        refine Ev.pos rfl (Ev.pos (by omega) (Ev.pos (by omega) (Ev.pos (by omega) ?_)))
        by_cases hx : l[j] < l[j + 1]
        · rw [decide_eq_true hx, Bool.true_and]
          exact Ev.neg (by omega) hn
        · rw [decide_eq_false hx, Bool.false_and]
          exact Ev.pos (by omega) (Ev.now _)
theorem impl_arePoints.ev (p : Int) (hp : -9223372036854775807 ≤ p) (hp' : p ≤ 9223372036854775807) (l : List Int) (hl : l.length ≤ 35184372088832) : Ev (fun k => impl_arePoints.f k p l) (isPts p l) := by
  unfold impl_arePoints.f
  refine Ev.eq (impl_arePoints.ev_l p hp hp' l hl l.length 0 (by omega)) ?_
  rw [risesAt_all, isPts, Bool.and_comm, Bool.and_comm (l.all _)]

-- impl_ValidShares
theorem impl_ValidShares.ev (p : Int) (l : List S68) (hl : l.length ≤ 8796093022208) : Ev (fun k => impl_ValidShares.f k p l) (isSh p l) := by
  unfold impl_ValidShares.f isSh
  refine Ev.bind (impl_pointsOf.ev l hl) (Ev.bind (impl_areElements.ev p _ (by simp; omega)) ?_)
  cases h : isPr p with
  | false => exact Ev.neg Bool.false_ne_true (Ev.now _)
  | true =>
    have := isPr_bd h
    rw [Bool.true_and, Bool.true_and]
    cases h2 : allR p (l.map (·.f1)) with
    | false => rw [Bool.and_false]; exact Ev.neg Bool.false_ne_true (Ev.now _)
    | true => rw [Bool.and_true]; exact Ev.pos rfl (Ev.bind (impl_arePoints.ev p (by omega) (by omega) _ (by simp; omega)) (Ev.now _))

-- impl_stripped
theorem impl_stripped.ev_l (l : List Int) (hl : l.length ≤ 8796093022208) : ∀ (n : Nat), n ≤ l.length → Ev (fun k => impl_stripped.l0 k (l.take n)) (cutTo l n) := by
  intro n
  induction n with
  | zero =>
    intro hn
    refine Ev.succ ?_
    simp only [impl_stripped.l0]
    exact Ev.neg (by simp) (Ev.eq (Ev.now _) (by simp [cutTo]))
  | succ n ih =>
    intro hn
    have hlt : n < l.length := by omega
    have hlen : (l.take (n + 1)).length = n + 1 := by simp; omega
    have e : ((n + 1 : Nat) : Int) - 1 = (n : Int) := by omega
    have eg : (l.take (n + 1))[n]'(by omega) = l[n] := by simp
    refine Ev.succ ?_
    simp only [impl_stripped.l0]
    rw [hlen, w64 (n := ((n + 1 : Nat) : Int) - 1) (by omega) (by omega), e, rd_get _ n (by omega), eg]
    refine Ev.pos (by omega) (Ev.pos (by omega) (Ev.pos (by omega) ?_))
    unfold cutTo
    rw [getD_get l n 0 hlt]
    by_cases h : l[n] = 0
    · rw [if_pos h]
      refine Ev.pos h (Ev.pos (by omega) ?_)
      rw [Int.toNat_natCast, List.take_take, Nat.min_eq_left (by omega)]
      exact ih (by omega)
    · rw [if_neg h]
      exact Ev.neg h (Ev.now _)
theorem impl_stripped.ev (l : List Int) (hl : l.length ≤ 8796093022208) : Ev (fun k => impl_stripped.f k l) (stripM l) := by
  unfold impl_stripped.f
  have := impl_stripped.ev_l l hl l.length (Nat.le_refl _)
  rwa [List.take_length] at this

-- impl_addCurves
theorem impl_addCurves.ev_l (p : Int) (hp : 0 < p) (hp' : p ≤ 31) (a b : List Int) (ha : allR p a = true) (hb : allR p b = true) (hla : a.length ≤ 100) (hlb : b.length ≤ 100) (n : Nat) (hn : n = max a.length b.length) :
    ∀ (d i : Nat) (y : List Int), i + d = n → y.length = n → y.take i = (addC p 1 a b).take i → (∀ j, i ≤ j → y.getD j 0 = 0) → Ev (fun k => impl_addCurves.l0 k p a b y (n : Int) (i : Int)) (addC p 1 a b) := by
  intro d
  induction d with
  | zero =>
    intro i y hi hy ht h0
    refine Ev.succ ?_
    simp only [impl_addCurves.l0]
    rw [take_all (L := addC p 1 a b) (by rw [addC_length]; omega) (by rw [addC_length]; omega) ht]
    exact Ev.neg (by omega) (Ev.now _)
  | succ d ih =>
    intro i y hi hy ht h0
    have hlt : i < y.length := by omega
    have hL : i < (addC p 1 a b).length := by rw [addC_length]; omega
    have r1 := allR_getD hp ha i
    have r2 := allR_getD hp hb i
    have ey : rd y (i : Int) = 0 := by rw [rd_nat]; exact h0 i (Nat.le_refl _)
    have nxt : ∀ v, v = addAt p 1 a b i → Ev (fun k => impl_addCurves.l0 k p a b (y.set i v) (n : Int) ((i + 1 : Nat) : Int)) (addC p 1 a b) := by
      intro v hv
      refine ih (i + 1) _ (by omega) (by simpa using hy) ?_ ?_
      · have := take_set (m := y) (L := addC p 1 a b) hL (by rw [addC_length]; omega) ht
        rw [addC_get, ← hv] at this
        exact this
      · intro j hj
        rw [lset_ne _ _ _ _ _ (by omega)]
        exact h0 j (by omega)
    refine Ev.succ ?_
    simp only [impl_addCurves.l0, Option.bind_some]
    rw [ey, w64 (n := (i : Int) + 1) (by omega) (by omega)]
    refine Ev.pos (by omega) ?_
    have hA : i < a.length → rd a (i : Int) = a.getD i 0 := fun h => by rw [rd_nat]
    have hB : i < b.length → rd b (i : Int) = b.getD i 0 := fun h => by rw [rd_nat]
    by_cases h1 : i < a.length
    · rw [hA h1, w64 (n := 0 + a.getD i 0) (by omega) (by omega), rd_set y i _ hlt]
      refine Ev.pos (by omega) (Ev.pos (by omega) (Ev.pos (by omega) ?_))
      by_cases h2 : i < b.length
      · rw [hB h2, w64 (n := 0 + a.getD i 0 + b.getD i 0) (by omega) (by omega), tmod_of (by omega), Int.toNat_natCast, List.set_set, List.set_set]
        exact Ev.pos (by omega) (Ev.neg (by omega) (nxt _ (by unfold addAt; rw [Int.zero_add, Int.mul_one])))
      · refine Ev.neg (by omega) (Ev.neg (by omega) ?_)
        rw [tmod_of (by omega), Int.toNat_natCast, List.set_set]
        exact nxt _ (by unfold addAt; rw [getD_end b i 0 (by omega), Int.zero_add, Int.zero_mul, Int.add_zero])
    · have h2 : i < b.length := by omega
      rw [hB h2, w64 (n := 0 + b.getD i 0) (by omega) (by omega)]
      refine Ev.neg (by omega) (Ev.pos (by omega) (Ev.pos (by omega) (Ev.pos (by omega) (Ev.neg (by omega) ?_))))
      rw [tmod_of (by omega), Int.toNat_natCast, List.set_set]
      exact nxt _ (by unfold addAt; rw [getD_end a i 0 (by omega), Int.mul_one])
theorem impl_addCurves.ev (p : Int) (hp : 0 < p) (hp' : p ≤ 31) (a b : List Int) (ha : allR p a = true) (hb : allR p b = true) (hla : a.length ≤ 100) (hlb : b.length ≤ 100) : Ev (fun k => impl_addCurves.f k p a b) (addC p 1 a b) := by
  unfold impl_addCurves.f
  rw [mx_nat, Int.toNat_natCast]
  refine Ev.pos (by omega) (Ev.pos (by omega) (Ev.bindc rfl ?_))
  rw [List.length_replicate]
  refine impl_addCurves.ev_l p hp hp' a b ha hb hla hlb _ rfl (max a.length b.length) 0 _ (by omega) (by simp) (by simp) ?_
  intro j _
  rcases Nat.lt_or_ge j (max a.length b.length) with h | h
  · rw [getD_get _ _ _ (by simpa using h)]; simp
  · rw [getD_end _ _ _ (by simpa using h)]

-- impl_scaled
theorem impl_scaled.ev_l (p t : Int) (hp : 0 < p) (hp' : p ≤ 31) (ht : 0 ≤ t ∧ t < p) (a : List Int) (ha : allR p a = true) (hla : a.length ≤ 100) :
    ∀ (d i : Nat) (y : List Int), i + d = a.length → y.length = a.length → y.take i = (addC p t [] a).take i → (∀ j, i ≤ j → y.getD j 0 = a.getD j 0) → Ev (fun k => impl_scaled.l0 k p y t (a.length : Int) (i : Int)) (addC p t [] a) := by
  intro d
  induction d with
  | zero =>
    intro i y hi hy ht h0
    refine Ev.succ ?_
    simp only [impl_scaled.l0]
    rw [take_all (L := addC p t [] a) (by rw [addC_length]; simp; omega) (by rw [addC_length]; simp; omega) ht]
    exact Ev.neg (by omega) (Ev.now _)
  | succ d ih =>
    intro i y hi hy htk h0
    have hlt : i < y.length := by omega
    have hL : i < (addC p t [] a).length := by rw [addC_length]; simp; omega
    have r1 := allR_getD hp ha i
    have m := mul_bd r1.1 (show _ ≤ 31 by omega) ht.1 (show t ≤ 31 by omega)
    have ey : rd y (i : Int) = a.getD i 0 := by rw [rd_nat]; exact h0 i (Nat.le_refl _)
    refine Ev.succ ?_
    simp only [impl_scaled.l0]
    rw [ey, w64 (n := (i : Int) + 1) (by omega) (by omega), w64 (n := a.getD i 0 * t) (by omega) (by omega), tmod_of m.1, Int.toNat_natCast]
    refine Ev.pos (by omega) (Ev.pos (by omega) (Ev.pos (by omega) (Ev.neg (by omega) ?_)))
    refine ih (i + 1) _ (by omega) (by simpa using hy) ?_ ?_
    · have := take_set (m := y) (L := addC p t [] a) hL (by rw [addC_length]; simp; omega) htk
      rw [addC_get] at this
      have e : addAt p t [] a i = a.getD i 0 * t % p := by unfold addAt; simp
      rw [e] at this
      exact this
    · intro j hj
      rw [lset_ne _ _ _ _ _ (by omega)]
      exact h0 j (by omega)
theorem impl_scaled.ev (p t : Int) (hp : 0 < p) (hp' : p ≤ 31) (ht : 0 ≤ t ∧ t < p) (a : List Int) (ha : allR p a = true) (hla : a.length ≤ 100) : Ev (fun k => impl_scaled.f k p a t) (addC p t [] a) := by
  unfold impl_scaled.f
  exact impl_scaled.ev_l p t hp hp' ht a ha hla a.length 0 a (by omega) rfl (by simp) (fun _ _ => rfl)

-- impl_inverse
theorem impl_inverse.small : ∀ p a : Fin 32, isPr (p.val : Int) = true → 1 ≤ a.val → a.val < p.val → impl_inverse.f 40 (p.val : Int) (a.val : Int) = some (invM p.val a.val) := by decide +kernel
theorem impl_inverse.ev {p a : Int} (hp : isPr p = true) (h0 : 1 ≤ a) (h1 : a < p) : Ev (fun k => impl_inverse.f k p a) (invM p a) := by
  have hb := isPr_bd hp
  obtain ⟨p, rfl⟩ : ∃ n : Nat, p = n := ⟨p.toNat, by omega⟩
  obtain ⟨a, rfl⟩ : ∃ n : Nat, a = n := ⟨a.toNat, by omega⟩
  exact Ev.of (fun k => impl_inverse.mono _ _ k) (impl_inverse.small ⟨p, by omega⟩ ⟨a, by omega⟩ hp (by simp only; omega) (by simp only; omega))

-- impl_takeOff_cut
theorem impl_takeOff_cut.ev_l (p x : Int) (hp : 0 < p) (hp' : p ≤ 31) (hx : 0 ≤ x ∧ x < p) (c : List Int) (hr : allR p c = true) (hl : c.length ≤ 50) :
    ∀ (d i : Nat) (y : List Int), i + d = c.length → y.length = c.length + 1 → (∀ m, y.getD m 0 = if m < i then mulAt p x c m else ((0 : Int) :: c).getD m 0) → Ev (fun k => impl_takeOff_cut.l0 k p y x c (c.length : Int) (i : Int) (c.length : Int)) (mulLin p c x) := by
  intro d
  induction d with
  | zero =>
    intro i y hi hy hv
    refine Ev.succ ?_
    simp only [impl_takeOff_cut.l0]
    have e : y = mulLin p c x := by
      apply ext_getD
      · rw [mulLin_length, hy]
      · intro m hm
        rw [mulLin_getD _ _ _ _ (by omega), hv m]
        split
        · rfl
        · have hm2 : m = c.length := by omega
          subst hm2
          unfold mulAt
          rw [getD_end c c.length 0 (Nat.le_refl _), Int.zero_mul, Int.add_zero]
          cases c with
          | nil => simp
          | cons z zs =>
            have := allR_getD hp hr ((z :: zs).length - 1)
            rw [if_neg (by simp), Int.emod_eq_of_lt this.1 this.2]
            simp
    rw [e]
    exact Ev.neg (by omega) (Ev.now _)
  | succ d ih =>
    intro i y hi hy hv
    have hlt : i < c.length := by omega
    have r1 := allR_get hr i hlt
    have m1 := mul_bd (show 0 ≤ p - x by omega) (show p - x ≤ 31 by omega) r1.1 (show _ ≤ 31 by omega)
    have e0 : rd y (i : Int) = if i = 0 then 0 else c.getD (i - 1) 0 := by
      rw [rd_nat, hv, if_neg (by omega)]
      cases i with
      | zero => rfl
      | succ n => rw [if_neg (by omega)]; simp
    have b0 : 0 ≤ (if i = 0 then (0 : Int) else c.getD (i - 1) 0) ∧ (if i = 0 then (0 : Int) else c.getD (i - 1) 0) < p := by
      split
      · omega
      · exact allR_getD hp hr _
    refine Ev.succ ?_
    simp only [impl_takeOff_cut.l0]
    rw [rd_get c i hlt, e0, w64 (n := p - x) (by omega) (by omega), w64 (n := (p - x) * c[i]) (by omega) (by omega), w64 (n := (i : Int) + 1) (by omega) (by omega), w64 (by omega) (by omega), tmod_of (by omega), Int.toNat_natCast]
    refine Ev.pos (by omega) (Ev.pos (by omega) (Ev.pos (by omega) (Ev.pos (by omega) (Ev.neg (by omega) ?_))))
    refine ih (i + 1) _ (by omega) (by simpa using hy) ?_
    intro m
    by_cases hm : m = i
    · subst hm
      rw [lset_eq _ _ _ _ (by omega), if_pos (show m < m + 1 by omega)]
      unfold mulAt
      rw [getD_get c m 0 hlt]
      apply Cg.emod_eq
      refine (Cg.refl p _).add ?_
      rw [Int.mul_comm]
      exact (Cg.refl p _).mul ((Cg.of_eq (by omega : p - x = -x + p)).trans ((Cg.plus p _).trans (Cg.mod p _).symm))
    · rw [lset_ne _ _ _ _ _ (fun e => hm e.symm), hv]
      by_cases h : m < i
      · rw [if_pos h, if_pos (by omega)]
      · rw [if_neg h, if_neg (by omega)]
theorem impl_takeOff_cut.ev (p x : Int) (hp : 0 < p) (hp' : p ≤ 31) (hx : 0 ≤ x ∧ x < p) (c : List Int) (hr : allR p c = true) (hl : c.length ≤ 50) : Ev (fun k => impl_takeOff_cut.f k p ([0] ++ c) (c.length : Int) c x) (mulLin p c x) := by
  unfold impl_takeOff_cut.f
  refine Ev.pos (by omega) (Ev.pos (by simp; omega) ?_)
  exact impl_takeOff_cut.ev_l p x hp hp' hx c hr hl c.length 0 _ (by omega) (by simp) (fun m => by simp)

-- impl_through
theorem impl_through.in_l (p : Int) (hp : isPr p = true) (l : List S68) (hP : Dst p (l.map (·.f0))) (hV : allR p (l.map (·.f1)) = true) (o : List Int) (ho : allR p o = true) (hlo : o.length ≤ 50) (i : Nat) (hi : i < l.length) (R : List Int → Int → List Int)
    (hout : ∀ part b, allR p part = true → part.length ≤ l.length + 1 → 0 ≤ b → b < p → Ev (fun k => impl_through.l0 k p l (addC p b o part) l (l.length : Int) ((i + 1 : Nat) : Int)) (R part b)) :
    ∀ (d j : Nat) (part : List Int) (w b : Int), j + d = l.length → allR p part = true → part.length ≤ j + 1 → 0 ≤ w → w < p → 1 ≤ b → b < p → Cg p (w * b) l[i].f1 →
      Ev (fun k => impl_through.l1 k p l o (i : Int) part b l (l.length : Int) (i : Int) l (l.length : Int) (j : Int) l[i].f0 l[i].f1) (R (skipFold (mulLin p) i j ((l.map (·.f0)).drop j) part) (skipFold (byS p ((l.map (·.f0)).getD i 0)) i j ((l.map (·.f0)).drop j) w)) := by
  have hb := isPr_bd hp
  have hl10 : l.length ≤ 20 := by have := hP.1; simpa using this
  obtain ⟨_, hris, hmem⟩ := id hP
  have hv := allR_get hV i (by simpa using hi)
  simp only [List.getElem_map] at hv
  have c2 := hmem l[i].f0 (List.mem_map.2 ⟨l[i], List.getElem_mem hi, rfl⟩)
  have hgi : (l.map (·.f0)).getD i 0 = l[i].f0 := by rw [getD_get _ _ _ (by simpa using hi)]; simp
  intro d
  induction d with
  | zero =>
    intro j part w b hj hr hl h0 h1 b0 b1 hc
    refine Ev.succ ?_
    simp only [impl_through.l1]
    have e3 := invM_bd hp (show 0 ≤ b by omega) b1
    have m2 := mul_bd e3.1 (show _ ≤ 31 by omega) hv.1 (show _ ≤ 31 by omega)
    refine Ev.neg (by omega) (Ev.bind (impl_inverse.ev hp b0 b1) (Ev.neg (by omega) ?_))
    rw [drop_end (by simp; omega), w64 (n := (i : Int) + 1) (by omega) (by omega), w64 (by omega) (by omega), tmod_of m2.1, by_end hp ⟨b0, b1⟩ ⟨h0, h1⟩ hc]
    refine Ev.bind (impl_scaled.ev p w (by omega) (by omega) ⟨h0, h1⟩ part hr (by omega)) (Ev.bind (impl_addCurves.ev p (by omega) (by omega) o _ ho (addC_all (by omega) _ _ _) (by omega) (by rw [addC_length]; simp; omega)) ?_)
    rw [add_scaled (by omega)]
    exact hout part w hr (by omega) h0 h1
  | succ d ih =>
    intro j part w b hj hr hl h0 h1 b0 b1 hc
    have hlt : j < l.length := by omega
    have hltm : j < (l.map (·.f0)).length := by simpa using hlt
    have c1 := hmem l[j].f0 (List.mem_map.2 ⟨l[j], List.getElem_mem hlt, rfl⟩)
    refine Ev.succ ?_
    simp only [impl_through.l1, Option.bind_some]
    rw [drop_get hltm, skipFold_cons, skipFold_cons, rd_T68_get l j hlt, w64 (n := (j : Int) + 1) (by omega) (by omega)]
    simp only [List.getElem_map]
    refine Ev.pos (by omega) (Ev.pos (by omega) (Ev.pos (by omega) ?_))
    by_cases hji : j = i
    · rw [if_pos hji, if_pos hji]
      exact Ev.pos (by omega) (ih (j + 1) part w b (by omega) hr (by omega) h0 h1 b0 b1 hc)
    · rw [if_neg hji, if_neg hji]
      have hne : l[j].f0 ≠ l[i].f0 := by
        have := Dst.ne hris (by simpa using hi) hltm hji
        simpa using this
      have st := byS_step hp c2 c1 hne ⟨b0, b1⟩ hc
      have e2 := emod_bd (p := p) (by omega) (w * invM p ((l[i].f0 - l[j].f0) % p))
      have m1 := mul_bd (show 0 ≤ b by omega) (show b ≤ 31 by omega) (show 0 ≤ l[i].f0 - l[j].f0 + p by omega) (show _ ≤ 62 by omega)
      refine Ev.neg (by omega) (Ev.pos (by simp; omega) (Ev.pos (by omega) (Ev.pos (by simp; omega) (Ev.bind (impl_takeOff_cut.ev p l[j].f0 (by omega) (by omega) (by omega) part hr (by omega)) (Ev.neg (by omega) ?_)))))
      rw [w64 (n := l[i].f0 - l[j].f0) (by omega) (by omega), w64 (n := l[i].f0 - l[j].f0 + p) (by omega) (by omega), w64 (by omega) (by omega), tmod_of m1.1]
      rw [hgi] at ih ⊢
      exact ih (j + 1) _ _ _ (by omega) (mulLin_all (by omega) _ _) (by rw [mulLin_length]; omega) e2.1 e2.2 st.2.1 st.2.2 st.1
theorem impl_through.ev_l (p : Int) (hp : isPr p = true) (l : List S68) (hP : Dst p (l.map (·.f0))) (hV : allR p (l.map (·.f1)) = true) :
    ∀ (d i : Nat) (o : List Int), i + d = l.length → allR p o = true → o.length ≤ l.length + 1 → Ev (fun k => impl_through.l0 k p l o l (l.length : Int) (i : Int)) (stripM (thrFrom p (l.map (·.f0)) (l.map (·.f1)) d i o)) := by
  have hb := isPr_bd hp
  have hl10 : l.length ≤ 20 := by have := hP.1; simpa using this
  intro d
  induction d with
  | zero =>
    intro i o hi ho hlo
    refine Ev.succ ?_
    simp only [impl_through.l0]
    exact Ev.neg (by omega) (Ev.bind (impl_stripped.ev o (by omega)) (Ev.now _))
  | succ d ih =>
    intro i o hi ho hlo
    have hlt : i < l.length := by omega
    have r := allR_get hV i (by simpa using hlt)
    simp only [List.getElem_map] at r
    refine Ev.succ ?_
    simp only [impl_through.l0]
    rw [rd_T68_get l i hlt]
    refine Ev.pos (by omega) (Ev.pos (by omega) (Ev.pos (by omega) ?_))
    have hgv : (l.map (·.f1)).getD i 0 = l[i].f1 := by rw [getD_get _ _ _ (by simpa using hlt)]; simp
    have := impl_through.in_l p hp l hP hV o ho (by omega) i hlt (fun part b => stripM (thrFrom p (l.map (·.f0)) (l.map (·.f1)) d (i + 1) (addC p b o part)))
      (fun part b h1 h2 h3 h4 => ih (i + 1) _ (by omega) (addC_all (by omega) _ _ _) (by rw [addC_length]; omega)) l.length 0 [1] l[i].f1 1 (by omega) (by simp [allR, inR]; omega) (by simp) r.1 r.2 (by omega) (by omega) (Cg.of_eq (by omega))
    refine Ev.eq this ?_
    simp only [thrFrom, partAt, byAt]
    rw [hgv]
    rfl
theorem impl_through.ev (p : Int) (hp : isPr p = true) (l : List S68) (hP : Dst p (l.map (·.f0))) (hV : allR p (l.map (·.f1)) = true) : Ev (fun k => impl_through.f k p l) (throughM p (l.map (·.f0)) (l.map (·.f1))) := by
  unfold impl_through.f
  refine Ev.eq (impl_through.ev_l p hp l hP hV l.length 0 [] (by omega) rfl (by simp)) ?_
  unfold throughM
  rw [List.length_map]

-- impl_times
theorem impl_times.ev_l (p : Int) (h0 : 0 ≤ p) (h1 : p ≤ 31) (n : Nat) (hn : n ≤ 7) : ∀ (d i : Nat), i + d = n → Ev (fun k => impl_times.l0 k p 1099511627776 (p ^ i) (n : Int) (i : Int)) (p ^ n) := by
  intro d
  induction d with
  | zero =>
    intro i hi
    refine Ev.succ ?_
    simp only [impl_times.l0]
    have : i = n := by omega
    subst this
    exact Ev.neg (by omega) (Ev.now _)
  | succ d ih =>
    intro i hi
    have b := pow_bd7 (p := p) h0 h1 (i + 1) (by omega)
    refine Ev.succ ?_
    simp only [impl_times.l0]
    rw [Int.pow_succ] at b
    have e : mn (wrap64 (1099511627776 + 1)) (wrap64 (p ^ i * p)) = p ^ (i + 1) := by
      rw [w64 (n := (1099511627776 : Int) + 1) (by omega) (by omega), w64 (n := p ^ i * p) (by omega) (by omega), Int.pow_succ]
      unfold mn
      split <;> omega
    rw [e, w64 (n := (i : Int) + 1) (by omega) (by omega)]
    exact Ev.pos (by omega) (ih (i + 1) (by omega))
theorem impl_times.ev (p : Int) (h0 : 0 ≤ p) (h1 : p ≤ 31) (n : Nat) (hn : n ≤ 7) : Ev (fun k => impl_times.f k p (n : Int) 1099511627776) (p ^ n) := by
  unfold impl_times.f
  have := impl_times.ev_l p h0 h1 n hn n 0 (by omega)
  simpa using this

-- impl_CountSecrets
theorem impl_CountSecrets.ev_l (p : Int) (l : List S68) (g : Int) (hs : isSh p l = true) (hg : 0 ≤ g ∧ g ≤ 6) :
    ∀ (d i : Nat) (acc : List Int), i + d = p.toNat → acc.length = i → Ev (fun k => impl_CountSecrets.l0 k p l g acc p (i : Int)) (acc ++ ((List.range p.toNat).map (cntAt p l g)).drop i, 0) := by
  obtain ⟨h1, h2, h3, h4⟩ := isSh_of hs
  have hb := isPr_bd h1
  intro d
  induction d with
  | zero =>
    intro i acc hi ha
    refine Ev.succ ?_
    simp only [impl_CountSecrets.l0]
    rw [drop_end (by simp; omega), List.append_nil]
    exact Ev.neg (by omega) (Ev.now _)
  | succ d ih =>
    intro i acc hi ha
    have nx : ∀ v, v = cntAt p l g i → Ev (fun k => impl_CountSecrets.l0 k p l g (acc ++ [v]) p ((i + 1 : Nat) : Int)) (acc ++ ((List.range p.toNat).map (cntAt p l g)).drop i, 0) := by
      intro v hv
      refine Ev.eq (ih (i + 1) _ (by omega) (by simp [ha])) ?_
      rw [range_map_drop (cntAt p l g) p.toNat i (by omega), List.append_assoc, hv]
      rfl
    have hlen : (([⟨0, (i : Int)⟩] : List S68) ++ l).length = l.length + 1 := by simp
    refine Ev.succ ?_
    simp only [impl_CountSecrets.l0, Option.bind_some]
    rw [hlen, w64 (n := (i : Int) + 1) (by omega) (by omega), w64 (n := g + 1) (by omega) (by omega)]
    refine Ev.pos (by omega) (Ev.pos (by simp; omega) ?_)
    by_cases hlg : (l.length : Int) ≤ g
    · rw [w64 (n := g + 1 - ((l.length + 1 : Nat) : Int)) (by omega) (by omega), show g + 1 - ((l.length + 1 : Nat) : Int) = (((g - (l.length : Int)).toNat : Nat) : Int) by omega]
      refine Ev.pos (by omega) (Ev.bind (impl_times.ev p (by omega) (by omega) _ (by omega)) (Ev.pos (by omega) (nx _ ?_)))
      unfold cntAt
      rw [if_pos hlg]
    · refine Ev.neg (by omega) (Ev.bind (impl_through.ev p h1 (([⟨0, (i : Int)⟩] : List S68) ++ l) (dst0 h2 (by omega)) (allR_consI (a := (i : Int)) (by omega) (by omega) h3)) ?_)
      have e : (throughM p ((([⟨0, (i : Int)⟩] : List S68) ++ l).map (·.f0)) ((([⟨0, (i : Int)⟩] : List S68) ++ l).map (·.f1))) = throughM p ((0 : Int) :: l.map (·.f0)) ((i : Int) :: l.map (·.f1)) := rfl
      rw [e]
      by_cases ht : ((throughM p ((0 : Int) :: l.map (·.f0)) ((i : Int) :: l.map (·.f1))).length : Int) ≤ g + 1
      · refine Ev.pos ht (Ev.pos (by omega) (nx _ ?_))
        unfold cntAt
        rw [if_neg hlg, if_pos ht]
      · refine Ev.neg ht (Ev.pos (by omega) (nx _ ?_))
        unfold cntAt
        rw [if_neg hlg, if_neg ht]
theorem impl_CountSecrets.ev (p : Int) (l : List S68) (g : Int) (hl : l.length ≤ 8796093022208) : Ev (fun k => impl_CountSecrets.f k p l g) (countM p l g) := by
  unfold impl_CountSecrets.f countM
  refine Ev.bind (impl_ValidShares.ev p l hl) ?_
  by_cases hc : isSh p l = true
  · rw [if_pos hc]
    refine Ev.pos hc (Ev.bindc (impl_within.eq _ _ _) ?_)
    by_cases hx : 0 ≤ g ∧ g ≤ 6
    · rw [if_pos hx]
      refine Ev.pos (decide_eq_true hx) ?_
      have := impl_CountSecrets.ev_l p l g hc hx p.toNat 0 [] (by omega) rfl
      simpa using this
    · rw [if_neg hx]
      exact Ev.neg (by rw [decide_eq_false hx]; exact Bool.false_ne_true) (Ev.now _)
  · rw [if_neg hc]
    exact Ev.neg hc (Ev.now _)

-- spec_l00Src_next
theorem spec_l00Src_next.ok (l : List Int) (hb : isBytes l) (a s N : Int) (h0 : 0 ≤ a) (h1 : a ≤ N) (hN : N ≤ 4611686018427387904) : ∃ v a' s', spec_l00Src_next.f l a s = some (v, a', s') ∧ 0 ≤ v ∧ v ≤ 255 ∧ 0 ≤ a' ∧ a' ≤ N + 1 := by
  unfold spec_l00Src_next.f
  by_cases c1 : a < (l.length : Int)
  · have hr := hb _ (rd_mem h0 c1)
    rw [if_pos c1, if_pos h0, w64 (n := a + 1) (by omega) (by omega)]
    split
    · exact ⟨_, _, _, rfl, by rw [w64 (by omega) (by omega)]; omega, by rw [w64 (by omega) (by omega)]; omega, by omega, by omega⟩
    · exact ⟨_, _, _, rfl, (low8 _).1, (low8 _).2, by omega, by omega⟩
  · rw [if_neg c1, w64 (n := a + 1) (by omega) (by omega)]
    split
    · exact ⟨_, _, _, rfl, by omega, by omega, by omega, by omega⟩
    · exact ⟨_, _, _, rfl, (low8 _).1, (low8 _).2, by omega, by omega⟩

-- spec_l00Src_pick
theorem spec_l00Src_pick.ok (l : List Int) (hb : isBytes l) (a s n N : Int) (h0 : 0 ≤ a) (h1 : a ≤ N) (hN : N ≤ 4611686018427387900) : ∃ v a' s', spec_l00Src_pick.f l a s n = some (v, a', s') ∧ 0 ≤ v ∧ (1 ≤ n → v < n) ∧ 0 ≤ a' ∧ a' ≤ N + 2 := by
  unfold spec_l00Src_pick.f
  by_cases c1 : n ≤ 1
  · rw [if_pos c1]
    exact ⟨_, _, _, rfl, by omega, by omega, by omega, by omega⟩
  · rw [if_neg c1]
    obtain ⟨v, a1, s1, e1, v0, v1, b0, b1⟩ := spec_l00Src_next.ok l hb a s N h0 h1 (by omega)
    rw [e1]
    simp only [Option.bind_some]
    by_cases c2 : n > 200
    · rw [if_pos c2]
      obtain ⟨v2, a2, s2, e2, v20, v21, b20, b21⟩ := spec_l00Src_next.ok l hb a1 s1 (N + 1) b0 b1 (by omega)
      rw [e2]
      simp only [Option.bind_some]
      rw [if_neg (by omega), w64 (n := v * 256) (by omega) (by omega), w64 (n := v * 256 + v2) (by omega) (by omega), tmod_of (by omega)]
      have := emod_bd (p := n) (by omega) (v * 256 + v2)
      exact ⟨_, _, _, rfl, this.1, fun _ => this.2, by omega, by omega⟩
    · rw [if_neg c2, if_neg (by omega), tmod_of v0]
      have := emod_bd (p := n) (by omega) v
      exact ⟨_, _, _, rfl, this.1, fun _ => this.2, by omega, by omega⟩

-- spec_l00Src_among
theorem spec_l00Src_among.ok (l : List Int) (hb : isBytes l) (a s N : Int) (h0 : 0 ≤ a) (h1 : a ≤ N) (hN : N ≤ 4611686018427387900) (m : List Int) (hm : 0 < m.length) : ∃ v a' s', spec_l00Src_among.f l a s m = some (v, a', s') ∧ v ∈ m ∧ 0 ≤ a' ∧ a' ≤ N + 2 := by
  unfold spec_l00Src_among.f
  obtain ⟨v, a1, s1, e1, v0, v1, b0, b1⟩ := spec_l00Src_pick.ok l hb a s (m.length : Int) N h0 h1 hN
  have v2 := v1 (by omega)
  rw [e1]
  simp only [Option.bind_some]
  rw [if_pos v0, if_pos v2]
  exact ⟨_, _, _, rfl, rd_mem v0 v2, b0, b1⟩

-- spec_P6Prime
theorem spec_P6Prime.ok (l : List Int) (hb : isBytes l) : ∃ p, spec_P6Prime.f l = some p ∧ isPr p = true ∧ 5 ≤ p := by
  unfold spec_P6Prime.f spec_l00From.f
  simp only [Option.bind_some]
  obtain ⟨v, a1, s1, e1, hv, _⟩ := spec_l00Src_among.ok l hb 0 0 0 (by omega) (by omega) (by omega) [5, 7, 11, 13] (by decide)
  rw [e1]
  refine ⟨v, rfl, ?_⟩
  simp only [List.mem_cons, List.mem_nil_iff, or_false] at hv
  rcases hv with rfl | rfl | rfl | rfl <;> exact ⟨by decide, by decide⟩

-- spec_l00Max
theorem spec_l00Max.eq (a b : Int) : spec_l00Max.f a b = some (if a > b then a else b) := by
  unfold spec_l00Max.f
  split <;> rfl

-- spec_l05Many
theorem spec_l05Many.ok_l (l : List Int) (hb : isBytes l) (p n : Int) (hp : 1 ≤ p) (hn : n ≤ 1000) : ∀ (d i : Nat) (acc : List Int) (a s N : Int), ((i + d : Nat) : Int) = n → acc.length = i → allR p acc = true → 0 ≤ a → a ≤ N → N + 2 * (d : Int) ≤ 4611686018427387000 →
    ∃ r a' s', Ev (fun k => spec_l05Many.l0 k p n acc (i : Int) l a s) (r, a', s') ∧ r.length = i + d ∧ allR p r = true ∧ 0 ≤ a' ∧ a' ≤ N + 2 * (d : Int) := by
  intro d
  induction d with
  | zero =>
    intro i acc a s N hi ha hr h0 h1 hN
    refine ⟨acc, a, s, Ev.succ ?_, by omega, hr, h0, by omega⟩
    simp only [spec_l05Many.l0]
    exact Ev.neg (by omega) (Ev.now _)
  | succ d ih =>
    intro i acc a s N hi ha hr h0 h1 hN
    have hM : (if p > 1 then p else 1) = p := by split <;> omega
    obtain ⟨v, a1, s1, e1, v0, v1, b0, b1⟩ := spec_l00Src_pick.ok l hb a s p N h0 h1 (by omega)
    have hr' : allR p (acc ++ [v]) = true := by
      unfold allR at *
      rw [List.all_append, hr]
      have := v1 hp
      simp [inR]; omega
    obtain ⟨r, a2, s2, e2, r1, r2, r3, r4⟩ := ih (i + 1) (acc ++ [v]) a1 s1 (N + 2) (by omega) (by simp [ha]) hr' b0 b1 (by omega)
    refine ⟨r, a2, s2, Ev.succ ?_, by omega, r2, r3, by omega⟩
    simp only [spec_l05Many.l0]
    rw [w64 (n := (i : Int) + 1) (by omega) (by omega)]
    refine Ev.pos (by omega) (Ev.bindc (spec_l00Max.eq _ _) ?_)
    rw [hM]
    exact Ev.bindc e1 (Ev.pos (by omega) e2)
theorem spec_l05Many.ok (l : List Int) (hb : isBytes l) (p : Int) (n : Nat) (hp : 1 ≤ p) (hn : n ≤ 1000) (a s N : Int) (h0 : 0 ≤ a) (h1 : a ≤ N) (hN : N ≤ 4611686018427380000) :
    ∃ r a' s', Ev (fun k => spec_l05Many.f k l a s p (n : Int)) (r, a', s') ∧ r.length = n ∧ allR p r = true ∧ 0 ≤ a' ∧ a' ≤ N + 2 * (n : Int) := by
  obtain ⟨r, a', s', e, h⟩ := spec_l05Many.ok_l l hb p n hp (by omega) n 0 [] a s N (by omega) rfl rfl h0 h1 (by omega)
  exact ⟨r, a', s', e, by simpa using h⟩

-- spec_P6Curve
theorem spec_P6Curve.ok (l : List Int) (hb : isBytes l) (p : Int) (hp : isPr p = true) (m : Int) (hm : 0 ≤ m ∧ m ≤ 6) : ∃ c, Ev (fun k => spec_P6Curve.f k l p m) c ∧ isCurve p c = true ∧ (c.length : Int) ≤ m + 1 := by
  have hpb := isPr_bd hp
  obtain ⟨v, a1, s1, e1, v0, v1, b0, b1⟩ := spec_l00Src_pick.ok l hb 0 0 (m + 1) 0 (by omega) (by omega) (by omega)
  have v2 := v1 (by omega)
  obtain ⟨r, a2, s2, e2, r1, r2, _⟩ := spec_l05Many.ok l hb p (v + 1).toNat (by omega) (by omega) a1 s1 2 b0 (by omega) (by omega)
  rw [show (((v + 1).toNat : Nat) : Int) = v + 1 by omega] at e2
  have hl := stripM_le r
  refine ⟨stripM r, ?_, isCurve_mk hp (by omega) (allR_strip r2) (lastNZ_strip r), by omega⟩
  unfold spec_P6Curve.f
  rw [w64 (n := m + 1) (by omega) (by omega)]
  refine Ev.bindc rfl (Ev.bindc e1 ?_)
  rw [w64 (n := v + 1) (by omega) (by omega)]
  exact Ev.bind e2 (Ev.bind (spec_l05Cut.ev r (by omega)) (Ev.now _))

-- spec_l00Put
theorem spec_l00Put.ev_l (l : List Int) (x : Int) (hl : l.length ≤ 1000000) : ∀ (d i : Nat) (o : List Int) (b : Bool), i + d = l.length → o.length ≤ i + 1 → (b = false → o.length ≤ i) → Ev (fun k => spec_l00Put.l0 k l x o b (i : Int)) (o ++ if b = true then l.drop i else putM (l.drop i) x) := by
  intro d
  induction d with
  | zero =>
    intro i o b hi ho hob
    refine Ev.succ ?_
    simp only [spec_l00Put.l0]
    rw [drop_end (by omega)]
    refine Ev.neg (by omega) ?_
    cases b with
    | true => exact Ev.pos rfl (Ev.eq (Ev.now _) (by simp))
    | false => exact Ev.neg Bool.false_ne_true (Ev.pos (by omega) (Ev.eq (Ev.now _) (by simp [putM])))
  | succ d ih =>
    intro i o b hi ho hob
    have hlt : i < l.length := by omega
    have jn : ∀ (c b' : Bool), (c = true → b = false ∧ l[i] ≥ x) → (c = false → b = true ∨ l[i] < x) → b' = b → Ev (fun k => spec_l00Put.j1 k l x o b' (i : Int) c) (o ++ if b = true then l.drop i else putM (l.drop i) x) := by
      intro c b' h1 h2 hbb
      subst hbb
      refine Ev.succ ?_
      simp only [spec_l00Put.j1, Option.bind_some]
      rw [rd_get l i hlt, w64 (n := (i : Int) + 1) (by omega) (by omega), drop_get hlt]
      cases c with
      | true =>
        obtain ⟨e1, e2⟩ := h1 rfl
        subst e1
        refine Ev.pos rfl (Ev.pos (by omega) (Ev.pos (by omega) ?_))
        rw [if_neg Bool.false_ne_true]
        unfold putM
        rw [if_neg (by omega)]
        by_cases h : l[i] = x
        · rw [if_pos h]
          refine Ev.neg (by omega) (Ev.pos (by omega) (Ev.eq (ih (i + 1) _ true (by omega) (by simp; have := hob rfl; omega) (fun h => by cases h)) ?_))
          rw [if_pos rfl, List.append_assoc]; rfl
        · rw [if_neg h]
          refine Ev.pos (by omega) (Ev.pos (by omega) (Ev.pos (by simp; omega) ?_))
          refine Ev.eq (ih (i + 1) (o ++ [x] ++ [l[i]]) true (by omega) (by have := hob rfl; simp; omega) (fun h => by cases h)) ?_
          rw [if_pos rfl, List.append_assoc, List.append_assoc]; rfl
      | false =>
        refine Ev.neg Bool.false_ne_true (Ev.pos (by omega) (Ev.pos (by omega) (Ev.pos (by omega) (Ev.eq (ih (i + 1) _ b' (by omega) (by simp; omega) (fun h => by have := hob h; simp; omega)) ?_))))
        rw [List.append_assoc]
        cases b' with
        | true => rfl
        | false =>
          rw [if_neg Bool.false_ne_true, if_neg Bool.false_ne_true]
          have := (h2 rfl).resolve_left (by simp)
          conv => rhs; unfold putM
          rw [if_pos this]
          rfl
    refine Ev.succ ?_
    simp only [spec_l00Put.l0]
    refine Ev.pos (by omega) ?_
    cases b with
    | true => exact Ev.pos (by first | rfl | simp) (jn false true (fun h => by cases h) (fun _ => Or.inl rfl) rfl)
    | false =>
      refine Ev.neg Bool.false_ne_true (Ev.pos (by omega) ?_)
      rw [rd_get l i hlt]
      refine jn _ false (fun h => ⟨rfl, by simpa using h⟩) (fun h => Or.inr (by simpa using h)) rfl
theorem spec_l00Put.ev (l : List Int) (x : Int) (hl : l.length ≤ 1000000) : Ev (fun k => spec_l00Put.f k l x) (putM l x) := by
  unfold spec_l00Put.f
  exact Ev.eq (spec_l00Put.ev_l l x hl l.length 0 [] false (by omega) (by simp) (by simp)) (by simp)

-- spec_P6Points
theorem spec_P6Points.l1_ok (p n : Int) (hp : p ≤ 31) (hn : n ≤ 10) : ∀ (d : Nat) (x : Int) (o : List Int), x + (d : Int) = p → 1 ≤ x → inP p o → (o.length : Int) ≤ 10 → (∀ y, 1 ≤ y → y < x → y ∈ o ∨ n ≤ (o.length : Int)) →
    ∃ L, Ev (fun k => spec_P6Points.l1 k p n o x) L ∧ inP p L ∧ (L.length : Int) ≤ 10 ∧ (n ≤ (L.length : Int) ∨ p - 1 ≤ (L.length : Int)) := by
  intro d
  induction d with
  | zero =>
    intro x o hx h1 hP hl ha
    refine ⟨o, Ev.succ ?_, hP, hl, ?_⟩
    · simp only [spec_P6Points.l1]
      by_cases h : (o.length : Int) < n
      · exact Ev.pos h (Ev.neg (by omega) (Ev.now _))
      · exact Ev.neg h (Ev.now _)
    · by_cases h : n ≤ (o.length : Int)
      · exact Or.inl h
      · right
        have := all_len (p - 1).toNat o (fun y a b => (ha y a (by omega)).resolve_right h)
        omega
  | succ d ih =>
    intro x o hx h1 hP hl ha
    by_cases h : (o.length : Int) < n
    · have hlen := putM_len x o
      obtain ⟨L, e, q1, q2, q3⟩ := ih (x + 1) (putM o x) (by omega) (by omega) (inP_put hP (by omega)) (by omega) (fun y a b => by
        by_cases hy : y = x
        · exact Or.inl ((putM_mem y x o).2 (Or.inl hy))
        · rcases ha y a (by omega) with h2 | h2
          · exact Or.inl ((putM_mem y x o).2 (Or.inr h2))
          · omega)
      refine ⟨L, Ev.succ ?_, q1, q2, q3⟩
      simp only [spec_P6Points.l1]
      rw [w64 (n := x + 1) (by omega) (by omega)]
      exact Ev.pos h (Ev.pos (by omega) (Ev.bind (spec_l00Put.ev o x (by omega)) e))
    · refine ⟨o, Ev.succ ?_, hP, hl, Or.inl (by omega)⟩
      simp only [spec_P6Points.l1]
      exact Ev.neg h (Ev.now _)
theorem spec_P6Points.l0_ok (l : List Int) (hb : isBytes l) (p n : Int) (hp : 5 ≤ p ∧ p ≤ 31) (hn : n ≤ 10) : ∀ (d : Nat) (o : List Int) (a s N : Int), inP p o → o.length + d ≤ 10 → 0 ≤ a → a ≤ N → N + 2 * (d : Int) ≤ 1000000 →
    ∃ L, Ev (fun k => spec_P6Points.l0 k p n o (d : Int) l a s) L ∧ inP p L ∧ (L.length : Int) ≤ 10 ∧ (n ≤ (L.length : Int) ∨ p - 1 ≤ (L.length : Int)) := by
  intro d
  induction d with
  | zero =>
    intro o a s N hP hl h0 h1 hN
    obtain ⟨L, e, q⟩ := spec_P6Points.l1_ok p n (by omega) hn (p - 1).toNat 1 o (by omega) (by omega) hP (by omega) (fun y a b => by omega)
    refine ⟨L, Ev.succ ?_, q⟩
    simp only [spec_P6Points.l0]
    exact Ev.neg (by omega) e
  | succ d ih =>
    intro o a s N hP hl h0 h1 hN
    obtain ⟨v, a1, s1, e1, v0, v1, b0, b1⟩ := spec_l00Src_pick.ok l hb a s (p - 1) N h0 h1 (by omega)
    have v2 := v1 (by omega)
    have hlen := putM_len (1 + v) o
    obtain ⟨L, e, q⟩ := ih (putM o (1 + v)) a1 s1 (N + 2) (inP_put hP (by omega)) (by omega) b0 b1 (by omega)
    refine ⟨L, Ev.succ ?_, q⟩
    simp only [spec_P6Points.l0]
    rw [w64 (n := p - 1) (by omega) (by omega)]
    refine Ev.pos (by omega) (Ev.bindc e1 ?_)
    rw [w64 (n := 1 + v) (by omega) (by omega), w64 (n := ((d + 1 : Nat) : Int) - 1) (by omega) (by omega), show ((d + 1 : Nat) : Int) - 1 = (d : Int) by omega]
    exact Ev.bind (spec_l00Put.ev o (1 + v) (by omega)) e
theorem spec_P6Points.ok (l : List Int) (hb : isBytes l) (p n : Int) (hp : 5 ≤ p ∧ p ≤ 31) (hn : n ≤ 10) : ∃ L, Ev (fun k => spec_P6Points.f k l p n) L ∧ isPts p L = true ∧ (n ≤ (L.length : Int) ∨ p - 1 ≤ (L.length : Int)) := by
  obtain ⟨v, a1, s1, e1, v0, v1, b0, b1⟩ := spec_l00Src_pick.ok l hb 0 0 6 0 (by omega) (by omega) (by omega)
  have v2 := v1 (by omega)
  obtain ⟨L, e, q1, q2, q3⟩ := spec_P6Points.l0_ok l hb p n hp hn v.toNat [] a1 s1 2 ⟨List.Pairwise.nil, fun _ h => by cases h⟩ (by simp; omega) b0 (by omega) (by omega)
  rw [show ((v.toNat : Nat) : Int) = v by omega] at e
  refine ⟨L, ?_, isPts_mk (by omega) q1.1 q1.2, q3⟩
  unfold spec_P6Points.f
  exact Ev.bindc rfl (Ev.bindc e1 e)

-- laws_f6ints
theorem laws_f6ints.ev_l (a : List Int) (hl : a.length ≤ 1000000) : ∀ (d i : Nat), i + d = a.length → Ev (fun k => laws_f6ints.l0 k a a (i : Int)) true := by
  intro d
  induction d with
  | zero =>
    intro i hi
    refine Ev.succ ?_
    simp only [laws_f6ints.l0]
    exact Ev.neg (by omega) (Ev.now _)
  | succ d ih =>
    intro i hi
    refine Ev.succ ?_
    simp only [laws_f6ints.l0]
    rw [w64 (n := (i : Int) + 1) (by omega) (by omega)]
    exact Ev.pos (by omega) (Ev.pos (by omega) (Ev.pos (by omega) (Ev.pos (by simp) (ih (i + 1) (by omega)))))
theorem laws_f6ints.ev (a : List Int) (hl : a.length ≤ 1000000) : Ev (fun k => laws_f6ints.f k a a) true := by
  unfold laws_f6ints.f
  exact Ev.pos rfl (laws_f6ints.ev_l a hl a.length 0 (by omega))

-- spec_l05Curve
theorem spec_l05Curve.ev (p : Int) (hp : -9223372036854775807 ≤ p) (hp' : p ≤ 9223372036854775807) (l : List Int) (hl : l.length ≤ 35184372088832) : Ev (fun k => spec_l05Curve.f k p l) (decide (l.length ≤ 7) && (allR p l && lastNZ l)) := by
  unfold spec_l05Curve.f
  by_cases h7 : l.length ≤ 7
  · refine Ev.pos (by omega) (Ev.bind (spec_l05Residues.ev p hp hp' l (by omega)) ?_)
    rw [decide_eq_true h7, Bool.true_and]
    cases hr : allR p l with
    | false => exact Ev.neg Bool.false_ne_true (Ev.now _)
    | true =>
      refine Ev.pos rfl ?_
      rw [Bool.true_and]
      by_cases h0 : l.length = 0
      · refine Ev.pos (by omega) ?_
        have : l = [] := List.length_eq_zero_iff.1 h0
        subst this
        exact Ev.now _
      · refine Ev.neg (by omega) ?_
        rw [w64 (by omega) (by omega)]
        refine Ev.pos (by omega) (Ev.pos (by omega) ?_)
        rw [lastNZ_rd h0]
        exact Ev.now _
  · refine Ev.neg (by omega) ?_
    rw [decide_eq_false h7]
    exact Ev.now _

-- spec_ValidCurve
theorem spec_ValidCurve.ev (p : Int) (l : List Int) (hl : l.length ≤ 35184372088832) : Ev (fun k => spec_ValidCurve.f k p l) (isCurve p l) := by
  unfold spec_ValidCurve.f isCurve
  refine Ev.bind (spec_l05Prime.ev p) ?_
  cases h : isPr p with
  | false => exact Ev.neg Bool.false_ne_true (Ev.now _)
  | true =>
    have := isPr_bd h
    refine Ev.pos rfl (Ev.bind (spec_l05Curve.ev p (by omega) (by omega) l hl) ?_)
    exact Ev.now _

-- spec_l05Value
theorem spec_l05Value.ev_l (p x : Int) (hp : 0 < p) (hp' : p ≤ 31) (hx : 0 ≤ x ∧ x < p) (l : List Int) (hr : allR p l = true) (hl : l.length ≤ 35184372088832) : ∀ (n : Nat) (acc : Int), n ≤ l.length → 0 ≤ acc → acc < p → Ev (fun k => spec_l05Value.l0 k p l x acc ((n : Int) - 1)) (horner p x (l.take n) acc) := by
  intro n
  induction n with
  | zero =>
    intro acc hn h0 h1
    refine Ev.succ ?_
    simp only [spec_l05Value.l0]
    exact Ev.neg (by omega) (Ev.now _)
  | succ n ih =>
    intro acc hn h0 h1
    refine Ev.succ ?_
    simp only [spec_l05Value.l0]
    have hlt : n < l.length := by omega
    have e : ((n + 1 : Nat) : Int) - 1 = (n : Int) := by omega
    have hg := allR_get hr n hlt
    have hm := mul_bd h0 (show acc ≤ 31 by omega) hx.1 (show x ≤ 31 by omega)
    rw [e, rd_get l n hlt]
    refine Ev.pos (by omega) (Ev.pos (by omega) (Ev.pos (by omega) (Ev.neg (by omega) ?_)))
    rw [w64 (n := acc * x) (by omega) (by omega), w64 (n := acc * x + l[n]) (by omega) (by omega), w64 (n := (n : Int) - 1) (by omega) (by omega), tmod_of (by omega), horner_take p x l n hlt]
    exact ih _ (by omega) (emod_bd hp _).1 (emod_bd hp _).2
theorem spec_l05Value.ev (p x : Int) (hp : 0 < p) (hp' : p ≤ 31) (hx : 0 ≤ x ∧ x < p) (l : List Int) (hr : allR p l = true) (hl : l.length ≤ 35184372088832) : Ev (fun k => spec_l05Value.f k p l x) (cval p l x) := by
  unfold spec_l05Value.f
  rw [w64 (by omega) (by omega)]
  refine Ev.eq (spec_l05Value.ev_l p x hp hp' hx l hr hl l.length 0 (Nat.le_refl _) (by omega) (by omega)) ?_
  rw [List.take_length]; rfl

-- spec_l05Deal
theorem spec_l05Deal.ev_l (p : Int) (c : List Int) (hc : isCurve p c = true) (l : List Int) (hl : l.length ≤ 10) (hr : ∀ x ∈ l, 0 ≤ x ∧ x < p) : ∀ (d i : Nat) (acc : List S68), i + d = l.length → acc.length = i → Ev (fun k => spec_l05Deal.l0 k p c l acc (i : Int)) (acc ++ (l.drop i).map (dealM p c)) := by
  obtain ⟨h1, h2, h3, h4⟩ := isCurve_of hc
  have hb := isPr_bd h1
  intro d
  induction d with
  | zero =>
    intro i acc hi ha
    refine Ev.succ ?_
    simp only [spec_l05Deal.l0]
    rw [drop_end (by omega), List.map_nil, List.append_nil]
    exact Ev.neg (by omega) (Ev.now _)
  | succ d ih =>
    intro i acc hi ha
    have hlt : i < l.length := by omega
    have hx := hr _ (List.getElem_mem hlt)
    refine Ev.succ ?_
    simp only [spec_l05Deal.l0]
    rw [rd_get l i hlt, w64 (n := (i : Int) + 1) (by omega) (by omega), drop_get hlt, List.map_cons]
    refine Ev.pos (by omega) (Ev.pos (by omega) (Ev.bind (spec_l05Value.ev p l[i] (by omega) (by omega) hx c h3 (by omega)) (Ev.pos (by omega) ?_)))
    refine Ev.eq (ih (i + 1) _ (by omega) (by simp [ha])) ?_
    rw [List.append_assoc]; rfl

-- spec_DealShares
theorem spec_DealShares.ev (p : Int) (c l : List Int) (hc : c.length ≤ 35184372088832) (hl : l.length ≤ 35184372088832) : Ev (fun k => spec_DealShares.f k p c l) (dealSM p c l) := by
  unfold spec_DealShares.f dealSM
  refine Ev.bind (spec_ValidCurve.ev p c hc) ?_
  by_cases h : isCurve p c = true
  · have hb := isPr_bd (isCurve_of h).1
    rw [if_pos h]
    refine Ev.pos h (Ev.bind (spec_l05Points.ev p (by omega) (by omega) l hl) ?_)
    by_cases h2 : isPts p l = true
    · rw [if_pos h2]
      unfold spec_l05Deal.f
      refine Ev.pos h2 (Ev.bind (spec_l05Deal.ev_l p c h l (isPts_lt h2).1 (isPts_lt h2).2 l.length 0 [] (by omega) rfl) (Ev.eq (Ev.now _) ?_))
      simp
    · rw [if_neg h2]
      exact Ev.neg h2 (Ev.now _)
  · rw [if_neg h]
    exact Ev.neg h (Ev.now _)

-- impl_weights
theorem impl_weights.in_l (p x : Int) (hp : isPr p = true) (hx : 0 ≤ x ∧ x ≤ p - 1) (l : List Int) (hl : isPts p l = true) (i : Nat) (hi : i < l.length) (acc : List Int) (hacc : acc.length = i) (R : Int → List Int)
    (hout : ∀ w, Ev (fun k => impl_weights.l0 k p l x (acc ++ [w]) l (l.length : Int) ((i + 1 : Nat) : Int)) (R w)) :
    ∀ (d j : Nat) (w a b : Int), j + d = l.length → 0 ≤ w → w < p → 0 ≤ a → a < p → 1 ≤ b → b < p → Cg p (w * b) a → Ev (fun k => impl_weights.l1 k p l x acc (i : Int) l[i] a b l (l.length : Int) (i : Int) l (l.length : Int) (j : Int)) (R (skipFold (wS p x (l.getD i 0)) i j (l.drop j) w)) := by
  have hb := isPr_bd hp
  obtain ⟨hl10, hris, hmem⟩ := isPts_of hl
  have hgi : l.getD i 0 = l[i] := by simp [hi]
  intro d
  induction d with
  | zero =>
    intro j w a b hj h0 h1 a0 a1 b0 b1 hc
    refine Ev.succ ?_
    simp only [impl_weights.l1]
    have e3 := invM_bd hp (show 0 ≤ b by omega) b1
    have m2 := mul_bd a0 (show a ≤ 31 by omega) e3.1 (show _ ≤ 31 by omega)
    refine Ev.neg (by omega) (Ev.bind (impl_inverse.ev hp b0 b1) (Ev.neg (by omega) (Ev.pos (by omega) ?_)))
    rw [drop_end (by omega), w64 (n := (i : Int) + 1) (by omega) (by omega), w64 (by omega) (by omega), tmod_of m2.1, wS_end hp ⟨b0, b1⟩ ⟨h0, h1⟩ hc]
    exact hout w
  | succ d ih =>
    intro j w a b hj h0 h1 a0 a1 b0 b1 hc
    have hlt : j < l.length := by omega
    refine Ev.succ ?_
    simp only [impl_weights.l1]
    rw [drop_get hlt, skipFold_cons, rd_get l j hlt, w64 (n := (j : Int) + 1) (by omega) (by omega)]
    have c1 := hmem _ (List.getElem_mem hlt)
    have c2 := hmem _ (List.getElem_mem hi)
    refine Ev.pos (by omega) (Ev.pos (by omega) (Ev.pos (by omega) ?_))
    by_cases hji : j = i
    · rw [if_pos hji]
      exact Ev.pos (by omega) (ih (j + 1) w a b (by omega) h0 h1 a0 a1 b0 b1 hc)
    · rw [if_neg hji]
      refine Ev.neg (by omega) (Ev.neg (by omega) ?_)
      have m1 := mul_bd a0 (show a ≤ 31 by omega) (show 0 ≤ x - l[j] + p by omega) (show _ ≤ 62 by omega)
      have m2 := mul_bd (show 0 ≤ b by omega) (show b ≤ 31 by omega) (show 0 ≤ l[i] - l[j] + p by omega) (show _ ≤ 62 by omega)
      rw [w64 (n := x - l[j]) (by omega) (by omega), w64 (n := l[i] - l[j]) (by omega) (by omega), w64 (n := x - l[j] + p) (by omega) (by omega), w64 (n := l[i] - l[j] + p) (by omega) (by omega),
        w64 (n := a * (x - l[j] + p)) (by omega) (by omega), w64 (n := b * (l[i] - l[j] + p)) (by omega) (by omega), tmod_of m1.1, tmod_of m2.1]
      have hs := wS_bd (p := p) (by omega) x l[i] w l[j]
      have st := wS_step (x := x) hp c2 c1 (pts_ne hris hi hlt hji) ⟨b0, b1⟩ hc
      have ea := emod_bd (p := p) (by omega) (a * (x - l[j] + p))
      rw [hgi]
      rw [hgi] at ih
      exact ih (j + 1) _ _ _ (by omega) hs.1 hs.2 ea.1 ea.2 st.2.1 st.2.2 st.1
theorem impl_weights.ev_l (p x : Int) (hp : isPr p = true) (hx : 0 ≤ x ∧ x ≤ p - 1) (l : List Int) (hl : isPts p l = true) : ∀ (d i : Nat) (acc : List Int), i + d = l.length → acc.length = i → Ev (fun k => impl_weights.l0 k p l x acc l (l.length : Int) (i : Int)) (acc ++ (wM p l x).drop i) := by
  obtain ⟨hl10, _, hmem⟩ := isPts_of hl
  have hb := isPr_bd hp
  intro d
  induction d with
  | zero =>
    intro i acc hi ha
    refine Ev.succ ?_
    simp only [impl_weights.l0]
    rw [drop_end (by rw [wM_length]; omega), List.append_nil]
    exact Ev.neg (by omega) (Ev.now _)
  | succ d ih =>
    intro i acc hi ha
    refine Ev.succ ?_
    simp only [impl_weights.l0]
    rw [rd_get l i (by omega)]
    refine Ev.pos (by omega) (Ev.pos (by omega) (Ev.pos (by omega) ?_))
    have := impl_weights.in_l p x hp hx l hl i (by omega) acc ha (fun w => (acc ++ [w]) ++ (wM p l x).drop (i + 1)) (fun w => ih (i + 1) _ (by omega) (by simp [ha])) l.length 0 1 1 1 (by omega) (by omega) (by omega) (by omega) (by omega) (by omega) (by omega) (Cg.refl _ _)
    refine Ev.eq this ?_
    unfold wM
    rw [range_map_drop (wAt p l x) l.length i (by omega), List.append_assoc]
    rfl
theorem impl_weights.ev (p x : Int) (hp : isPr p = true) (hx : 0 ≤ x ∧ x ≤ p - 1) (l : List Int) (hl : isPts p l = true) : Ev (fun k => impl_weights.f k p l x) (wM p l x) := by
  unfold impl_weights.f
  exact Ev.eq (impl_weights.ev_l p x hp hx l hl l.length 0 [] (by omega) rfl) (by simp)

-- impl_dot
theorem impl_dot.ev_l (p : Int) (hp : 0 < p) (hp' : p ≤ 31) (W V : List Int) (hW : allR p W = true) (hV : allR p V = true) (hl : W.length ≤ V.length) (hl' : V.length ≤ 35184372088832) : ∀ (d i : Nat) (acc : Int), i + d = W.length → 0 ≤ acc → acc ≤ 900 * i → Ev (fun k => impl_dot.l0 k p V acc W (W.length : Int) (i : Int)) ((acc + sumM (W.drop i) (V.drop i)) % p) := by
  intro d
  induction d with
  | zero =>
    intro i acc hi h0 h1
    refine Ev.succ ?_
    simp only [impl_dot.l0]
    rw [drop_end (l := W) (by omega), tmod_of h0]
    refine Ev.neg (by omega) (Ev.neg (by omega) (Ev.eq (Ev.now _) ?_))
    simp only [sumM, Int.add_zero]
  | succ d ih =>
    intro i acc hi h0 h1
    have hw : i < W.length := by omega
    have hv : i < V.length := by omega
    refine Ev.succ ?_
    simp only [impl_dot.l0]
    have b1 := allR_get hW i hw
    have b2 := allR_get hV i hv
    have m := mul_bd b1.1 (show _ ≤ 30 by omega) b2.1 (show _ ≤ 30 by omega)
    rw [rd_get W i hw, rd_get V i hv, drop_get hw, drop_get hv, w64 (n := (i : Int) + 1) (by omega) (by omega), w64 (n := W[i] * V[i]) (by omega) (by omega), w64 (n := acc + W[i] * V[i]) (by omega) (by omega)]
    refine Ev.pos (by omega) (Ev.pos (by omega) (Ev.pos (by omega) (Ev.pos (by omega) ?_)))
    refine Ev.eq (ih (i + 1) _ (by omega) (by omega) (by omega)) ?_
    simp only [sumM]
    rw [← Int.add_assoc]
theorem impl_dot.ev (p : Int) (hp : 0 < p) (hp' : p ≤ 31) (W V : List Int) (hW : allR p W = true) (hV : allR p V = true) (hl : W.length ≤ V.length) (hl' : V.length ≤ 35184372088832) : Ev (fun k => impl_dot.f k p W V) (dotM p W V) := by
  unfold impl_dot.f
  exact Ev.eq (impl_dot.ev_l p hp hp' W V hW hV hl hl' W.length 0 0 (by omega) (by omega) (by omega)) (by simp [dotM])

-- impl_openAt
theorem impl_openAt.ev (p x : Int) (hx : 0 ≤ x ∧ x ≤ p - 1) (l : List S68) (hl : isSh p l = true) : Ev (fun k => impl_openAt.f k p l x) (dotM p (wM p (l.map (·.f0)) x) (l.map (·.f1))) := by
  obtain ⟨h1, h2, h3, h4⟩ := isSh_of hl
  have hb := isPr_bd h1
  unfold impl_openAt.f
  refine Ev.bind (impl_pointsOf.ev l (by omega)) (Ev.bind (impl_weights.ev p x h1 hx _ h2) (Ev.bind (impl_dot.ev p (by omega) (by omega) _ _ (wM_all (by omega) _ x) h3 (by rw [wM_length]; simp) (by simp; omega)) (Ev.now _)))

-- impl_OpenAt
theorem impl_OpenAt.ev (p : Int) (l : List S68) (x : Int) (hl : l.length ≤ 8796093022208) : Ev (fun k => impl_OpenAt.f k p l x) (openAtM p l x) := by
  unfold impl_OpenAt.f openAtM
  refine Ev.bind (impl_ValidShares.ev p l hl) ?_
  by_cases hc : isSh p l = true
  · obtain ⟨h1, h2, h3, h4⟩ := isSh_of hc
    have hb := isPr_bd h1
    rw [if_pos hc]
    refine Ev.pos hc (Ev.bind (impl_areElements.ev p [x] (by simp)) ?_)
    rw [impl_areElements.at p x h1]
    by_cases hx : 0 ≤ x ∧ x ≤ p - 1
    · rw [if_pos hx]
      refine Ev.pos (decide_eq_true hx) ?_
      by_cases h0 : l.length = 0
      · rw [if_pos h0]
        exact Ev.pos (by omega) (Ev.now _)
      · rw [if_neg h0]
        exact Ev.neg (by omega) (Ev.bind (impl_openAt.ev p x hx l hc) (Ev.now _))
    · rw [if_neg hx]
      exact Ev.neg (by simpa using hx) (Ev.now _)
  · rw [if_neg hc]
    exact Ev.neg hc (Ev.now _)

end Go.Proofs.Ytonpikcbmgmchaa.PFnSecrecy
