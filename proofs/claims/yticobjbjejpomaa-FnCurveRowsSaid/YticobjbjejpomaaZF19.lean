/- Walks. -/
import Derived.Test.YticobjbjejpomaaZF18
set_option linter.unusedVariables false
set_option linter.unusedSimpArgs false
namespace Go.Proofs.Yticobjbjejpomaa.VC
open Go Go.RowKit
open VI (dl dl_fst)
theorem prime_of {p : Int} (h : p ∈ ([5, 7, 11, 13] : List Int)) : primeI p ∧ 5 ≤ p ∧ p ≤ 13 := by
  have key : ∀ q : Int, q = 5 ∨ q = 7 ∨ q = 11 ∨ q = 13 → primeI q := fun q hq => ⟨by omega, fun e h1 h2 h3 => by
    have he : e = 2 ∨ e = 3 := by
      have : e ≤ 3 := by
        rcases Int.lt_or_le 3 e with g | g
        · have := Int.mul_le_mul (show (4 : Int) ≤ e by omega) (show (4 : Int) ≤ e by omega) (by decide) (by omega); omega
        · exact g
      omega
    rcases he with rfl | rfl <;> omega⟩
  have : p = 5 ∨ p = 7 ∨ p = 11 ∨ p = 13 := by simpa using h
  exact ⟨key p this, by omega⟩
theorem vS_dl {p : Int} {c pts : List Int} (hp : primeI p) (hpt : ptsI p pts) : vS p (dl p c pts) := by
  refine ⟨hp, fun j hj => ?_, by rw [dl_fst]; exact hpt⟩
  have hj' : j < pts.length := by simpa [dl] using hj
  have := val_in (show 0 < p by have := hp.1; omega) c pts[j]
  simpa [dl, hj'] using this
theorem u64_small {j : Nat} (h : j < 7) : (IntKind.u64.wrap (j : Int)).toNat = j := by
  have : j = 0 ∨ j = 1 ∨ j = 2 ∨ j = 3 ∨ j = 4 ∨ j = 5 ∨ j = 6 := by omega
  rcases this with rfl | rfl | rfl | rfl | rfl | rfl | rfl <;> rfl
theorem shr_i (s : Nat) {j : Nat} (h : j < 7) : (s : Int).fdiv (2 ^ min (IntKind.u64.wrap (j : Int) : Int).toNat IntKind.i64.bits) = ((s / 2 ^ j : Nat) : Int) := by
  rw [u64_small h, show min j IntKind.i64.bits = j from Nat.min_eq_left (by simp only [IntKind.bits]; omega), fdiv_nat]
theorem pow_Cg {p a : Int} (hp : 2 ≤ p) : ∀ c : Nat, Cg p (powM p a c) (a ^ c)
  | 0 => by rw [← pow_zero (p := p) (a := a) hp, Int.pow_zero]; exact Cg.refl _ _
  | c + 1 => by
    have h := pow_Cg (a := a) hp c
    rw [Int.pow_succ]
    exact (Cg.mod p _).trans (h.mul (Cg.refl p a))
/-- What so many powers can't make: at fewer points than columns, only 0. -/
theorem vander_no {p : Int} (hp : isPr p = true) {x : Nat → Int} : ∀ (m : Nat) {y : Nat → Int} {a : Int}, (∀ j, j < m → 1 ≤ x j ∧ x j < p) → (∀ c : Nat, c ≤ m → Cg p (sumZ (fun j => y j * x j ^ c) m) (if c = 0 then a else 0)) → Cg p a 0
  | 0, y, a, _, h => by
    have := h 0 (Nat.le_refl _)
    simp only [sumZ, if_true] at this
    exact this.symm
  | m + 1, y, a, hx, h => by
    have hm := hx m (by omega)
    have h1 : Cg p (-(a * x m)) 0 := vander_no hp m (y := fun j => y j * (x j - x m)) (a := -(a * x m)) (fun j hj => hx j (by omega)) (fun c hc => by
      have e : sumZ (fun j => y j * (x j - x m) * x j ^ c) m = sumZ (fun j => y j * x j ^ (c + 1)) (m + 1) - x m * sumZ (fun j => y j * x j ^ c) (m + 1) := by
        have e1 : ∀ n, sumZ (fun j => y j * (x j - x m) * x j ^ c) n = sumZ (fun j => y j * x j ^ (c + 1)) n - x m * sumZ (fun j => y j * x j ^ c) n := fun n => by
          induction n with
          | zero => simp [sumZ]
          | succ n ih => simp only [sumZ]; rw [ih, Int.pow_succ]; grind
        rw [← e1 (m + 1)]
        simp only [sumZ]
        grind
      rw [e]
      have h2 := (h (c + 1) (by omega)).sub ((Cg.refl p (x m)).mul (h c (by omega)))
      refine h2.trans (Cg.of_eq ?_)
      rw [if_neg (by omega)]
      by_cases h0 : c = 0
      · rw [if_pos h0, if_pos h0]; grind
      · rw [if_neg h0, if_neg h0]; grind)
    have hinv := invM_spec hp hm.1 hm.2
    have h3 := h1.mul (Cg.refl p (-(invM p (x m))))
    have h4 : Cg p (x m * invM p (x m)) 1 := Cg.of_emod (by rw [hinv.1]; exact (Int.emod_eq_of_lt (by decide) (by have := isPr_bd hp; omega)).symm)
    have h5 := (Cg.refl p a).mul h4
    refine Cg.trans ?_ (Cg.trans h3 (Cg.of_eq (by grind)))
    refine Cg.trans ?_ (Cg.of_eq (by grind : a * (x m * invM p (x m)) = -(a * x m) * -(invM p (x m))))
    exact ((h5.trans (Cg.of_eq (by grind))).symm)
theorem unit_get {K c : Nat} (h : c < K) : (unitL K 0).getD c 0 = if c = 0 then 1 else 0 := by
  unfold unitL
  rw [List.getD_eq_getElem?_getD, List.getElem?_set]
  by_cases h0 : c = 0
  · subst h0
    simp [h]
  · rw [if_neg (by omega), if_neg h0]
    simp [List.getElem?_replicate, h]
/-- Rows of powers that make 1 in the first column alone are at least as many as the columns. -/
theorem made_least {p : Int} {K : Nat} {rows : List (List Int)} {x : Nat → Int} (hp : isPr p = true) (hx : ∀ j, j < rows.length → 1 ≤ x j ∧ x j < p) (hr : ∀ j, j < rows.length → ∀ c, c < K → (rows.getD j []).getD c 0 = powM p (x j) c)
    (h : ∃ y : Nat → Int, ∀ c, c < K → Cg p (mix rows y rows.length c) ((unitL K 0).getD c 0)) : K ≤ rows.length := by
  rcases Nat.lt_or_ge rows.length K with hl | hl
  · exfalso
    have hb := isPr_bd hp
    obtain ⟨y, hy⟩ := h
    have h1 : Cg p 1 0 := vander_no hp rows.length (y := y) (a := 1) (x := x) hx (fun c hc => by
      have h2 := hy c (by omega)
      rw [unit_get (by omega)] at h2
      refine Cg.trans ?_ h2
      unfold mix
      exact sumZ_cg (fun j hj => (Cg.refl p (y j)).mul (by rw [hr j hj c (by omega)]; exact (pow_Cg hb.1 c).symm)))
    have := h1.eq (by omega) (by omega) (by omega) (by omega)
    omega
  · exact hl
/-- What the elements that make 1 in the first column give of shares: the secret. -/
theorem reb_val {p : Int} {K m : Nat} {rows : List (List Int)} {y full : Nat → Int} (hK : 0 < K) (h : ∀ c, c < K → Cg p (mix rows y m c) ((unitL K 0).getD c 0)) :
    Cg p (sumZ (fun j => y j * sumZ (fun c => (rows.getD j []).getD c 0 * full c) K) m) (full 0) := by
  have e1 : sumZ (fun j => y j * sumZ (fun c => (rows.getD j []).getD c 0 * full c) K) m = sumZ (fun j => sumZ (fun c => y j * ((rows.getD j []).getD c 0 * full c)) K) m := sumZ_congr (fun j _ => (sumZ_mul _ _ _).symm)
  have e2 := sumZ_swap (fun j c => y j * ((rows.getD j []).getD c 0 * full c)) K m
  rw [e1, e2]
  have e3 : ∀ c, sumZ (fun j => y j * ((rows.getD j []).getD c 0 * full c)) m = full c * mix rows y m c := fun c => by
    unfold mix
    rw [← sumZ_mul]
    exact sumZ_congr (fun j _ => by grind)
  have h1 : ∀ c, c < K → Cg p (sumZ (fun j => y j * ((rows.getD j []).getD c 0 * full c)) m) (full c * (unitL K 0).getD c 0) := fun c hc => by
    rw [e3]
    exact (Cg.refl p (full c)).mul (h c hc)
  refine (sumZ_cg h1).trans ?_
  have h2 := sumZ_one (p := p) (f := fun c => full c * (unitL K 0).getD c 0) (i := 0) hK (fun c hc hne => by
    show Cg p (full c * (unitL K 0).getD c 0) 0
    rw [unit_get hc, if_neg hne, Int.mul_zero]; exact Cg.refl _ _)
  refine h2.trans (Cg.of_eq ?_)
  show full 0 * (unitL K 0).getD 0 0 = full 0
  rw [unit_get hK, if_pos rfl, Int.mul_one]
theorem inv_diff {p a b : Int} (hp : isPr p = true) (ha : 0 ≤ a ∧ a < p) (hb : 0 ≤ b ∧ b < p) (hne : a ≠ b) : Cg p ((a - b) * invM p ((a - b) % p)) 1 := by
  have hb2 := isPr_bd hp
  have h1 := emod_bd (show 0 < p by omega) (a - b)
  have h0 : (a - b) % p ≠ 0 := fun e => by
    obtain ⟨q, hq⟩ := Int.dvd_of_emod_eq_zero e
    have h2 : q = 0 := by
      rcases Int.lt_trichotomy q 0 with g | g | g
      · have := Int.mul_le_mul_of_nonneg_left (show q ≤ -1 by omega) (show 0 ≤ p by omega); omega
      · exact g
      · have := Int.mul_le_mul_of_nonneg_left (show 1 ≤ q by omega) (show 0 ≤ p by omega); omega
    rw [h2, Int.mul_zero] at hq
    omega
  have hinv := invM_spec hp (show 1 ≤ (a - b) % p by omega) h1.2
  have h4 : Cg p ((a - b) % p * invM p ((a - b) % p)) 1 := Cg.of_emod (by rw [hinv.1]; exact (Int.emod_eq_of_lt (by decide) (by omega)).symm)
  exact (((Cg.mod p (a - b)).symm).mul (Cg.refl p _)).trans h4
/-- At as many different points as columns, all can be made. -/
theorem vander_yes {p : Int} (hp : isPr p = true) {x : Nat → Int} : ∀ (m : Nat) (t : Nat → Int), (∀ j, j < m → 0 ≤ x j ∧ x j < p) → (∀ i j, i < j → j < m → x i ≠ x j) → ∃ y : Nat → Int, ∀ c : Nat, c < m → Cg p (sumZ (fun j => y j * x j ^ c) m) (t c)
  | 0, t, _, _ => ⟨fun _ => 0, fun c hc => absurd hc (Nat.not_lt_zero _)⟩
  | m + 1, t, hx, hd => by
    obtain ⟨y', hy⟩ := vander_yes hp m (fun c => t (c + 1) - x m * t c) (fun j hj => hx j (by omega)) (fun i j h1 h2 => hd i j h1 (by omega))
    let z : Nat → Int := fun j => y' j * invM p ((x j - x m) % p)
    refine ⟨fun j => if j = m then t 0 - sumZ z m else z j, fun c => ?_⟩
    have hs : ∀ c, sumZ (fun j => (if j = m then t 0 - sumZ z m else z j) * x j ^ c) (m + 1) = sumZ (fun j => z j * x j ^ c) m + (t 0 - sumZ z m) * x m ^ c := fun c => by
      have e : sumZ (fun j => (if j = m then t 0 - sumZ z m else z j) * x j ^ c) m = sumZ (fun j => z j * x j ^ c) m := sumZ_congr (fun j hj => by
        show (if j = m then _ else _) * _ = _
        rw [if_neg (by omega)])
      simp only [sumZ, if_true]
      rw [e]
    induction c with
    | zero =>
      intro _
      rw [hs]
      have e : sumZ (fun j => z j * x j ^ 0) m = sumZ z m := sumZ_congr (fun j _ => by rw [Int.pow_zero, Int.mul_one])
      rw [e, Int.pow_zero, Int.mul_one]
      exact Cg.of_eq (by omega)
    | succ c ih =>
      intro hc
      have h1 := ih (by omega)
      rw [hs] at h1 ⊢
      have h2 := hy c (by omega)
      have e : ∀ n, sumZ (fun j => z j * x j ^ (c + 1)) n - x m * sumZ (fun j => z j * x j ^ c) n = sumZ (fun j => z j * (x j - x m) * x j ^ c) n := fun n => by
        induction n with
        | zero => simp [sumZ]
        | succ n ih => simp only [sumZ]; rw [← ih, Int.pow_succ]; grind
      have h3 : Cg p (sumZ (fun j => z j * (x j - x m) * x j ^ c) m) (sumZ (fun j => y' j * x j ^ c) m) := sumZ_cg (fun j hj => by
        have h4 := (inv_diff hp (hx j (by omega)) (hx m (by omega)) (hd j m hj (by omega)))
        refine Cg.mul ?_ (Cg.refl p _)
        have h5 := (Cg.refl p (y' j)).mul h4
        exact (Cg.of_eq (by show y' j * invM p ((x j - x m) % p) * (x j - x m) = y' j * ((x j - x m) * invM p ((x j - x m) % p)); grind)).trans (h5.trans (Cg.of_eq (by omega))))
      rw [← e m] at h3
      have h6 := h3.trans h2
      have h7 := h6.add ((Cg.refl p (x m)).mul h1)
      refine Cg.trans (Cg.of_eq ?_) (h7.trans (Cg.of_eq ?_))
      · rw [Int.pow_succ]; grind
      · grind
/-- Rows of powers of different points open just if they are at least as many as the columns. -/
theorem made_enough {p : Int} {K : Nat} {rows : List (List Int)} {x : Nat → Int} (hp : isPr p = true) (hx : ∀ j, j < rows.length → 0 ≤ x j ∧ x j < p) (hd : ∀ i j, i < j → j < rows.length → x i ≠ x j) (hr : ∀ j, j < rows.length → ∀ c, c < K → (rows.getD j []).getD c 0 = powM p (x j) c)
    (hK : K ≤ rows.length) (t : Nat → Int) : ∃ y : Nat → Int, ∀ c, c < K → Cg p (mix rows y rows.length c) (t c) := by
  have hb := isPr_bd hp
  obtain ⟨y, hy⟩ := vander_yes hp (x := x) K t (fun j hj => hx j (by omega)) (fun i j h1 h2 => hd i j h1 (by omega))
  refine ⟨fun j => if j < K then y j else 0, fun c hc => ?_⟩
  unfold mix
  rw [sumZ_cut hK (fun j h1 h2 => by
    show (if j < K then y j else 0) * _ = 0
    rw [if_neg (by omega), Int.zero_mul])]
  refine Cg.trans (sumZ_cg (g := fun j => y j * x j ^ c) (fun j hj => ?_)) (hy c hc)
  show Cg p ((if j < K then y j else 0) * _) _
  rw [if_pos hj]
  exact (Cg.refl p (y j)).mul (by rw [hr j (by omega) c hc]; exact pow_Cg hb.1 c)
/-- A vector is made by rows. -/
def MadeF (p : Int) (A : List (List Int)) (C : Nat) (t : Nat → Int) : Prop := ∃ x : Nat → Int, ∀ c, c < C → Cg p (mix A x A.length c) (t c)
theorem comb_made {p : Int} {C : Nat} {rows : List (List Int)} {tg : List Int} (hp : isPr p = true) (h : rect p C rows) (ht : elems p tg) (htl : tg.length = C) : (combI p rows tg).2 = true ↔ MadeF p rows C (fun c => tg.getD c 0) := by
  obtain ⟨h1, h2⟩ := combI_end hp h ht htl
  constructor
  · intro q
    exact ⟨_, (h1 q).2.2.1⟩
  · rintro ⟨x, hx⟩
    cases e : (combI p rows tg).2 with
    | true => rfl
    | false => exact absurd hx ((h2 e).2 x)
/-! ### The scheme of curves -/
def ownN (n : Nat) : List Int := (List.range n).map (fun h : Nat => (h : Int))
def ptsN (n : Nat) : List Int := (List.range n).map (fun h : Nat => (h : Int) + 1)
def powR (p x : Int) (m : Nat) : List Int := (List.range m).map (fun c => powM p x c)
def powL (p : Int) (pts : List Int) (m : Nat) : List (List Int) := pts.map (fun x => powR p x m)
def fullL (c : List Int) (m : Nat) : List Int := c ++ List.replicate (m - c.length) 0
def grpB (b n : Nat) : List Int := ((List.range n).filter (fun h => b.testBit h)).map (fun h : Nat => (h : Int))
theorem powR_succ (p x : Int) (m : Nat) : powR p x (m + 1) = powR p x m ++ [powM p x m] := by simp [powR, List.range_succ]
theorem powR_len (p x : Int) (m : Nat) : (powR p x m).length = m := by simp [powR]
theorem powR_get {p x : Int} {m c : Nat} (h : c < m) : (powR p x m).getD c 0 = powM p x c := by simp [powR, h]
theorem ownN_succ (n : Nat) : ownN (n + 1) = ownN n ++ [(n : Int)] := by simp [ownN, List.range_succ]
theorem ptsN_succ (n : Nat) : ptsN (n + 1) = ptsN n ++ [(n : Int) + 1] := by simp [ptsN, List.range_succ]
theorem ownN_len (n : Nat) : (ownN n).length = n := by simp [ownN]
theorem ptsN_len (n : Nat) : (ptsN n).length = n := by simp [ptsN]
theorem ptsN_get {n j : Nat} (h : j < n) : (ptsN n).getD j 0 = (j : Int) + 1 := by simp [ptsN, h]
theorem powL_len (p : Int) (pts : List Int) (m : Nat) : (powL p pts m).length = pts.length := by simp [powL]
theorem powL_get {p : Int} {pts : List Int} {m j : Nat} (h : j < pts.length) : (powL p pts m).getD j [] = powR p (pts.getD j 0) m := by simp [powL, h]
theorem powR_in {p : Int} (hp : 0 < p) (x : Int) (m : Nat) : elems p (powR p x m) := fun j hj => by
  rw [powR_len] at hj
  rw [powR_get hj]
  have := powM_in (a := x) hp j
  omega
theorem powL_rect {p : Int} (hp : 0 < p) (pts : List Int) (m : Nat) : rect p m (powL p pts m) := fun i hi => by
  rw [powL_len] at hi
  rw [powL_get hi]
  exact ⟨powR_len _ _ _, powR_in hp _ _⟩
theorem fullL_len {c : List Int} {m : Nat} (h : c.length ≤ m) : (fullL c m).length = m := by simp [fullL]; omega
theorem fullL_get (c : List Int) (m j : Nat) : (fullL c m).getD j 0 = c.getD j 0 := by
  unfold fullL
  rw [List.getD_eq_getElem?_getD, List.getElem?_append]
  split
  · rw [← List.getD_eq_getElem?_getD]
  · rename_i h
    rw [getD_ge h, List.getElem?_replicate]
    split <;> rfl
theorem full_in {p : Int} (hp : 0 < p) {c : List Int} (h : elems p c) (m : Nat) : elems p (fullL c m) := fun j _ => by
  rw [fullL_get]; exact getD_in h hp j
theorem sumZ_head (f : Nat → Int) : ∀ n : Nat, sumZ f (n + 1) = f 0 + sumZ (fun j => f (j + 1)) n
  | 0 => by simp [sumZ]
  | n + 1 => by
    have h := sumZ_head f n
    rw [show sumZ f (n + 1 + 1) = sumZ f (n + 1) + f (n + 1) from rfl, h, show sumZ (fun j => f (j + 1)) (n + 1) = sumZ (fun j => f (j + 1)) n + f (n + 1) from rfl]
    omega
theorem dotI_sum (a b : List Int) : ∀ n : Nat, dotI a b n = sumZ (fun j => a.getD j 0 * b.getD j 0) n
  | 0 => rfl
  | n + 1 => by rw [dotI_succ, dotI_sum a b n]; rfl
/-- A curve's value is the sum of its coefficients times powers. -/
theorem val_sumZ (p : Int) (x : Int) : ∀ (c : List Int) (n : Nat), c.length ≤ n → Cg p (val p c x) (sumZ (fun j => c.getD j 0 * x ^ j) n)
  | [], n, _ => by
    have e : sumZ (fun j => ([] : List Int).getD j 0 * x ^ j) n = 0 := (sumZ_congr (g := fun _ => 0) (fun j _ => by simp)).trans (sumZ_nil n)
    rw [e]; exact Cg.refl _ _
  | a :: c, 0, h => by simp at h
  | a :: c, n + 1, h => by
    have ih := val_sumZ p x c n (by simpa using h)
    rw [sumZ_head]
    have e : sumZ (fun j => (a :: c).getD (j + 1) 0 * x ^ (j + 1)) n = sumZ (fun j => x * (c.getD j 0 * x ^ j)) n := sumZ_congr (fun j _ => by
      rw [show (a :: c).getD (j + 1) 0 = c.getD j 0 from by simp, Int.pow_succ]; grind)
    rw [e, sumZ_mul]
    refine (Cg.mod p _).trans ?_
    have h2 := (ih.mul (Cg.refl p x)).add (Cg.refl p a)
    refine h2.trans (Cg.of_eq ?_)
    rw [show (a :: c).getD 0 0 = a from by simp, Int.pow_zero]; grind
theorem dot_val {p : Int} (hp : 2 ≤ p) (x : Int) {c : List Int} {m : Nat} (h : c.length ≤ m) : dotI (powR p x m) (fullL c m) m % p = val p c x := by
  have h1 := val_in (show 0 < p by omega) c x
  have h2 := emod_bd (show 0 < p by omega) (dotI (powR p x m) (fullL c m) m)
  refine Cg.eq (p := p) ((Cg.mod p _).trans (Cg.symm ?_)) h2.1 h2.2 h1.1 (by omega)
  refine (val_sumZ p x c m h).trans ?_
  rw [dotI_sum]
  exact sumZ_cg (fun j hj => by
    rw [powR_get hj, fullL_get, Int.mul_comm]
    exact (pow_Cg hp j).symm.mul (Cg.refl p _))
/-- The shares of all rows. -/
def shV (l : List (List Int)) (all : List Int) (p : Int) : List Int := l.map (fun r => dotI r all r.length % p)
theorem shV_snoc {l : List (List Int)} {all : List Int} {p : Int} {i : Nat} {z : List Int} (hz : l[(i : Int).toNat]? = some z) : shV (l.take (i + 1)) all p = shV (l.take i) all p ++ [dotI z all z.length % p] := by
  unfold shV
  rw [tk_snoc hz, List.map_append]; rfl
theorem sh_curve {p : Int} (hp : 2 ≤ p) {c : List Int} {m : Nat} (h : c.length ≤ m) (pts : List Int) : shV (powL p pts m) (fullL c m) p = pts.map (fun x => val p c x) := by
  unfold shV powL
  rw [List.map_map]
  refine List.map_congr_left (fun x _ => ?_)
  show dotI (powR p x m) (fullL c m) (powR p x m).length % p = val p c x
  rw [powR_len]; exact dot_val hp x h
/-- Groups of up to four holders. -/
theorem grp_all : ∀ n : Fin 5, ∀ b : Fin 16, (∀ j, j < (grpB b.val n.val).length → (0 ≤ (grpB b.val n.val).getD j 0 ∧ (grpB b.val n.val).getD j 0 ≤ (n.val : Int) - 1) ∧ (0 < j → (grpB b.val n.val).getD (j - 1) 0 < (grpB b.val n.val).getD j 0)) ∧ (grpB b.val n.val).length ≤ 4 ∧ idxB (fun x => decide (x ∈ grpB b.val n.val)) (ownN n.val) (ownN n.val).length = grpB b.val n.val := by decide +kernel
theorem bitZ_i {q : Nat} {h : Int} (hq : q < 128) (hh : 0 ≤ h ∧ h ≤ 6) : bt .and .i64 ((q : Int).fdiv (2 ^ min (IntKind.u64.wrap h : Int).toNat IntKind.i64.bits)) 1 = 1 ↔ q / 2 ^ h.toNat % 2 = 1 := by
  obtain ⟨j, rfl⟩ := Int.eq_ofNat_of_zero_le hh.1
  rw [shr_i q (by omega), bit_of (.inl rfl) hq, Int.toNat_natCast]
  omega
theorem grpB_yes {q i : Nat} (h : q / 2 ^ i % 2 = 1) : grpB q (i + 1) = grpB q i ++ [(i : Int)] := by
  unfold grpB
  have e : q.testBit i = true := by rw [Nat.testBit_eq_decide_div_mod_eq]; exact decide_eq_true h
  rw [List.range_succ, List.filter_append, List.map_append]
  simp [e]
theorem grpB_no {q i : Nat} (h : ¬ q / 2 ^ i % 2 = 1) : grpB q (i + 1) = grpB q i := by
  unfold grpB
  have e : q.testBit i = false := by rw [Nat.testBit_eq_decide_div_mod_eq]; exact decide_eq_false h
  rw [List.range_succ, List.filter_append, List.map_append]
  simp [e]
theorem grpB_len (q n : Nat) : (grpB q n).length ≤ n := by
  unfold grpB
  rw [List.length_map]
  exact Nat.le_trans (List.length_filter_le _ _) (by simp)
/-- How many groups there are. -/
def shlN (n : Nat) : Int := IntKind.i64.wrap (1 * 2 ^ min (IntKind.u64.wrap (n : Int) : Int).toNat IntKind.i64.bits)
theorem shl_all : ∀ n : Fin 5, 1 ≤ shlN n.val ∧ shlN n.val ≤ 16 := by decide +kernel
theorem shl_bd {n : Nat} (h : n ≤ 4) : 1 ≤ shlN n ∧ shlN n ≤ 16 := shl_all ⟨n, by omega⟩
theorem powL_snoc {p : Int} {l : List Int} {m i : Nat} {z : Int} (hz : l[(i : Int).toNat]? = some z) : powL p (l.take (i + 1)) m = powL p (l.take i) m ++ [powR p z m] := by
  unfold powL
  rw [tk_snoc hz, List.map_append]; rfl
structure Grp (n : Nat) (g : List Int) : Prop where
  ris : Ris 0 ((n : Int) - 1) g
  idx : idxG (ownN n) g = g
  bd : ∀ q ∈ g, 0 ≤ q ∧ q < n
  l4 : g.length ≤ 4
theorem grp_of {n b : Nat} (hn : n ≤ 4) (hb : b < 16) : Grp n (grpB b n) := by
  obtain ⟨h1, h2, h3⟩ := grp_all ⟨n, by omega⟩ ⟨b, hb⟩
  refine ⟨fun j hj => ?_, h3, fun q hq => ?_, h2⟩
  · have q := h1 j hj
    simp only at q
    unfold RisAt
    refine ⟨?_, ?_, fun h0 => ?_⟩
    · omega
    · omega
    · have := q.2 (by omega); first | omega | simpa using this
  · obtain ⟨j, hj, rfl⟩ := mem_getD (d := (0 : Int)) hq
    have q := (h1 j hj).1
    simp only at q
    omega
theorem own_sc {p : Int} (hq : primeI p) {n m : Nat} (hn : 1 ≤ n ∧ n ≤ 4) (hm : 1 ≤ m ∧ m ≤ n) : okSc n (ownN n) p m (powL p (ptsN n) m) := by
  refine ⟨by omega, ⟨hq, by omega, by rw [powL_len, ptsN_len]; omega, fun x hx => ?_⟩, by omega, by rw [ownN_len, powL_len, ptsN_len], fun x hx => ?_⟩
  · obtain ⟨j, hj, rfl⟩ := mem_getD (d := ([] : List Int)) hx
    have := powL_rect (show 0 < p by have := hq.1; omega) (ptsN n) m j hj
    exact ⟨this.2, by omega⟩
  · simp only [ownN, List.mem_map, List.mem_range] at hx
    obtain ⟨a, ha, rfl⟩ := hx
    omega
/-- The points of a group. -/
def gpt (g : List Int) : List Int := g.map (fun q => q + 1)
theorem part_pow {p : Int} {n m : Nat} {g : List Int} (hg : Grp n g) : partL (powL p (ptsN n) m) (idxG (ownN n) g) = powL p (gpt g) m := by
  rw [hg.idx]
  unfold partL gpt
  rw [show powL p (g.map (fun q => q + 1)) m = g.map (fun q => powR p (q + 1) m) from by unfold powL; rw [List.map_map]; rfl]
  refine List.map_congr_left (fun q hq => ?_)
  have hb := hg.bd q hq
  rw [powL_get (by rw [ptsN_len]; omega), ptsN_get (by omega)]
  congr 1
  omega
theorem gpt_len (g : List Int) : (gpt g).length = g.length := by simp [gpt]
theorem gpt_get {g : List Int} {j : Nat} (h : j < g.length) : (gpt g).getD j 0 = g.getD j 0 + 1 := by simp [gpt, h]
theorem grp_at {n : Nat} {g : List Int} (hg : Grp n g) {j : Nat} (h : j < g.length) : 0 ≤ g.getD j 0 ∧ g.getD j 0 < n := by
  have e : g.getD j 0 = g[j] := by simp [h]
  rw [e]; exact hg.bd _ (List.getElem_mem h)
theorem grp_lt {n : Nat} {g : List Int} (hg : Grp n g) : ∀ j i, i < j → j < g.length → g.getD i 0 < g.getD j 0
  | 0, i, h, _ => by omega
  | j + 1, i, h, hj => by
    have q := hg.ris (j + 1) hj
    unfold RisAt at q
    have q2 := q.2.2 (by omega)
    have e : (((j + 1 : Nat) : Int) - 1).toNat = j := by omega
    have q3 : g.getD j 0 < g.getD (j + 1) 0 := by first | simpa using q2 | (simp only [e] at q2; exact q2)
    rcases Nat.lt_or_ge i j with h1 | h1
    · have := grp_lt hg j i h1 (by omega); omega
    · have : i = j := by omega
      subst this; exact q3
theorem open_iff {p : Int} (hq : isPr p = true) {n m : Nat} (hm : 1 ≤ m) (hp : (n : Int) < p) {g : List Int} (hg : Grp n g) : (openX p m (ownN n) (powL p (ptsN n) m) g).2 = decide (m ≤ g.length) := by
  have hb := isPr_bd hq
  have hP : openX p m (ownN n) (powL p (ptsN n) m) g = combI p (powL p (gpt g) m) (unitL m 0) := by
    unfold openX; rw [part_pow hg, Int.toNat_natCast]
  rw [hP]
  have h := comb_made hq (powL_rect (show 0 < p by omega) (gpt g) m) (unitL_in hb.1 m 0) (unitL_len m 0)
  have hL : (powL p (gpt g) m).length = g.length := by rw [powL_len, gpt_len]
  have hr : ∀ j, j < (powL p (gpt g) m).length → ∀ c, c < m → ((powL p (gpt g) m).getD j []).getD c 0 = powM p (g.getD j 0 + 1) c := fun j hj c hc => by
    rw [hL] at hj
    rw [powL_get (by rw [gpt_len]; exact hj), powR_get hc, gpt_get hj]
  have hx : ∀ j, j < (powL p (gpt g) m).length → 1 ≤ g.getD j 0 + 1 ∧ g.getD j 0 + 1 < p := fun j hj => by
    rw [hL] at hj
    have := grp_at hg hj; omega
  rw [Bool.eq_iff_iff, h, decide_eq_true_eq]
  constructor
  · rintro hmd
    have := made_least hq (x := fun j => g.getD j 0 + 1) hx hr hmd
    omega
  · intro hl
    exact made_enough hq (x := fun j => g.getD j 0 + 1) (fun j hj => by have := hx j hj; omega) (fun i j h1 h2 => by
      have := grp_lt hg j i h1 (by omega)
      show g.getD i 0 + 1 ≠ g.getD j 0 + 1
      omega) hr (by omega) _
theorem so_curve {p : Int} (hq : primeI p) {n m : Nat} (hn : 1 ≤ n ∧ n ≤ 4) (hm : 1 ≤ m ∧ m ≤ n) (hp : (n : Int) < p) {g : List Int} (hg : Grp n g) :
    askC n (ownN n) p m (powL p (ptsN n) m) g = 0 ∧ soB n (ownN n) p m (powL p (ptsN n) m) g = decide (m ≤ g.length) := by
  have h0 := askC_0 (own_sc hq hn hm) hg.ris
  refine ⟨h0, ?_⟩
  unfold soB
  rw [if_pos h0]
  exact open_iff (isPr_of hq) hm.1 hp hg
/-- The values that a group holds. -/
def gvs (p : Int) (c g : List Int) : List Int := g.map (fun q => val p c (q + 1))
theorem gvs_len (p : Int) (c g : List Int) : (gvs p c g).length = g.length := by simp [gvs]
theorem gvs_get {p : Int} {c g : List Int} {j : Nat} (h : j < g.length) : (gvs p c g).getD j 0 = val p c (g.getD j 0 + 1) := by simp [gvs, h]
theorem gvs_in {p : Int} (hp : 0 < p) (c g : List Int) : elems p (gvs p c g) := fun j hj => by
  rw [gvs_len] at hj
  rw [gvs_get hj]; exact val_in hp c _
/-- Shares of a curve are consistent. -/
theorem con_curve {p : Int} (hq : isPr p = true) {m : Nat} {c g : List Int} (hc : c.length ≤ m) : (solM p m (besL (powL p (gpt g) m) [gvs p c g] (powL p (gpt g) m).length)).2 = true := by
  have hb := isPr_bd hq
  have hR := powL_rect (show 0 < p by omega) (gpt g) m
  cases hy : (solM p m (besL (powL p (gpt g) m) [gvs p c g] (powL p (gpt g) m).length)).2 with
  | true => rfl
  | false =>
    exfalso
    refine (sol_no hq (bes_rect (by omega) hR (gvs_in (by omega) c g)) hy).2 ⟨fun j => (fullL c m).getD j 0, fun r hr => ?_⟩
    rw [besL_len] at hr
    rw [besL_get hr]
    have hrl := hr
    rw [powL_len, gpt_len] at hrl
    have hw := (hR r hr).1
    have e1 : (besAt (powL p (gpt g) m) [gvs p c g] r).getD m 0 = val p c (g.getD r 0 + 1) := by
      unfold besAt colT
      rw [List.getD_eq_getElem?_getD, List.getElem?_append_right (by omega), hw, Nat.sub_self]
      show (gvs p c g).getD r 0 = _
      exact gvs_get hrl
    have e2 : ∀ j, j < m → (besAt (powL p (gpt g) m) [gvs p c g] r).getD j 0 = powM p (g.getD r 0 + 1) j := fun j hj => by
      unfold besAt
      rw [List.getD_eq_getElem?_getD, List.getElem?_append_left (by omega), ← List.getD_eq_getElem?_getD, powL_get (by rw [gpt_len]; exact hrl), powR_get hj, gpt_get hrl]
    rw [e1]
    refine Cg.trans (Cg.of_eq ?_) ((Cg.mod p (dotI (powR p (g.getD r 0 + 1) m) (fullL c m) m)).symm.trans (Cg.of_eq (dot_val hb.1 _ hc)))
    rw [dotI_sum]
    unfold dz
    exact sumZ_congr (fun j hj => by
      show (besAt _ _ r).getD j 0 * _ = _
      rw [e2 j hj, powR_get hj])
/-- What is rebuilt. -/
theorem rb_curve {p : Int} (hq : primeI p) {n m : Nat} (hn : 1 ≤ n ∧ n ≤ 4) (hm : 1 ≤ m ∧ m ≤ n) (hp : (n : Int) < p) {g : List Int} (hg : Grp n g) {c : List Int} (hc : c.length ≤ m) (hce : elems p c) (hl : m ≤ g.length) :
    rbC n (ownN n) p m (powL p (ptsN n) m) g (gvs p c g) = 0 ∧ rbV n (ownN n) p m (powL p (ptsN n) m) g (gvs p c g) = c.getD 0 0 := by
  have hpr := isPr_of hq
  have hb := hq.1
  have h0 := askC_0 (own_sc hq hn hm) hg.ris
  have hw : withC n (ownN n) p m (powL p (ptsN n) m) g (gvs p c g) = 0 := by
    rw [withC_0 h0 ⟨gvs_in (by omega) c g, by rw [gvs_len, hg.idx]⟩]; exact h0
  have hox : (openX p m (ownN n) (powL p (ptsN n) m) g).2 = true := by rw [open_iff hpr hm.1 hp hg]; exact decide_eq_true hl
  have hcb : conB n (ownN n) p m (powL p (ptsN n) m) g (gvs p c g) = true := by
    unfold conB
    rw [if_pos hw, part_pow hg, Int.toNat_natCast]; exact con_curve hpr hc
  refine ⟨by unfold rbC; rw [if_pos hw, if_pos hox, if_pos hcb], ?_⟩
  unfold rbV
  rw [if_pos ⟨hw, hox, hcb⟩]
  have hP : openX p m (ownN n) (powL p (ptsN n) m) g = combI p (powL p (gpt g) m) (unitL m 0) := by
    unfold openX; rw [part_pow hg, Int.toNat_natCast]
  rw [hP] at hox ⊢
  have hR := powL_rect (show 0 < p by omega) (gpt g) m
  have hox2 := hox
  rw [comb_eq hpr hR (unitL_in hb.1 m 0) (unitL_len m 0)] at hox2
  have hB := combS_yes hpr hR (unitL_in hb.1 m 0) hox2
  rw [← comb_eq hpr hR (unitL_in hb.1 m 0) (unitL_len m 0)] at hB
  have hL : (powL p (gpt g) m).length = g.length := by rw [powL_len, gpt_len]
  have h1 := hB.1
  have h3 := hB.2.2.1
  rw [h1, hL, dotI_sum]
  have hv := reb_val (p := p) (K := m) (m := g.length) (rows := powL p (gpt g) m) (y := fun j => (combI p (powL p (gpt g) m) (unitL m 0)).1.getD j 0) (full := fun j => (fullL c m).getD j 0) (by omega) (fun k hk => by
    have := h3 k hk
    rw [hL] at this; exact this)
  have hv2 : Cg p (sumZ (fun j => (combI p (powL p (gpt g) m) (unitL m 0)).1.getD j 0 * (gvs p c g).getD j 0) g.length) (c.getD 0 0) := by
    refine Cg.trans (sumZ_cg (fun j hj => (Cg.refl p _).mul ?_)) (hv.trans (Cg.of_eq (fullL_get c m 0)))
    rw [gvs_get hj]
    refine Cg.symm (Cg.trans (Cg.of_eq ?_) ((Cg.mod p (dotI (powR p (g.getD j 0 + 1) m) (fullL c m) m)).symm.trans (Cg.of_eq (dot_val hb.1 _ hc))))
    rw [dotI_sum, powL_get (by rw [gpt_len]; exact hj), gpt_get hj]
  have hd := emod_bd (show 0 < p by omega) (sumZ (fun j => (combI p (powL p (gpt g) m) (unitL m 0)).1.getD j 0 * (gvs p c g).getD j 0) g.length)
  have hg0 := getD_in hce (show 0 < p by omega) 0
  exact ((Cg.mod p _).trans hv2).eq hd.1 hd.2 hg0.1 (by omega)
theorem ptsN_ris {p : Int} {n : Nat} (h : (n : Int) < p) : Ris 1 (p - 1) (ptsN n) := fun j hj => by
  rw [ptsN_len] at hj
  unfold RisAt
  rw [ptsN_get hj]
  refine ⟨by omega, by omega, fun h0 => ?_⟩
  have e : (ptsN n).getD (j - 1) 0 = ((j - 1 : Nat) : Int) + 1 := ptsN_get (by omega)
  rw [e]; omega
theorem ptsN_pts {p : Int} {n : Nat} (h : (n : Int) < p) (h10 : n ≤ 10) : ptsI p (ptsN n) := ⟨by rw [ptsN_len]; omega, ptsN_ris h⟩
theorem ptsN_in {p : Int} {n : Nat} (h : (n : Int) < p) : elems p (ptsN n) := fun j hj => by
  rw [ptsN_len] at hj
  rw [ptsN_get hj]; omega
theorem gpt_pts {p : Int} {n : Nat} {g : List Int} (hg : Grp n g) (h : (n : Int) < p) : ptsI p (gpt g) := by
  refine ⟨by rw [gpt_len]; have := hg.l4; omega, fun j hj => ?_⟩
  rw [gpt_len] at hj
  have h1 := grp_at hg hj
  unfold RisAt
  rw [gpt_get hj]
  refine ⟨by omega, by omega, fun h0 => ?_⟩
  have e : (gpt g).getD (j - 1) 0 = g.getD (j - 1) 0 + 1 := gpt_get (by omega)
  have := grp_lt hg j (j - 1) (by omega) hj
  rw [e]; omega
theorem full_cons {c : List Int} {m : Nat} {z : Int} (h : (fullL c m)[(0 : Int).toNat]? = some z) : [z] ++ (fullL c m).drop (1 : Int).toNat = fullL c m := by
  generalize fullL c m = L at *
  cases L with
  | nil => cases h
  | cons a L => cases h; rfl
theorem full_zero {c : List Int} {m : Nat} {z : Int} (h : (fullL c m)[(0 : Int).toNat]? = some z) : z = c.getD 0 0 := by
  rw [← fullL_get c m 0, List.getD_eq_getElem?_getD]
  rw [show (fullL c m)[0]? = some z from h]; rfl
theorem full_all {c : List Int} {m j : Nat} (h : c.length + j = m) : fullL c m = c ++ List.replicate j 0 := by
  unfold fullL
  rw [show m - c.length = j by omega]
theorem rep_snoc {c : List Int} {j : Nat} : c ++ List.replicate (j + 1) (0 : Int) = (c ++ List.replicate j 0) ++ [0] := by
  rw [List.replicate_succ', List.append_assoc]
theorem map_get {n q : Nat} {α : Type} {f : Int → α} {z : α} (h : ((ptsN n).map f)[q]? = some z) : q < n ∧ z = f ((q : Int) + 1) := by
  rw [List.getElem?_map, Option.map_eq_some_iff] at h
  obtain ⟨a, ha, rfl⟩ := h
  obtain ⟨hq, hv⟩ := List.getElem?_eq_some_iff.1 ha
  rw [ptsN_len] at hq
  refine ⟨hq, ?_⟩
  have := ptsN_get hq
  rw [List.getD_eq_getElem?_getD, ha] at this
  rw [show a = (q : Int) + 1 from this]
theorem deal_at {p : Int} {c : List Int} {n : Nat} {i a : Int} {b : Int × Int} (h1 : ((ptsN n).map (fun x => val p c x))[i.toNat]? = some a) (h2 : (dl p c (ptsN n))[i.toNat]? = some b) : a = b.2 := by
  rw [(map_get h1).2, (map_get h2).2]
theorem part_snoc {p : Int} {c g : List Int} {n i : Nat} {q : Int} {z : Int × Int} (hg : Grp n g) (hq : g[(i : Int).toNat]? = some q) (hz : (dl p c (ptsN n))[q.toNat]? = some z) : dl p c (gpt (g.take (i + 1))) = dl p c (gpt (g.take i)) ++ [(z.1, z.2)] := by
  have hb := hg.bd _ (List.mem_of_getElem? hq)
  have h1 := (map_get hz).2
  rw [h1, tk_snoc hq]
  unfold dl gpt
  rw [List.map_append, List.map_append, show ((q.toNat : Nat) : Int) = q by omega]
  rfl
theorem vals_snoc {p : Int} {c g : List Int} {n i : Nat} {q z : Int} (hg : Grp n g) (hq : g[(i : Int).toNat]? = some q) (hz : ((ptsN n).map (fun x => val p c x))[q.toNat]? = some z) : gvs p c (g.take (i + 1)) = gvs p c (g.take i) ++ [z] := by
  have hb := hg.bd _ (List.mem_of_getElem? hq)
  have h1 := (map_get hz).2
  rw [h1, tk_snoc hq]
  unfold gvs
  rw [List.map_append, show ((q.toNat : Nat) : Int) = q by omega]
  rfl
theorem elems_cons {p a : Int} {l : List Int} (ha : 0 ≤ a ∧ a ≤ p - 1) (hl : elems p l) : elems p ([a] ++ l) := fun j hj => by
  cases j with
  | zero => exact ha
  | succ j => exact hl j (by simpa using hj)
theorem shV_len (l : List (List Int)) (all : List Int) (p : Int) : (shV l all p).length = l.length := by simp [shV]
theorem elems_drop {p : Int} {l : List Int} (h : elems p l) (n : Nat) : elems p (l.drop n) := fun j hj => by
  rw [List.length_drop] at hj
  have := h (n + j) (by omega)
  rw [List.getD_eq_getElem?_getD, List.getElem?_drop, ← List.getD_eq_getElem?_getD]; exact this
variable {W : World} {H : Hp}

theorem bd31_ : Try.prog.built 31 [] = some #[.int .i64 0, .slice none 0 0, .int .i64 0, .int .i64 0, .slice none 0 0] := by kernel_rfl
theorem bd31_0 (x0 : Int) : Try.prog.built 31 [(0, .int .i64 x0)] = some #[.int .i64 x0, .slice none 0 0, .int .i64 0, .int .i64 0, .slice none 0 0] := by kernel_rfl

set_option maxRecDepth 100000 in
theorem holders_ok (q n : Nat) (hq : q < 128) (hn : n ≤ 7) : ACalls Try.prog W 126 #[.int .i64 (q : Int), .int .i64 (n : Int)] H (fun r H' => Ext H H' ∧ OwnK kI 2 W H' (fun b => H.bd ≤ b) r (grpB q n)) := by
  refine ACalls.of (args := [.int .i64 (q : Int), .int .i64 (n : Int)]) Try.func126 rfl rfl ?_
  have X0 := Ext.refl H
  refine AW.rs ?_
  refine AL.val rfl (.inl rfl) (HV.as rfl) ?_
  refine AL.nx ?_
  refine AW.rs ?_
  have o1 := X0.bd
  refine AL.w rfl (.inl rfl) (WV.bsK (K := kI) (l := ([] : List Int)) (css := []) sl22 rfl rfl (by first | rfl | (simp [Instr.fill, Value.cells, kI, kB, kU, kU8, kS, Kd.sc]; done) | (simp [Instr.fill, Value.cells, kI, kB, kU, kU8, kS, Kd.sc, rng1, rng2, rng3, rng4, kP])) rfl segs_nil) ?_
  rintro v2 H3 ⟨hx4, ho5⟩
  have X6 := Ext.trans X0 hx4
  refine AL.val rfl (.inl rfl) (HV.as rfl) ?_
  refine AL.nx ?_
  refine AW.seq ?_
  refine AW.rs ?_
  refine AL.val rfl (.inl rfl) (HV.as rfl) ?_
  refine AL.nx ?_
  refine AW.block ?_
  refine AW.loop (σ := Nat × Value) (fun ⟨i, vv⟩ => [(0, .int .i64 (q : Int)), (1, .int .i64 (n : Int)), (4, (.slice none 0 0)), (5, vv), (6, .int .i64 (i : Int))]) (fun ⟨i, vv⟩ H' => Ext H H' ∧ i ≤ n ∧ OwnK kI 2 W H' (fun b => H.bd ≤ b) vv (grpB q i) ∧ True) (fun ⟨i, vv⟩ => n - i) (0, v2) ⟨X6, Nat.zero_le _, ho5, trivial⟩ ⟨rfl, rfl, rfl, rfl, rfl, trivial⟩ ?_
  rintro ⟨i, vv⟩ H8 ⟨X9, hi, hoL, _⟩
  refine AW.seq ?_
  refine AW.rs ?_
  refine AL.val rfl (.inl rfl) (HV.mv rfl) ?_
  refine AL.val rfl (.inl rfl) (HV.mv rfl) ?_
  refine AL.val rfl (.inl rfl) (HV.lti rfl rfl) ?_
  refine AL.nx ?_
  refine AW.ifd rfl (fun c10 => ?_) (fun c10 => ?_)
  · -- then
    refine AW.skip ?_
    refine nrm_and ?_
    refine AW.seq ?_
    refine AW.block ?_
    refine AW.rs ?_
    refine AL.val rfl (.inl rfl) (HV.mv rfl) ?_
    refine AL.val rfl (.inl rfl) (HV.mv rfl) ?_
    refine AL.val rfl (.inl rfl) (HV.cv (by rw [Try.underlying2]; rfl) Try.underlying106 rfl) ?_
    refine AL.val rfl (.inl rfl) (HV.shr rfl rfl (u64_nonneg _)) ?_
    refine AL.val rfl (.inl rfl) (HV.bits (by simp) rfl rfl) ?_
    refine AL.val rfl (.inl rfl) (HV.eqi rfl rfl) ?_
    refine AL.nx ?_
    refine AW.ifd rfl (fun c11 => ?_) (fun c11 => ?_)
    · -- then
      refine AW.reg ?_
      refine AL.val rfl (.inl rfl) (HV.mv rfl) ?_
      refine AL.val rfl (.inl rfl) (HV.mv rfl) ?_
      have X12 := Ext.refl H8
      have o13 := X9.bd
      have o14 := X12.bd
      have a15 := hoL.ltb
      refine AL.w rfl (.inl rfl) (WV.bsK (K := kI) (l := ([(i : Int)] : List Int)) (css := [[.int .i64 (i : Int)]]) sl22 rfl rfl (by first | rfl | (simp [Instr.fill, Value.cells, kI, kB, kU, kU8, kS, Kd.sc]; done) | (simp [Instr.fill, Value.cells, kI, kB, kU, kU8, kS, Kd.sc, rng1, rng2, rng3, rng4, kP])) rfl (segs_cons rfl segs_nil)) ?_
      rintro v16 H17 ⟨hx18, ho19⟩
      have X20 := Ext.trans X9 hx18
      have X21 := Ext.trans X12 hx18
      have ho22 := hoL.ext hx18
      have X24 := Ext.refl H17
      refine AL.w rfl (.inl rfl) (WV.apk sl22 rfl rfl ho22 ho19.rd (by have := grpB_len q i; simp; omega) (by have := grpB_len q i; simp; omega) (fun b hb _ e => Nat.lt_irrefl _ (Nat.lt_of_lt_of_le (a15 b e) hb))) ?_
      rintro v25 H26 ⟨hx27, ho28, hb29⟩
      have ho30 := ho28.narrow (ok' := fun b => H.bd ≤ b) kI_flat (fun b q => (hb29 b q).elim (fun e => (ho22.blk b e).1) (fun e => Nat.le_trans X20.bd e))
      have X31 := Ext.thru X20 hx27 (fun b hb => Nat.le_trans o1 (ho22.blk b hb).1)
      refine AL.val rfl (.inl rfl) (HV.as rfl) ?_
      refine AL.nil ?_
      refine nrm_blk (nrm_and ?_)
      refine AW.reg ?_
      refine AL.val rfl (.inl rfl) (HV.mv rfl) ?_
      refine AL.val rfl (.inl rfl) (HV.add rfl rfl (by omega)) ?_
      refine AL.val rfl (.inl rfl) (HV.as rfl) ?_
      refine AL.nil ?_
      refine nrm_and ?_
      exact ⟨(i + 1, v25), ⟨X31, by omega, by have q9 := bitZ_i (q := q) (h := (i : Int)) hq (by omega); rw [Int.toNat_natCast] at q9; rw [grpB_yes (q9.1 c11)]; exact ho30, trivial⟩, by first | omega | (dsimp only; omega), ⟨rfl, rfl, rfl, rfl, rfl, trivial⟩⟩
    · -- else
      refine AW.skip ?_
      refine nrm_blk (nrm_and ?_)
      refine AW.reg ?_
      refine AL.val rfl (.inl rfl) (HV.mv rfl) ?_
      refine AL.val rfl (.inl rfl) (HV.add rfl rfl (by omega)) ?_
      refine AL.val rfl (.inl rfl) (HV.as rfl) ?_
      refine AL.nil ?_
      refine nrm_and ?_
      exact ⟨(i + 1, vv), ⟨X9, by omega, by have q9 := bitZ_i (q := q) (h := (i : Int)) hq (by omega); rw [Int.toNat_natCast] at q9; rw [grpB_no (fun q8 => c11 (q9.2 q8))]; exact hoL, trivial⟩, by first | omega | (dsimp only; omega), ⟨rfl, rfl, rfl, rfl, rfl, trivial⟩⟩
  · -- else
    refine AW.exit ?_
    refine ex_and (ex_and (ex_blk ?_))
    refine nrm_and ?_
    refine AW.rs ?_
    refine AL.val rfl (.inl rfl) (HV.mv rfl) ?_
    refine AL.val rfl (.inl rfl) (HV.as rfl) ?_
    refine AL.nx ?_
    refine AW.ret ?_
    refine post_one rfl rfl ?_ (.inr rfl)
    exact ⟨X9, by rw [show n = i by omega]; exact hoL.okk (fun b hb _ => Nat.le_trans o1 hb)⟩

set_option maxRecDepth 100000 in
theorem p6Group_ok {vc : Value} {l : List Int} (hr : RdK kU8 W H (fun _ => False) vc l) (hby : bytes l) (n : Nat) (hn : 1 ≤ n ∧ n ≤ 4) : ACalls Try.prog W 55 #[vc, .int .i64 (n : Int)] H (fun r H' => (∃ k, OwnK kI 2 W H' (fun b => H.bd ≤ b) r k ∧ Grp n k) ∧ Ext H H') := by
  refine ACalls.of (args := [vc, .int .i64 (n : Int)]) Try.func55 rfl rfl ?_
  have X0 := Ext.refl H
  have hm1 := hr.max
  refine AW.rs ?_
  refine AL.val rfl (.inl rfl) (HV.as rfl) ?_
  refine AL.nx ?_
  refine AW.rs ?_
  refine AL.val rfl (.inl rfl) (HV.mv rfl) ?_
  refine AL.w rfl (.inl rfl) (WV.call fn117 rfl (from_ok hr)) ?_
  rintro _ H3 ⟨b2, rfl, hn4, hb5, hx6⟩
  have o7 := Nat.le_trans X0.bd hn4
  have X8 := Ext.trans X0 hx6
  have X9 := Ext.refl H3
  refine AL.val rfl (.inl rfl) (HV.mv rfl) ?_
  refine AL.val rfl (.inl rfl) (HV.cv (by rw [Try.underlying2]; rfl) Try.underlying106 rfl) ?_
  refine AL.val rfl (.inl rfl) (HV.shl rfl rfl (u64_nonneg _)) ?_
  refine AL.w rfl (.inl rfl) (WV.call fn119 rfl (pick_ok (hr.ext X8) hby hb5 (by omega) (IntKind.i64.wrap (1 * 2 ^ min (IntKind.u64.wrap (n : Int) : Int).toNat IntKind.i64.bits)))) ?_
  rintro _ H10 ⟨⟨q11, a12, s13, rfl, h14, h15, hb16⟩, hx17⟩
  have X18 := Ext.thru X8 hx17 (fun z_ hz_ => by rw [hz_]; exact o7)
  refine AL.val rfl (.inl rfl) (HV.mv rfl) ?_
  have hqq := h14
  have hsb := shl_bd (n := n) (by omega)
  have hq2 := hqq.2 (show 1 ≤ IntKind.i64.wrap (1 * 2 ^ min (IntKind.u64.wrap (n : Int) : Int).toNat IntKind.i64.bits) from hsb.1)
  have hq3 : q11 < 16 := Int.lt_of_lt_of_le hq2 hsb.2
  obtain ⟨Q, hQ⟩ : ∃ Q : Nat, q11 = (Q : Int) := ⟨(q11).toNat, by omega⟩
  subst hQ
  have hQ16 : Q < 16 := by omega
  have X20 := Ext.refl H10
  have y21 := hb16.lt
  have o22 := X18.bd
  have o23 := X20.bd
  refine AL.w rfl (.inl rfl) (WV.call fn126 rfl (holders_ok (W := W) Q n (by omega) (by omega))) ?_
  rintro v24 H25 ⟨hx26, ho27⟩
  have X28 := Ext.trans X18 hx26
  have X29 := Ext.trans X20 hx26
  have hb30 := hb16.ext hx26
  refine AL.val rfl (.inl rfl) (HV.as rfl) ?_
  refine AL.nx ?_
  refine AW.ret ?_
  refine post_one rfl rfl ?_ (.inr rfl)
  exact ⟨⟨_, ho27.okk (fun b hb _ => Nat.le_trans o22 hb), grp_of hn.2 hQ16⟩, X28⟩

set_option maxRecDepth 100000 in
theorem powersOf_ok {v : Value} {l : List Int} {ok : Nat → Prop} {p : Int} (hr : RdK kI W H ok v l) (m : Nat) (hq : primeI p) (hpe : elems p l) (hm : m ≤ 12) (hl : l.length ≤ 20) : ACalls Try.prog W 120 #[.int .i64 p, v, .int .i64 (m : Int)] H (fun r H' => (∃ u, r = .tuple #[.agg #[.int .i64 p, .int .i64 (m : Int), u], .int .i64 0] ∧ OwnD (kO 2 kI) 22 W H' (fun b => H.bd ≤ b) u (powL p l m)) ∧ Ext H H') := by
  refine ACalls.of (args := [.int .i64 p, v, .int .i64 (m : Int)]) Try.func120 rfl rfl ?_
  have X0 := Ext.refl H
  have hm1 := hr.max
  have hp := hq.1
  refine AW.rs ?_
  refine AL.w rfl (.inl rfl) (WV.al ze29 rfl) ?_
  rintro _ H3 ⟨b2, rfl, hx4, hn5, hb6⟩
  have o7 := Nat.le_trans X0.bd hn5
  have X8 := Ext.trans X0 hx4
  have X9 := Ext.refl H3
  refine AL.val rfl (.inl rfl) (HV.as rfl) ?_
  refine AL.nx ?_
  refine AW.seq ?_
  refine AW.rs ?_
  refine AL.val rfl (.inl rfl) (HV.mv rfl) ?_
  refine AL.val rfl (.inl rfl) (HV.len Try.underlying22 rfl hr.isSl) ?_
  refine AL.val rfl (.inl rfl) (HV.gti rfl rfl) ?_
  refine AL.val rfl (.inl rfl) (HV.mv rfl) ?_
  by_cases c10 : (l.length : Int) > 20
  · -- true
    have c10_ : decide ((l.length : Int) > 20) = true := decide_eq_true c10
    rw [c10_]
    refine AL.off rfl rfl (by decide) rfl ?_
    refine AL.off rfl rfl (by decide) rfl ?_
    refine AL.off rfl rfl (by decide) rfl ?_
    refine AL.off rfl rfl (by decide) rfl ?_
    refine AL.val rfl (.inl rfl) (HV.pickT rfl rfl) ?_
    refine AL.val rfl (.inl rfl) (HV.mv rfl) ?_
    refine AL.off rfl rfl (by decide) rfl ?_
    refine AL.off rfl rfl (by decide) rfl ?_
    refine AL.off rfl rfl (by decide) rfl ?_
    refine AL.val rfl (.inl rfl) (HV.pickT rfl rfl) ?_
    refine AL.nx ?_
    refine AW.cond rfl (fun _ => ?_) (fun h => by cases h)
    refine AW.rs ?_
    refine AL.val rfl (.inl rfl) (HV.bd rfl (bd29_ )) ?_
    refine AL.w0 (.inl rfl) (WV.st rfl rfl va29 rfl hb6 (Nat.le_of_ble_eq_true rfl) (one_cons rfl (one_cons rfl (one_cons (sl_one1 ⟨none, 0, rfl⟩) one_nil)))) ?_
    rintro _ H12 ⟨hx13, hb14⟩
    have X15 := Ext.thru X8 hx13 (fun z_ hz_ => by rw [hz_]; exact o7)
    have hb17 : At W H12 b2 ⟨29, [.int .i64 0, .int .i64 0, (.slice none 0 0)], 3⟩ := hb14
    refine AL.val rfl (.inl rfl) (HV.as rfl) ?_
    refine AL.nx ?_
    refine AW.ret ?_
    refine ret_and ?_
    refine post_ct rfl rfl rfl va29 hb17 ?_ (.inr rfl)
    exfalso; first | omega | exact c10 ⟨hq, hpe⟩ | exact c10 (by omega)
  · -- false
    have c10_ : decide ((l.length : Int) > 20) = false := decide_eq_false c10
    rw [c10_]
    refine AL.val rfl (.inr ⟨_, _, _, rfl, rfl, rfl⟩) (HV.mv rfl) ?_
    refine AL.val rfl (.inr ⟨_, _, _, rfl, rfl, rfl⟩) (HV.mv rfl) ?_
    refine AL.w rfl (.inr ⟨_, _, _, rfl, rfl, rfl⟩) (WV.call fn86 rfl (areEl_ok p (hr.ext X8))) ?_
    rintro _ H18 ⟨rfl, hx19⟩
    have X20 := Ext.trans X8 hx19
    have X21 := Ext.trans X9 hx19
    have hb22 := hb6.ext hx19
    refine AL.val rfl (.inr ⟨_, _, _, rfl, rfl, rfl⟩) (HV.not rfl) ?_
    refine AL.val rfl (.inl rfl) (HV.pickF rfl rfl) ?_
    refine AL.val rfl (.inl rfl) (HV.mv rfl) ?_
    by_cases c23 : primeI p ∧ elems p l
    · -- false
      have c23_ : (!decide (primeI p ∧ elems p l)) = false := by rw [decide_eq_true c23]; rfl
      rw [c23_]
      refine AL.val rfl (.inr ⟨_, _, _, rfl, rfl, rfl⟩) (HV.mv rfl) ?_
      refine AL.w rfl (.inr ⟨_, _, _, rfl, rfl, rfl⟩) (WV.call fn104 rfl (within_ok (W := W) (m : Int) 0 12)) ?_
      rintro _ H24 ⟨rfl, hx25⟩
      have X26 := Ext.trans X20 hx25
      have X27 := Ext.trans X21 hx25
      have hb28 := hb22.ext hx25
      refine AL.val rfl (.inr ⟨_, _, _, rfl, rfl, rfl⟩) (HV.not rfl) ?_
      refine AL.val rfl (.inl rfl) (HV.pickF rfl rfl) ?_
      refine AL.nx ?_
      refine AW.ifn rfl (fun c29 => ?_) (fun c29 => ?_)
      · -- then
        refine AW.rs ?_
        refine AL.val rfl (.inl rfl) (HV.bd rfl (bd29_ )) ?_
        refine AL.w0 (.inl rfl) (WV.st rfl rfl va29 rfl hb28 (Nat.le_of_ble_eq_true rfl) (one_cons rfl (one_cons rfl (one_cons (sl_one1 ⟨none, 0, rfl⟩) one_nil)))) ?_
        rintro _ H30 ⟨hx31, hb32⟩
        have X33 := Ext.thru X26 hx31 (fun z_ hz_ => by rw [hz_]; exact o7)
        have hb35 : At W H30 b2 ⟨29, [.int .i64 0, .int .i64 0, (.slice none 0 0)], 3⟩ := hb32
        refine AL.val rfl (.inl rfl) (HV.as rfl) ?_
        refine AL.nx ?_
        refine AW.ret ?_
        refine ret_and ?_
        refine post_ct rfl rfl rfl va29 hb35 ?_ (.inr rfl)
        exfalso; first | omega | exact c29 ⟨hq, hpe⟩ | exact c29 (by omega)
      · -- else
        refine AW.skip ?_
        refine nrm_and ?_
        refine AW.rs ?_
        refine AL.val rfl (.inl rfl) (HV.mv rfl) ?_
        refine AL.val rfl (.inl rfl) (HV.mv rfl) ?_
        refine AL.val rfl (.inl rfl) (HV.bd rfl (bd29_0_1 p (m : Int))) ?_
        refine AL.w rfl (.inl rfl) (WV.al ze29 rfl) ?_
        rintro _ H37 ⟨b36, rfl, hx38, hn39, hb40⟩
        have o41 := Nat.le_trans X26.bd hn39
        have o42 := Nat.le_trans X27.bd hn39
        have ne43 : b2 ≠ b36 := by have := hb28.lt; omega
        have X44 := Ext.trans X26 hx38
        have X45 := Ext.trans X27 hx38
        have hb46 := hb28.ext hx38
        have X47 := Ext.refl H37
        refine AL.w0 (.inl rfl) (WV.st rfl rfl va29 rfl hb40 (Nat.le_of_ble_eq_true rfl) (one_cons rfl (one_cons rfl (one_cons (sl_one1 ⟨none, 0, rfl⟩) one_nil)))) ?_
        rintro _ H48 ⟨hx49, hb50⟩
        have X51 := Ext.thru X44 hx49 (fun z_ hz_ => by rw [hz_]; exact o41)
        have X52 := Ext.thru X45 hx49 (fun z_ hz_ => by rw [hz_]; exact o42)
        have hb54 := hb46.but hx49 ne43
        have hb55 : At W H48 b36 ⟨29, [.int .i64 p, .int .i64 (m : Int), (.slice none 0 0)], 3⟩ := hb50
        refine AL.nx ?_
        refine AW.seq ?_
        refine AW.rs ?_
        refine AL.val rfl (.inl rfl) (HV.mv rfl) ?_
        refine AL.val rfl (.inl rfl) (HV.len Try.underlying22 rfl hr.isSl) ?_
        refine AL.val rfl (.inl rfl) (HV.mv rfl) ?_
        refine AL.nx ?_
        refine AW.block ?_
        have X56 := Ext.refl H48
        have y57 := hb54.lt
        have y58 := hb55.lt
        have o59 := X51.bd
        have o60 := X52.bd
        have o61 := X56.bd
        have ho62 : OwnD (kO 2 kI) 22 W H48 (fun b => H48.bd ≤ b) (.slice none 0 0) ([] : List (List Int)) := OwnD.nil _
        refine AW.loop (σ := Nat × Value) (fun ⟨i, vv⟩ => [(0, .int .i64 p), (2, .int .i64 (m : Int)), (6, .pointer (some ⟨b2, 0, none⟩)), (7, .int .i64 0), (8, .pointer (some ⟨b36, 0, none⟩)), (31, v), (32, .int .i64 (l.length : Int)), (33, .int .i64 (i : Int))]) (fun ⟨i, vv⟩ H' => Ext H H' ∧ Ext H3 H' ∧ At W H' b2 ⟨29, [.int .i64 0, .int .i64 0, (.slice none 0 0)], 3⟩ ∧ H48.bd ≤ H'.bd ∧ i ≤ l.length ∧ At W H' b36 ⟨29, [.int .i64 p, .int .i64 (m : Int), vv], 3⟩ ∧ OwnD (kO 2 kI) 22 W H' (fun b => H48.bd ≤ b) vv (powL p (l.take i) m) ∧ True) (fun ⟨i, vv⟩ => l.length - i) (0, (.slice none 0 0)) ⟨X51, X52, hb54, X56.bd, Nat.zero_le _, hb55, ho62, trivial⟩ ⟨rfl, rfl, rfl, rfl, rfl, rfl, rfl, rfl, trivial⟩ ?_
        rintro ⟨i, vv⟩ H64 ⟨X65, X66, hb67, q68, hi, hbB, hoL, _⟩
        refine AW.rs ?_
        refine AL.val rfl (.inl rfl) (HV.lti rfl rfl) ?_
        refine AL.nx ?_
        refine AW.seq ?_
        refine AW.ifd rfl (fun c69 => ?_) (fun c69 => ?_)
        · -- then
          refine AW.skip ?_
          refine nrm_and ?_
          refine AW.seq ?_
          refine AW.block ?_
          refine AW.rs ?_
          obtain ⟨p70, z71, cs72, hz73, hK74, hC75, hP76⟩ := RdK.ix (q := (i : Int)) hr sl22 (by omega) (by omega)
          obtain rfl : cs72 = [.int .i64 z71] := hK74
          refine AL.val rfl (.inl rfl) (hP76 rfl rfl) ?_
          refine AL.val rfl (.inl rfl) (HV.ld rfl va2 (cells_first (hC75.ext X65) rfl)) ?_
          refine AL.val rfl (.inl rfl) (HV.as rfl) ?_
          refine AL.nx ?_
          refine AW.rs ?_
          have X77 := Ext.refl H64
          have y78 := hb67.lt
          have y79 := hbB.lt
          have o80 := X65.bd
          have o81 := X66.bd
          have o82 := X77.bd
          have a83 := hoL.ltb
          have ho84 := hoL.okk (ok' := fun b => H48.bd ≤ b ∧ b < H64.bd) (fun b hb hlt => ⟨hb, hlt⟩)
          refine AL.w rfl (.inl rfl) (WV.bsK (K := kI) (l := ([] : List Int)) (css := []) sl22 rfl rfl (by first | rfl | (simp [Instr.fill, Value.cells, kI, kB, kU, kU8, kS, Kd.sc]; done) | (simp [Instr.fill, Value.cells, kI, kB, kU, kU8, kS, Kd.sc, rng1, rng2, rng3, rng4, kP])) rfl segs_nil) ?_
          rintro v85 H86 ⟨hx87, ho88⟩
          have q89 := Nat.le_trans q68 hx87.bd
          have X90 := Ext.trans X65 hx87
          have X91 := Ext.trans X66 hx87
          have X92 := Ext.trans X77 hx87
          have ho93 := ho84.ext hx87
          have hb94 := hb67.ext hx87
          have hb95 := hbB.ext hx87
          refine AL.val rfl (.inl rfl) (HV.as rfl) ?_
          refine AL.val rfl (.inl rfl) (HV.as rfl) ?_
          refine AL.nx ?_
          refine AW.seq ?_
          refine AW.rs ?_
          refine AL.val rfl (.inl rfl) (HV.mv rfl) ?_
          refine AL.val rfl (.inl rfl) (HV.mv rfl) ?_
          refine AL.nx ?_
          refine AW.block ?_
          have hz36_ := hz73
          have hze := elem_at hpe hz36_
          refine AW.loop (σ := Nat × Value × Int) (fun ⟨j, vr, y⟩ => [(0, .int .i64 p), (2, .int .i64 (m : Int)), (6, .pointer (some ⟨b2, 0, none⟩)), (7, .int .i64 0), (8, .pointer (some ⟨b36, 0, none⟩)), (10, .int .i64 z71), (31, v), (32, .int .i64 (l.length : Int)), (33, .int .i64 (i : Int)), (34, .bool (decide ((i : Int) < (l.length : Int)))), (35, .pointer (some p70)), (36, .int .i64 z71), (37, v85), (38, .int .i64 (m : Int)), (11, vr), (12, .int .i64 y), (39, .int .i64 (j : Int))]) (fun ⟨j, vr, y⟩ H' => Ext H H' ∧ Ext H3 H' ∧ Ext H64 H' ∧ At W H' b2 ⟨29, [.int .i64 0, .int .i64 0, (.slice none 0 0)], 3⟩ ∧ At W H' b36 ⟨29, [.int .i64 p, .int .i64 (m : Int), vv], 3⟩ ∧ H48.bd ≤ H'.bd ∧ j ≤ m ∧ y = powM p z71 j ∧ OwnD (kO 2 kI) 22 W H' (fun b => H48.bd ≤ b ∧ b < H64.bd) vv (powL p (l.take i) m) ∧ OwnK kI 2 W H' (fun b => H64.bd ≤ b) vr (powR p z71 j) ∧ True) (fun ⟨j, vr, y⟩ => m - j) (0, v85, 1) ⟨X90, X91, X92, hb94, hb95, q89, Nat.zero_le _, pow_zero hp.1, ho93, ho88, trivial⟩ ⟨rfl, rfl, rfl, rfl, rfl, rfl, rfl, rfl, rfl, rfl, rfl, rfl, rfl, rfl, rfl, rfl, rfl, trivial⟩ ?_
          rintro ⟨j, vr, y⟩ H97 ⟨X98, X99, X100, hb101, hb102, q103, hj, hy, hoG, hoR, _⟩
          have hyb := powM_in (a := z71) (show 0 < p by omega) j
          rw [← hy] at hyb
          have hyz := mul31 (a := y) (b := z71) (by omega) (by omega) (by omega) (by omega)
          refine AW.rs ?_
          refine AL.val rfl (.inl rfl) (HV.lti rfl rfl) ?_
          refine AL.nx ?_
          refine AW.seq ?_
          refine AW.ifd rfl (fun c104 => ?_) (fun c104 => ?_)
          · -- then
            refine AW.skip ?_
            refine nrm_and ?_
            refine AW.seq ?_
            refine AW.block ?_
            refine AW.rs ?_
            refine AL.val rfl (.inl rfl) (HV.mv rfl) ?_
            refine AL.val rfl (.inl rfl) (HV.mv rfl) ?_
            have X105 := Ext.refl H97
            have y106 := hb101.lt
            have y107 := hb102.lt
            have o108 := X98.bd
            have o109 := X99.bd
            have o110 := X100.bd
            have o111 := X105.bd
            have a112 := hoG.ltb
            have a113 := hoR.ltb
            refine AL.w rfl (.inl rfl) (WV.bsK (K := kI) (l := ([y] : List Int)) (css := [[.int .i64 y]]) sl22 rfl rfl (by first | rfl | (simp [Instr.fill, Value.cells, kI, kB, kU, kU8, kS, Kd.sc]; done) | (simp [Instr.fill, Value.cells, kI, kB, kU, kU8, kS, Kd.sc, rng1, rng2, rng3, rng4, kP])) rfl (segs_cons rfl segs_nil)) ?_
            rintro v114 H115 ⟨hx116, ho117⟩
            have q118 := Nat.le_trans q103 hx116.bd
            have X119 := Ext.trans X98 hx116
            have X120 := Ext.trans X99 hx116
            have X121 := Ext.trans X100 hx116
            have X122 := Ext.trans X105 hx116
            have ho123 := hoG.ext hx116
            have ho124 := hoR.ext hx116
            have hb125 := hb101.ext hx116
            have hb126 := hb102.ext hx116
            have X128 := Ext.refl H115
            refine AL.w rfl (.inl rfl) (WV.apk sl22 rfl rfl ho124 ho117.rd (by have := powR_len p z71 j; simp; omega) (by have := powR_len p z71 j; simp; omega) (fun b hb _ e => Nat.lt_irrefl _ (Nat.lt_of_lt_of_le (a113 b e) hb))) ?_
            rintro v129 H130 ⟨hx131, ho132, hb133⟩
            have ho134 := ho132.narrow (ok' := fun b => H64.bd ≤ b) kI_flat (fun b q => (hb133 b q).elim (fun e => (ho124.blk b e).1) (fun e => Nat.le_trans X121.bd e))
            have q135 := Nat.le_trans q118 hx131.bd
            have X136 := Ext.thru X119 hx131 (fun b hb => Nat.le_trans o80 (ho124.blk b hb).1)
            have X137 := Ext.thru X120 hx131 (fun b hb => Nat.le_trans o81 (ho124.blk b hb).1)
            have X138 := Ext.thru X121 hx131 (fun b hb => Nat.le_trans o82 (ho124.blk b hb).1)
            have q140 := Nat.le_trans X122.bd hx131.bd
            have q142 := Nat.le_trans X128.bd hx131.bd
            have ho143 := ho123.but hx131 (fun b hb _ e => by have h1 : H48.bd ≤ b ∧ b < H64.bd := hb; have h2 : H64.bd ≤ b := (ho124.blk b e).1; omega) (fun b hb => (ho124.blk b hb).2.2)
            have hb145 := hb125.but hx131 (fun e => by have q : H64.bd ≤ _ := (ho124.blk _ e).1; omega)
            have hb146 := hb126.but hx131 (fun e => by have q : H64.bd ≤ _ := (ho124.blk _ e).1; omega)
            refine AL.val rfl (.inl rfl) (HV.as rfl) ?_
            refine AL.nx ?_
            refine AW.reg ?_
            refine AL.val rfl (.inl rfl) (HV.mv rfl) ?_
            refine AL.val rfl (.inl rfl) (HV.mv rfl) ?_
            refine AL.val rfl (.inl rfl) (HV.mul rfl rfl (by omega)) ?_
            refine AL.val rfl (.inl rfl) (HV.mv rfl) ?_
            refine AL.val rfl (.inl rfl) (HV.rem rfl rfl (by omega)) ?_
            refine AL.val rfl (.inl rfl) (HV.as rfl) ?_
            refine AL.nil ?_
            refine nrm_blk (nrm_and ?_)
            refine AW.reg ?_
            refine AL.val rfl (.inl rfl) (HV.add rfl rfl (by omega)) ?_
            refine AL.val rfl (.inl rfl) (HV.mv rfl) ?_
            refine AL.nil ?_
            refine nrm_and ?_
            exact ⟨(j + 1, v129, (y * z71) % p), ⟨X136, X137, X138, hb145, hb146, q135, by omega, by rw [hy]; rfl, ho143, by rw [powR_succ, ← hy]; exact ho134, trivial⟩, by first | omega | (dsimp only; omega), ⟨rfl, rfl, rfl, rfl, rfl, rfl, rfl, rfl, rfl, rfl, rfl, rfl, rfl, rfl, rfl, rfl, rfl, trivial⟩⟩
          · -- else
            refine AW.exit ?_
            refine ex_and (ex_and (ex_blk ?_))
            refine nrm_and ?_
            refine AW.reg ?_
            refine AL.val rfl (.inl rfl) (HV.fa fl29_2 rfl) ?_
            refine AL.val rfl (.inl rfl) (HV.ld rfl va23 (at_cell_add (j := 2) hb102 rfl)) ?_
            refine AL.val rfl (.inl rfl) (HV.mv rfl) ?_
            have X147 := Ext.refl H97
            have y148 := hb101.lt
            have y149 := hb102.lt
            have o150 := X98.bd
            have o151 := X99.bd
            have o152 := X100.bd
            have o153 := X147.bd
            have a154 := hoG.ltb
            have a155 := hoR.ltb
            have hc160 : vr.cells = #[vr] := by obtain ⟨A, c, e⟩ := hoR.isSl; rw [e]; rfl
            refine AL.w rfl (.inl rfl) (WV.bsO (okx := fun b => H64.bd ≤ b) (K := (kO 2 kI)) (l := ([(powR p z71 j)] : List (List Int))) (css := [[vr]]) sl23 rfl rfl (by simp [Instr.fill, hc160, kO, rng1]) rfl (segs_cons ⟨_, rfl, hoR⟩ segs_nil)) ?_
            rintro v156 H157 ⟨hx158, ho159⟩
            have q162 := Nat.le_trans q103 hx158.bd
            have X163 := Ext.trans X98 hx158
            have X164 := Ext.trans X99 hx158
            have X165 := Ext.trans X100 hx158
            have X166 := Ext.trans X147 hx158
            have ho167 := hoG.ext hx158
            have ho168 := hoR.ext hx158
            have hb169 := hb101.ext hx158
            have hb170 := hb102.ext hx158
            have ho161 := ho159.okk (ok' := fun b => H64.bd ≤ b) (fun b hb _ => hb.elim id (fun e => Nat.le_trans X100.bd e))
            have X172 := Ext.refl H157
            refine AL.w rfl (.inl rfl) (WV.apD (ok := fun b => H48.bd ≤ b) (B := H64.bd) sl23 rfl rfl ho167 ho161.rd X165.bd (by rw [powL_len, List.length_take]; first | omega | (simp; omega)) (by rw [powL_len, List.length_take]; first | omega | (simp; omega))) ?_
            rintro v173 H174 ⟨hx175, ho176, hb177⟩
            have ho178 := ho176.okk (ok' := fun b => H48.bd ≤ b) (fun b hb _ => hb.elim id (fun e => Nat.le_trans q68 e))
            have q179 := Nat.le_trans q162 hx175.bd
            have X180 := Ext.thru X163 hx175 (fun b hb => Nat.le_trans o59 (ho167.blk b hb).1.1)
            have X181 := Ext.thru X164 hx175 (fun b hb => Nat.le_trans o60 (ho167.blk b hb).1.1)
            have q183 := Nat.le_trans X165.bd hx175.bd
            have q185 := Nat.le_trans X166.bd hx175.bd
            have q187 := Nat.le_trans X172.bd hx175.bd
            have hb188 := hb169.but hx175 (fun e => by have q : H48.bd ≤ _ := (ho167.blk _ e).1.1; omega)
            have hb189 := hb170.but hx175 (fun e => by have q : H48.bd ≤ _ := (ho167.blk _ e).1.1; omega)
            refine AL.val rfl (.inl rfl) (HV.fa fl29_2 rfl) ?_
            refine AL.w0 (.inl rfl) (WV.st rfl rfl va23 (sl_size (rd_ofO ho178.rd).isSl) hb189 (Nat.le_of_ble_eq_true rfl) (sl_one (rd_ofO ho178.rd).isSl)) ?_
            rintro _ H190 ⟨hx191, hb192⟩
            rw [sl_cells (rd_ofO ho178.rd).isSl] at hb192
            have q193 := Nat.le_trans q179 hx191.bd
            have q194 := Nat.le_trans q183 hx191.bd
            have q195 := Nat.le_trans q185 hx191.bd
            have q196 := Nat.le_trans q187 hx191.bd
            have X197 := Ext.thru X180 hx191 (fun z_ hz_ => by rw [hz_]; exact o41)
            have X198 := Ext.thru X181 hx191 (fun z_ hz_ => by rw [hz_]; exact o42)
            have ho199 := ho178.but hx191 (fun b hb _ e => by have hb' : H48.bd ≤ b := hb; have e' : b = b36 := e; omega) (fun z_ hz_ => by rw [hz_]; exact hb189.w)
            have hb200 := hb188.but hx191 ne43
            have hb201 : At W H190 b36 ⟨29, [.int .i64 p, .int .i64 (m : Int), v173], 3⟩ := hb192
            refine AL.nil ?_
            refine nrm_blk (nrm_and ?_)
            refine AW.reg ?_
            refine AL.val rfl (.inl rfl) (HV.add rfl rfl (by omega)) ?_
            refine AL.val rfl (.inl rfl) (HV.mv rfl) ?_
            refine AL.nil ?_
            refine nrm_and ?_
            exact ⟨(i + 1, v173), ⟨X197, X198, hb200, q193, by omega, hb201, by have hj2 : j = m := (by omega); rw [powL_snoc hz36_]; subst hj2; exact ho199, trivial⟩, by first | omega | (dsimp only; omega), ⟨rfl, rfl, rfl, rfl, rfl, rfl, rfl, rfl, trivial⟩⟩
        · -- else
          refine AW.exit ?_
          refine ex_and (ex_and (ex_blk ?_))
          refine nrm_and ?_
          refine AW.rs ?_
          refine AL.val rfl (.inl rfl) (HV.lda (cs := [.int .i64 p, .int .i64 (m : Int), vv]) rfl va29 (at_cells hbB rfl)) ?_
          refine AL.w0 (.inl rfl) (WV.st rfl rfl va29 rfl hb67 (Nat.le_of_ble_eq_true rfl) (one_cons rfl (one_cons rfl (one_cons (sl_one1 (rd_ofO hoL.rd).isSl) one_nil)))) ?_
          rintro _ H202 ⟨hx203, hb204⟩
          have q205 := Nat.le_trans q68 hx203.bd
          have X206 := Ext.thru X65 hx203 (fun z_ hz_ => by rw [hz_]; exact o7)
          have q208 := Nat.le_trans X66.bd hx203.bd
          have ho209 := hoL.but hx203 (fun b hb _ e => by have hb' : H48.bd ≤ b := hb; have e' : b = b2 := e; omega) (fun z_ hz_ => by rw [hz_]; exact hb67.w)
          have hb210 := hbB.but hx203 (fun e => ne43 e.symm)
          have hb211 : At W H202 b2 ⟨29, [.int .i64 p, .int .i64 (m : Int), vv], 3⟩ := hb204
          refine AL.val rfl (.inl rfl) (HV.as rfl) ?_
          refine AL.nx ?_
          refine AW.ret ?_
          refine post_ct rfl rfl rfl va29 hb211 ?_ (.inr rfl)
          exact ⟨⟨_, rfl, by rw [show l = l.take i by rw [List.take_of_length_le (by omega)]]; exact ho209.okk (fun b hb _ => Nat.le_trans o59 hb)⟩, X206⟩
    · -- true
      have c23_ : (!decide (primeI p ∧ elems p l)) = true := by rw [decide_eq_false c23]; rfl
      rw [c23_]
      refine AL.off rfl rfl (by decide) rfl ?_
      refine AL.off rfl rfl (by decide) rfl ?_
      refine AL.off rfl rfl (by decide) rfl ?_
      refine AL.val rfl (.inl rfl) (HV.pickT rfl rfl) ?_
      refine AL.nx ?_
      refine AW.cond rfl (fun _ => ?_) (fun h => by cases h)
      refine AW.rs ?_
      refine AL.val rfl (.inl rfl) (HV.bd rfl (bd29_ )) ?_
      refine AL.w0 (.inl rfl) (WV.st rfl rfl va29 rfl hb22 (Nat.le_of_ble_eq_true rfl) (one_cons rfl (one_cons rfl (one_cons (sl_one1 ⟨none, 0, rfl⟩) one_nil)))) ?_
      rintro _ H213 ⟨hx214, hb215⟩
      have X216 := Ext.thru X20 hx214 (fun z_ hz_ => by rw [hz_]; exact o7)
      have q218 := Nat.le_trans X21.bd hx214.bd
      have hb219 : At W H213 b2 ⟨29, [.int .i64 0, .int .i64 0, (.slice none 0 0)], 3⟩ := hb215
      refine AL.val rfl (.inl rfl) (HV.as rfl) ?_
      refine AL.nx ?_
      refine AW.ret ?_
      refine ret_and ?_
      refine post_ct rfl rfl rfl va29 hb219 ?_ (.inr rfl)
      exfalso; first | omega | exact c23 ⟨hq, hpe⟩ | exact c23 (by omega)

set_option maxRecDepth 100000 in
theorem curveSc_ok {p : Int} (n m : Nat) (hq : primeI p) (hn : 1 ≤ n ∧ n ≤ 7) (hm : 1 ≤ m ∧ m ≤ n) (hpn : (n : Int) < p) : ACalls Try.prog W 51 #[.int .i64 p, .int .i64 (n : Int), .int .i64 (m : Int)] H (fun r H' => (∃ u v, r = .tuple #[.agg #[.int .i64 (n : Int), u, .int .i64 p, .int .i64 (m : Int), v], .int .i64 0] ∧ RdK kI W H' (fun _ => True) u (ownN n) ∧ RdK (kR kI) W H' (fun _ => True) v (powL p (ptsN n) m)) ∧ Ext H H') := by
  refine ACalls.of (args := [.int .i64 p, .int .i64 (n : Int), .int .i64 (m : Int)]) Try.func51 rfl rfl ?_
  have X0 := Ext.refl H
  have hp := hq.1
  refine AW.rs ?_
  refine AL.w rfl (.inl rfl) (WV.al ze31 rfl) ?_
  rintro _ H2 ⟨b1, rfl, hx3, hn4, hb5⟩
  have o6 := Nat.le_trans X0.bd hn4
  have X7 := Ext.trans X0 hx3
  have X8 := Ext.refl H2
  refine AL.val rfl (.inl rfl) (HV.as rfl) ?_
  refine AL.nx ?_
  refine AW.seq ?_
  refine AW.rs ?_
  refine AL.val rfl (.inl rfl) (HV.mv rfl) ?_
  refine AL.w rfl (.inl rfl) (WV.call fn103 rfl (isPrime_ok (W := W) p)) ?_
  rintro _ H9 ⟨rfl, hx10⟩
  have X11 := Ext.trans X7 hx10
  have X12 := Ext.trans X8 hx10
  have hb13 := hb5.ext hx10
  refine AL.val rfl (.inl rfl) (HV.not rfl) ?_
  refine AL.val rfl (.inl rfl) (HV.mv rfl) ?_
  by_cases c14 : primeI p
  · -- false
    have c14_ : (!decide (primeI p)) = false := by rw [decide_eq_true c14]; rfl
    rw [c14_]
    refine AL.val rfl (.inr ⟨_, _, _, rfl, rfl, rfl⟩) (HV.mv rfl) ?_
    refine AL.w rfl (.inr ⟨_, _, _, rfl, rfl, rfl⟩) (WV.call fn104 rfl (within_ok (W := W) (n : Int) 1 7)) ?_
    rintro _ H15 ⟨rfl, hx16⟩
    have X17 := Ext.trans X11 hx16
    have X18 := Ext.trans X12 hx16
    have hb19 := hb13.ext hx16
    refine AL.val rfl (.inr ⟨_, _, _, rfl, rfl, rfl⟩) (HV.not rfl) ?_
    refine AL.val rfl (.inl rfl) (HV.pickF rfl rfl) ?_
    refine AL.val rfl (.inl rfl) (HV.mv rfl) ?_
    by_cases c20 : 1 ≤ (n : Int) ∧ (n : Int) ≤ 7
    · -- false
      have c20_ : (!decide (1 ≤ (n : Int) ∧ (n : Int) ≤ 7)) = false := by rw [decide_eq_true c20]; rfl
      rw [c20_]
      refine AL.val rfl (.inr ⟨_, _, _, rfl, rfl, rfl⟩) (HV.mv rfl) ?_
      refine AL.val rfl (.inr ⟨_, _, _, rfl, rfl, rfl⟩) (HV.mv rfl) ?_
      refine AL.w rfl (.inr ⟨_, _, _, rfl, rfl, rfl⟩) (WV.call fn104 rfl (within_ok (W := W) (m : Int) 1 (n : Int))) ?_
      rintro _ H21 ⟨rfl, hx22⟩
      have X23 := Ext.trans X17 hx22
      have X24 := Ext.trans X18 hx22
      have hb25 := hb19.ext hx22
      refine AL.val rfl (.inr ⟨_, _, _, rfl, rfl, rfl⟩) (HV.not rfl) ?_
      refine AL.val rfl (.inl rfl) (HV.pickF rfl rfl) ?_
      refine AL.nx ?_
      refine AW.ifn rfl (fun c26 => ?_) (fun c26 => ?_)
      · -- then
        refine AW.rs ?_
        refine AL.val rfl (.inl rfl) (HV.bd rfl (bd31_ )) ?_
        refine AL.w0 (.inl rfl) (WV.st rfl rfl va31 rfl hb25 (Nat.le_of_ble_eq_true rfl) (one_cons rfl (one_cons (sl_one1 ⟨none, 0, rfl⟩) (one_cons rfl (one_cons rfl (one_cons (sl_one1 ⟨none, 0, rfl⟩) one_nil)))))) ?_
        rintro _ H27 ⟨hx28, hb29⟩
        have X30 := Ext.thru X23 hx28 (fun z_ hz_ => by rw [hz_]; exact o6)
        have hb32 : At W H27 b1 ⟨31, [.int .i64 0, (.slice none 0 0), .int .i64 0, .int .i64 0, (.slice none 0 0)], 5⟩ := hb29
        refine AL.val rfl (.inl rfl) (HV.as rfl) ?_
        refine AL.nx ?_
        refine AW.ret ?_
        refine ret_and ?_
        refine post_ct rfl rfl rfl va31 hb32 ?_ (.inr rfl)
        exfalso; first | omega | exact c26 hq
      · -- else
        refine AW.skip ?_
        refine nrm_and ?_
        refine AW.seq ?_
        refine AW.rs ?_
        refine AL.val rfl (.inl rfl) (HV.mv rfl) ?_
        refine AL.val rfl (.inl rfl) (HV.mv rfl) ?_
        refine AL.val rfl (.inl rfl) (HV.lei rfl rfl) ?_
        refine AL.nx ?_
        refine AW.ifd rfl (fun c33 => ?_) (fun c33 => ?_)
        · -- then
          refine AW.rs ?_
          refine AL.val rfl (.inl rfl) (HV.bd rfl (bd31_ )) ?_
          refine AL.w0 (.inl rfl) (WV.st rfl rfl va31 rfl hb25 (Nat.le_of_ble_eq_true rfl) (one_cons rfl (one_cons (sl_one1 ⟨none, 0, rfl⟩) (one_cons rfl (one_cons rfl (one_cons (sl_one1 ⟨none, 0, rfl⟩) one_nil)))))) ?_
          rintro _ H34 ⟨hx35, hb36⟩
          have X37 := Ext.thru X23 hx35 (fun z_ hz_ => by rw [hz_]; exact o6)
          have hb39 : At W H34 b1 ⟨31, [.int .i64 0, (.slice none 0 0), .int .i64 0, .int .i64 0, (.slice none 0 0)], 5⟩ := hb36
          refine AL.val rfl (.inl rfl) (HV.as rfl) ?_
          refine AL.nx ?_
          refine AW.ret ?_
          refine ret_and ?_
          refine post_ct rfl rfl rfl va31 hb39 ?_ (.inr rfl)
          exfalso; first | omega | exact c33 hq
        · -- else
          refine AW.skip ?_
          refine nrm_and ?_
          refine AW.rs ?_
          refine AL.val rfl (.inl rfl) (HV.mv rfl) ?_
          refine AL.val rfl (.inl rfl) (HV.bd rfl (bd31_0 (n : Int))) ?_
          have X40 := Ext.refl H21
          have y41 := hb25.lt
          have o42 := X23.bd
          have o43 := X24.bd
          have o44 := X40.bd
          refine AL.w rfl (.inl rfl) (WV.bsK (K := kI) (l := ([] : List Int)) (css := []) sl22 rfl rfl (by first | rfl | (simp [Instr.fill, Value.cells, kI, kB, kU, kU8, kS, Kd.sc]; done) | (simp [Instr.fill, Value.cells, kI, kB, kU, kU8, kS, Kd.sc, rng1, rng2, rng3, rng4, kP])) rfl segs_nil) ?_
          rintro v45 H46 ⟨hx47, ho48⟩
          have X49 := Ext.trans X23 hx47
          have X50 := Ext.trans X24 hx47
          have X51 := Ext.trans X40 hx47
          have hb52 := hb25.ext hx47
          have ho54 := ho48.narrow (ok' := fun b => H21.bd ≤ b ∧ some b = v45.ownBlock) kI_flat (fun b q => ⟨(ho48.blk b q).1, q⟩)
          have a60 := ho54.ltb
          refine AL.w rfl (.inl rfl) (WV.al ze31 rfl) ?_
          rintro _ H56 ⟨b55, rfl, hx57, hn58, hb59⟩
          have o61 := Nat.le_trans X49.bd hn58
          have o62 := Nat.le_trans X50.bd hn58
          have o63 := Nat.le_trans X51.bd hn58
          have a64 : ∀ b', some b' = v45.ownBlock → b' = b55 → False := fun b' h1 h2 => by have x1 := a60 b' h1; have x2 := hn58; omega
          have ne65 : b1 ≠ b55 := by have := hb52.lt; omega
          have X66 := Ext.trans X49 hx57
          have X67 := Ext.trans X50 hx57
          have X68 := Ext.trans X51 hx57
          have ho69 := ho54.ext hx57
          have hb70 := hb52.ext hx57
          have X71 := Ext.refl H56
          refine AL.w0 (.inl rfl) (WV.st rfl rfl va31 rfl hb59 (Nat.le_of_ble_eq_true rfl) (one_cons rfl (one_cons (sl_one1 ⟨none, 0, rfl⟩) (one_cons rfl (one_cons rfl (one_cons (sl_one1 ⟨none, 0, rfl⟩) one_nil)))))) ?_
          rintro _ H72 ⟨hx73, hb74⟩
          have X75 := Ext.thru X66 hx73 (fun z_ hz_ => by rw [hz_]; exact o61)
          have X76 := Ext.thru X67 hx73 (fun z_ hz_ => by rw [hz_]; exact o62)
          have X77 := Ext.thru X68 hx73 (fun z_ hz_ => by rw [hz_]; exact o63)
          have ho79 := ho69.but hx73 (fun b hb _ e => a64 b hb.2 e) (fun z_ hz_ => by rw [hz_]; exact hb59.w)
          have hb80 := hb70.but hx73 ne65
          have hb81 : At W H72 b55 ⟨31, [.int .i64 (n : Int), (.slice none 0 0), .int .i64 0, .int .i64 0, (.slice none 0 0)], 5⟩ := hb74
          refine AL.val rfl (.inl rfl) (HV.as rfl) ?_
          refine AL.nx ?_
          refine AW.seq ?_
          refine AW.rs ?_
          refine AL.val rfl (.inl rfl) (HV.mv rfl) ?_
          refine AL.val rfl (.inl rfl) (HV.mv rfl) ?_
          refine AL.nx ?_
          refine AW.block ?_
          have X82 := Ext.refl H72
          have ho83 : OwnK kI 2 W H72 (fun b => H21.bd ≤ b ∧ some b = (.slice none 0 0 : Value).ownBlock) (.slice none 0 0) ([] : List Int) := OwnK.nil _
          refine AW.loop (σ := Nat × Value × Value) (fun ⟨i, va, vb⟩ => [(0, .int .i64 p), (2, .int .i64 (m : Int)), (6, .pointer (some ⟨b1, 0, none⟩)), (7, .int .i64 0), (8, .pointer (some ⟨b55, 0, none⟩)), (33, .int .i64 (n : Int)), (9, vb), (34, .int .i64 (i : Int))]) (fun ⟨i, va, vb⟩ H' => Ext H H' ∧ Ext H2 H' ∧ Ext H21 H' ∧ At W H' b1 ⟨31, [.int .i64 0, (.slice none 0 0), .int .i64 0, .int .i64 0, (.slice none 0 0)], 5⟩ ∧ i ≤ n ∧ At W H' b55 ⟨31, [.int .i64 (n : Int), va, .int .i64 0, .int .i64 0, (.slice none 0 0)], 5⟩ ∧ (∀ b, some b = va.ownBlock → some b = vb.ownBlock → False) ∧ (∀ b', some b' = va.ownBlock → b' = b55 → False) ∧ (∀ b', some b' = vb.ownBlock → b' = b55 → False) ∧ OwnK kI 2 W H' (fun b => H21.bd ≤ b ∧ some b = va.ownBlock) va (ownN i) ∧ OwnK kI 2 W H' (fun b => H21.bd ≤ b ∧ some b = vb.ownBlock) vb (ptsN i) ∧ True) (fun ⟨i, va, vb⟩ => n - i) (0, (.slice none 0 0), v45) ⟨X75, X76, X77, hb80, Nat.zero_le _, hb81, (fun b h1 _ => by simp [Value.ownBlock] at h1), (fun b h1 _ => by simp [Value.ownBlock] at h1), a64, ho83, ho79, trivial⟩ ⟨rfl, rfl, rfl, rfl, rfl, rfl, rfl, rfl, trivial⟩ ?_
          rintro ⟨i, va, vb⟩ H84 ⟨X85, X86, X87, hb88, hi, hbB, hdis, hda, hdb, hoA, hoP, _⟩
          refine AW.rs ?_
          refine AL.val rfl (.inl rfl) (HV.lti rfl rfl) ?_
          refine AL.nx ?_
          refine AW.seq ?_
          refine AW.ifd rfl (fun c89 => ?_) (fun c89 => ?_)
          · -- then
            refine AW.skip ?_
            refine nrm_and ?_
            refine AW.seq ?_
            refine AW.block ?_
            refine AW.rs ?_
            refine AL.val rfl (.inl rfl) (HV.mv rfl) ?_
            refine AL.val rfl (.inl rfl) (HV.as rfl) ?_
            refine AL.nx ?_
            refine AW.rs ?_
            refine AL.val rfl (.inl rfl) (HV.fa fl31_1 rfl) ?_
            refine AL.val rfl (.inl rfl) (HV.ld rfl va22 (at_cell_add (j := 1) hbB rfl)) ?_
            refine AL.val rfl (.inl rfl) (HV.mv rfl) ?_
            have X90 := Ext.refl H84
            have y91 := hb88.lt
            have y92 := hbB.lt
            have o93 := X85.bd
            have o94 := X86.bd
            have o95 := X87.bd
            have o96 := X90.bd
            have a97 := hoA.ltb
            have a98 := hoP.ltb
            refine AL.w rfl (.inl rfl) (WV.bsK (K := kI) (l := ([(i : Int)] : List Int)) (css := [[.int .i64 (i : Int)]]) sl22 rfl rfl (by first | rfl | (simp [Instr.fill, Value.cells, kI, kB, kU, kU8, kS, Kd.sc]; done) | (simp [Instr.fill, Value.cells, kI, kB, kU, kU8, kS, Kd.sc, rng1, rng2, rng3, rng4, kP])) rfl (segs_cons rfl segs_nil)) ?_
            rintro v99 H100 ⟨hx101, ho102⟩
            have X103 := Ext.trans X85 hx101
            have X104 := Ext.trans X86 hx101
            have X105 := Ext.trans X87 hx101
            have X106 := Ext.trans X90 hx101
            have ho107 := hoA.ext hx101
            have ho108 := hoP.ext hx101
            have hb109 := hb88.ext hx101
            have hb110 := hbB.ext hx101
            have X112 := Ext.refl H100
            refine AL.w rfl (.inl rfl) (WV.apk sl22 rfl rfl ho107 ho102.rd (by have := ownN_len i; simp; omega) (by have := ownN_len i; simp; omega) (fun b hb _ e => Nat.lt_irrefl _ (Nat.lt_of_lt_of_le (a97 b e) hb))) ?_
            rintro v113 H114 ⟨hx115, ho116, hb117⟩
            have ho118 := ho116.narrow (ok' := fun b => H21.bd ≤ b ∧ some b = v113.ownBlock) kI_flat (fun b q => ⟨(hb117 b q).elim (fun e => (ho107.blk b e).1.1) (fun e => Nat.le_trans X105.bd e), q⟩)
            have d119 : ∀ b, some b = vb.ownBlock → some b = v113.ownBlock → False := fun b h1 h2 => (hb117 b h2).elim (fun e => (fun b h1 h2 => hdis b h2 h1) b h1 e) (fun e => by have := (ho108.blk b h1).2.1; omega)
            have a120 : ∀ b', some b' = v113.ownBlock → b' = b55 → False := fun b' h1 h2 => (hb117 b' h1).elim (fun e => hda b' e h2) (fun e => by have := hb110.lt; omega)
            have X121 := Ext.thru X103 hx115 (fun b hb => Nat.le_trans o42 (ho107.blk b hb).1.1)
            have X122 := Ext.thru X104 hx115 (fun b hb => Nat.le_trans o43 (ho107.blk b hb).1.1)
            have X123 := Ext.thru X105 hx115 (fun b hb => Nat.le_trans o44 (ho107.blk b hb).1.1)
            have ho126 := ho108.but hx115 (fun b h1 _ h2 => hdis b h2 h1.2) (fun b hb => (ho107.blk b hb).2.2)
            have ho127 := ho102.but hx115 (fun b hb _ e => Nat.lt_irrefl _ (Nat.lt_of_lt_of_le (a97 b e) hb)) (fun b hb => (ho107.blk b hb).2.2)
            have hb128 := hb109.but hx115 (fun e => by have q : H21.bd ≤ _ := (ho107.blk _ e).1.1; omega)
            have hb129 := hb110.but hx115 (fun e => hda _ e rfl)
            refine AL.val rfl (.inl rfl) (HV.fa fl31_1 rfl) ?_
            refine AL.w0 (.inl rfl) (WV.st rfl rfl va22 (sl_size ho118.rd.isSl) hb129 (Nat.le_of_ble_eq_true rfl) (sl_one ho118.rd.isSl)) ?_
            rintro _ H130 ⟨hx131, hb132⟩
            rw [sl_cells ho118.rd.isSl] at hb132
            have X133 := Ext.thru X121 hx131 (fun z_ hz_ => by rw [hz_]; exact o61)
            have X134 := Ext.thru X122 hx131 (fun z_ hz_ => by rw [hz_]; exact o62)
            have X135 := Ext.thru X123 hx131 (fun z_ hz_ => by rw [hz_]; exact o63)
            have ho136 := ho118.but hx131 (fun b hb _ e => a120 b hb.2 e) (fun z_ hz_ => by rw [hz_]; exact hb129.w)
            have ho137 := ho126.but hx131 (fun b hb _ e => hdb b hb.2 e) (fun z_ hz_ => by rw [hz_]; exact hb129.w)
            have ho138 := ho127.but hx131 (fun b hb _ e => by have hb' : H84.bd ≤ b := hb; have e' : b = b55 := e; omega) (fun z_ hz_ => by rw [hz_]; exact hb129.w)
            have hb139 := hb128.but hx131 ne65
            have hb140 : At W H130 b55 ⟨31, [.int .i64 (n : Int), v113, .int .i64 0, .int .i64 0, (.slice none 0 0)], 5⟩ := hb132
            refine AL.nx ?_
            refine AW.reg ?_
            refine AL.val rfl (.inl rfl) (HV.mv rfl) ?_
            refine AL.val rfl (.inl rfl) (HV.mv rfl) ?_
            refine AL.val rfl (.inl rfl) (HV.add rfl rfl (by omega)) ?_
            have X141 := Ext.refl H130
            have y142 := hb139.lt
            have y143 := hb140.lt
            have o144 := X133.bd
            have o145 := X134.bd
            have o146 := X135.bd
            have o147 := X141.bd
            have a148 := ho136.ltb
            have a149 := ho137.ltb
            have a150 := ho138.ltb
            refine AL.w rfl (.inl rfl) (WV.bsK (K := kI) (l := ([(i : Int) + 1] : List Int)) (css := [[.int .i64 ((i : Int) + 1)]]) sl22 rfl rfl (by first | rfl | (simp [Instr.fill, Value.cells, kI, kB, kU, kU8, kS, Kd.sc]; done) | (simp [Instr.fill, Value.cells, kI, kB, kU, kU8, kS, Kd.sc, rng1, rng2, rng3, rng4, kP])) rfl (segs_cons rfl segs_nil)) ?_
            rintro v151 H152 ⟨hx153, ho154⟩
            have X155 := Ext.trans X133 hx153
            have X156 := Ext.trans X134 hx153
            have X157 := Ext.trans X135 hx153
            have X158 := Ext.trans X141 hx153
            have ho159 := ho136.ext hx153
            have ho160 := ho137.ext hx153
            have ho161 := ho138.ext hx153
            have hb162 := hb139.ext hx153
            have hb163 := hb140.ext hx153
            have X165 := Ext.refl H152
            refine AL.w rfl (.inl rfl) (WV.apk sl22 rfl rfl ho160 ho154.rd (by have := ptsN_len i; simp; omega) (by have := ptsN_len i; simp; omega) (fun b hb _ e => Nat.lt_irrefl _ (Nat.lt_of_lt_of_le (a149 b e) hb))) ?_
            rintro v166 H167 ⟨hx168, ho169, hb170⟩
            have ho171 := ho169.narrow (ok' := fun b => H21.bd ≤ b ∧ some b = v166.ownBlock) kI_flat (fun b q => ⟨(hb170 b q).elim (fun e => (ho160.blk b e).1.1) (fun e => Nat.le_trans X157.bd e), q⟩)
            have d172 : ∀ b, some b = v113.ownBlock → some b = v166.ownBlock → False := fun b h1 h2 => (hb170 b h2).elim (fun e => (fun b h1 h2 => d119 b h2 h1) b h1 e) (fun e => by have := (ho159.blk b h1).2.1; omega)
            have a173 : ∀ b', some b' = v166.ownBlock → b' = b55 → False := fun b' h1 h2 => (hb170 b' h1).elim (fun e => hdb b' e h2) (fun e => by have := hb163.lt; omega)
            have X174 := Ext.thru X155 hx168 (fun b hb => Nat.le_trans o42 (ho160.blk b hb).1.1)
            have X175 := Ext.thru X156 hx168 (fun b hb => Nat.le_trans o43 (ho160.blk b hb).1.1)
            have X176 := Ext.thru X157 hx168 (fun b hb => Nat.le_trans o44 (ho160.blk b hb).1.1)
            have ho179 := ho159.but hx168 (fun b h1 _ h2 => (fun b h1 h2 => d119 b h2 h1) b h1.2 h2) (fun b hb => (ho160.blk b hb).2.2)
            have ho180 := ho161.but hx168 (fun b hb _ e => Nat.lt_irrefl _ (Nat.lt_of_lt_of_le (a98 b e) hb)) (fun b hb => (ho160.blk b hb).2.2)
            have ho181 := ho154.but hx168 (fun b hb _ e => Nat.lt_irrefl _ (Nat.lt_of_lt_of_le (a149 b e) hb)) (fun b hb => (ho160.blk b hb).2.2)
            have hb182 := hb162.but hx168 (fun e => by have q : H21.bd ≤ _ := (ho160.blk _ e).1.1; omega)
            have hb183 := hb163.but hx168 (fun e => hdb _ e rfl)
            refine AL.val rfl (.inl rfl) (HV.as rfl) ?_
            refine AL.nil ?_
            refine nrm_blk (nrm_and ?_)
            refine AW.reg ?_
            refine AL.val rfl (.inl rfl) (HV.add rfl rfl (by omega)) ?_
            refine AL.val rfl (.inl rfl) (HV.mv rfl) ?_
            refine AL.nil ?_
            refine nrm_and ?_
            exact ⟨(i + 1, v113, v166), ⟨X174, X175, X176, hb182, by omega, hb183, d172, a120, a173, by rw [ownN_succ]; exact ho179, by rw [ptsN_succ]; exact ho171, trivial⟩, by first | omega | (dsimp only; omega), ⟨rfl, rfl, rfl, rfl, rfl, rfl, rfl, rfl, trivial⟩⟩
          · -- else
            refine AW.exit ?_
            refine ex_and (ex_and (ex_blk ?_))
            refine nrm_and ?_
            refine AW.rs ?_
            refine AL.val rfl (.inl rfl) (HV.mv rfl) ?_
            refine AL.val rfl (.inl rfl) (HV.mv rfl) ?_
            refine AL.val rfl (.inl rfl) (HV.mv rfl) ?_
            have X184 := Ext.refl H84
            have y185 := hb88.lt
            have y186 := hbB.lt
            have o187 := X85.bd
            have o188 := X86.bd
            have o189 := X87.bd
            have o190 := X184.bd
            have a191 := hoA.ltb
            have a192 := hoP.ltb
            refine AL.w rfl (.inl rfl) (WV.call fn120 rfl (powersOf_ok hoP.rd m hq (by rw [show i = n by omega]; exact ptsN_in hpn) (by omega) (by rw [ptsN_len]; omega))) ?_
            rintro _ H194 ⟨⟨u193, rfl, ho196⟩, hx195⟩
            have X199 := Ext.trans X85 hx195
            have X200 := Ext.trans X86 hx195
            have X201 := Ext.trans X87 hx195
            have X202 := Ext.trans X184 hx195
            have ho203 := hoA.ext hx195
            have ho204 := hoP.ext hx195
            have hb205 := hb88.ext hx195
            have hb206 := hbB.ext hx195
            have X207 := Ext.refl H194
            have hr197 : RdK (kR kI) W H194 (fun b => H84.bd ≤ b ∧ b < H194.bd) u193 (powL p (ptsN i) m) := (rd_ofO ho196.rd).okk (fun b hb hlt => ⟨hb, hlt⟩)
            refine AL.val rfl (.inl rfl) (HV.mv rfl) ?_
            refine AL.val rfl (.inl rfl) (HV.ex rfl rfl) ?_
            refine AL.val rfl (.inl rfl) (HV.ex rfl rfl) ?_
            refine AL.val rfl (.inl rfl) (HV.fa fl31_2 rfl) ?_
            refine AL.w0 (.inl rfl) (WV.st rfl rfl va29 rfl hb206 (Nat.le_of_ble_eq_true rfl) (one_cons rfl (one_cons rfl (one_cons (sl_one1 hr197.isSl) one_nil)))) ?_
            rintro _ H208 ⟨hx209, hb210⟩
            have X211 := Ext.thru X199 hx209 (fun z_ hz_ => by rw [hz_]; exact o61)
            have X212 := Ext.thru X200 hx209 (fun z_ hz_ => by rw [hz_]; exact o62)
            have X213 := Ext.thru X201 hx209 (fun z_ hz_ => by rw [hz_]; exact o63)
            have ho216 := ho203.but hx209 (fun b hb _ e => hda b hb.2 e) (fun z_ hz_ => by rw [hz_]; exact hb206.w)
            have ho217 := ho204.but hx209 (fun b hb _ e => hdb b hb.2 e) (fun z_ hz_ => by rw [hz_]; exact hb206.w)
            have ho218 := hr197.but hx209 (fun b hb _ e => by have h1 : H84.bd ≤ b ∧ b < H194.bd := hb; have h2 : b = b55 := e; omega) (fun z_ hz_ => by rw [hz_]; exact hb206.w)
            have hb219 := hb205.but hx209 ne65
            have hb220 : At W H208 b55 ⟨31, [.int .i64 (n : Int), va, .int .i64 p, .int .i64 (m : Int), u193], 5⟩ := hb210
            refine AL.nx ?_
            refine AW.rs ?_
            refine AL.val rfl (.inl rfl) (HV.lda (cs := [.int .i64 (n : Int), va, .int .i64 p, .int .i64 (m : Int), u193]) rfl va31 (at_cells hb220 rfl)) ?_
            refine AL.w0 (.inl rfl) (WV.st rfl rfl va31 rfl hb219 (Nat.le_of_ble_eq_true rfl) (one_cons rfl (one_cons (sl_one1 ho216.rd.isSl) (one_cons rfl (one_cons rfl (one_cons (sl_one1 ho218.isSl) one_nil)))))) ?_
            rintro _ H221 ⟨hx222, hb223⟩
            have X224 := Ext.thru X211 hx222 (fun z_ hz_ => by rw [hz_]; exact o6)
            have ho227 := ho216.but hx222 (fun b hb _ e => by have hb' : H21.bd ≤ b := hb.1; have e' : b = b1 := e; omega) (fun z_ hz_ => by rw [hz_]; exact hb219.w)
            have ho228 := ho217.but hx222 (fun b hb _ e => by have hb' : H21.bd ≤ b := hb.1; have e' : b = b1 := e; omega) (fun z_ hz_ => by rw [hz_]; exact hb219.w)
            have ho229 := ho218.but hx222 (fun b hb _ e => by have h1 : H84.bd ≤ b ∧ b < H194.bd := hb; have h2 : b = b1 := e; omega) (fun z_ hz_ => by rw [hz_]; exact hb219.w)
            have hb230 := hb220.but hx222 (fun e => ne65 e.symm)
            have hb231 : At W H221 b1 ⟨31, [.int .i64 (n : Int), va, .int .i64 p, .int .i64 (m : Int), u193], 5⟩ := hb223
            refine AL.val rfl (.inl rfl) (HV.as rfl) ?_
            refine AL.nx ?_
            refine AW.ret ?_
            refine post_ct rfl rfl rfl va31 hb231 ?_ (.inr rfl)
            have hin : n = i := (by omega); exact ⟨⟨_, _, rfl, by rw [hin]; exact (ho227.rd).okk (fun _ _ _ => trivial), by rw [hin]; exact (ho229).okk (fun _ _ _ => trivial)⟩, X224⟩
    · -- true
      have c20_ : (!decide (1 ≤ (n : Int) ∧ (n : Int) ≤ 7)) = true := by rw [decide_eq_false c20]; rfl
      rw [c20_]
      refine AL.off rfl rfl (by decide) rfl ?_
      refine AL.off rfl rfl (by decide) rfl ?_
      refine AL.off rfl rfl (by decide) rfl ?_
      refine AL.off rfl rfl (by decide) rfl ?_
      refine AL.val rfl (.inl rfl) (HV.pickT rfl rfl) ?_
      refine AL.nx ?_
      refine AW.cond rfl (fun _ => ?_) (fun h => by cases h)
      refine AW.rs ?_
      refine AL.val rfl (.inl rfl) (HV.bd rfl (bd31_ )) ?_
      refine AL.w0 (.inl rfl) (WV.st rfl rfl va31 rfl hb19 (Nat.le_of_ble_eq_true rfl) (one_cons rfl (one_cons (sl_one1 ⟨none, 0, rfl⟩) (one_cons rfl (one_cons rfl (one_cons (sl_one1 ⟨none, 0, rfl⟩) one_nil)))))) ?_
      rintro _ H233 ⟨hx234, hb235⟩
      have X236 := Ext.thru X17 hx234 (fun z_ hz_ => by rw [hz_]; exact o6)
      have hb238 : At W H233 b1 ⟨31, [.int .i64 0, (.slice none 0 0), .int .i64 0, .int .i64 0, (.slice none 0 0)], 5⟩ := hb235
      refine AL.val rfl (.inl rfl) (HV.as rfl) ?_
      refine AL.nx ?_
      refine AW.ret ?_
      refine ret_and ?_
      refine post_ct rfl rfl rfl va31 hb238 ?_ (.inr rfl)
      exfalso; first | omega | exact c20 hq
  · -- true
    have c14_ : (!decide (primeI p)) = true := by rw [decide_eq_false c14]; rfl
    rw [c14_]
    refine AL.off rfl rfl (by decide) rfl ?_
    refine AL.off rfl rfl (by decide) rfl ?_
    refine AL.off rfl rfl (by decide) rfl ?_
    refine AL.val rfl (.inl rfl) (HV.pickT rfl rfl) ?_
    refine AL.val rfl (.inl rfl) (HV.mv rfl) ?_
    refine AL.off rfl rfl (by decide) rfl ?_
    refine AL.off rfl rfl (by decide) rfl ?_
    refine AL.off rfl rfl (by decide) rfl ?_
    refine AL.off rfl rfl (by decide) rfl ?_
    refine AL.val rfl (.inl rfl) (HV.pickT rfl rfl) ?_
    refine AL.nx ?_
    refine AW.cond rfl (fun _ => ?_) (fun h => by cases h)
    refine AW.rs ?_
    refine AL.val rfl (.inl rfl) (HV.bd rfl (bd31_ )) ?_
    refine AL.w0 (.inl rfl) (WV.st rfl rfl va31 rfl hb13 (Nat.le_of_ble_eq_true rfl) (one_cons rfl (one_cons (sl_one1 ⟨none, 0, rfl⟩) (one_cons rfl (one_cons rfl (one_cons (sl_one1 ⟨none, 0, rfl⟩) one_nil)))))) ?_
    rintro _ H240 ⟨hx241, hb242⟩
    have X243 := Ext.thru X11 hx241 (fun z_ hz_ => by rw [hz_]; exact o6)
    have hb245 : At W H240 b1 ⟨31, [.int .i64 0, (.slice none 0 0), .int .i64 0, .int .i64 0, (.slice none 0 0)], 5⟩ := hb242
    refine AL.val rfl (.inl rfl) (HV.as rfl) ?_
    refine AL.nx ?_
    refine AW.ret ?_
    refine ret_and ?_
    refine post_ct rfl rfl rfl va31 hb245 ?_ (.inr rfl)
    exfalso; first | omega | exact c14 hq

set_option maxRecDepth 100000 in
theorem sharesOf_ok {vo v : Value} {o : List Int} {l : List (List Int)} {oko ok : Nat → Prop} (n p k : Int) (ho : RdK kI W H oko vo o) (hr : RdK (kR kI) W H ok v l) (s : Int) {vb : Value} {bl : List Int} {okb : Nat → Prop} (hrb : RdK kI W H okb vb bl) (hok : okSc n o p k l) (hs : 0 ≤ s ∧ s ≤ p - 1) (hbl : elems p bl) (hkl : (bl.length : Int) = k - 1) : ACalls Try.prog W 53 #[.agg #[.int .i64 n, vo, .int .i64 p, .int .i64 k, v], .int .i64 s, vb] H (fun r H' => (∃ v, r = .tuple #[v, .int .i64 0] ∧ OwnK kI 2 W H' (fun b => H.bd ≤ b) v (shV l ([s] ++ bl) p)) ∧ Ext H H') := by
  refine ACalls.of (args := [.agg #[.int .i64 n, vo, .int .i64 p, .int .i64 k, v], .int .i64 s, vb]) Try.func53 rfl rfl ?_
  have X0 := Ext.refl H
  have hm1 := ho.max
  have hm2 := hr.max
  have hm3 := hrb.max
  have hF := okSc_f hok
  have hp := hF.pb
  have hk1 := hF.k1
  have hk0 := hF.k0
  have hF1 := hF.R
  have hF2 := hF.ol
  have hmx := hr.max
  have hall : elems p ([s] ++ bl) := elems_cons hs hbl
  have hall2 : ([s] ++ bl).length = k.toNat := by simp only [List.length_append, List.length_cons, List.length_nil]; omega
  refine AW.rs ?_
  refine AL.w rfl (.inl rfl) (WV.bx rfl rfl) ?_
  rintro _ H5 ⟨b4, rfl, hx6, hn7, hb8⟩
  have o9 := Nat.le_trans X0.bd hn7
  have X10 := Ext.trans X0 hx6
  have X11 := Ext.refl H5
  refine AL.val rfl (.inl rfl) (HV.as rfl) ?_
  refine AL.val rfl (.inl rfl) (HV.as rfl) ?_
  refine AL.nx ?_
  refine AW.seq ?_
  refine AW.rs ?_
  refine AL.val rfl (.inl rfl) (HV.lda (cs := [.int .i64 n, vo, .int .i64 p, .int .i64 k, v]) rfl va31 (at_cells hb8 rfl)) ?_
  refine AL.w rfl (.inl rfl) (WV.call fn92 rfl (ValidS_ok n p k (ho.ext X10) (hr.ext X10))) ?_
  rintro _ H12 ⟨rfl, hx13⟩
  have X14 := Ext.trans X10 hx13
  have X15 := Ext.trans X11 hx13
  have hb16 := hb8.ext hx13
  refine AL.val rfl (.inl rfl) (HV.not rfl) ?_
  refine AL.nx ?_
  refine AW.ifn rfl (fun c17 => ?_) (fun c17 => ?_)
  · -- then
    refine AW.rs ?_
    refine AL.val rfl (.inl rfl) (HV.as rfl) ?_
    refine AL.val rfl (.inl rfl) (HV.as rfl) ?_
    refine AL.nx ?_
    refine AW.ret ?_
    refine ret_and ?_
    refine post_two rfl rfl rfl ?_ (.inr rfl)
    exfalso; first | omega | exact c17 hok | exact c17 ⟨hok.2.1.1, elems_one.2 hs⟩ | exact c17 ⟨hok.2.1.1, hbl⟩
  · -- else
    refine AW.skip ?_
    refine nrm_and ?_
    refine AW.seq ?_
    refine AW.rs ?_
    refine AL.val rfl (.inl rfl) (HV.fa fl31_2 rfl) ?_
    refine AL.val rfl (.inl rfl) (HV.fa fl29_0 rfl) ?_
    refine AL.val rfl (.inl rfl) (HV.ld rfl va2 (at_cell_add (j := 2) hb16 rfl)) ?_
    refine AL.val rfl (.inl rfl) (HV.mv rfl) ?_
    have X18 := Ext.refl H12
    have y19 := hb16.lt
    have o20 := X14.bd
    have o21 := X15.bd
    have o22 := X18.bd
    refine AL.w rfl (.inl rfl) (WV.bsK (K := kI) (l := ([s] : List Int)) (css := [[.int .i64 s]]) sl22 rfl rfl (by first | rfl | (simp [Instr.fill, Value.cells, kI, kB, kU, kU8, kS, Kd.sc]; done) | (simp [Instr.fill, Value.cells, kI, kB, kU, kU8, kS, Kd.sc, rng1, rng2, rng3, rng4, kP])) rfl (segs_cons rfl segs_nil)) ?_
    rintro v23 H24 ⟨hx25, ho26⟩
    have X27 := Ext.trans X14 hx25
    have X28 := Ext.trans X15 hx25
    have X29 := Ext.trans X18 hx25
    have hb30 := hb16.ext hx25
    refine AL.w rfl (.inl rfl) (WV.call fn86 rfl (areEl_ok p ho26.rd)) ?_
    rintro _ H32 ⟨rfl, hx33⟩
    have X34 := Ext.trans X27 hx33
    have X35 := Ext.trans X28 hx33
    have X36 := Ext.trans X29 hx33
    have ho37 := ho26.ext hx33
    have hb38 := hb30.ext hx33
    refine AL.val rfl (.inl rfl) (HV.not rfl) ?_
    refine AL.val rfl (.inl rfl) (HV.mv rfl) ?_
    by_cases c39 : primeI p ∧ elems p (([s] : List Int) : List Int)
    · -- false
      have c39_ : (!decide (primeI p ∧ elems p (([s] : List Int) : List Int))) = false := by rw [decide_eq_true c39]; rfl
      rw [c39_]
      refine AL.val rfl (.inr ⟨_, _, _, rfl, rfl, rfl⟩) (HV.fa fl31_2 rfl) ?_
      refine AL.val rfl (.inr ⟨_, _, _, rfl, rfl, rfl⟩) (HV.fa fl29_0 rfl) ?_
      refine AL.val rfl (.inr ⟨_, _, _, rfl, rfl, rfl⟩) (HV.ld rfl va2 (at_cell_add (j := 2) hb38 rfl)) ?_
      refine AL.val rfl (.inr ⟨_, _, _, rfl, rfl, rfl⟩) (HV.mv rfl) ?_
      refine AL.w rfl (.inr ⟨_, _, _, rfl, rfl, rfl⟩) (WV.call fn86 rfl (areEl_ok p (hrb.ext X34))) ?_
      rintro _ H40 ⟨rfl, hx41⟩
      have X42 := Ext.trans X34 hx41
      have X43 := Ext.trans X35 hx41
      have X44 := Ext.trans X36 hx41
      have ho45 := ho37.ext hx41
      have hb46 := hb38.ext hx41
      refine AL.val rfl (.inr ⟨_, _, _, rfl, rfl, rfl⟩) (HV.not rfl) ?_
      refine AL.val rfl (.inl rfl) (HV.pickF rfl rfl) ?_
      refine AL.val rfl (.inl rfl) (HV.mv rfl) ?_
      by_cases c47 : primeI p ∧ elems p bl
      · -- false
        have c47_ : (!decide (primeI p ∧ elems p bl)) = false := by rw [decide_eq_true c47]; rfl
        rw [c47_]
        refine AL.val rfl (.inr ⟨_, _, _, rfl, rfl, rfl⟩) (HV.mv rfl) ?_
        refine AL.val rfl (.inr ⟨_, _, _, rfl, rfl, rfl⟩) (HV.len Try.underlying22 rfl hrb.isSl) ?_
        refine AL.val rfl (.inr ⟨_, _, _, rfl, rfl, rfl⟩) (HV.fa fl31_2 rfl) ?_
        refine AL.val rfl (.inr ⟨_, _, _, rfl, rfl, rfl⟩) (HV.fa fl29_1 rfl) ?_
        refine AL.val rfl (.inr ⟨_, _, _, rfl, rfl, rfl⟩) (HV.ld rfl va2 (at_cell_add (j := 3) hb46 rfl)) ?_
        refine AL.val rfl (.inr ⟨_, _, _, rfl, rfl, rfl⟩) (HV.sub rfl rfl (by omega)) ?_
        refine AL.val rfl (.inr ⟨_, _, _, rfl, rfl, rfl⟩) (HV.nei rfl rfl) ?_
        refine AL.val rfl (.inl rfl) (HV.pickF rfl rfl) ?_
        refine AL.nx ?_
        refine AW.ifd rfl (fun c48 => ?_) (fun c48 => ?_)
        · -- then
          refine AW.rs ?_
          refine AL.val rfl (.inl rfl) (HV.as rfl) ?_
          refine AL.val rfl (.inl rfl) (HV.as rfl) ?_
          refine AL.nx ?_
          refine AW.ret ?_
          refine ret_and ?_
          refine post_two rfl rfl rfl ?_ (.inr rfl)
          exfalso; first | omega | exact c48 hok | exact c48 ⟨hok.2.1.1, elems_one.2 hs⟩ | exact c48 ⟨hok.2.1.1, hbl⟩
        · -- else
          refine AW.skip ?_
          refine nrm_and ?_
          refine AW.rs ?_
          refine AL.val rfl (.inl rfl) (HV.mv rfl) ?_
          have X49 := Ext.refl H40
          have y50 := hb46.lt
          have o51 := X42.bd
          have o52 := X43.bd
          have o53 := X44.bd
          have o54 := X49.bd
          have a55 := ho45.ltb
          refine AL.w rfl (.inl rfl) (WV.bsK (K := kI) (l := ([s] : List Int)) (css := [[.int .i64 s]]) sl22 rfl rfl (by first | rfl | (simp [Instr.fill, Value.cells, kI, kB, kU, kU8, kS, Kd.sc]; done) | (simp [Instr.fill, Value.cells, kI, kB, kU, kU8, kS, Kd.sc, rng1, rng2, rng3, rng4, kP])) rfl (segs_cons rfl segs_nil)) ?_
          rintro v56 H57 ⟨hx58, ho59⟩
          have X60 := Ext.trans X42 hx58
          have X61 := Ext.trans X43 hx58
          have X62 := Ext.trans X44 hx58
          have X63 := Ext.trans X49 hx58
          have ho64 := ho45.ext hx58
          have hb65 := hb46.ext hx58
          refine AL.val rfl (.inl rfl) (HV.mv rfl) ?_
          have X67 := Ext.refl H57
          refine AL.w rfl (.inl rfl) (WV.apk sl22 rfl rfl ho59 (hrb.lo.ext X60) (by simp; omega) (by simp; omega) (fun b hb _ e => by have h1 : H40.bd ≤ b := (ho59.blk b e).1; have h2 : b < H.bd := hb; have h3 := o51; omega)) ?_
          rintro v68 H69 ⟨hx70, ho71, hb72⟩
          have ho73 := ho71.narrow (ok' := fun b => H40.bd ≤ b) kI_flat (fun b q => (hb72 b q).elim (fun e => (ho59.blk b e).1) (fun e => Nat.le_trans X63.bd e))
          have X74 := Ext.thru X60 hx70 (fun b hb => Nat.le_trans o51 (ho59.blk b hb).1)
          have X75 := Ext.thru X61 hx70 (fun b hb => Nat.le_trans o52 (ho59.blk b hb).1)
          have X76 := Ext.thru X62 hx70 (fun b hb => Nat.le_trans o53 (ho59.blk b hb).1)
          have X77 := Ext.thru X63 hx70 (fun b hb => Nat.le_trans o54 (ho59.blk b hb).1)
          have hb80 := hb65.but hx70 (fun e => by have q : H40.bd ≤ _ := (ho59.blk _ e).1; omega)
          refine AL.val rfl (.inl rfl) (HV.as rfl) ?_
          refine AL.nx ?_
          refine AW.rs ?_
          have X81 := Ext.refl H69
          have hr82 := ho73.rd
          have y83 := hb80.lt
          have o84 := X74.bd
          have o85 := X75.bd
          have o86 := X76.bd
          have o87 := X77.bd
          have o88 := X81.bd
          refine AL.w rfl (.inl rfl) (WV.bsK (K := kI) (l := ([] : List Int)) (css := []) sl22 rfl rfl (by first | rfl | (simp [Instr.fill, Value.cells, kI, kB, kU, kU8, kS, Kd.sc]; done) | (simp [Instr.fill, Value.cells, kI, kB, kU, kU8, kS, Kd.sc, rng1, rng2, rng3, rng4, kP])) rfl segs_nil) ?_
          rintro v89 H90 ⟨hx91, ho92⟩
          have X93 := Ext.trans X74 hx91
          have X94 := Ext.trans X75 hx91
          have X95 := Ext.trans X76 hx91
          have X96 := Ext.trans X77 hx91
          have X97 := Ext.trans X81 hx91
          have hb98 := hb80.ext hx91
          refine AL.val rfl (.inl rfl) (HV.as rfl) ?_
          refine AL.nx ?_
          refine AW.seq ?_
          refine AW.rs ?_
          refine AL.val rfl (.inl rfl) (HV.fa fl31_2 rfl) ?_
          refine AL.val rfl (.inl rfl) (HV.fa fl29_2 rfl) ?_
          refine AL.val rfl (.inl rfl) (HV.ld rfl va23 (at_cell_add (j := 4) hb98 rfl)) ?_
          refine AL.val rfl (.inl rfl) (HV.len Try.underlying23 rfl hr.isSl) ?_
          refine AL.val rfl (.inl rfl) (HV.mv rfl) ?_
          refine AL.nx ?_
          refine AW.block ?_
          refine AW.loop (σ := Nat × Value) (fun ⟨i, vv⟩ => [(3, .pointer (some ⟨b4, 0, none⟩)), (6, (.slice none 0 0)), (7, .int .i64 0), (8, v68), (46, v), (47, .int .i64 (l.length : Int)), (9, vv), (48, .int .i64 (i : Int))]) (fun ⟨i, vv⟩ H' => Ext H H' ∧ Ext H5 H' ∧ Ext H12 H' ∧ Ext H40 H' ∧ Ext H69 H' ∧ At W H' b4 ⟨31, [.int .i64 n, vo, .int .i64 p, .int .i64 k, v], 5⟩ ∧ i ≤ l.length ∧ OwnK kI 2 W H' (fun b => H69.bd ≤ b) vv (shV (l.take i) ([s] ++ bl) p) ∧ True) (fun ⟨i, vv⟩ => l.length - i) (0, v89) ⟨X93, X94, X95, X96, X97, hb98, Nat.zero_le _, ho92, trivial⟩ ⟨rfl, rfl, rfl, rfl, rfl, rfl, rfl, rfl, trivial⟩ ?_
          rintro ⟨i, vv⟩ H100 ⟨X101, X102, X103, X104, X105, hb106, hi, hoL, _⟩
          refine AW.rs ?_
          refine AL.val rfl (.inl rfl) (HV.lti rfl rfl) ?_
          refine AL.nx ?_
          refine AW.seq ?_
          refine AW.ifd rfl (fun c107 => ?_) (fun c107 => ?_)
          · -- then
            refine AW.skip ?_
            refine nrm_and ?_
            refine AW.seq ?_
            refine AW.block ?_
            refine AW.rs ?_
            obtain ⟨p108, z109, cs110, hz111, hK112, hC113, hP114⟩ := RdK.ix (q := (i : Int)) hr sl23 (by omega) (by omega)
            obtain ⟨v115, rfl, hr116⟩ := hK112
            have hm117 := hr116.max
            refine AL.val rfl (.inl rfl) (hP114 rfl rfl) ?_
            refine AL.val rfl (.inl rfl) (HV.ld rfl va22 (cells_first (hC113.ext X101) rfl)) ?_
            refine AL.val rfl (.inl rfl) (HV.as rfl) ?_
            refine AL.nx ?_
            refine AW.reg ?_
            refine AL.val rfl (.inl rfl) (HV.mv rfl) ?_
            refine AL.val rfl (.inl rfl) (HV.fa fl31_2 rfl) ?_
            refine AL.val rfl (.inl rfl) (HV.fa fl29_0 rfl) ?_
            refine AL.val rfl (.inl rfl) (HV.ld rfl va2 (at_cell_add (j := 2) hb106 rfl)) ?_
            refine AL.val rfl (.inl rfl) (HV.mv rfl) ?_
            refine AL.val rfl (.inl rfl) (HV.mv rfl) ?_
            have hrw := rect_at hF.r hz111
            refine AL.w rfl (.inl rfl) (WV.call fn89 rfl (dot_ok (hr116.ext X101) (hr82.ext X105) hp hrw.2 hall ⟨by omega, by omega⟩)) ?_
            rintro _ H118 ⟨rfl, hx119⟩
            have X120 := Ext.trans X101 hx119
            have X121 := Ext.trans X102 hx119
            have X122 := Ext.trans X103 hx119
            have X123 := Ext.trans X104 hx119
            have X124 := Ext.trans X105 hx119
            have ho125 := hoL.ext hx119
            have hb126 := hb106.ext hx119
            have X127 := Ext.refl H118
            have y128 := hb126.lt
            have o129 := X120.bd
            have o130 := X121.bd
            have o131 := X122.bd
            have o132 := X123.bd
            have o133 := X124.bd
            have o134 := X127.bd
            have a135 := ho125.ltb
            refine AL.w rfl (.inl rfl) (WV.bsK (K := kI) (l := ([(dotI z109 ((([s] : List Int) : List Int) ++ bl) z109.length % p)] : List Int)) (css := [[.int .i64 (dotI z109 ((([s] : List Int) : List Int) ++ bl) z109.length % p)]]) sl22 rfl rfl (by first | rfl | (simp [Instr.fill, Value.cells, kI, kB, kU, kU8, kS, Kd.sc]; done) | (simp [Instr.fill, Value.cells, kI, kB, kU, kU8, kS, Kd.sc, rng1, rng2, rng3, rng4, kP])) rfl (segs_cons rfl segs_nil)) ?_
            rintro v136 H137 ⟨hx138, ho139⟩
            have X140 := Ext.trans X120 hx138
            have X141 := Ext.trans X121 hx138
            have X142 := Ext.trans X122 hx138
            have X143 := Ext.trans X123 hx138
            have X144 := Ext.trans X124 hx138
            have X145 := Ext.trans X127 hx138
            have ho146 := ho125.ext hx138
            have hb147 := hb126.ext hx138
            have X149 := Ext.refl H137
            refine AL.w rfl (.inl rfl) (WV.apk sl22 rfl rfl ho146 ho139.rd (by have := shV_len (l.take i) ([s] ++ bl) p; rw [this, List.length_take]; simp; omega) (by have := shV_len (l.take i) ([s] ++ bl) p; rw [this, List.length_take]; simp; omega) (fun b hb _ e => Nat.lt_irrefl _ (Nat.lt_of_lt_of_le (a135 b e) hb))) ?_
            rintro v150 H151 ⟨hx152, ho153, hb154⟩
            have ho155 := ho153.narrow (ok' := fun b => H69.bd ≤ b) kI_flat (fun b q => (hb154 b q).elim (fun e => (ho146.blk b e).1) (fun e => Nat.le_trans X144.bd e))
            have X156 := Ext.thru X140 hx152 (fun b hb => Nat.le_trans o84 (ho146.blk b hb).1)
            have X157 := Ext.thru X141 hx152 (fun b hb => Nat.le_trans o85 (ho146.blk b hb).1)
            have X158 := Ext.thru X142 hx152 (fun b hb => Nat.le_trans o86 (ho146.blk b hb).1)
            have X159 := Ext.thru X143 hx152 (fun b hb => Nat.le_trans o87 (ho146.blk b hb).1)
            have X160 := Ext.thru X144 hx152 (fun b hb => Nat.le_trans o88 (ho146.blk b hb).1)
            have hb164 := hb147.but hx152 (fun e => by have q : H69.bd ≤ _ := (ho146.blk _ e).1; omega)
            refine AL.val rfl (.inl rfl) (HV.as rfl) ?_
            refine AL.nil ?_
            refine nrm_blk (nrm_and ?_)
            refine AW.reg ?_
            refine AL.val rfl (.inl rfl) (HV.add rfl rfl (by omega)) ?_
            refine AL.val rfl (.inl rfl) (HV.mv rfl) ?_
            refine AL.nil ?_
            refine nrm_and ?_
            exact ⟨(i + 1, v150), ⟨X156, X157, X158, X159, X160, hb164, by omega, by rw [shV_snoc hz111]; exact ho155, trivial⟩, by first | omega | (dsimp only; omega), ⟨rfl, rfl, rfl, rfl, rfl, rfl, rfl, rfl, trivial⟩⟩
          · -- else
            refine AW.exit ?_
            refine ex_and (ex_and (ex_blk ?_))
            refine nrm_and ?_
            refine AW.rs ?_
            refine AL.val rfl (.inl rfl) (HV.mv rfl) ?_
            refine AL.val rfl (.inl rfl) (HV.as rfl) ?_
            refine AL.val rfl (.inl rfl) (HV.as rfl) ?_
            refine AL.nx ?_
            refine AW.ret ?_
            refine post_two rfl rfl rfl ?_ (.inr rfl)
            exact ⟨⟨_, rfl, by rw [show l = l.take i by rw [List.take_of_length_le (by omega)]]; exact hoL.okk (fun b hb _ => Nat.le_trans o84 hb)⟩, X101⟩
      · -- true
        have c47_ : (!decide (primeI p ∧ elems p bl)) = true := by rw [decide_eq_false c47]; rfl
        rw [c47_]
        refine AL.off rfl rfl (by decide) rfl ?_
        refine AL.off rfl rfl (by decide) rfl ?_
        refine AL.off rfl rfl (by decide) rfl ?_
        refine AL.off rfl rfl (by decide) rfl ?_
        refine AL.off rfl rfl (by decide) rfl ?_
        refine AL.off rfl rfl (by decide) rfl ?_
        refine AL.off rfl rfl (by decide) rfl ?_
        refine AL.val rfl (.inl rfl) (HV.pickT rfl rfl) ?_
        refine AL.nx ?_
        refine AW.cond rfl (fun _ => ?_) (fun h => by cases h)
        refine AW.rs ?_
        refine AL.val rfl (.inl rfl) (HV.as rfl) ?_
        refine AL.val rfl (.inl rfl) (HV.as rfl) ?_
        refine AL.nx ?_
        refine AW.ret ?_
        refine ret_and ?_
        refine post_two rfl rfl rfl ?_ (.inr rfl)
        exfalso; first | omega | exact c47 hok | exact c47 ⟨hok.2.1.1, elems_one.2 hs⟩ | exact c47 ⟨hok.2.1.1, hbl⟩
    · -- true
      have c39_ : (!decide (primeI p ∧ elems p (([s] : List Int) : List Int))) = true := by rw [decide_eq_false c39]; rfl
      rw [c39_]
      refine AL.off rfl rfl (by decide) rfl ?_
      refine AL.off rfl rfl (by decide) rfl ?_
      refine AL.off rfl rfl (by decide) rfl ?_
      refine AL.off rfl rfl (by decide) rfl ?_
      refine AL.off rfl rfl (by decide) rfl ?_
      refine AL.off rfl rfl (by decide) rfl ?_
      refine AL.val rfl (.inl rfl) (HV.pickT rfl rfl) ?_
      refine AL.val rfl (.inl rfl) (HV.mv rfl) ?_
      refine AL.off rfl rfl (by decide) rfl ?_
      refine AL.off rfl rfl (by decide) rfl ?_
      refine AL.off rfl rfl (by decide) rfl ?_
      refine AL.off rfl rfl (by decide) rfl ?_
      refine AL.off rfl rfl (by decide) rfl ?_
      refine AL.off rfl rfl (by decide) rfl ?_
      refine AL.off rfl rfl (by decide) rfl ?_
      refine AL.val rfl (.inl rfl) (HV.pickT rfl rfl) ?_
      refine AL.nx ?_
      refine AW.cond rfl (fun _ => ?_) (fun h => by cases h)
      refine AW.rs ?_
      refine AL.val rfl (.inl rfl) (HV.as rfl) ?_
      refine AL.val rfl (.inl rfl) (HV.as rfl) ?_
      refine AL.nx ?_
      refine AW.ret ?_
      refine ret_and ?_
      refine post_two rfl rfl rfl ?_ (.inr rfl)
      exfalso; first | omega | exact c39 hok | exact c39 ⟨hok.2.1.1, elems_one.2 hs⟩ | exact c39 ⟨hok.2.1.1, hbl⟩
end Go.Proofs.Yticobjbjejpomaa.VC

