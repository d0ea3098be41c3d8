/- Walks. -/
import Derived.Test.YticobjbjejpomaaZF1
set_option linter.unusedVariables false
set_option linter.unusedSimpArgs false
namespace Go.Proofs.Yticobjbjejpomaa.VC
open Go Go.RowKit
/-! ### What the echelon says -/
def sumZ (f : Nat → Int) : Nat → Int
  | 0 => 0
  | n + 1 => sumZ f n + f n
theorem sumZ_congr {f g : Nat → Int} : ∀ {n : Nat}, (∀ j, j < n → f j = g j) → sumZ f n = sumZ g n
  | 0, _ => rfl
  | n + 1, h => by simp only [sumZ]; rw [sumZ_congr (fun j hj => h j (by omega)), h n (by omega)]
theorem sumZ_cg {p : Int} {f g : Nat → Int} : ∀ {n : Nat}, (∀ j, j < n → Cg p (f j) (g j)) → Cg p (sumZ f n) (sumZ g n)
  | 0, _ => Cg.refl _ _
  | n + 1, h => (sumZ_cg (fun j hj => h j (by omega))).add (h n (by omega))
theorem sumZ_add (f g : Nat → Int) : ∀ n : Nat, sumZ (fun j => f j + g j) n = sumZ f n + sumZ g n
  | 0 => rfl
  | n + 1 => by simp only [sumZ]; rw [sumZ_add f g n]; omega
theorem sumZ_mul (t : Int) (f : Nat → Int) : ∀ n : Nat, sumZ (fun j => t * f j) n = t * sumZ f n
  | 0 => by simp [sumZ]
  | n + 1 => by simp only [sumZ]; rw [sumZ_mul t f n]; grind
theorem sumZ_nil (n : Nat) : sumZ (fun _ => 0) n = 0 := by
  induction n with
  | zero => rfl
  | succ n ih => simp only [sumZ]; rw [ih]; rfl
theorem sumZ_zero {p : Int} {f : Nat → Int} {n : Nat} (h : ∀ j, j < n → Cg p (f j) 0) : Cg p (sumZ f n) 0 := by
  have := sumZ_cg (g := fun _ => 0) h
  rwa [sumZ_nil] at this
theorem sumZ_swap (f : Nat → Nat → Int) (m : Nat) : ∀ n : Nat, sumZ (fun i => sumZ (fun j => f i j) m) n = sumZ (fun j => sumZ (fun i => f i j) n) m
  | 0 => by simp only [sumZ]; rw [sumZ_nil]
  | n + 1 => by simp only [sumZ]; rw [sumZ_swap f m n, ← sumZ_add]
theorem sumZ_one {p : Int} {f : Nat → Int} {i : Nat} : ∀ {n : Nat}, i < n → (∀ j, j < n → j ≠ i → Cg p (f j) 0) → Cg p (sumZ f n) (f i)
  | 0, h, _ => by omega
  | n + 1, h, hz => by
    simp only [sumZ]
    rcases Nat.lt_or_ge i n with g | g
    · have h1 := sumZ_one g (fun j hj hn => hz j (by omega) hn)
      have h2 := h1.add (hz n (by omega) (by omega))
      simpa using h2
    · obtain rfl : i = n := by omega
      have h1 := sumZ_zero (p := p) (f := f) (n := i) (fun j hj => hz j (by omega) (by omega))
      have h2 := h1.add (Cg.refl p (f i))
      simpa using h2
theorem sumZ_cut {f : Nat → Int} {k : Nat} : ∀ {n : Nat}, k ≤ n → (∀ j, k ≤ j → j < n → f j = 0) → sumZ f n = sumZ f k
  | 0, h, _ => by obtain rfl : k = 0 := by omega
                  rfl
  | n + 1, h, hz => by
    rcases Nat.lt_or_ge k (n + 1) with g | g
    · simp only [sumZ]
      rw [sumZ_cut (by omega) (fun j h1 h2 => hz j h1 (by omega)), hz n (by omega) (by omega), Int.add_zero]
    · obtain rfl : k = n + 1 := by omega
      rfl
/-- What a row says of a list. -/
def dz (K : Nat) (row : List Int) (z : Nat → Int) : Int := sumZ (fun k => row.getD k 0 * z k) K
theorem dz_scl {p b : Int} {K : Nat} {row : List Int} (h : row.length = K) (z : Nat → Int) : Cg p (dz K (scl p b row) z) (b * dz K row z) := by
  unfold dz
  rw [← sumZ_mul]
  refine sumZ_cg fun j hj => ?_
  rw [scl_get (by omega)]
  exact ((Cg.mod p _).mul (Cg.refl p (z j))).trans (Cg.of_eq (by grind))
theorem dz_off {p t : Int} {K : Nat} {row m : List Int} (h : row.length = K) (z : Nat → Int) : Cg p (dz K (offR p t row m) z) (dz K row z - t * dz K m z) := by
  have e : dz K row z - t * dz K m z = sumZ (fun k => row.getD k 0 * z k + (-t) * (m.getD k 0 * z k)) K := by
    unfold dz
    rw [sumZ_add, sumZ_mul]; grind
  rw [e]
  refine sumZ_cg fun j hj => ?_
  rw [offR_get (by omega)]
  refine ((Cg.mod p _).mul (Cg.refl p (z j))).trans ⟨m.getD j 0 * z j, by grind⟩
def Ker (p : Int) (K : Nat) (rows : List (List Int)) (z : Nat → Int) : Prop := ∀ i, i < rows.length → Cg p (dz K (rows.getD i []) z) 0
theorem ker_swap {p : Int} {K : Nat} {l : List (List Int)} {i j : Nat} {z : Nat → Int} (hi : i < l.length) (hj : j < l.length) (h : Ker p K l z) : Ker p K (swapL l i j) z := fun k hk => by
  rw [swapL_len] at hk
  rw [swapL_get hi hj]
  split
  · exact h i hi
  · split
    · exact h j hj
    · exact h k hk
theorem swap_swap {l : List (List Int)} {i j : Nat} (hi : i < l.length) (hj : j < l.length) : swapL (swapL l i j) i j = l := by
  apply list_eq (d := []) (by simp [swapL_len])
  intro k _
  rw [swapL_get (by rw [swapL_len]; exact hi) (by rw [swapL_len]; exact hj), swapL_get hi hj, swapL_get hi hj, swapL_get hi hj]
  by_cases h1 : k = j
  · subst h1
    by_cases h2 : k = i
    · subst h2; simp
    · have h2' : ¬ i = k := fun e => h2 e.symm
      simp [h2']
  · by_cases h2 : k = i
    · subst h2; simp [h1]
    · simp [h1, h2]
theorem getD_set {l : List (List Int)} {n k : Nat} {x : List Int} (hn : n < l.length) : (l.set n x).getD k [] = if k = n then x else l.getD k [] := by
  simp only [List.getD_eq_getElem?_getD, List.getElem?_set]
  by_cases h : n = k
  · subst h; simp [hn]
  · have h' : ¬ k = n := fun e => h e.symm
    simp [h, h']
theorem ker_scl {p a b : Int} {K n : Nat} {l : List (List Int)} {z : Nat → Int} (hn : n < l.length) (hK : (l.getD n []).length = K) (hab : Cg p (a * b) 1) : Ker p K (l.set n (scl p b (l.getD n []))) z ↔ Ker p K l z := by
  have hd := dz_scl (p := p) (b := b) hK z
  constructor
  · intro h i hi
    have q := h i (by simpa using hi)
    rw [getD_set hn] at q
    by_cases e : i = n
    · subst e
      rw [if_pos rfl] at q
      have h1 : Cg p (b * dz K (l.getD i []) z) 0 := hd.symm.trans q
      have h2 := (Cg.refl p a).mul h1
      have h3 := hab.mul (Cg.refl p (dz K (l.getD i []) z))
      have e1 : a * b * dz K (l.getD i []) z = a * (b * dz K (l.getD i []) z) := by grind
      rw [e1] at h3
      simpa using h3.symm.trans h2
    · rw [if_neg e] at q; exact q
  · intro h i hi
    rw [List.length_set] at hi
    rw [getD_set hn]
    split
    · refine hd.trans ?_
      have := (Cg.refl p b).mul (h n hn)
      simpa using this
    · exact h i hi
theorem ker_clr {p : Int} {K c n : Nat} {l : List (List Int)} {z : Nat → Int} (hn : n < l.length) (hK : ∀ i, i < l.length → (l.getD i []).length = K) : Ker p K (clrL p c n l l.length) z ↔ Ker p K l z := by
  have hz : ∀ i, i < l.length → (clrL p c n l l.length).getD i [] = clrAt p c n l i := fun i hi => by rw [clrL_get hi, if_pos hi]
  have key : ∀ i, i < l.length → i ≠ n → Cg p (dz K (clrAt p c n l i) z) (dz K (l.getD i []) z - (l.getD i []).getD c 0 * dz K (l.getD n []) z) := fun i hi hne => by
    unfold clrAt
    rw [if_neg hne]
    exact dz_off (hK i hi) z
  constructor
  · intro h i hi
    have hnn : Cg p (dz K (l.getD n []) z) 0 := by
      have q := h n (by rw [clrL_len]; exact hn)
      rw [hz n hn] at q
      unfold clrAt at q
      rwa [if_pos rfl] at q
    by_cases e : i = n
    · subst e; exact hnn
    · have q := h i (by rw [clrL_len]; exact hi)
      rw [hz i hi] at q
      have h1 := (key i hi e).symm.trans q
      have h2 := h1.add ((Cg.refl p ((l.getD i []).getD c 0)).mul hnn)
      have e2 : dz K (l.getD i []) z - (l.getD i []).getD c 0 * dz K (l.getD n []) z + (l.getD i []).getD c 0 * dz K (l.getD n []) z = dz K (l.getD i []) z := by omega
      rw [e2] at h2
      simpa using h2
  · intro h i hi
    rw [clrL_len] at hi
    rw [hz i hi]
    by_cases e : i = n
    · subst e; unfold clrAt; rw [if_pos rfl]; exact h i hi
    · refine (key i hi e).trans ?_
      have := (h i hi).sub ((Cg.refl p ((l.getD i []).getD c 0)).mul (h n hn))
      simpa using this
theorem rect_el {p : Int} {K : Nat} {rows : List (List Int)} (hp : 0 < p) (h : rect p K rows) {i : Nat} (hi : i < rows.length) (k : Nat) : 0 ≤ (rows.getD i []).getD k 0 ∧ (rows.getD i []).getD k 0 ≤ p - 1 := getD_in (h i hi).2 hp k
theorem ker_step {p : Int} {K : Nat} {s : List (List Int) × List Int} {c : Nat} {z : Nat → Int} (hp : isPr p = true) (h : rect p K s.1) (hn : s.2.length ≤ s.1.length) : Ker p K (stepE p s c).1 z ↔ Ker p K s.1 z := by
  have hb := isPr_bd hp
  unfold stepE
  simp only
  obtain ⟨h1, h2, _, h4⟩ := findR_spec (rows := s.1) (c := c) (s.1.length - s.2.length) s.2.length
  split
  · exact Iff.rfl
  · rename_i hne
    generalize ha : findR s.1 c (s.1.length - s.2.length) s.2.length = a at *
    generalize hm : s.2.length = n at *
    have hal : a < s.1.length := by omega
    have hnl : n < s.1.length := by omega
    have hy : (s.1.getD a []).getD c 0 ≠ 0 := h4.resolve_left (by omega)
    have g1 := h.swap hnl hal
    have hl1 : (swapL s.1 n a).length = s.1.length := swapL_len _ _ _
    have hx : (swapL s.1 n a).getD n [] = s.1.getD a [] := by
      rw [swapL_get hnl hal]
      split
      · rename_i e; rw [e]
      · rw [if_pos rfl]
    have hel := rect_el (by omega) h hal c
    have hinv := inv_cg hp (a := (s.1.getD a []).getD c 0) (by omega) (by omega)
    have g2 := g1.set (rect.norm (by omega) (g1 n (by omega)).1 c) n
    rw [ker_clr (by rw [List.length_set]; omega) (fun i hi => (g2 i hi).1)]
    unfold normR
    rw [hx]
    have := ker_scl (p := p) (K := K) (z := z) (l := swapL s.1 n a) (n := n) (by omega) (g1 n (by omega)).1 hinv
    rw [hx] at this
    rw [this]
    constructor
    · intro q
      have := ker_swap (p := p) (K := K) (z := z) (l := swapL s.1 n a) (i := n) (j := a) (by omega) (by omega) q
      rwa [swap_swap hnl hal] at this
    · exact ker_swap hnl hal
theorem ker_ech {p : Int} {K : Nat} {rows : List (List Int)} {z : Nat → Int} (hp : isPr p = true) (h : rect p K rows) : ∀ c : Nat, Ker p K (ech p rows c).1 z ↔ Ker p K rows z
  | 0 => Iff.rfl
  | c + 1 => by
    have hb := isPr_bd hp
    obtain ⟨h1, h2, h3, _⟩ := ech_ok (by omega) h c
    rw [ech_succ]
    exact (ker_step hp h1 (by omega)).trans (ker_ech hp h c)
/-- What is reduced. -/
structure Red (p : Int) (c : Nat) (s : List (List Int) × List Int) : Prop where
  lt : ∀ i, i < s.2.length → 0 ≤ s.2.getD i 0 ∧ s.2.getD i 0 < c
  one : ∀ i, i < s.2.length → (s.1.getD i []).getD (s.2.getD i 0).toNat 0 = 1
  col : ∀ i j, i < s.2.length → j < s.1.length → j ≠ i → (s.1.getD j []).getD (s.2.getD i 0).toNat 0 = 0
  lead : ∀ i k, i < s.2.length → k < (s.2.getD i 0).toNat → (s.1.getD i []).getD k 0 = 0
  low : ∀ j k, s.2.length ≤ j → j < s.1.length → k < c → (s.1.getD j []).getD k 0 = 0
theorem snoc_getD {l : List Int} {x : Int} {i : Nat} : (l ++ [x]).getD i 0 = if i < l.length then l.getD i 0 else if i = l.length then x else 0 := by
  simp only [List.getD_eq_getElem?_getD]
  by_cases h : i < l.length
  · rw [List.getElem?_append_left h, if_pos h]
  · rw [if_neg h, List.getElem?_append_right (by omega)]
    by_cases e : i = l.length
    · subst e; simp
    · rw [if_neg e, List.getElem?_eq_none (by simp; omega)]; rfl
theorem red_step {p : Int} {K : Nat} {s : List (List Int) × List Int} {c : Nat} (hp : isPr p = true) (hr : rect p K s.1) (hc : c < K) (hn : s.2.length ≤ s.1.length) (h : Red p c s) : Red p (c + 1) (stepE p s c) := by
  have hb := isPr_bd hp
  obtain ⟨h1, h2, h3, h4⟩ := findR_spec (rows := s.1) (c := c) (s.1.length - s.2.length) s.2.length
  by_cases hne : findR s.1 c (s.1.length - s.2.length) s.2.length = s.1.length
  · have e : stepE p s c = s := by unfold stepE; simp only [hne, if_true]
    rw [e]
    refine ⟨fun i hi => by have := h.lt i hi; omega, h.one, h.col, h.lead, fun j k g1 g2 g3 => ?_⟩
    rcases Nat.lt_or_ge k c with g | g
    · exact h.low j k g1 g2 g
    · obtain rfl : k = c := by omega
      exact h3 j g1 (by omega)
  · rw [stepE_yes h1 (by omega) h3 (h4.resolve_left (by omega))]
    generalize ha : findR s.1 c (s.1.length - s.2.length) s.2.length = a at *
    have hy : (s.1.getD a []).getD c 0 ≠ 0 := h4.resolve_left (by omega)
    obtain ⟨s1, s2⟩ := s
    simp only at *
    generalize hm : s2.length = n at *
    have d1 : ∀ i, i < n → 0 ≤ s2.getD i 0 ∧ s2.getD i 0 < c := fun i hi => h.lt i (show i < s2.length by omega)
    have d2 : ∀ i, i < n → (s1.getD i []).getD (s2.getD i 0).toNat 0 = 1 := fun i hi => h.one i (show i < s2.length by omega)
    have d3 : ∀ i j, i < n → j < s1.length → j ≠ i → (s1.getD j []).getD (s2.getD i 0).toNat 0 = 0 := fun i j hi => h.col i j (show i < s2.length by omega)
    have d4 : ∀ i k, i < n → k < (s2.getD i 0).toNat → (s1.getD i []).getD k 0 = 0 := fun i k hi => h.lead i k (show i < s2.length by omega)
    have d5 : ∀ j k, n ≤ j → j < s1.length → k < c → (s1.getD j []).getD k 0 = 0 := fun j k hj => h.low j k (show s2.length ≤ j by omega)
    clear h
    have hal : a < s1.length := by omega
    have hnl : n < s1.length := by omega
    have hel := rect_el (by omega) hr hal c
    -- the rows behind the swap and the scaling
    obtain ⟨R, hR⟩ : ∃ R, R = (swapL s1 n a).set n (normR p c ((swapL s1 n a).getD n [])) := ⟨_, rfl⟩
    have hRl : R.length = s1.length := by rw [hR, List.length_set, swapL_len]
    have g1 := hr.swap hnl hal
    have hRr : rect p K R := by rw [hR]; exact g1.set (rect.norm (by omega) (g1 n (by rw [swapL_len]; omega)).1 c) n
    have hx : (swapL s1 n a).getD n [] = s1.getD a [] := by
      rw [swapL_get hnl hal]
      split
      · rename_i e; rw [e]
      · rw [if_pos rfl]
    have hRn : R.getD n [] = scl p (invM p ((s1.getD a []).getD c 0)) (s1.getD a []) := by
      rw [hR, getD_set (by rw [swapL_len]; exact hnl), if_pos rfl, hx]; rfl
    have hRo : ∀ j, j ≠ n → j < s1.length → ∃ j', (R.getD j [] = s1.getD j' []) ∧ j' < s1.length ∧ (j < n → j' = j) ∧ (n ≤ j → n ≤ j') := fun j hj hjl => by
      rw [hR, getD_set (by rw [swapL_len]; exact hnl), if_neg hj, swapL_get hnl hal]
      split
      · exact ⟨n, rfl, hnl, fun g => by omega, fun _ => Nat.le_refl _⟩
      · exact ⟨j, rfl, hjl, fun _ => rfl, fun g => g⟩
    rw [← hR, ← hRl]
    have hl : ∀ i, i < s1.length → (R.getD i []).length = K := fun i hi => (hRr i (by omega)).1
    have hal2 := (hr a hal).1
    -- columns ahead of c
    have zn : ∀ k, k < c → (R.getD n []).getD k 0 = 0 := fun k hk => by
      rw [hRn, scl_get (by omega), d5 a k h1 hal hk, Int.zero_mul]; exact Int.zero_emod _
    have onec : (R.getD n []).getD c 0 = 1 := by
      rw [hRn, scl_get (by omega)]
      exact (invM_spec hp (by omega) (by omega)).1
    have hF : ∀ j, j < s1.length → (clrL p c n R R.length).getD j [] = clrAt p c n R j := fun j hj => by rw [clrL_get (by omega), if_pos (by omega)]
    have keep : ∀ j k, j ≠ n → j < s1.length → k < c → ((clrL p c n R R.length).getD j []).getD k 0 = (R.getD j []).getD k 0 := fun j k hj hjl hk => by
      rw [hF j hjl]
      unfold clrAt
      rw [if_neg hj, offR_get (by rw [hl j hjl]; omega), zn k hk, Int.mul_zero, Int.add_zero]
      have := rect_el (by omega) hRr (i := j) (by omega) k
      exact Int.emod_eq_of_lt this.1 (by omega)
    have gone : ∀ j, j ≠ n → j < s1.length → ((clrL p c n R R.length).getD j []).getD c 0 = 0 := fun j hj hjl => by
      rw [hF j hjl]
      unfold clrAt
      rw [if_neg hj, offR_get (by rw [hl j hjl]; omega), onec, Int.mul_one]
      have e : (R.getD j []).getD c 0 + (p - (R.getD j []).getD c 0) = p := by omega
      rw [e]; exact Int.emod_self
    have atn : (clrL p c n R R.length).getD n [] = R.getD n [] := by
      rw [hF n hnl]; unfold clrAt; rw [if_pos rfl]
    have hcl : (clrL p c n R R.length).length = s1.length := by rw [clrL_len, hRl]
    refine ⟨fun i hi => ?_, fun i hi => ?_, fun i j hi hj hne' => ?_, fun i k hi hk => ?_, fun j k g1' g2 g3 => ?_⟩ <;> simp only [List.length_append, List.length_singleton, hcl] at *
    · rw [snoc_getD]
      by_cases e : i < s2.length
      · rw [if_pos e]; have := d1 i (by omega); omega
      · rw [if_neg e, if_pos (by omega)]; omega
    · rw [snoc_getD]
      by_cases e : i < s2.length
      · rw [if_pos e]
        have q := d1 i (by omega)
        obtain ⟨j', e1, _, e3, _⟩ := hRo i (by omega) (by omega)
        rw [keep i _ (by omega) (by omega) (by omega), e1, e3 (by omega)]
        exact d2 i (by omega)
      · rw [if_neg e, if_pos (by omega)]
        obtain rfl : i = n := by omega
        rw [atn, Int.toNat_natCast]; exact onec
    · rw [snoc_getD]
      by_cases e : i < s2.length
      · rw [if_pos e]
        have q := d1 i (by omega)
        by_cases ej : j = n
        · subst ej; rw [atn]; exact zn _ (by omega)
        · rw [keep j _ ej hj (by omega)]
          obtain ⟨j', e1, e2, e3, e4⟩ := hRo j ej hj
          rw [e1]
          refine d3 i j' (by omega) e2 ?_
          rcases Nat.lt_or_ge j n with g | g
          · rw [e3 g]; exact hne'
          · have := e4 g; omega
      · rw [if_neg e, if_pos (by omega)]
        obtain rfl : i = n := by omega
        rw [Int.toNat_natCast]; exact gone j hne' hj
    · rw [snoc_getD] at hk
      by_cases e : i < s2.length
      · rw [if_pos e] at hk
        have q := d1 i (by omega)
        obtain ⟨j', e1, _, e3, _⟩ := hRo i (by omega) (by omega)
        rw [keep i _ (by omega) (by omega) (by omega), e1, e3 (by omega)]
        exact d4 i k (by omega) hk
      · rw [if_neg e, if_pos (by omega)] at hk
        obtain rfl : i = n := by omega
        rw [atn]; exact zn k (by omega)
    · rcases Nat.lt_or_ge k c with g | g
      · rw [keep j k (by omega) (by omega) g]
        obtain ⟨j', e1, e2, _, e4⟩ := hRo j (by omega) (by omega)
        rw [e1]; exact d5 j' k (by have := e4 (by omega); omega) e2 g
      · obtain rfl : k = c := by omega
        exact gone j (by omega) (by omega)
theorem red_ech {p : Int} {K : Nat} {rows : List (List Int)} (hp : isPr p = true) (h : rect p K rows) : ∀ c : Nat, c ≤ K → Red p c (ech p rows c)
  | 0, _ => ⟨fun i hi => absurd hi (Nat.not_lt_zero _), fun i hi => absurd hi (Nat.not_lt_zero _), fun i j hi => absurd hi (Nat.not_lt_zero _), fun i k hi => absurd hi (Nat.not_lt_zero _), fun j k _ _ hk => absurd hk (Nat.not_lt_zero _)⟩
  | c + 1, hc => by
    have hb := isPr_bd hp
    obtain ⟨h1, h2, h3, _⟩ := ech_ok (by omega) h c
    rw [ech_succ]
    exact red_step hp h1 hc (by omega) (red_ech hp h c (by omega))
theorem red_inj {p : Int} {c : Nat} {s : List (List Int) × List Int} (h : Red p c s) (hn : s.2.length ≤ s.1.length) {i j : Nat} (hi : i < s.2.length) (hj : j < s.2.length) (e : (s.2.getD i 0).toNat = (s.2.getD j 0).toNat) : i = j := by
  by_cases hne : i = j
  · exact hne
  · have h1 := h.one i hi
    have h2 := h.col j i hj (by omega) hne
    rw [← e, h1] at h2
    omega
/-- The list that is told by the echelon. -/
def outOf (cols : Nat) (s : List (List Int) × List Int) (n : Nat) : List Int := (List.range n).foldl (fun o i => o.set (s.2.getD i 0).toNat ((s.1.getD i []).getD cols 0)) (List.replicate cols 0)
theorem outOf_succ (cols : Nat) (s : List (List Int) × List Int) (n : Nat) : outOf cols s (n + 1) = (outOf cols s n).set (s.2.getD n 0).toNat ((s.1.getD n []).getD cols 0) := by
  unfold outOf
  rw [List.range_succ, List.foldl_append]; rfl
theorem outOf_len (cols : Nat) (s : List (List Int) × List Int) : ∀ n, (outOf cols s n).length = cols
  | 0 => by simp [outOf]
  | n + 1 => by rw [outOf_succ, List.length_set]; exact outOf_len cols s n
theorem setI_getD {l : List Int} {n k : Nat} {x : Int} : (l.set n x).getD k 0 = if k = n ∧ n < l.length then x else l.getD k 0 := by
  simp only [List.getD_eq_getElem?_getD, List.getElem?_set]
  by_cases h : n = k
  · subst h
    by_cases g : n < l.length
    · simp [g]
    · simp [g]
  · have h' : ¬ k = n := fun e => h e.symm
    simp [h, h']
theorem outOf_get {p : Int} {cols : Nat} {s : List (List Int) × List Int} (h : Red p (cols + 1) s) (hl : s.2.length ≤ s.1.length) (hno : ∀ i, i < s.2.length → s.2.getD i 0 ≠ cols) : ∀ n, n ≤ s.2.length →
    (∀ i, i < n → (outOf cols s n).getD (s.2.getD i 0).toNat 0 = (s.1.getD i []).getD cols 0) ∧ ∀ k, (∀ i, i < n → (s.2.getD i 0).toNat ≠ k) → (outOf cols s n).getD k 0 = 0
  | 0, _ => ⟨fun i hi => by omega, fun k _ => by simp [outOf, List.getD_eq_getElem?_getD, List.getElem?_replicate]; split <;> rfl⟩
  | n + 1, hn => by
    obtain ⟨h1, h2⟩ := outOf_get h hl hno n (by omega)
    have q := h.lt n (by omega)
    have q2 := hno n (by omega)
    rw [outOf_succ]
    refine ⟨fun i hi => ?_, fun k hk => ?_⟩
    · rw [setI_getD, outOf_len]
      rcases Nat.lt_or_ge i n with g | g
      · rw [if_neg (fun e => by have := red_inj h hl (show i < s.2.length by omega) (show n < s.2.length by omega) e.1; omega)]
        exact h1 i g
      · obtain rfl : i = n := by omega
        rw [if_pos ⟨rfl, by omega⟩]
    · rw [setI_getD, if_neg (fun e => hk n (by omega) e.1.symm)]
      exact h2 k (fun i hi => hk i (by omega))
/-- A column is told by the columns before it. -/
def Sp (p : Int) (wide : List (List Int)) (k : Nat) : Prop := ∃ c : Nat → Int, ∀ r, r < wide.length → Cg p (dz k (wide.getD r []) c) ((wide.getD r []).getD k 0)
def zAt (c : Nat → Int) (k : Nat) (j : Nat) : Int := if j < k then c j else if j = k then -1 else 0
theorem dz_zAt {K k : Nat} (hk : k < K) (row : List Int) (c : Nat → Int) : dz K row (zAt c k) = dz k row c - row.getD k 0 := by
  unfold dz
  have e1 : sumZ (fun j => row.getD j 0 * zAt c k j) K = sumZ (fun j => row.getD j 0 * zAt c k j) (k + 1) := sumZ_cut (by omega) (fun j h1 h2 => by
    have : zAt c k j = 0 := by unfold zAt; rw [if_neg (by omega), if_neg (by omega)]
    rw [this, Int.mul_zero])
  have e2 : sumZ (fun j => row.getD j 0 * zAt c k j) k = sumZ (fun j => row.getD j 0 * c j) k := sumZ_congr (fun j hj => by
    have : zAt c k j = c j := by unfold zAt; rw [if_pos hj]
    rw [this])
  rw [e1]
  simp only [sumZ]
  rw [e2]
  have : zAt c k k = -1 := by unfold zAt; rw [if_neg (by omega), if_pos rfl]
  rw [this]; omega
theorem cg_one {p : Int} (hp : 2 ≤ p) (h : Cg p 1 0) : False := by
  have := h.eq (by omega) (by omega) (by omega) (by omega)
  omega
theorem piv_new {p : Int} {K : Nat} {rows : List (List Int)} (hp : isPr p = true) (h : rect p K rows) {i : Nat} (hi : i < (ech p rows K).2.length) : ¬ Sp p rows ((ech p rows K).2.getD i 0).toNat := by
  have hb := isPr_bd hp
  rintro ⟨c, hc⟩
  have hR := red_ech hp h K (Nat.le_refl _)
  obtain ⟨o1, o2, o3, _⟩ := ech_ok (show 0 < p by omega) h K
  have q := hR.lt i hi
  obtain ⟨k, hk⟩ : ∃ k, k = ((ech p rows K).2.getD i 0).toNat := ⟨_, rfl⟩
  rw [← hk] at hc
  have hkK : k < K := by omega
  have k1 : Ker p K rows (zAt c k) := fun r hr => by
    rw [dz_zAt hkK]
    have := (hc r hr).sub (Cg.refl p ((rows.getD r []).getD k 0))
    have e : (rows.getD r []).getD k 0 - (rows.getD r []).getD k 0 = 0 := by omega
    rwa [e] at this
  have k2 := (ker_ech hp h K).2 k1 i (by omega)
  rw [dz_zAt hkK] at k2
  have e1 : dz k ((ech p rows K).1.getD i []) c = 0 := by
    unfold dz
    rw [show sumZ (fun j => ((ech p rows K).1.getD i []).getD j 0 * c j) k = sumZ (fun _ => 0) k from sumZ_congr (fun j hj => by rw [hR.lead i j hi (by omega), Int.zero_mul])]
    exact sumZ_nil k
  have e2 : ((ech p rows K).1.getD i []).getD k 0 = 1 := by rw [hk]; exact hR.one i hi
  rw [e1, e2] at k2
  have := (Cg.refl p (-1)).mul k2
  exact cg_one hb.1 (by simpa using this)
/-- The list with given products with all rows. -/
noncomputable def solM (p : Int) (cols : Nat) (wide : List (List Int)) : List Int × Bool :=
  if (cols : Int) ∈ (ech p wide (cols + 1)).2 then ([], false) else (outOf cols (ech p wide (cols + 1)) (ech p wide (cols + 1)).2.length, true)
theorem mem_getDI {l : List Int} {x : Int} : x ∈ l ↔ ∃ i, i < l.length ∧ l.getD i 0 = x := by
  constructor
  · intro h
    obtain ⟨i, hi, e⟩ := List.getElem_of_mem h
    exact ⟨i, hi, by simp [hi, e]⟩
  · rintro ⟨i, hi, rfl⟩
    simp [hi]
theorem sol_yes {p : Int} {cols : Nat} {wide : List (List Int)} (hp : isPr p = true) (h : rect p (cols + 1) wide) (hy : (solM p cols wide).2 = true) :
    (solM p cols wide).1.length = cols ∧ elems p (solM p cols wide).1 ∧ (∀ r, r < wide.length → Cg p (dz cols (wide.getD r []) (fun k => (solM p cols wide).1.getD k 0)) ((wide.getD r []).getD cols 0)) ∧ ∀ k, (solM p cols wide).1.getD k 0 ≠ 0 → ¬ Sp p wide k := by
  have hb := isPr_bd hp
  unfold solM at hy ⊢
  split at hy
  · cases hy
  · rename_i hm
    rw [if_neg hm]
    have hR := red_ech hp h (cols + 1) (Nat.le_refl _)
    obtain ⟨o1, o2, o3, _⟩ := ech_ok (show 0 < p by omega) h (cols + 1)
    have hno : ∀ i, i < (ech p wide (cols + 1)).2.length → (ech p wide (cols + 1)).2.getD i 0 ≠ cols := fun i hi e => hm (mem_getDI.2 ⟨i, hi, e⟩)
    obtain ⟨g1, g2⟩ := outOf_get hR (by omega) hno _ (Nat.le_refl _)
    have hpk := fun i hi => piv_new hp h (i := i) hi
    have hke := fun z => (ker_ech (z := z) hp h (cols + 1)).1
    generalize ech p wide (cols + 1) = s at *
    have hval : ∀ k, (outOf cols s s.2.length).getD k 0 = 0 ∨ ∃ i, i < s.2.length ∧ (s.2.getD i 0).toNat = k := fun k => by
      by_cases e : ∃ i, i < s.2.length ∧ (s.2.getD i 0).toNat = k
      · exact .inr e
      · exact .inl (g2 k (fun i hi e' => e ⟨i, hi, e'⟩))
    refine ⟨outOf_len _ _ _, fun j hj => ?_, fun r hr => ?_, fun k hk => ?_⟩
    · show 0 ≤ (outOf cols s s.2.length).getD j 0 ∧ (outOf cols s s.2.length).getD j 0 ≤ p - 1
      rcases hval j with e | ⟨i, hi, e⟩
      · rw [e]; omega
      · rw [← e, g1 i hi]
        exact rect_el (by omega) o1 (by omega) cols
    · have hk : Ker p (cols + 1) s.1 (zAt (fun k => (outOf cols s s.2.length).getD k 0) cols) := fun i hi => by
        rw [dz_zAt (by omega)]
        rcases Nat.lt_or_ge i s.2.length with g | g
        · have q := hR.lt i g
          have q2 := hno i g
          have e1 : Cg p (dz cols (s.1.getD i []) (fun k => (outOf cols s s.2.length).getD k 0)) ((s.1.getD i []).getD cols 0) := by
            have := sumZ_one (p := p) (f := fun k => (s.1.getD i []).getD k 0 * (outOf cols s s.2.length).getD k 0) (i := (s.2.getD i 0).toNat) (n := cols) (by omega) (fun j hj hne => ?_)
            · simp only [hR.one i g, Int.one_mul, g1 i g] at this
              exact this
            · rcases hval j with e | ⟨i', hi', e⟩
              · rw [e, Int.mul_zero]; exact Cg.refl _ _
              · have hii : i ≠ i' := fun e2 => hne (by rw [e2]; exact e.symm)
                have := hR.col i' i hi' hi hii
                rw [e] at this
                rw [this, Int.zero_mul]; exact Cg.refl _ _
          have := e1.sub (Cg.refl p ((s.1.getD i []).getD cols 0))
          have e : (s.1.getD i []).getD cols 0 - (s.1.getD i []).getD cols 0 = 0 := by omega
          rwa [e] at this
        · have e1 : dz cols (s.1.getD i []) (fun k => (outOf cols s s.2.length).getD k 0) = 0 := by
            unfold dz
            rw [show sumZ (fun j => (s.1.getD i []).getD j 0 * (outOf cols s s.2.length).getD j 0) cols = sumZ (fun _ => 0) cols from sumZ_congr (fun j hj => by rw [hR.low i j g hi (by omega), Int.zero_mul])]
            exact sumZ_nil _
          rw [e1, hR.low i cols g hi (by omega)]
          exact Cg.refl _ _
      have q := hke _ hk r hr
      rw [dz_zAt (by omega)] at q
      have := q.add (Cg.refl p ((wide.getD r []).getD cols 0))
      have e : ∀ a b : Int, a - b + b = a := fun a b => by omega
      rw [e, Int.zero_add] at this
      exact this
    · rcases hval k with e | ⟨i, hi, e⟩
      · exact absurd e hk
      · rw [← e]; exact hpk i hi
theorem sol_no {p : Int} {cols : Nat} {wide : List (List Int)} (hp : isPr p = true) (h : rect p (cols + 1) wide) (hy : (solM p cols wide).2 = false) : (solM p cols wide).1 = [] ∧ ¬ Sp p wide cols := by
  unfold solM at hy ⊢
  split at hy
  · rename_i hm
    rw [if_pos hm]
    obtain ⟨i, hi, e⟩ := mem_getDI.1 hm
    have := piv_new hp h hi
    rw [e, Int.toNat_natCast] at this
    exact ⟨rfl, this⟩
  · cases hy
/-! ### What rows make -/
def turnL (rows : List (List Int)) (C : Nat) : List (List Int) := (List.range C).map (colT rows)
def wideT (rows : List (List Int)) (target : List Int) (C : Nat) : List (List Int) := (List.range C).map (fun c => colT rows c ++ [target.getD c 0])
theorem wideT_len (rows : List (List Int)) (target : List Int) (C : Nat) : (wideT rows target C).length = C := by simp [wideT]
theorem wideT_get {rows : List (List Int)} {target : List Int} {C c : Nat} (h : c < C) : (wideT rows target C).getD c [] = colT rows c ++ [target.getD c 0] := by
  simp [wideT, List.getD_eq_getElem?_getD, h]
theorem wide_low {rows : List (List Int)} {target : List Int} {C c j : Nat} (h : c < C) (hj : j < rows.length) : ((wideT rows target C).getD c []).getD j 0 = (rows.getD j []).getD c 0 := by
  rw [wideT_get h, snoc_getD, if_pos (by simpa [colT] using hj), colT_get]
theorem wide_top {rows : List (List Int)} {target : List Int} {C c : Nat} (h : c < C) : ((wideT rows target C).getD c []).getD rows.length 0 = target.getD c 0 := by
  rw [wideT_get h, snoc_getD, if_neg (by simp [colT]), if_pos (by simp [colT])]
theorem wide_rect {p : Int} (hp : 0 < p) {C : Nat} {rows : List (List Int)} {target : List Int} (h : rect p C rows) (ht : elems p target) : rect p (rows.length + 1) (wideT rows target C) := fun c hc => by
  rw [wideT_len] at hc
  refine ⟨by rw [wideT_get hc]; simp [colT], fun j hj => ?_⟩
  rw [wideT_get hc] at hj
  simp only [List.length_append, List.length_singleton, colT, List.length_map] at hj
  rcases Nat.lt_or_ge j rows.length with g | g
  · rw [wide_low hc g]; exact rect_el hp h g c
  · obtain rfl : j = rows.length := by omega
    rw [wide_top hc]; exact getD_in ht hp c
/-- What so many rows make, a number a row, in a column. -/
def mix (rows : List (List Int)) (x : Nat → Int) (m c : Nat) : Int := sumZ (fun j => x j * (rows.getD j []).getD c 0) m
theorem dz_mix {rows : List (List Int)} {target : List Int} {C c m : Nat} {x : Nat → Int} (h : c < C) (hm : m ≤ rows.length) : dz m ((wideT rows target C).getD c []) x = mix rows x m c := by
  unfold dz mix
  exact sumZ_congr (fun j hj => by rw [wide_low h (by omega)]; grind)
/-- A row is made by the rows before it. -/
def Mk (p : Int) (rows : List (List Int)) (C k : Nat) : Prop := ∃ x : Nat → Int, ∀ c, c < C → Cg p (mix rows x k c) ((rows.getD k []).getD c 0)
theorem Sp_Mk {p : Int} {rows : List (List Int)} {target : List Int} {C k : Nat} (hk : k < rows.length) : Sp p (wideT rows target C) k ↔ Mk p rows C k := by
  constructor
  · rintro ⟨x, h⟩
    exact ⟨x, fun c hc => by have := h c (by rw [wideT_len]; exact hc); rwa [dz_mix hc (by omega), wide_low hc hk] at this⟩
  · rintro ⟨x, h⟩
    exact ⟨x, fun c hc => by rw [wideT_len] at hc; rw [dz_mix hc (by omega), wide_low hc hk]; exact h c hc⟩
/-- A list is made by rows. -/
def Makes (p : Int) (rows : List (List Int)) (target : List Int) (C : Nat) (x : Nat → Int) : Prop := ∀ c, c < C → Cg p (mix rows x rows.length c) (target.getD c 0)
noncomputable def combS (p : Int) (C : Nat) (rows : List (List Int)) (target : List Int) : List Int × Bool := solM p rows.length (wideT rows target C)
/-- Told by rows that the rows before don't make. -/
def Best (p : Int) (rows : List (List Int)) (target : List Int) (C : Nat) (y : List Int) : Prop := y.length = rows.length ∧ elems p y ∧ Makes p rows target C (fun j => y.getD j 0) ∧ ∀ k, k < rows.length → y.getD k 0 ≠ 0 → ¬ Mk p rows C k
theorem combS_yes {p : Int} {C : Nat} {rows : List (List Int)} {target : List Int} (hp : isPr p = true) (h : rect p C rows) (ht : elems p target) (hy : (combS p C rows target).2 = true) : Best p rows target C (combS p C rows target).1 := by
  have hb := isPr_bd hp
  obtain ⟨h1, h2, h3, h4⟩ := sol_yes hp (wide_rect (by omega) h ht) hy
  refine ⟨h1, h2, fun c hc => ?_, fun k hk hz hm => h4 k hz ((Sp_Mk hk).2 hm)⟩
  have := h3 c (by rw [wideT_len]; exact hc)
  rwa [dz_mix hc (Nat.le_refl _), wide_top hc] at this
theorem combS_no {p : Int} {C : Nat} {rows : List (List Int)} {target : List Int} (hp : isPr p = true) (h : rect p C rows) (ht : elems p target) (hy : (combS p C rows target).2 = false) : (combS p C rows target).1 = [] ∧ ∀ x, ¬ Makes p rows target C x := by
  have hb := isPr_bd hp
  obtain ⟨h1, h2⟩ := sol_no hp (wide_rect (by omega) h ht) hy
  refine ⟨h1, fun x hx => h2 ⟨x, fun c hc => ?_⟩⟩
  rw [wideT_len] at hc
  rw [dz_mix hc (Nat.le_refl _), wide_top hc]
  exact hx c hc
theorem mix_sub (rows : List (List Int)) (x y : Nat → Int) (m c : Nat) : mix rows (fun j => x j - y j) m c = mix rows x m c - mix rows y m c := by
  have e : mix rows x m c - mix rows y m c = mix rows x m c + (-1) * mix rows y m c := by omega
  rw [e]
  unfold mix
  rw [← sumZ_mul, ← sumZ_add]
  exact sumZ_congr (fun j _ => by grind)
theorem mix_scl (rows : List (List Int)) (t : Int) (x : Nat → Int) (m c : Nat) : mix rows (fun j => t * x j) m c = t * mix rows x m c := by
  unfold mix
  rw [← sumZ_mul]
  exact sumZ_congr (fun j _ => by grind)
theorem cg_eq_of {p a b : Int} (ha : 0 ≤ a ∧ a ≤ p - 1) (hb : 0 ≤ b ∧ b ≤ p - 1) (h : Cg p (a - b) 0) : a = b := by
  have := h.add (Cg.refl p b)
  have e : a - b + b = a := by omega
  rw [e, Int.zero_add] at this
  exact this.eq ha.1 (by omega) hb.1 (by omega)
theorem best_one {p : Int} {C : Nat} {rows : List (List Int)} {target x y : List Int} (hp : isPr p = true) (hx : Best p rows target C x) (hy : Best p rows target C y) : x = y := by
  have hb := isPr_bd hp
  obtain ⟨x1, x2, x3, x4⟩ := hx
  obtain ⟨y1, y2, y3, y4⟩ := hy
  -- from the last one down
  have key : ∀ d k : Nat, k + d = rows.length → ∀ j, k ≤ j → j < rows.length → x.getD j 0 = y.getD j 0 := by
    intro d
    induction d with
    | zero => intro k hk j h1 h2; omega
    | succ d ih =>
      intro k hk j h1 h2
      have hi := ih (k + 1) (by omega)
      rcases Nat.lt_or_ge k j with g | g
      · exact hi j g h2
      · obtain rfl : j = k := by omega
        by_cases e : x.getD j 0 = y.getD j 0
        · exact e
        · exfalso
          have hxj := getD_in x2 (show 0 < p by omega) j
          have hyj := getD_in y2 (show 0 < p by omega) j
          have hno : ¬ Mk p rows C j := by
            by_cases e0 : x.getD j 0 = 0
            · exact y4 j h2 (by omega)
            · exact x4 j h2 e0
          apply hno
          -- the difference, divided
          have hd : Cg p ((x.getD j 0 - y.getD j 0) % p) (x.getD j 0 - y.getD j 0) := Cg.mod p _
          have hdb := emod_bd (p := p) (by omega) (x.getD j 0 - y.getD j 0)
          have hnz : (x.getD j 0 - y.getD j 0) % p ≠ 0 := fun e0 => e (cg_eq_of hxj hyj (hd.symm.trans (Cg.of_eq e0)))
          have hinv := inv_cg hp (a := (x.getD j 0 - y.getD j 0) % p) (by omega) (by omega)
          obtain ⟨b, hbb⟩ : ∃ b, b = invM p ((x.getD j 0 - y.getD j 0) % p) := ⟨_, rfl⟩
          rw [← hbb] at hinv
          refine ⟨fun i => (-b) * (x.getD i 0 - y.getD i 0), fun c hc => ?_⟩
          rw [mix_scl, mix_sub]
          have hs := (x3 c hc).sub (y3 c hc)
          have hs2 : Cg p (mix rows (fun i => x.getD i 0 - y.getD i 0) rows.length c) 0 := by
            rw [mix_sub]
            exact hs.trans (Cg.of_eq (by omega))
          have hcut : mix rows (fun i => x.getD i 0 - y.getD i 0) rows.length c = mix rows (fun i => x.getD i 0 - y.getD i 0) (j + 1) c := by
            unfold mix
            exact sumZ_cut (by omega) (fun i g1 g2 => by simp only; rw [hi i g1 g2, Int.sub_self, Int.zero_mul])
          rw [hcut] at hs2
          have hs3 : mix rows (fun i => x.getD i 0 - y.getD i 0) (j + 1) c = (mix rows (fun i => x.getD i 0) j c - mix rows (fun i => y.getD i 0) j c) + (x.getD j 0 - y.getD j 0) * (rows.getD j []).getD c 0 := by
            rw [← mix_sub]; rfl
          rw [hs3] at hs2
          generalize mix rows (fun i => x.getD i 0) j c - mix rows (fun i => y.getD i 0) j c = A at *
          generalize (rows.getD j []).getD c 0 = r at *
          -- A + d r = 0, b d = 1: -b A = r
          have h1 : Cg p ((-b) * (A + (x.getD j 0 - y.getD j 0) * r)) 0 := by
            have := (Cg.refl p (-b)).mul hs2
            simpa using this
          have h2 : Cg p ((x.getD j 0 - y.getD j 0) * b * r) r := by
            have := ((hd.symm.mul (Cg.refl p b)).trans hinv).mul (Cg.refl p r)
            simpa using this
          have h3 := h1.add h2
          have e3 : (-b) * (A + (x.getD j 0 - y.getD j 0) * r) + (x.getD j 0 - y.getD j 0) * b * r = (-b) * A := by grind
          rw [e3, Int.zero_add] at h3
          exact h3
  exact list_eq (d := 0) (by omega) (fun j hj => key rows.length 0 (by omega) j (by omega) (by omega))
/-! ### Rows, one by one -/
def findZ (l : List Int) : Nat → Nat → Nat
  | 0, a => a
  | d + 1, a => if l.getD a 0 = 0 then findZ l d (a + 1) else a
theorem findZ_spec {l : List Int} : ∀ (d a : Nat), a ≤ findZ l d a ∧ findZ l d a ≤ a + d ∧ (∀ j, a ≤ j → j < findZ l d a → l.getD j 0 = 0) ∧ (findZ l d a = a + d ∨ l.getD (findZ l d a) 0 ≠ 0)
  | 0, a => ⟨Nat.le_refl _, Nat.le_refl _, fun j h1 h2 => by simp only [findZ] at h2; omega, .inl rfl⟩
  | d + 1, a => by
    simp only [findZ]
    split
    · rename_i h
      obtain ⟨h1, h2, h3, h4⟩ := findZ_spec (l := l) d (a + 1)
      refine ⟨by omega, by omega, fun j g1 g2 => ?_, h4.imp (by omega) id⟩
      rcases Nat.lt_or_ge a j with g | g
      · exact h3 j g g2
      · obtain rfl : j = a := by omega
        exact h
    · rename_i h
      exact ⟨Nat.le_refl _, by omega, fun j g1 g2 => by omega, .inr h⟩
/-- The place of the first element that isn't 0, or -1. -/
def firstI (l : List Int) : Int := if findZ l l.length 0 = l.length then -1 else findZ l l.length 0
theorem firstI_no {l : List Int} (h : ∀ j, j < l.length → l.getD j 0 = 0) : firstI l = -1 := by
  obtain ⟨h1, h2, h3, h4⟩ := findZ_spec (l := l) l.length 0
  unfold firstI
  rw [if_pos]
  rcases h4 with h4 | h4
  · omega
  · rcases Nat.lt_or_ge (findZ l l.length 0) l.length with g | g
    · exact absurd (h _ g) h4
    · omega
theorem firstI_yes {l : List Int} {i : Nat} (h : i < l.length) (hz : ∀ j, j < i → l.getD j 0 = 0) (hy : l.getD i 0 ≠ 0) : firstI l = i := by
  obtain ⟨h1, h2, h3, h4⟩ := findZ_spec (l := l) l.length 0
  have e : findZ l l.length 0 = i := by
    rcases Nat.lt_trichotomy (findZ l l.length 0) i with g | g | g
    · rcases h4 with h4 | h4
      · omega
      · exact absurd (hz _ g) h4
    · exact g
    · exact absurd (h3 i (Nat.zero_le _) g) hy
  unfold firstI
  rw [e, if_neg (by omega)]
theorem firstI_cases (l : List Int) : (firstI l = -1 ∧ ∀ j, l.getD j 0 = 0) ∨ ∃ i : Nat, firstI l = i ∧ i < l.length ∧ (∀ j, j < i → l.getD j 0 = 0) ∧ l.getD i 0 ≠ 0 := by
  obtain ⟨h1, h2, h3, h4⟩ := findZ_spec (l := l) l.length 0
  unfold firstI
  split
  · rename_i e
    refine .inl ⟨rfl, fun j => ?_⟩
    rcases Nat.lt_or_ge j l.length with g | g
    · exact h3 j (Nat.zero_le _) (by omega)
    · exact getD_ge (by omega)
  · rename_i e
    exact .inr ⟨_, rfl, by omega, fun j hj => h3 j (Nat.zero_le _) hj, h4.resolve_left (by omega)⟩
def red1 (p : Int) (x b : List Int × List Int) : List Int × List Int :=
  if x.1.getD (firstI b.1).toNat 0 ≠ 0 then (offR p (x.1.getD (firstI b.1).toNat 0) x.1 b.1, offR p (x.1.getD (firstI b.1).toNat 0) x.2 b.2) else x
def lessP (p : Int) (basis : List (List Int × List Int)) (x : List Int × List Int) : List Int × List Int := basis.foldl (red1 p) x
def unitL (m i : Nat) : List Int := (List.replicate m 0).set i 1
def addB (p : Int) (m : Nat) (rows : List (List Int)) (basis : List (List Int × List Int)) (i : Nat) : List (List Int × List Int) :=
  if 0 ≤ firstI (lessP p basis (rows.getD i [], unitL m i)).1 then
    basis ++ [(scl p (invM p ((lessP p basis (rows.getD i [], unitL m i)).1.getD (firstI (lessP p basis (rows.getD i [], unitL m i)).1).toNat 0)) (lessP p basis (rows.getD i [], unitL m i)).1,
      scl p (invM p ((lessP p basis (rows.getD i [], unitL m i)).1.getD (firstI (lessP p basis (rows.getD i [], unitL m i)).1).toNat 0)) (lessP p basis (rows.getD i [], unitL m i)).2)]
  else basis
def basisM (p : Int) (rows : List (List Int)) (i : Nat) : List (List Int × List Int) := (List.range i).foldl (addB p rows.length rows) []
theorem basisM_succ (p : Int) (rows : List (List Int)) (i : Nat) : basisM p rows (i + 1) = addB p rows.length rows (basisM p rows i) i := by
  unfold basisM
  rw [List.range_succ, List.foldl_append]; rfl
def combI (p : Int) (rows : List (List Int)) (target : List Int) : List Int × Bool :=
  if 0 ≤ firstI (lessP p (basisM p rows rows.length) (target, List.replicate rows.length 0)).1 then ([], false) else (scl p (p - 1) (lessP p (basisM p rows rows.length) (target, List.replicate rows.length 0)).2, true)
/-- What is known of a pair: its row is a start and what the rows make. -/
structure PairOk (p : Int) (C : Nat) (rows : List (List Int)) (i : Nat) (s : List Int) (x : List Int × List Int) : Prop where
  l1 : x.1.length = C
  e1 : elems p x.1
  l2 : x.2.length = rows.length
  e2 : elems p x.2
  eq : ∀ c, c < C → Cg p (x.1.getD c 0) (s.getD c 0 + mix rows (fun j => x.2.getD j 0) rows.length c)
  sup : ∀ k, k < rows.length → x.2.getD k 0 ≠ 0 → k < i ∧ ¬ Mk p rows C k ∨ k = i
structure BasOk (p : Int) (C : Nat) (rows : List (List Int)) (i : Nat) (b : List Int × List Int) : Prop where
  l1 : b.1.length = C
  e1 : elems p b.1
  l2 : b.2.length = rows.length
  e2 : elems p b.2
  eq : ∀ c, c < C → Cg p (b.1.getD c 0) (mix rows (fun j => b.2.getD j 0) rows.length c)
  sup : ∀ k, k < rows.length → b.2.getD k 0 ≠ 0 → k < i ∧ ¬ Mk p rows C k
theorem mix_cg {p : Int} {rows : List (List Int)} {x y : Nat → Int} {m c : Nat} (h : ∀ j, j < m → Cg p (x j) (y j)) : Cg p (mix rows x m c) (mix rows y m c) := sumZ_cg (fun j hj => (h j hj).mul (Cg.refl p _))
theorem red1_ok {p : Int} {C i : Nat} {rows : List (List Int)} {s : List Int} {x b : List Int × List Int} (hp : 2 ≤ p) (hx : PairOk p C rows i s x) (hb : BasOk p C rows i b) : PairOk p C rows i s (red1 p x b) := by
  unfold red1
  split
  · generalize x.1.getD (firstI b.1).toNat 0 = t
    have hg : ∀ j, j < rows.length → Cg p ((offR p t x.2 b.2).getD j 0) (x.2.getD j 0 - t * b.2.getD j 0) := fun j hj => by
      rw [offR_get (by rw [hx.l2]; exact hj)]
      exact (Cg.mod p _).trans ⟨b.2.getD j 0, by grind⟩
    refine ⟨(offR_len _ _ _ _).trans hx.l1, offR_in (by omega) _ _ _, (offR_len _ _ _ _).trans hx.l2, offR_in (by omega) _ _ _, fun c hc => ?_, fun k hk hz => ?_⟩
    · simp only
      rw [offR_get (by rw [hx.l1]; exact hc)]
      have h1 : Cg p ((x.1.getD c 0 + (p - t) * b.1.getD c 0) % p) (x.1.getD c 0 - t * b.1.getD c 0) := (Cg.mod p _).trans ⟨b.1.getD c 0, by grind⟩
      have h2 := (hx.eq c hc).sub ((Cg.refl p t).mul (hb.eq c hc))
      have h3 := mix_cg (rows := rows) (m := rows.length) (c := c) hg
      have e : mix rows (fun j => x.2.getD j 0 - t * b.2.getD j 0) rows.length c = mix rows (fun j => x.2.getD j 0) rows.length c - t * mix rows (fun j => b.2.getD j 0) rows.length c := by
        rw [mix_sub, mix_scl]
      rw [e] at h3
      refine (h1.trans h2).trans (Cg.symm ?_)
      exact ((Cg.refl p (s.getD c 0)).add h3).trans (Cg.of_eq (by omega))
    · by_cases e : x.2.getD k 0 = 0
      · by_cases e' : b.2.getD k 0 = 0
        · exfalso; apply hz
          rw [offR_get (by rw [hx.l2]; exact hk), e, e', Int.mul_zero]; exact Int.zero_emod _
        · exact .inl (hb.sup k hk e')
      · exact hx.sup k hk e
  · exact hx
theorem lessP_ok {p : Int} {C i : Nat} {rows : List (List Int)} {s : List Int} (hp : 2 ≤ p) : ∀ {basis : List (List Int × List Int)} {x : List Int × List Int}, PairOk p C rows i s x → (∀ b ∈ basis, BasOk p C rows i b) → PairOk p C rows i s (lessP p basis x)
  | [], x, hx, _ => hx
  | b :: basis, x, hx, hb => lessP_ok (basis := basis) hp (red1_ok hp hx (hb b List.mem_cons_self)) (fun c hc => hb c (List.mem_cons_of_mem _ hc))
/-- The same on functions. -/
def lf1 (v : Nat → Int) (b : List Int × List Int) : Nat → Int := fun c => v c - v (firstI b.1).toNat * b.1.getD c 0
def lf (basis : List (List Int × List Int)) (v : Nat → Int) : Nat → Int := basis.foldl lf1 v
theorem lf_add : ∀ (basis : List (List Int × List Int)) (u v : Nat → Int), lf basis (fun c => u c + v c) = fun c => lf basis u c + lf basis v c
  | [], u, v => rfl
  | b :: basis, u, v => by
    have e : lf1 (fun c => u c + v c) b = fun c => lf1 u b c + lf1 v b c := by funext c; unfold lf1; grind
    show lf basis (lf1 (fun c => u c + v c) b) = fun c => lf basis (lf1 u b) c + lf basis (lf1 v b) c
    rw [e, lf_add basis]
theorem lf_mul (t : Int) : ∀ (basis : List (List Int × List Int)) (u : Nat → Int), lf basis (fun c => t * u c) = fun c => t * lf basis u c
  | [], u => rfl
  | b :: basis, u => by
    have e : lf1 (fun c => t * u c) b = fun c => t * lf1 u b c := by funext c; unfold lf1; grind
    show lf basis (lf1 (fun c => t * u c) b) = fun c => t * lf basis (lf1 u b) c
    rw [e, lf_mul t basis]
theorem lf_cg {p : Int} {C : Nat} (hC : 0 < C) : ∀ (basis : List (List Int × List Int)) {u v : Nat → Int}, (∀ b ∈ basis, (firstI b.1).toNat < C) → (∀ c, c < C → Cg p (u c) (v c)) → ∀ c, c < C → Cg p (lf basis u c) (lf basis v c)
  | [], u, v, _, h => h
  | b :: basis, u, v, hb, h => lf_cg hC basis (u := lf1 u b) (v := lf1 v b) (fun x hx => hb x (List.mem_cons_of_mem _ hx)) (fun c hc => (h c hc).sub ((h _ (hb b List.mem_cons_self)).mul (Cg.refl p _)))
theorem lf_zero : ∀ (basis : List (List Int × List Int)), lf basis (fun _ => 0) = fun _ => 0
  | [] => rfl
  | b :: basis => by
    show lf basis (lf1 (fun _ => 0) b) = _
    have e : lf1 (fun _ => 0) b = fun _ => 0 := by funext c; unfold lf1; grind
    rw [e, lf_zero basis]
theorem lf_sum (basis : List (List Int × List Int)) (f : Nat → Nat → Int) : ∀ m : Nat, lf basis (fun c => sumZ (fun j => f j c) m) = fun c => sumZ (fun j => lf basis (f j) c) m
  | 0 => lf_zero basis
  | m + 1 => by
    show lf basis (fun c => sumZ (fun j => f j c) m + f m c) = _
    rw [lf_add, lf_sum basis f m]; rfl
theorem lf_mix (basis : List (List Int × List Int)) (rows : List (List Int)) (x : Nat → Int) (m : Nat) : lf basis (fun c => mix rows x m c) = fun c => sumZ (fun j => x j * lf basis (fun c => (rows.getD j []).getD c 0) c) m := by
  unfold mix
  rw [lf_sum basis (fun j c => x j * (rows.getD j []).getD c 0) m]
  funext c
  exact sumZ_congr (fun j _ => by rw [lf_mul])
theorem lf_app (basis : List (List Int × List Int)) (b : List Int × List Int) (v : Nat → Int) : lf (basis ++ [b]) v = lf1 (lf basis v) b := by
  unfold lf
  rw [List.foldl_append]; rfl
theorem red1_lf {p : Int} {C : Nat} {x b : List Int × List Int} (hx : x.1.length = C) {c : Nat} (hc : c < C) : Cg p ((red1 p x b).1.getD c 0) (lf1 (fun c => x.1.getD c 0) b c) := by
  unfold red1 lf1
  split
  · simp only
    rw [offR_get (by omega)]
    exact (Cg.mod p _).trans ⟨b.1.getD c 0, by grind⟩
  · rename_i h
    have e : x.1.getD (firstI b.1).toNat 0 = 0 := Classical.not_not.1 h
    simp only
    rw [e]
    exact Cg.of_eq (by omega)
theorem red1_len {p : Int} {x b : List Int × List Int} : (red1 p x b).1.length = x.1.length := by
  unfold red1
  split
  · exact offR_len _ _ _ _
  · rfl
theorem lessP_lf {p : Int} {C : Nat} (hC : 0 < C) : ∀ (basis : List (List Int × List Int)) {x : List Int × List Int}, (∀ b ∈ basis, (firstI b.1).toNat < C) → x.1.length = C → ∀ c, c < C → Cg p ((lessP p basis x).1.getD c 0) (lf basis (fun c => x.1.getD c 0) c)
  | [], x, _, _ => fun c _ => Cg.refl _ _
  | b :: basis, x, hb, hx => fun c hc => by
    have h1 := lessP_lf (p := p) hC basis (x := red1 p x b) (fun y hy => hb y (List.mem_cons_of_mem _ hy)) (red1_len.trans hx) c hc
    exact h1.trans (lf_cg hC basis (fun y hy => hb y (List.mem_cons_of_mem _ hy)) (fun c hc => red1_lf hx hc) c hc)
structure BasesOk (p : Int) (C : Nat) (rows : List (List Int)) (i : Nat) (basis : List (List Int × List Int)) : Prop where
  each : ∀ b ∈ basis, BasOk p C rows i b
  fst : ∀ b ∈ basis, ∃ k : Nat, firstI b.1 = k ∧ k < C
  none_ : ∀ j, j < i → ∀ c, c < C → Cg p (lf basis (fun c => (rows.getD j []).getD c 0) c) 0
theorem unitL_get {m i k : Nat} : (unitL m i).getD k 0 = if k = i ∧ i < m then 1 else 0 := by
  unfold unitL
  rw [setI_getD, List.length_replicate]
  split
  · rfl
  · simp [List.getD_eq_getElem?_getD, List.getElem?_replicate]; split <;> rfl
theorem mix_unit {p : Int} {rows : List (List Int)} {m i c : Nat} (hi : i < m) : Cg p (mix rows (fun j => (unitL m i).getD j 0) m c) ((rows.getD i []).getD c 0) := by
  unfold mix
  have := sumZ_one (p := p) (f := fun j => (unitL m i).getD j 0 * (rows.getD j []).getD c 0) hi (fun j hj hne => by
    rw [unitL_get, if_neg (fun e => hne e.1), Int.zero_mul]; exact Cg.refl _ _)
  refine this.trans ?_
  rw [unitL_get, if_pos ⟨rfl, hi⟩, Int.one_mul]; exact Cg.refl _ _
theorem mix_nil {rows : List (List Int)} {m c n : Nat} : mix rows (fun j => (List.replicate n (0 : Int)).getD j 0) m c = 0 := by
  unfold mix
  rw [show sumZ (fun j => (List.replicate n (0 : Int)).getD j 0 * (rows.getD j []).getD c 0) m = sumZ (fun _ => 0) m from sumZ_congr (fun j _ => by
    have : (List.replicate n (0 : Int)).getD j 0 = 0 := by simp [List.getD_eq_getElem?_getD, List.getElem?_replicate]; split <;> rfl
    rw [this, Int.zero_mul])]
  exact sumZ_nil m
theorem unitL_in {p : Int} (hp : 2 ≤ p) (m i : Nat) : elems p (unitL m i) := fun j _ => by
  rw [unitL_get]; split <;> omega
theorem rep_in {p : Int} (hp : 0 < p) (m : Nat) : elems p (List.replicate m 0) := fun j _ => by
  have : (List.replicate m (0 : Int)).getD j 0 = 0 := by simp [List.getD_eq_getElem?_getD, List.getElem?_replicate]; split <;> rfl
  rw [this]; omega
/-- The pair with which a row starts. -/
theorem start_ok {p : Int} {C i : Nat} {rows : List (List Int)} (hp : isPr p = true) (h : rect p C rows) (hi : i < rows.length) : PairOk p C rows i [] (rows.getD i [], unitL rows.length i) := by
  have hb := isPr_bd hp
  refine ⟨(h i hi).1, (h i hi).2, by simp [unitL], unitL_in hb.1 _ _, fun c hc => ?_, fun k hk hz => ?_⟩
  · have := mix_unit (p := p) (rows := rows) (m := rows.length) (c := c) hi
    have h0 : ([] : List Int).getD c 0 = 0 := rfl
    rw [h0, Int.zero_add]
    exact this.symm
  · right
    simp only at hz
    rw [unitL_get] at hz
    by_cases e : k = i
    · exact e
    · rw [if_neg (fun q => e q.1)] at hz; exact absurd rfl hz
theorem base_step {p : Int} {C i : Nat} {rows : List (List Int)} {basis : List (List Int × List Int)} (hp : isPr p = true) (hC : 0 < C) (h : rect p C rows) (hi : i < rows.length) (hB : BasesOk p C rows i basis) : BasesOk p C rows (i + 1) (addB p rows.length rows basis i) := by
  have hb := isPr_bd hp
  have hP := lessP_ok (i := i) (s := []) hb.1 (start_ok hp h hi) hB.each
  have hfst : ∀ b ∈ basis, (firstI b.1).toNat < C := fun b hbm => by obtain ⟨k, e, hk⟩ := hB.fst b hbm; rw [e]; simpa using hk
  have hL := lessP_lf (p := p) hC basis (x := (rows.getD i [], unitL rows.length i)) hfst (h i hi).1
  unfold addB
  generalize lessP p basis (rows.getD i [], unitL rows.length i) = x at *
  rcases firstI_cases x.1 with ⟨e, hz⟩ | ⟨k, e, hk, hz, hnz⟩
  · rw [e, if_neg (by decide)]
    refine ⟨fun b hbm => ?_, hB.fst, fun j hj c hc => ?_⟩
    · have q := hB.each b hbm
      exact ⟨q.l1, q.e1, q.l2, q.e2, q.eq, fun k hk hne => by have := q.sup k hk hne; exact ⟨by omega, this.2⟩⟩
    · rcases Nat.lt_or_ge j i with g | g
      · exact hB.none_ j g c hc
      · obtain rfl : j = i := by omega
        exact (hL c hc).symm.trans (Cg.of_eq (hz c))
  · rw [e, if_pos (by omega), Int.toNat_natCast]
    have hkC : k < C := by rw [← hP.l1]; exact hk
    have hxk := getD_in hP.e1 (show 0 < p by omega) k
    have hinv := inv_cg hp (a := x.1.getD k 0) (by omega) (by omega)
    have hinv1 := (invM_spec hp (a := x.1.getD k 0) (by omega) (by omega))
    generalize hbv : invM p (x.1.getD k 0) = b at *
    -- the row isn't made by those before
    have hnew : ¬ Mk p rows C i := by
      rintro ⟨y, hy⟩
      have h1 := lf_cg hC basis (u := fun c => mix rows y i c) (v := fun c => (rows.getD i []).getD c 0) hfst hy k hkC
      rw [lf_mix] at h1
      have h2 : Cg p (sumZ (fun j => y j * lf basis (fun c => (rows.getD j []).getD c 0) k) i) 0 := sumZ_zero (fun j hj => by
        have := (Cg.refl p (y j)).mul (hB.none_ j hj k hkC)
        simpa using this)
      have h3 := (hL k hkC).trans (h1.symm.trans h2)
      exact hnz (h3.eq hxk.1 (by omega) (by omega) (by omega))
    have hfb : firstI (scl p b x.1) = k := by
      refine firstI_yes (by rw [scl_len]; exact hk) (fun j hj => ?_) ?_
      · rw [scl_get (by omega), hz j hj, Int.zero_mul]; exact Int.zero_emod _
      · rw [scl_get hk, hinv1.1]; decide
    have hone : (scl p b x.1).getD k 0 = 1 := by rw [scl_get hk]; exact hinv1.1
    refine ⟨fun y hy => ?_, fun y hy => ?_, fun j hj c hc => ?_⟩
    · rcases List.mem_append.1 hy with hy | hy
      · have q := hB.each y hy
        exact ⟨q.l1, q.e1, q.l2, q.e2, q.eq, fun k hk hne => by have := q.sup k hk hne; exact ⟨by omega, this.2⟩⟩
      · rw [List.mem_singleton.1 hy]
        refine ⟨(scl_len _ _ _).trans hP.l1, scl_in (by omega) _ _, (scl_len _ _ _).trans hP.l2, scl_in (by omega) _ _, fun c hc => ?_, fun k' hk' hne => ?_⟩
        · simp only
          rw [scl_get (by rw [hP.l1]; exact hc)]
          have h1 := (hP.eq c hc).mul (Cg.refl p b)
          have h0 : ([] : List Int).getD c 0 = 0 := rfl
          rw [h0, Int.zero_add] at h1
          have h2 : Cg p (mix rows (fun j => (scl p b x.2).getD j 0) rows.length c) (mix rows (fun j => b * x.2.getD j 0) rows.length c) := mix_cg (fun j hj => by
            rw [scl_get (by rw [hP.l2]; exact hj)]
            exact (Cg.mod p _).trans (Cg.of_eq (by grind)))
          rw [mix_scl] at h2
          exact ((Cg.mod p _).trans h1).trans ((Cg.of_eq (by grind)).trans h2.symm)
        · simp only at hne
          rw [scl_get (by rw [hP.l2]; exact hk')] at hne
          have hx0 : x.2.getD k' 0 ≠ 0 := fun e0 => hne (by rw [e0, Int.zero_mul]; exact Int.zero_emod _)
          rcases hP.sup k' hk' hx0 with q | q
          · exact ⟨by omega, q.2⟩
          · rw [q]; exact ⟨by omega, hnew⟩
    · rcases List.mem_append.1 hy with hy | hy
      · exact hB.fst y hy
      · rw [List.mem_singleton.1 hy]; exact ⟨k, hfb, hkC⟩
    · rw [lf_app]
      unfold lf1
      rw [hfb, Int.toNat_natCast]
      rcases Nat.lt_or_ge j i with g | g
      · have h1 := hB.none_ j g c hc
        have h2 := (hB.none_ j g k hkC).mul (Cg.refl p ((scl p b x.1).getD c 0))
        have := h1.sub h2
        simpa using this
      · obtain rfl : j = i := by omega
        have h1 := (hL c hc).symm
        have h2 := (hL k hkC).symm
        have h3 : Cg p ((scl p b x.1).getD c 0) (x.1.getD c 0 * b) := by rw [scl_get (by rw [hP.l1]; exact hc)]; exact Cg.mod p _
        have h4 := h1.sub (h2.mul h3)
        refine h4.trans ?_
        have h5 := (Cg.refl p (x.1.getD c 0)).mul hinv
        have h6 := (Cg.refl p (x.1.getD c 0)).sub h5
        refine Cg.trans (Cg.of_eq (by grind)) (h6.trans (Cg.of_eq (by omega)))
theorem bases_ok {p : Int} {C : Nat} {rows : List (List Int)} (hp : isPr p = true) (hC : 0 < C) (h : rect p C rows) : ∀ i : Nat, i ≤ rows.length → BasesOk p C rows i (basisM p rows i)
  | 0, _ => ⟨fun b hb => absurd hb List.not_mem_nil, fun b hb => absurd hb List.not_mem_nil, fun j hj => absurd hj (Nat.not_lt_zero _)⟩
  | i + 1, hi => by rw [basisM_succ]; exact base_step hp hC h hi (bases_ok hp hC h i (by omega))
theorem combI_end1 {p : Int} {C : Nat} {rows : List (List Int)} {target : List Int} (hp : isPr p = true) (hC : 0 < C) (h : rect p C rows) (ht : elems p target) (htl : target.length = C) :
    ((combI p rows target).2 = true → Best p rows target C (combI p rows target).1) ∧ ((combI p rows target).2 = false → (combI p rows target).1 = [] ∧ ∀ x, ¬ Makes p rows target C x) := by
  have hb := isPr_bd hp
  have hB := bases_ok hp hC h rows.length (Nat.le_refl _)
  have hst : PairOk p C rows rows.length target (target, List.replicate rows.length 0) := by
    refine ⟨htl, ht, by simp, rep_in (by omega) _, fun c hc => ?_, fun k hk hz => ?_⟩
    · simp only; rw [mix_nil, Int.add_zero]; exact Cg.refl _ _
    · exfalso; apply hz; simp [List.getD_eq_getElem?_getD, List.getElem?_replicate]; split <;> rfl
  have hP := lessP_ok hb.1 hst hB.each
  have hfst : ∀ b ∈ basisM p rows rows.length, (firstI b.1).toNat < C := fun b hbm => by obtain ⟨k, e, hk⟩ := hB.fst b hbm; rw [e]; simpa using hk
  have hL := lessP_lf (p := p) hC (basisM p rows rows.length) (x := (target, List.replicate rows.length 0)) hfst htl
  unfold combI
  generalize lessP p (basisM p rows rows.length) (target, List.replicate rows.length 0) = x at *
  rcases firstI_cases x.1 with ⟨e, hz⟩ | ⟨k, e, hk, hz, hnz⟩
  · rw [e, if_neg (by decide)]
    refine ⟨fun _ => ⟨(scl_len _ _ _).trans hP.l2, scl_in (by omega) _ _, fun c hc => ?_, fun k hk hne => ?_⟩, fun h => (by simp at h)⟩
    · have h1 := hP.eq c hc
      rw [hz c] at h1
      have h2 : Cg p (mix rows (fun j => (scl p (p - 1) x.2).getD j 0) rows.length c) (mix rows (fun j => (-1) * x.2.getD j 0) rows.length c) := mix_cg (fun j hj => by
        rw [scl_get (by rw [hP.l2]; exact hj)]
        exact (Cg.mod p _).trans ⟨x.2.getD j 0, by grind⟩)
      rw [mix_scl] at h2
      have h3 := h1.add (Cg.refl p ((-1) * mix rows (fun j => x.2.getD j 0) rows.length c))
      rw [Int.zero_add] at h3
      exact h2.trans (h3.trans (Cg.of_eq (by omega)))
    · simp only at hne
      rw [scl_get (by rw [hP.l2]; exact hk)] at hne
      have hx0 : x.2.getD k 0 ≠ 0 := fun e0 => hne (by rw [e0, Int.zero_mul]; exact Int.zero_emod _)
      rcases hP.sup k hk hx0 with q | q
      · exact q.2
      · omega
  · rw [e, if_pos (by omega)]
    refine ⟨fun h => absurd h (by decide), fun _ => ⟨rfl, fun y hy => ?_⟩⟩
    have hkC : k < C := by rw [← hP.l1]; exact hk
    have hxk := getD_in hP.e1 (show 0 < p by omega) k
    have h1 := lf_cg hC (basisM p rows rows.length) (u := fun c => mix rows y rows.length c) (v := fun c => target.getD c 0) hfst hy k hkC
    rw [lf_mix] at h1
    have h2 : Cg p (sumZ (fun j => y j * lf (basisM p rows rows.length) (fun c => (rows.getD j []).getD c 0) k) rows.length) 0 := sumZ_zero (fun j hj => by
      have := (Cg.refl p (y j)).mul (hB.none_ j hj k hkC)
      simpa using this)
    have h3 := (hL k hkC).trans (h1.symm.trans h2)
    exact hnz (h3.eq hxk.1 (by omega) (by omega) (by omega))
theorem firstI_nil {l : List Int} (h : l.length = 0) : firstI l = -1 := by
  rcases firstI_cases l with ⟨e, _⟩ | ⟨i, _, hi, _⟩
  · exact e
  · omega
theorem basis0 {p : Int} {rows : List (List Int)} (h : rect p 0 rows) : ∀ i : Nat, i ≤ rows.length → basisM p rows i = []
  | 0, _ => rfl
  | i + 1, hi => by
    rw [basisM_succ, basis0 h i (by omega)]
    unfold addB
    have e : firstI (lessP p [] (rows.getD i [], unitL rows.length i)).1 = -1 := firstI_nil (h i (by omega)).1
    rw [e, if_neg (by decide)]
theorem scl_zero (p a : Int) (m : Nat) : ∀ k, (scl p a (List.replicate m 0)).getD k 0 = 0 := fun k => by
  rcases Nat.lt_or_ge k m with h | h
  · rw [scl_get (by simpa using h)]
    simp [List.getD_eq_getElem?_getD, List.getElem?_replicate, h]
  · exact getD_ge (by rw [scl_len]; simpa using h)
theorem combI_end {p : Int} {C : Nat} {rows : List (List Int)} {target : List Int} (hp : isPr p = true) (h : rect p C rows) (ht : elems p target) (htl : target.length = C) :
    ((combI p rows target).2 = true → Best p rows target C (combI p rows target).1) ∧ ((combI p rows target).2 = false → (combI p rows target).1 = [] ∧ ∀ x, ¬ Makes p rows target C x) := by
  rcases Nat.eq_zero_or_pos C with h0 | h0
  · subst h0
    have hb := isPr_bd hp
    have e : lessP p (basisM p rows rows.length) (target, List.replicate rows.length 0) = (target, List.replicate rows.length 0) := by rw [basis0 h _ (Nat.le_refl _)]; rfl
    have e2 : combI p rows target = (scl p (p - 1) (List.replicate rows.length 0), true) := by
      unfold combI
      rw [e]
      rw [if_neg (by rw [firstI_nil htl]; decide)]
    rw [e2]
    refine ⟨fun _ => ⟨by simp only [scl_len, List.length_replicate], scl_in (by omega) _ _, fun c hc => absurd hc (Nat.not_lt_zero _), fun k hk hne => absurd (scl_zero _ _ _ _) hne⟩, fun q => by cases q⟩
  · exact combI_end1 hp h0 h ht htl
/-- Both ways give one answer. -/
theorem comb_eq {p : Int} {C : Nat} {rows : List (List Int)} {target : List Int} (hp : isPr p = true) (h : rect p C rows) (ht : elems p target) (htl : target.length = C) : combI p rows target = combS p C rows target := by
  obtain ⟨i1, i2⟩ := combI_end hp h ht htl
  have s1 := combS_yes hp h ht
  have s2 := combS_no hp h ht
  have best_makes : ∀ {y : List Int}, Best p rows target C y → Makes p rows target C (fun j => y.getD j 0) := fun h => h.2.2.1
  generalize combI p rows target = a at *
  generalize combS p C rows target = b at *
  obtain ⟨a1, a2⟩ := a
  obtain ⟨b1, b2⟩ := b
  simp only at *
  cases a2 <;> cases b2
  · rw [(i2 rfl).1, (s2 rfl).1]
  · exact absurd (best_makes (s1 rfl)) ((i2 rfl).2 _)
  · exact absurd (best_makes (i1 rfl)) ((s2 rfl).2 _)
  · rw [best_one hp (i1 rfl) (s1 rfl)]
theorem bes_one (l : List (List Int)) (vals : List Int) (i : Nat) : besAt l [vals] i = l.getD i [] ++ [vals.getD i 0] := rfl
theorem bes_rect {p : Int} (hp : 0 < p) {K : Nat} {l : List (List Int)} {vals : List Int} (h : rect p K l) (hv : elems p vals) : rect p (K + 1) (besL l [vals] l.length) := fun i hi => by
  rw [besL_len] at hi
  rw [besL_get hi, bes_one]
  have h1 := h i hi
  refine ⟨by rw [List.length_append, h1.1]; rfl, fun j hj => ?_⟩
  rw [snoc_getD]
  split
  · exact getD_in h1.2 hp j
  · split
    · exact getD_in hv hp i
    · omega
theorem gdt2 {α : Type} {l : List α} {n j : Nat} {z d : α} (h : (l.take n)[(j : Int).toNat]? = some z) : l.getD j d = z := by
  rw [Int.toNat_natCast, List.getElem?_take] at h
  split at h
  · simp [h]
  · cases h
variable {W : World} {H : Hp}

set_option maxRecDepth 100000 in
theorem implSol_ok {v : Value} {l : List (List Int)} {ok : Nat → Prop} (p k : Int) (hr : RdK (kR kI) W H ok v l) {vw : Value} {vals : List Int} {okv : Nat → Prop} (hrv : RdK kI W H okv vw vals) {K : Nat} (hq : isPr p = true) (hkK : k = (K : Int)) (hrc : rect p K l) (hK : K ≤ 30) (hR : l.length ≤ 30) (hv : elems p vals) (hvl : vals.length = l.length) : ACalls Try.prog W 75 #[.agg #[.int .i64 p, .int .i64 k, v], vw] H (fun r H' => (∃ v, r = .tuple #[v, .bool (solM p K (besL l [vals] l.length)).2] ∧ OwnK kI 2 W H' (fun b => H.bd ≤ b) v (solM p K (besL l [vals] l.length)).1) ∧ Ext H H') := by
  refine ACalls.of (args := [.agg #[.int .i64 p, .int .i64 k, v], vw]) Try.func75 rfl rfl ?_
  have X0 := Ext.refl H
  have hm1 := hr.max
  have hm2 := hrv.max
  have hp := isPr_bd hq
  have hp0 : 0 < p := by omega
  have hmx := hr.max
  have hmv := hrv.max
  obtain ⟨S, hS⟩ : ∃ S, S = ech p (besL l [vals] l.length) (K + 1) := ⟨_, rfl⟩
  have hrw := bes_rect hp0 hrc hv
  obtain ⟨s1, s2, s3, s4⟩ := ech_ok hp0 hrw (K + 1)
  rw [← hS] at s1 s2 s3 s4
  rw [besL_len] at s2 s3
  refine AW.rs ?_
  refine AL.w rfl (.inl rfl) (WV.bx rfl rfl) ?_
  rintro _ H4 ⟨b3, rfl, hx5, hn6, hb7⟩
  have o8 := Nat.le_trans X0.bd hn6
  have X9 := Ext.trans X0 hx5
  have X10 := Ext.refl H4
  refine AL.val rfl (.inl rfl) (HV.as rfl) ?_
  refine AL.val rfl (.inl rfl) (HV.as rfl) ?_
  refine AL.nx ?_
  refine AW.rs ?_
  refine AL.val rfl (.inl rfl) (HV.fa fl29_0 rfl) ?_
  refine AL.val rfl (.inl rfl) (HV.ld rfl va2 (at_cell hb7 rfl)) ?_
  refine AL.val rfl (.inl rfl) (HV.fa fl29_1 rfl) ?_
  refine AL.val rfl (.inl rfl) (HV.ld rfl va2 (at_cell_add (j := 1) hb7 rfl)) ?_
  refine AL.val rfl (.inl rfl) (HV.add rfl rfl (by omega)) ?_
  refine AL.val rfl (.inl rfl) (HV.bd rfl (bd29_0_1 p (k + 1))) ?_
  refine AL.w rfl (.inl rfl) (WV.al ze29 rfl) ?_
  rintro _ H12 ⟨b11, rfl, hx13, hn14, hb15⟩
  have o16 := Nat.le_trans X9.bd hn14
  have o17 := Nat.le_trans X10.bd hn14
  have ne18 : b3 ≠ b11 := by have := hb7.lt; omega
  have X19 := Ext.trans X9 hx13
  have X20 := Ext.trans X10 hx13
  have hb21 := hb7.ext hx13
  have X22 := Ext.refl H12
  refine AL.w0 (.inl rfl) (WV.st rfl rfl va29 rfl hb15 (Nat.le_of_ble_eq_true rfl) (one_cons rfl (one_cons rfl (one_cons (sl_one1 ⟨none, 0, rfl⟩) one_nil)))) ?_
  rintro _ H23 ⟨hx24, hb25⟩
  have X26 := Ext.thru X19 hx24 (fun z_ hz_ => by rw [hz_]; exact o16)
  have X27 := Ext.thru X20 hx24 (fun z_ hz_ => by rw [hz_]; exact o17)
  have hb29 := hb21.but hx24 ne18
  have hb30 : At W H23 b11 ⟨29, [.int .i64 p, .int .i64 (k + 1), (.slice none 0 0)], 3⟩ := hb25
  refine AL.nx ?_
  refine AW.seq ?_
  refine AW.rs ?_
  refine AL.val rfl (.inl rfl) (HV.fa fl29_2 rfl) ?_
  refine AL.val rfl (.inl rfl) (HV.ld rfl va23 (at_cell_add (j := 2) hb29 rfl)) ?_
  refine AL.val rfl (.inl rfl) (HV.len Try.underlying23 rfl hr.isSl) ?_
  refine AL.val rfl (.inl rfl) (HV.mv rfl) ?_
  refine AL.nx ?_
  refine AW.block ?_
  have X31 := Ext.refl H23
  have y32 := hb29.lt
  have y33 := hb30.lt
  have o34 := X26.bd
  have o35 := X27.bd
  have o36 := X31.bd
  have ho37 : OwnD (kO 2 kI) 22 W H23 (fun b => H23.bd ≤ b) (.slice none 0 0) ([] : List (List Int)) := OwnD.nil _
  refine AW.loop (σ := Nat × Value) (fun ⟨i, vv⟩ => [(1, vw), (2, .pointer (some ⟨b3, 0, none⟩)), (4, (.slice none 0 0)), (5, .bool false), (6, .pointer (some ⟨b11, 0, none⟩)), (21, v), (22, .int .i64 (l.length : Int)), (23, .int .i64 (i : Int))]) (fun ⟨i, vv⟩ H' => Ext H H' ∧ Ext H4 H' ∧ At W H' b3 ⟨29, [.int .i64 p, .int .i64 k, v], 3⟩ ∧ H23.bd ≤ H'.bd ∧ i ≤ l.length ∧ At W H' b11 ⟨29, [.int .i64 p, .int .i64 (k + 1), vv], 3⟩ ∧ OwnD (kO 2 kI) 22 W H' (fun b => H23.bd ≤ b) vv (besL l [vals] i) ∧ True) (fun ⟨i, vv⟩ => l.length - i) (0, (.slice none 0 0)) ⟨X26, X27, hb29, X31.bd, Nat.zero_le _, hb30, ho37, trivial⟩ ⟨rfl, rfl, rfl, rfl, rfl, rfl, rfl, rfl, trivial⟩ ?_
  rintro ⟨i, vv⟩ H39 ⟨X40, X41, hb42, q43, hi, hbB, hoL, _⟩
  refine AW.rs ?_
  refine AL.val rfl (.inl rfl) (HV.lti rfl rfl) ?_
  refine AL.nx ?_
  refine AW.seq ?_
  refine AW.ifd rfl (fun c44 => ?_) (fun c44 => ?_)
  · -- then
    refine AW.skip ?_
    refine nrm_and ?_
    refine AW.seq ?_
    refine AW.block ?_
    refine AW.rs ?_
    refine AL.val rfl (.inl rfl) (HV.mv rfl) ?_
    obtain ⟨p45, z46, cs47, hz48, hK49, hC50, hP51⟩ := RdK.ix (q := (i : Int)) hr sl23 (by omega) (by omega)
    obtain ⟨v52, rfl, hr53⟩ := hK49
    have hm54 := hr53.max
    refine AL.val rfl (.inl rfl) (hP51 rfl rfl) ?_
    refine AL.val rfl (.inl rfl) (HV.ld rfl va22 (cells_first (hC50.ext X40) rfl)) ?_
    refine AL.val rfl (.inl rfl) (HV.as rfl) ?_
    refine AL.val rfl (.inl rfl) (HV.as rfl) ?_
    refine AL.nx ?_
    refine AW.draw' [0, 1, 0, 4, 0, 0, 48, 112, 240, 508, 1020, 2047, 4095, 8191] mixed (by rfl) ?_
    refine Dr.read 0 _ 28 _ rfl rfl rfl rfl rfl (RV.of (by intro _ _ h; cases h) (.inl rfl) (fun _ xd => HV.fa fl29_2 rfl)) ?_
    refine Dr.read 1 _ 29 _ rfl rfl rfl rfl rfl (RV.of (by intro _ _ h; cases h) (.inl rfl) (fun _ xd => HV.ld rfl va23 (rdc_ext xd (at_cell_add (j := 2) hbB rfl)))) ?_
    refine Dr.read 2 _ 30 _ rfl rfl rfl rfl rfl (RV.of (by intro _ _ h; cases h) (.inl rfl) (fun _ xd => HV.mv rfl)) ?_
    refine Dr.read 4 _ 32 _ rfl rfl rfl rfl rfl (RV.of (by intro _ _ h; cases h) (.inl rfl) (fun _ xd => HV.mv rfl)) ?_
    refine Dr.read 5 _ 33 _ rfl rfl rfl rfl rfl (RV.of (by intro _ _ h; cases h) (.inl rfl) (fun _ xd => HV.mv rfl)) ?_
    obtain ⟨p55, z56, cs57, hz58, hK59, hC60, hP61⟩ := RdK.ix (q := (i : Int)) hrv sl22 (by omega) (by omega)
    obtain rfl : cs57 = [.int .i64 z56] := hK59
    refine Dr.read 6 _ 34 _ rfl rfl rfl rfl rfl (RV.of (by intro _ _ h; cases h) (.inl rfl) (fun _ xd => hP61 rfl rfl)) ?_
    refine Dr.read 7 _ 35 _ rfl rfl rfl rfl rfl (RV.of (by intro _ _ h; cases h) (.inl rfl) (fun _ xd => HV.ld rfl va2 (rdc_ext xd (cells_first (hC60.ext X40) rfl)))) ?_
    have X62 := Ext.refl H39
    have y63 := hb42.lt
    have y64 := hbB.lt
    have o65 := X40.bd
    have o66 := X41.bd
    have o67 := X62.bd
    have a68 := hoL.ltb
    have ho69 := hoL.okk (ok' := fun b => H23.bd ≤ b ∧ b < H39.bd) (fun b hb hlt => ⟨hb, hlt⟩)
    have X74 := Ext.refl H39
    have y75 := hb42.lt
    have y76 := hbB.lt
    have o77 := X40.bd
    have o78 := X41.bd
    have o79 := X74.bd
    have a80 := hoL.ltb
    have ho81 := hoL.okk (ok' := fun b => H23.bd ≤ b ∧ b < H39.bd) (fun b hb hlt => ⟨hb, hlt⟩)
    refine Dr.eff2 3 8 _ _ _ _  rfl rfl  (by intro d h; cases h; exact ⟨rfl, rfl⟩) (by intro d h; cases h; exact ⟨rfl, rfl⟩) rfl rfl  rfl rfl rfl  (EC.of (by intro _ _ h; cases h) (.inl rfl) (WV.call fn87 rfl (cloneI_ok (hr53.ext X40) (by have := rect_at hrc hz48; omega)))) (EC.of (by intro _ _ h; cases h) (.inl rfl) (WV.bsK (K := kI) (l := ([z56] : List Int)) (css := [[.int .i64 z56]]) sl22 rfl rfl (by first | rfl | (simp [Instr.fill, Value.cells, kI, kB, kU, kU8, kS, Kd.sc]; done) | (simp [Instr.fill, Value.cells, kI, kB, kU, kU8, kS, Kd.sc, rng1, rng2, rng3, rng4, kP])) rfl (segs_cons rfl segs_nil))) (fun v H' h => .inl (h.1)) (fun v H' h => .inl (h.1)) ?_ ?_ 
    · -- 3 first
      have X86 := Ext.refl H39
      have y87 := hb42.lt
      have y88 := hbB.lt
      have o89 := X40.bd
      have o90 := X41.bd
      have o91 := X86.bd
      have a92 := hoL.ltb
      have ho93 := hoL.okk (ok' := fun b => H23.bd ≤ b ∧ b < H39.bd) (fun b hb hlt => ⟨hb, hlt⟩)
      rintro v94 H95 ⟨hx96, ho97⟩
      have q98 := Nat.le_trans q43 hx96.bd
      have X99 := Ext.trans X40 hx96
      have X100 := Ext.trans X41 hx96
      have X101 := Ext.trans X86 hx96
      have ho102 := ho93.ext hx96
      have hb103 := hb42.ext hx96
      have hb104 := hbB.ext hx96
      have X106 := Ext.refl H95
      have y107 := hb103.lt
      have y108 := hb104.lt
      have o109 := X99.bd
      have o110 := X100.bd
      have o111 := X101.bd
      have o112 := X106.bd
      have a113 := ho102.ltb
      have a114 := ho97.ltb
      refine Dr.eff 8 _ _ rfl (by intro d h; cases h; exact ⟨rfl, rfl⟩) rfl rfl rfl (EC.of (by intro _ _ h; cases h) (.inl rfl) (WV.bsK (K := kI) (l := ([z56] : List Int)) (css := [[.int .i64 z56]]) sl22 rfl rfl (by first | rfl | (simp [Instr.fill, Value.cells, kI, kB, kU, kU8, kS, Kd.sc]; done) | (simp [Instr.fill, Value.cells, kI, kB, kU, kU8, kS, Kd.sc, rng1, rng2, rng3, rng4, kP])) rfl (segs_cons rfl segs_nil))) (fun v H' h => .inl (h.1)) ?_
      rintro v115 H116 ⟨hx117, ho118⟩
      have q119 := Nat.le_trans q98 hx117.bd
      have X120 := Ext.trans X99 hx117
      have X121 := Ext.trans X100 hx117
      have X122 := Ext.trans X101 hx117
      have X123 := Ext.trans X106 hx117
      have ho124 := ho102.ext hx117
      have ho125 := ho97.ext hx117
      have hb126 := hb103.ext hx117
      have hb127 := hb104.ext hx117
      have X129 := Ext.refl H116
      refine Dr.eff 9 _ _ rfl (by intro d h; cases h; exact ⟨rfl, rfl⟩) rfl rfl rfl (EC.of (by intro _ _ h; cases h) (.inl rfl) (WV.apk sl22 rfl rfl ho125 ho118.rd (by have := rect_at hrc hz48; simp; omega) (by have := rect_at hrc hz48; simp; omega) (fun b hb _ e => Nat.lt_irrefl _ (Nat.lt_of_lt_of_le (a114 b e) hb)))) ?_ ?_
      · -- kept
        rintro v130 H131 ⟨hx132, ho133, hb134⟩
        have ho135 := ho133.narrow (ok' := fun b => H39.bd ≤ b) kI_flat (fun b q => (hb134 b q).elim (fun e => (ho125.blk b e).1) (fun e => Nat.le_trans X122.bd e))
        have q136 := Nat.le_trans q119 hx132.bd
        have X137 := Ext.thru X120 hx132 (fun b hb => Nat.le_trans o89 (ho125.blk b hb).1)
        have X138 := Ext.thru X121 hx132 (fun b hb => Nat.le_trans o90 (ho125.blk b hb).1)
        have X139 := Ext.thru X122 hx132 (fun b hb => Nat.le_trans o91 (ho125.blk b hb).1)
        have q141 := Nat.le_trans X123.bd hx132.bd
        have q143 := Nat.le_trans X129.bd hx132.bd
        have ho144 := ho124.but hx132 (fun b hb _ e => by have h1 : H23.bd ≤ b ∧ b < H39.bd := hb; have h2 : H39.bd ≤ b := (ho125.blk b e).1; omega) (fun b hb => (ho125.blk b hb).2.2)
        have hb146 := hb126.but hx132 (fun e => by have q : H39.bd ≤ _ := (ho125.blk _ e).1; omega)
        have hb147 := hb127.but hx132 (fun e => by have q : H39.bd ≤ _ := (ho125.blk _ e).1; omega)
        refine .inr (.inr ?_)
        exact (kept_cons (.inl rfl) (kept_cons (.inl rfl) (kept_cons (.inl rfl) (kept_cons (.inl rfl) (kept_cons (.inl rfl) (kept_cons (.inr ⟨_, _, _, rfl, rfl, rfl, (RV.of (by intro _ _ h; cases h) (.inl rfl) (fun _ xd => HV.ld rfl va23 (rdc_ext xd (at_cell_add (j := 2) hb147 rfl))))⟩) (kept_cons (.inr ⟨_, _, _, rfl, rfl, rfl, (RV.of (by intro _ _ h; cases h) (.inl rfl) (fun _ xd => HV.fa fl29_2 rfl))⟩) kept_nil)))))))
      rintro v130 H131 ⟨hx132, ho133, hb134⟩
      have ho135 := ho133.narrow (ok' := fun b => H39.bd ≤ b) kI_flat (fun b q => (hb134 b q).elim (fun e => (ho125.blk b e).1) (fun e => Nat.le_trans X122.bd e))
      have q148 := Nat.le_trans q119 hx132.bd
      have X149 := Ext.thru X120 hx132 (fun b hb => Nat.le_trans o89 (ho125.blk b hb).1)
      have X150 := Ext.thru X121 hx132 (fun b hb => Nat.le_trans o90 (ho125.blk b hb).1)
      have X151 := Ext.thru X122 hx132 (fun b hb => Nat.le_trans o91 (ho125.blk b hb).1)
      have q153 := Nat.le_trans X123.bd hx132.bd
      have q155 := Nat.le_trans X129.bd hx132.bd
      have ho156 := ho124.but hx132 (fun b hb _ e => by have h1 : H23.bd ≤ b ∧ b < H39.bd := hb; have h2 : H39.bd ≤ b := (ho125.blk b e).1; omega) (fun b hb => (ho125.blk b hb).2.2)
      have hb158 := hb126.but hx132 (fun e => by have q : H39.bd ≤ _ := (ho125.blk _ e).1; omega)
      have hb159 := hb127.but hx132 (fun e => by have q : H39.bd ≤ _ := (ho125.blk _ e).1; omega)
      have X160 := Ext.refl H131
      have y161 := hb158.lt
      have y162 := hb159.lt
      have o163 := X149.bd
      have o164 := X150.bd
      have o165 := X151.bd
      have o166 := X160.bd
      have a167 := ho156.ltb
      have a168 := ho135.ltb
      have hc173 : v130.cells = #[v130] := by obtain ⟨A, c, e⟩ := ho135.isSl; rw [e]; rfl
      refine Dr.eff 10 _ _ rfl (by intro d h; cases h; exact ⟨rfl, rfl⟩) rfl rfl rfl (EC.of (by intro _ _ h; cases h) (.inl rfl) (WV.bsO (okx := fun b => H39.bd ≤ b) (K := (kO 2 kI)) (l := ([(z46 ++ (([z56] : List Int) : List Int))] : List (List Int))) (css := [[v130]]) sl23 rfl rfl (by simp [Instr.fill, hc173, kO, rng1]) rfl (segs_cons ⟨_, rfl, ho135⟩ segs_nil))) (fun v H' h => .inl (h.1)) ?_
      rintro v169 H170 ⟨hx171, ho172⟩
      have q175 := Nat.le_trans q148 hx171.bd
      have q176 := Nat.le_trans q153 hx171.bd
      have q177 := Nat.le_trans q155 hx171.bd
      have X178 := Ext.trans X149 hx171
      have X179 := Ext.trans X150 hx171
      have X180 := Ext.trans X151 hx171
      have X181 := Ext.trans X160 hx171
      have ho182 := ho156.ext hx171
      have ho183 := ho135.ext hx171
      have hb184 := hb158.ext hx171
      have hb185 := hb159.ext hx171
      have ho174 := ho172.okk (ok' := fun b => H39.bd ≤ b) (fun b hb _ => hb.elim id (fun e => Nat.le_trans X151.bd e))
      have X187 := Ext.refl H170
      refine Dr.eff 11 _ _ rfl (by intro d h; cases h; exact ⟨rfl, rfl⟩) rfl rfl rfl (EC.of (by intro _ _ h; cases h) (.inl rfl) (WV.apD (ok := fun b => H23.bd ≤ b) (B := H39.bd) sl23 rfl rfl ho182 ho174.rd X180.bd (by rw [besL_len]; first | omega | (simp; omega)) (by rw [besL_len]; first | omega | (simp; omega)))) (fun v H' h => .inr (.inl rfl)) ?_
      rintro v188 H189 ⟨hx190, ho191, hb192⟩
      have ho193 := ho191.okk (ok' := fun b => H23.bd ≤ b) (fun b hb _ => hb.elim id (fun e => Nat.le_trans q43 e))
      have q194 := Nat.le_trans q175 hx190.bd
      have q195 := Nat.le_trans q176 hx190.bd
      have q196 := Nat.le_trans q177 hx190.bd
      have X197 := Ext.thru X178 hx190 (fun b hb => Nat.le_trans o34 (ho182.blk b hb).1.1)
      have X198 := Ext.thru X179 hx190 (fun b hb => Nat.le_trans o35 (ho182.blk b hb).1.1)
      have q200 := Nat.le_trans X180.bd hx190.bd
      have q202 := Nat.le_trans X181.bd hx190.bd
      have q204 := Nat.le_trans X187.bd hx190.bd
      have hb205 := hb184.but hx190 (fun e => by have q : H23.bd ≤ _ := (ho182.blk _ e).1.1; omega)
      have hb206 := hb185.but hx190 (fun e => by have q : H23.bd ≤ _ := (ho182.blk _ e).1.1; omega)
      refine Dr.read 12 _ 40 _ rfl rfl rfl rfl rfl (RV.of (by intro _ _ h; cases h) (.inl rfl) (fun _ xd => HV.fa fl29_2 rfl)) ?_
      refine Dr.eff 13 _ _ rfl (by intro d h; cases h) rfl rfl rfl (EC.of (by intro _ _ h; cases h) (.inl rfl) (WV.st rfl rfl va23 (sl_size (rd_ofO ho193.rd).isSl) hb206 (Nat.le_of_ble_eq_true rfl) (sl_one (rd_ofO ho193.rd).isSl))) (fun v H' h => .inr (.inl rfl)) ?_
      rintro _ H207 ⟨hx208, hb209⟩
      rw [sl_cells (rd_ofO ho193.rd).isSl] at hb209
      have q210 := Nat.le_trans q194 hx208.bd
      have q211 := Nat.le_trans q195 hx208.bd
      have q212 := Nat.le_trans q196 hx208.bd
      have q213 := Nat.le_trans q200 hx208.bd
      have q214 := Nat.le_trans q202 hx208.bd
      have q215 := Nat.le_trans q204 hx208.bd
      have X216 := Ext.thru X197 hx208 (fun z_ hz_ => by rw [hz_]; exact o16)
      have X217 := Ext.thru X198 hx208 (fun z_ hz_ => by rw [hz_]; exact o17)
      have ho218 := ho193.but hx208 (fun b hb _ e => by have hb' : H23.bd ≤ b := hb; have e' : b = b11 := e; omega) (fun z_ hz_ => by rw [hz_]; exact hb206.w)
      have hb219 := hb205.but hx208 ne18
      have hb220 : At W H207 b11 ⟨29, [.int .i64 p, .int .i64 (k + 1), v188], 3⟩ := hb209
      refine Dr.fin rfl ?_
      refine nrm_blk (nrm_and ?_)
      refine AW.reg ?_
      refine AL.val rfl (.inl rfl) (HV.add rfl rfl (by omega)) ?_
      refine AL.val rfl (.inl rfl) (HV.mv rfl) ?_
      refine AL.nil ?_
      refine nrm_and ?_
      exact ⟨(i + 1, v188), ⟨X216, X217, hb219, q210, by omega, hb220, by rw [besL_succ, bes_one, (gd hz48 rfl : l.getD i [] = z46), (gd hz58 rfl : vals.getD i 0 = z56)]; exact ho218, trivial⟩, by first | omega | (dsimp only; omega), ⟨rfl, rfl, rfl, rfl, rfl, rfl, rfl, rfl, trivial⟩⟩
    · -- 8 first
      have X221 := Ext.refl H39
      have y222 := hb42.lt
      have y223 := hbB.lt
      have o224 := X40.bd
      have o225 := X41.bd
      have o226 := X221.bd
      have a227 := hoL.ltb
      have ho228 := hoL.okk (ok' := fun b => H23.bd ≤ b ∧ b < H39.bd) (fun b hb hlt => ⟨hb, hlt⟩)
      rintro v229 H230 ⟨hx231, ho232⟩
      have q233 := Nat.le_trans q43 hx231.bd
      have X234 := Ext.trans X40 hx231
      have X235 := Ext.trans X41 hx231
      have X236 := Ext.trans X221 hx231
      have ho237 := ho228.ext hx231
      have hb238 := hb42.ext hx231
      have hb239 := hbB.ext hx231
      have X241 := Ext.refl H230
      have y242 := hb238.lt
      have y243 := hb239.lt
      have o244 := X234.bd
      have o245 := X235.bd
      have o246 := X236.bd
      have o247 := X241.bd
      have a248 := ho237.ltb
      have a249 := ho232.ltb
      refine Dr.eff 3 _ _ rfl (by intro d h; cases h; exact ⟨rfl, rfl⟩) rfl rfl rfl (EC.of (by intro _ _ h; cases h) (.inl rfl) (WV.call fn87 rfl (cloneI_ok (hr53.ext X234) (by have := rect_at hrc hz48; omega)))) (fun v H' h => .inl (h.1)) ?_
      rintro v250 H251 ⟨hx252, ho253⟩
      have q254 := Nat.le_trans q233 hx252.bd
      have X255 := Ext.trans X234 hx252
      have X256 := Ext.trans X235 hx252
      have X257 := Ext.trans X236 hx252
      have X258 := Ext.trans X241 hx252
      have ho259 := ho237.ext hx252
      have ho260 := ho232.ext hx252
      have hb261 := hb238.ext hx252
      have hb262 := hb239.ext hx252
      have X264 := Ext.refl H251
      refine Dr.eff 9 _ _ rfl (by intro d h; cases h; exact ⟨rfl, rfl⟩) rfl rfl rfl (EC.of (by intro _ _ h; cases h) (.inl rfl) (WV.apk sl22 rfl rfl ho253 (OwnK.narrow (ok' := fun b => some b = v229.ownBlock) kI_flat ho260 (fun b q => q)).rd (by have := rect_at hrc hz48; simp; omega) (by have := rect_at hrc hz48; simp; omega) (fun b hb _ e => by have h1 := a249 b hb; have h2 : H230.bd ≤ b := (ho253.blk b e).1; omega))) ?_ ?_
      · -- kept
        rintro v265 H266 ⟨hx267, ho268, hb269⟩
        have ho270 := ho268.narrow (ok' := fun b => H230.bd ≤ b) kI_flat (fun b q => (hb269 b q).elim (fun e => (ho253.blk b e).1) (fun e => Nat.le_trans X258.bd e))
        have q271 := Nat.le_trans q254 hx267.bd
        have X272 := Ext.thru X255 hx267 (fun b hb => Nat.le_trans o244 (ho253.blk b hb).1)
        have X273 := Ext.thru X256 hx267 (fun b hb => Nat.le_trans o245 (ho253.blk b hb).1)
        have X274 := Ext.thru X257 hx267 (fun b hb => Nat.le_trans o246 (ho253.blk b hb).1)
        have X275 := Ext.thru X258 hx267 (fun b hb => Nat.le_trans o247 (ho253.blk b hb).1)
        have q277 := Nat.le_trans X264.bd hx267.bd
        have ho278 := ho259.but hx267 (fun b hb _ e => by have h1 : H23.bd ≤ b ∧ b < H39.bd := hb; have h2 : H230.bd ≤ b := (ho253.blk b e).1; omega) (fun b hb => (ho253.blk b hb).2.2)
        have hb280 := hb261.but hx267 (fun e => by have q : H230.bd ≤ _ := (ho253.blk _ e).1; omega)
        have hb281 := hb262.but hx267 (fun e => by have q : H230.bd ≤ _ := (ho253.blk _ e).1; omega)
        refine .inr (.inr ?_)
        exact (kept_cons (.inl rfl) (kept_cons (.inl rfl) (kept_cons (.inl rfl) (kept_cons (.inl rfl) (kept_cons (.inl rfl) (kept_cons (.inr ⟨_, _, _, rfl, rfl, rfl, (RV.of (by intro _ _ h; cases h) (.inl rfl) (fun _ xd => HV.ld rfl va23 (rdc_ext xd (at_cell_add (j := 2) hb281 rfl))))⟩) (kept_cons (.inr ⟨_, _, _, rfl, rfl, rfl, (RV.of (by intro _ _ h; cases h) (.inl rfl) (fun _ xd => HV.fa fl29_2 rfl))⟩) kept_nil)))))))
      rintro v265 H266 ⟨hx267, ho268, hb269⟩
      have ho270 := ho268.narrow (ok' := fun b => H230.bd ≤ b) kI_flat (fun b q => (hb269 b q).elim (fun e => (ho253.blk b e).1) (fun e => Nat.le_trans X258.bd e))
      have q282 := Nat.le_trans q254 hx267.bd
      have X283 := Ext.thru X255 hx267 (fun b hb => Nat.le_trans o244 (ho253.blk b hb).1)
      have X284 := Ext.thru X256 hx267 (fun b hb => Nat.le_trans o245 (ho253.blk b hb).1)
      have X285 := Ext.thru X257 hx267 (fun b hb => Nat.le_trans o246 (ho253.blk b hb).1)
      have X286 := Ext.thru X258 hx267 (fun b hb => Nat.le_trans o247 (ho253.blk b hb).1)
      have q288 := Nat.le_trans X264.bd hx267.bd
      have ho289 := ho259.but hx267 (fun b hb _ e => by have h1 : H23.bd ≤ b ∧ b < H39.bd := hb; have h2 : H230.bd ≤ b := (ho253.blk b e).1; omega) (fun b hb => (ho253.blk b hb).2.2)
      have hb291 := hb261.but hx267 (fun e => by have q : H230.bd ≤ _ := (ho253.blk _ e).1; omega)
      have hb292 := hb262.but hx267 (fun e => by have q : H230.bd ≤ _ := (ho253.blk _ e).1; omega)
      have X293 := Ext.refl H266
      have y294 := hb291.lt
      have y295 := hb292.lt
      have o296 := X283.bd
      have o297 := X284.bd
      have o298 := X285.bd
      have o299 := X286.bd
      have o300 := X293.bd
      have a301 := ho289.ltb
      have a302 := ho270.ltb
      have hc307 : v265.cells = #[v265] := by obtain ⟨A, c, e⟩ := ho270.isSl; rw [e]; rfl
      refine Dr.eff 10 _ _ rfl (by intro d h; cases h; exact ⟨rfl, rfl⟩) rfl rfl rfl (EC.of (by intro _ _ h; cases h) (.inl rfl) (WV.bsO (okx := fun b => H230.bd ≤ b) (K := (kO 2 kI)) (l := ([(z46 ++ (([z56] : List Int) : List Int))] : List (List Int))) (css := [[v265]]) sl23 rfl rfl (by simp [Instr.fill, hc307, kO, rng1]) rfl (segs_cons ⟨_, rfl, ho270⟩ segs_nil))) (fun v H' h => .inl (h.1)) ?_
      rintro v303 H304 ⟨hx305, ho306⟩
      have q309 := Nat.le_trans q282 hx305.bd
      have q310 := Nat.le_trans q288 hx305.bd
      have X311 := Ext.trans X283 hx305
      have X312 := Ext.trans X284 hx305
      have X313 := Ext.trans X285 hx305
      have X314 := Ext.trans X286 hx305
      have X315 := Ext.trans X293 hx305
      have ho316 := ho289.ext hx305
      have ho317 := ho270.ext hx305
      have hb318 := hb291.ext hx305
      have hb319 := hb292.ext hx305
      have ho308 := ho306.okk (ok' := fun b => H230.bd ≤ b) (fun b hb _ => hb.elim id (fun e => Nat.le_trans X286.bd e))
      have X321 := Ext.refl H304
      refine Dr.eff 11 _ _ rfl (by intro d h; cases h; exact ⟨rfl, rfl⟩) rfl rfl rfl (EC.of (by intro _ _ h; cases h) (.inl rfl) (WV.apD (ok := fun b => H23.bd ≤ b) (B := H39.bd) sl23 rfl rfl ho316 (ho308.okk (ok' := fun b => H39.bd ≤ b) (fun b hb _ => Nat.le_trans o246 hb)).rd X313.bd (by rw [besL_len]; first | omega | (simp; omega)) (by rw [besL_len]; first | omega | (simp; omega)))) (fun v H' h => .inr (.inl rfl)) ?_
      rintro v322 H323 ⟨hx324, ho325, hb326⟩
      have ho327 := ho325.okk (ok' := fun b => H23.bd ≤ b) (fun b hb _ => hb.elim id (fun e => by have h1 : H39.bd ≤ b := e; omega))
      have q328 := Nat.le_trans q309 hx324.bd
      have q329 := Nat.le_trans q310 hx324.bd
      have X330 := Ext.thru X311 hx324 (fun b hb => Nat.le_trans o34 (ho316.blk b hb).1.1)
      have X331 := Ext.thru X312 hx324 (fun b hb => Nat.le_trans o35 (ho316.blk b hb).1.1)
      have q333 := Nat.le_trans X313.bd hx324.bd
      have q335 := Nat.le_trans X314.bd hx324.bd
      have q337 := Nat.le_trans X315.bd hx324.bd
      have q339 := Nat.le_trans X321.bd hx324.bd
      have hb340 := hb318.but hx324 (fun e => by have q : H23.bd ≤ _ := (ho316.blk _ e).1.1; omega)
      have hb341 := hb319.but hx324 (fun e => by have q : H23.bd ≤ _ := (ho316.blk _ e).1.1; omega)
      refine Dr.read 12 _ 40 _ rfl rfl rfl rfl rfl (RV.of (by intro _ _ h; cases h) (.inl rfl) (fun _ xd => HV.fa fl29_2 rfl)) ?_
      refine Dr.eff 13 _ _ rfl (by intro d h; cases h) rfl rfl rfl (EC.of (by intro _ _ h; cases h) (.inl rfl) (WV.st rfl rfl va23 (sl_size (rd_ofO ho327.rd).isSl) hb341 (Nat.le_of_ble_eq_true rfl) (sl_one (rd_ofO ho327.rd).isSl))) (fun v H' h => .inr (.inl rfl)) ?_
      rintro _ H342 ⟨hx343, hb344⟩
      rw [sl_cells (rd_ofO ho327.rd).isSl] at hb344
      have q345 := Nat.le_trans q328 hx343.bd
      have q346 := Nat.le_trans q329 hx343.bd
      have q347 := Nat.le_trans q333 hx343.bd
      have q348 := Nat.le_trans q335 hx343.bd
      have q349 := Nat.le_trans q337 hx343.bd
      have q350 := Nat.le_trans q339 hx343.bd
      have X351 := Ext.thru X330 hx343 (fun z_ hz_ => by rw [hz_]; exact o16)
      have X352 := Ext.thru X331 hx343 (fun z_ hz_ => by rw [hz_]; exact o17)
      have ho353 := ho327.but hx343 (fun b hb _ e => by have hb' : H23.bd ≤ b := hb; have e' : b = b11 := e; omega) (fun z_ hz_ => by rw [hz_]; exact hb341.w)
      have hb354 := hb340.but hx343 ne18
      have hb355 : At W H342 b11 ⟨29, [.int .i64 p, .int .i64 (k + 1), v322], 3⟩ := hb344
      refine Dr.fin rfl ?_
      refine nrm_blk (nrm_and ?_)
      refine AW.reg ?_
      refine AL.val rfl (.inl rfl) (HV.add rfl rfl (by omega)) ?_
      refine AL.val rfl (.inl rfl) (HV.mv rfl) ?_
      refine AL.nil ?_
      refine nrm_and ?_
      exact ⟨(i + 1, v322), ⟨X351, X352, hb354, q345, by omega, hb355, by rw [besL_succ, bes_one, (gd hz48 rfl : l.getD i [] = z46), (gd hz58 rfl : vals.getD i 0 = z56)]; exact ho353, trivial⟩, by first | omega | (dsimp only; omega), ⟨rfl, rfl, rfl, rfl, rfl, rfl, rfl, rfl, trivial⟩⟩
  · -- else
    refine AW.exit ?_
    refine ex_and (ex_and (ex_blk ?_))
    refine nrm_and ?_
    refine AW.rs ?_
    have ho356 : OwnD (kO 2 kI) 22 W H39 (fun b => H23.bd ≤ b) vv (besL l [vals] l.length) := by rw [show l.length = i by omega]; exact hoL
    refine AL.val rfl (.inl rfl) (HV.lda (cs := [.int .i64 p, .int .i64 (k + 1), vv]) rfl va29 (at_cells hbB rfl)) ?_
    refine AL.w rfl (.inl rfl) (WV.call fn135 rfl (implEch_ok (K := K + 1) p (k + 1) (rd_ofO ho356.rd) hq (by omega) hrw (by omega) (by rw [besL_len]; omega))) ?_
    rintro _ H359 ⟨⟨u357, q358, rfl, hu361, hq362⟩, hx360⟩
    have q363 := Nat.le_trans q43 hx360.bd
    have X364 := Ext.trans X40 hx360
    have X365 := Ext.trans X41 hx360
    have ho366 := ho356.ext hx360
    have hb367 := hb42.ext hx360
    have hb368 := hbB.ext hx360
    have X369 := Ext.refl H359
    rw [← hS] at hu361 hq362
    refine AL.val rfl (.inl rfl) (HV.mv rfl) ?_
    refine AL.val rfl (.inl rfl) (HV.ex rfl rfl) ?_
    refine AL.val rfl (.inl rfl) (HV.ex rfl rfl) ?_
    refine AL.w rfl (.inl rfl) (WV.al ze29 rfl) ?_
    rintro _ H371 ⟨b370, rfl, hx372, hn373, hb374⟩
    have o375 := Nat.le_trans X364.bd hn373
    have o376 := Nat.le_trans X365.bd hn373
    have o377 := Nat.le_trans X369.bd hn373
    have o378 := Nat.le_trans q363 hn373
    have ne379 : b3 ≠ b370 := by have := hb367.lt; omega
    have ne380 : b11 ≠ b370 := by have := hb368.lt; omega
    have q381 := Nat.le_trans q363 hx372.bd
    have X382 := Ext.trans X364 hx372
    have X383 := Ext.trans X365 hx372
    have X384 := Ext.trans X369 hx372
    have hb385 := hb367.ext hx372
    have hb386 := hb368.ext hx372
    have X387 := Ext.refl H371
    refine AL.w0 (.inl rfl) (WV.st rfl rfl va29 rfl hb374 (Nat.le_of_ble_eq_true rfl) (one_cons rfl (one_cons rfl (one_cons (sl_one1 (hu361.ext X384).isSl) one_nil)))) ?_
    rintro _ H388 ⟨hx389, hb390⟩
    have q391 := Nat.le_trans q381 hx389.bd
    have X392 := Ext.thru X382 hx389 (fun z_ hz_ => by rw [hz_]; exact o375)
    have X393 := Ext.thru X383 hx389 (fun z_ hz_ => by rw [hz_]; exact o376)
    have X394 := Ext.thru X384 hx389 (fun z_ hz_ => by rw [hz_]; exact o377)
    have q396 := Nat.le_trans X387.bd hx389.bd
    have hb397 := hb385.but hx389 ne379
    have hb398 := hb386.but hx389 ne380
    have hb399 : At W H388 b370 ⟨29, [.int .i64 p, .int .i64 (k + 1), u357], 3⟩ := hb390
    refine AL.val rfl (.inl rfl) (HV.as rfl) ?_
    refine AL.nx ?_
    refine AW.rs ?_
    refine AL.val rfl (.inl rfl) (HV.fa fl29_1 rfl) ?_
    refine AL.val rfl (.inl rfl) (HV.ld rfl va2 (at_cell_add (j := 1) hb397 rfl)) ?_
    have X400 := Ext.refl H388
    have y401 := hb397.lt
    have y402 := hb398.lt
    have y403 := hb399.lt
    have o404 := X392.bd
    have o405 := X393.bd
    have o406 := X394.bd
    have o407 := X400.bd
    refine AL.w rfl (.inl rfl) (WV.mkK (K := kI) (0 : Int) (fun _ _ _ => rfl) sl22 rfl rfl rfl (by omega) (by omega) (by omega)) ?_
    rintro v408 H409 ⟨hx410, ho411⟩
    have q412 := Nat.le_trans q391 hx410.bd
    have q413 := Nat.le_trans q396 hx410.bd
    have X414 := Ext.trans X392 hx410
    have X415 := Ext.trans X393 hx410
    have X416 := Ext.trans X394 hx410
    have X417 := Ext.trans X400 hx410
    have hb418 := hb397.ext hx410
    have hb419 := hb398.ext hx410
    have hb420 := hb399.ext hx410
    refine AL.val rfl (.inl rfl) (HV.as rfl) ?_
    refine AL.nx ?_
    refine AW.seq ?_
    refine AW.rs ?_
    refine AL.val rfl (.inl rfl) (HV.mv rfl) ?_
    refine AL.val rfl (.inl rfl) (HV.len Try.underlying161 rfl hq362.isSl) ?_
    refine AL.val rfl (.inl rfl) (HV.mv rfl) ?_
    refine AL.nx ?_
    refine AW.block ?_
    refine AW.loop (σ := Nat × List Int) (fun ⟨i, o⟩ => [(2, .pointer (some ⟨b3, 0, none⟩)), (9, .pointer (some ⟨b370, 0, none⟩)), (11, v408), (50, q358), (51, .int .i64 (S.2.length : Int)), (11, v408), (52, .int .i64 (i : Int))]) (fun ⟨i, o⟩ H' => Ext H H' ∧ Ext H4 H' ∧ Ext H359 H' ∧ Ext H388 H' ∧ At W H' b3 ⟨29, [.int .i64 p, .int .i64 k, v], 3⟩ ∧ At W H' b11 ⟨29, [.int .i64 p, .int .i64 (k + 1), vv], 3⟩ ∧ At W H' b370 ⟨29, [.int .i64 p, .int .i64 (k + 1), u357], 3⟩ ∧ i ≤ S.2.length ∧ o = outOf K S i ∧ (∀ j, j < i → S.2.getD j 0 ≠ (K : Int)) ∧ OwnK kI 2 W H' (fun b => H388.bd ≤ b) v408 o ∧ True) (fun ⟨i, o⟩ => S.2.length - i) (0, (List.replicate (k : Int).toNat (0 : Int))) ⟨X414, X415, X416, X417, hb418, hb419, hb420, Nat.zero_le _, by unfold outOf; simp only [List.range_zero, List.foldl_nil]; congr 1; omega, fun j hj => absurd hj (Nat.not_lt_zero _), ho411, trivial⟩ ⟨rfl, rfl, rfl, rfl, rfl, rfl, rfl, trivial⟩ ?_
    rintro ⟨i, o⟩ H422 ⟨X423, X424, X425, X426, hb427, hb428, hb429, hi, hoo, hno, hoL, _⟩
    have hol : o.length = K := by rw [hoo]; exact outOf_len _ _ _
    refine AW.rs ?_
    refine AL.val rfl (.inl rfl) (HV.lti rfl rfl) ?_
    refine AL.nx ?_
    refine AW.seq ?_
    refine AW.ifd rfl (fun c430 => ?_) (fun c430 => ?_)
    · -- then
      refine AW.skip ?_
      refine nrm_and ?_
      refine AW.seq ?_
      refine AW.block ?_
      refine AW.rs ?_
      refine AL.val rfl (.inl rfl) (HV.mv rfl) ?_
      obtain ⟨p431, z432, cs433, hz434, hK435, hC436, hP437⟩ := RdK.ix (q := (i : Int)) hq362 sl161 (by omega) (by omega)
      obtain rfl : cs433 = [.int .i64 z432] := hK435
      refine AL.val rfl (.inl rfl) (hP437 rfl rfl) ?_
      refine AL.val rfl (.inl rfl) (HV.ld rfl va3 (cells_first (hC436.ext X425) rfl)) ?_
      refine AL.val rfl (.inl rfl) (HV.as rfl) ?_
      refine AL.val rfl (.inl rfl) (HV.as rfl) ?_
      refine AL.nx ?_
      refine AW.seq ?_
      refine AW.rs ?_
      refine AL.val rfl (.inl rfl) (HV.mv rfl) ?_
      refine AL.val rfl (.inl rfl) (HV.fa fl29_1 rfl) ?_
      refine AL.val rfl (.inl rfl) (HV.ld rfl va2 (at_cell_add (j := 1) hb427 rfl)) ?_
      refine AL.val rfl (.inl rfl) (HV.eqi rfl rfl) ?_
      refine AL.nx ?_
      refine AW.ifd rfl (fun c438 => ?_) (fun c438 => ?_)
      · -- then
        refine AW.rs ?_
        refine AL.val rfl (.inl rfl) (HV.as rfl) ?_
        refine AL.val rfl (.inl rfl) (HV.as rfl) ?_
        refine AL.nx ?_
        refine AW.ret ?_
        refine ret_and (ret_blk (ret_and (ret_and (ret_blk (ret_and ?_)))))
        refine post_two rfl rfl rfl ?_ (.inr rfl)
        have hm : (K : Int) ∈ (ech p (besL l [vals] l.length) (K + 1)).2 := (by rw [← hS]; exact mem_getDI.2 ⟨i, by omega, by rw [(gd hz434 rfl : S.2.getD i 0 = z432)]; omega⟩); exact ⟨⟨_, by unfold solM; rw [if_pos hm], by unfold solM; rw [if_pos hm]; exact (OwnK.nil _)⟩, X423⟩
      · -- else
        refine AW.skip ?_
        refine nrm_and ?_
        refine AW.draw' [0, 0, 0, 4, 0, 28, 60, 0, 128, 508, 1020, 2047, 4095] mixed (by rfl) ?_
        have hb43 := s4 _ (List.mem_of_getElem? hz434)
        refine Dr.read 0 _ 61 _ rfl rfl rfl rfl rfl (RV.of (by intro _ _ h; cases h) (.inl rfl) (fun _ xd => HV.mv rfl)) ?_
        refine Dr.read 1 _ 62 _ rfl rfl rfl rfl rfl (RV.of (by intro _ _ h; cases h) (.inl rfl) (fun _ xd => HV.mv rfl)) ?_
        refine Dr.read 2 _ 63 _ rfl rfl rfl rfl rfl (RV.of (by intro _ _ h; cases h) (.inl rfl) (fun _ xd => HV.fa fl29_2 rfl)) ?_
        refine Dr.read 3 _ 64 _ rfl rfl rfl rfl rfl (RV.of (by intro _ _ h; cases h) (.inl rfl) (fun _ xd => HV.ld rfl va23 (rdc_ext xd (at_cell_add (j := 2) hb429 rfl)))) ?_
        refine Dr.read 4 _ 65 _ rfl rfl rfl rfl rfl (RV.of (by intro _ _ h; cases h) (.inl rfl) (fun _ xd => HV.mv rfl)) ?_
        obtain ⟨p439, z440, cs441, hz442, hK443, hC444, hP445⟩ := RdK.ix (q := (i : Int)) hu361 sl23 (by omega) (by rw [List.length_take]; omega)
        obtain ⟨v446, rfl, hr447⟩ := hK443
        have hm448 := hr447.max
        refine Dr.read 5 _ 66 _ rfl rfl rfl rfl rfl (RV.of (by intro _ _ h; cases h) (.inl rfl) (fun _ xd => hP445 rfl rfl)) ?_
        refine Dr.read 6 _ 67 _ rfl rfl rfl rfl rfl (RV.of (by intro _ _ h; cases h) (.inl rfl) (fun _ xd => HV.ld rfl va22 (rdc_ext xd (cells_first (hC444.ext X425) rfl)))) ?_
        refine Dr.read 7 _ 68 _ rfl rfl rfl rfl rfl (RV.of (by intro _ _ h; cases h) (.inl rfl) (fun _ xd => HV.fa fl29_1 rfl)) ?_
        refine Dr.read 8 _ 69 _ rfl rfl rfl rfl rfl (RV.of (by intro _ _ h; cases h) (.inl rfl) (fun _ xd => HV.ld rfl va2 (rdc_ext xd (at_cell_add (j := 1) hb427 rfl)))) ?_
        obtain ⟨p449, z450, cs451, hz452, hK453, hC454, hP455⟩ := RdK.ix (q := k) hr447 sl22 (by omega) (by have q := (s1 i (by omega)).1; rw [(gdt2 hz442 : S.1.getD i [] = z440)] at q; omega)
        obtain rfl : cs451 = [.int .i64 z450] := hK453
        refine Dr.read 9 _ 70 _ rfl rfl rfl rfl rfl (RV.of (by intro _ _ h; cases h) (.inl rfl) (fun _ xd => hP455 rfl rfl)) ?_
        refine Dr.read 10 _ 71 _ rfl rfl rfl rfl rfl (RV.of (by intro _ _ h; cases h) (.inl rfl) (fun _ xd => HV.ld rfl va2 (rdc_ext xd (cells_first (hC454.ext X425) rfl)))) ?_
        obtain ⟨g456, z457, cs458, hz459, hK460, hC461, hg462, hP463⟩ := OwnK.ix (q := z432) hoL sl22 (by omega) (by omega)
        have X464 := Ext.refl H422
        obtain rfl : cs458 = [.int .i64 z457] := hK460
        refine Dr.read 11 _ 72 _ rfl rfl rfl rfl rfl (RV.of (by intro _ _ h; cases h) (.inl rfl) (fun _ xd => hP463 rfl rfl)) ?_
        refine Dr.eff 12 _ _ rfl (by intro d h; cases h) rfl rfl rfl (EC.of (by intro _ _ h; cases h) (.inl rfl) (WV.stK (okx := fun _ => False) (x' := z450) hoL hg462 rfl rfl va2 (by omega) rfl (fun _ h => h.elim))) (fun v H' h => .inr (.inl rfl)) ?_
        rintro _ H465 ⟨hx466, ho467⟩
        have X468 := Ext.thru X423 hx466 (fun b hb => Nat.le_trans o404 (hoL.blk b hb).1)
        have X469 := Ext.thru X424 hx466 (fun b hb => Nat.le_trans o405 (hoL.blk b hb).1)
        have X470 := Ext.thru X425 hx466 (fun b hb => Nat.le_trans o406 (hoL.blk b hb).1)
        have X471 := Ext.thru X426 hx466 (fun b hb => Nat.le_trans o407 (hoL.blk b hb).1)
        have q473 := Nat.le_trans X464.bd hx466.bd
        have hb474 := hb427.but hx466 (fun e => by have q : H388.bd ≤ _ := (hoL.blk _ e).1; omega)
        have hb475 := hb428.but hx466 (fun e => by have q : H388.bd ≤ _ := (hoL.blk _ e).1; omega)
        have hb476 := hb429.but hx466 (fun e => by have q : H388.bd ≤ _ := (hoL.blk _ e).1; omega)
        have ho477 := ho467.okk (ok' := fun b => H388.bd ≤ b) (fun b hb _ => hb.elim id False.elim)
        refine Dr.fin rfl ?_
        refine nrm_blk (nrm_and ?_)
        refine AW.reg ?_
        refine AL.val rfl (.inl rfl) (HV.add rfl rfl (by omega)) ?_
        refine AL.val rfl (.inl rfl) (HV.mv rfl) ?_
        refine AL.nil ?_
        refine nrm_and ?_
        exact ⟨(i + 1, (o.set (z432 : Int).toNat z450)), ⟨X468, X469, X470, X471, hb474, hb475, hb476, by omega, by rw [outOf_succ, (gd hz434 rfl : S.2.getD i 0 = z432), (gdt2 hz442 : S.1.getD i [] = z440), (gd hz452 (by omega) : (z440).getD K 0 = z450), ← hoo], fun j hj => by
      rcases Nat.lt_or_ge j i with h1 | h1
      · exact hno j h1
      · obtain rfl : j = i := by omega
        rw [(gd hz434 rfl : S.2.getD j 0 = z432)]; omega, ho477, trivial⟩, by first | omega | (dsimp only; omega), ⟨rfl, rfl, rfl, rfl, rfl, rfl, rfl, trivial⟩⟩
    · -- else
      refine AW.exit ?_
      refine ex_and (ex_and (ex_blk ?_))
      refine nrm_and ?_
      refine AW.rs ?_
      refine AL.val rfl (.inl rfl) (HV.mv rfl) ?_
      refine AL.val rfl (.inl rfl) (HV.as rfl) ?_
      refine AL.val rfl (.inl rfl) (HV.as rfl) ?_
      refine AL.nx ?_
      refine AW.ret ?_
      refine post_two rfl rfl rfl ?_ (.inr rfl)
      have hm : ¬ (K : Int) ∈ (ech p (besL l [vals] l.length) (K + 1)).2 := (by rw [← hS]; intro hm; obtain ⟨j, hj, e⟩ := mem_getDI.1 hm; exact hno j (by omega) e); exact ⟨⟨_, by unfold solM; rw [if_neg hm], by unfold solM; rw [if_neg hm, ← hS, show S.2.length = i by omega, ← hoo]; exact hoL.okk (fun b hb _ => Nat.le_trans o404 hb)⟩, X423⟩
end Go.Proofs.Yticobjbjejpomaa.VC

