/- Walks. -/
import Derived.Test.YticobjbjejpomaaZF
import Derived.Test.YticobjbjejpomaaZM
set_option linter.unusedVariables false
set_option linter.unusedSimpArgs false
namespace Go.Proofs.Yticobjbjejpomaa.VC
open Go Go.RowKit
def isPr (p : Int) : Bool := decide (p ∈ ([2, 3, 5, 7, 11, 13, 17, 19, 23, 29, 31] : List Int))
theorem isPr_bd {p : Int} (h : isPr p = true) : 2 ≤ p ∧ p ≤ 31 := by
  simp only [isPr, decide_eq_true_eq, List.mem_cons, List.mem_nil_iff, or_false] at h
  omega
theorem emod_bd {p : Int} (hp : 0 < p) (a : Int) : 0 ≤ a % p ∧ a % p < p := ⟨Int.emod_nonneg _ (by omega), Int.emod_lt_of_pos _ hp⟩
def invM (p a : Int) : Int := (((List.range 31).map (fun n : Nat => (n : Int))).find? (fun x => decide (a * x % p = 1 ∧ 0 < x ∧ x < p))).getD 0
theorem invM_small : ∀ p a : Fin 32, isPr (p.val : Int) = true → 1 ≤ a.val → a.val < p.val → ((a.val : Int) * invM p.val a.val) % p.val = 1 ∧ 1 ≤ invM p.val a.val ∧ invM (p.val : Int) a.val < p.val := by decide +kernel
theorem invM_spec {p a : Int} (hp : isPr p = true) (h1 : 1 ≤ a) (h2 : a < p) : (a * invM p a) % p = 1 ∧ 1 ≤ invM p a ∧ invM p a < p := by
  have hb := isPr_bd hp
  obtain ⟨p, rfl⟩ : ∃ n : Nat, p = n := ⟨p.toNat, by omega⟩
  obtain ⟨a, rfl⟩ : ∃ n : Nat, a = n := ⟨a.toNat, by omega⟩
  exact invM_small ⟨p, by omega⟩ ⟨a, by omega⟩ hp (by simp only; omega) (by simp only; omega)

def Cg (p a b : Int) : Prop := ∃ k, a = b + p * k
theorem Cg.refl (p a : Int) : Cg p a a := ⟨0, by omega⟩
theorem Cg.of_eq {p a b : Int} (h : a = b) : Cg p a b := h ▸ Cg.refl p a
theorem Cg.symm {p a b : Int} (h : Cg p a b) : Cg p b a := by
  obtain ⟨k, h⟩ := h; exact ⟨-k, by grind⟩
theorem Cg.trans {p a b c : Int} (h : Cg p a b) (h' : Cg p b c) : Cg p a c := by
  obtain ⟨k, h⟩ := h; obtain ⟨k', h'⟩ := h'; exact ⟨k + k', by grind⟩
theorem Cg.add {p a b c d : Int} (h : Cg p a b) (h' : Cg p c d) : Cg p (a + c) (b + d) := by
  obtain ⟨k, h⟩ := h; obtain ⟨k', h'⟩ := h'; exact ⟨k + k', by grind⟩
theorem Cg.sub {p a b c d : Int} (h : Cg p a b) (h' : Cg p c d) : Cg p (a - c) (b - d) := by
  obtain ⟨k, h⟩ := h; obtain ⟨k', h'⟩ := h'; exact ⟨k - k', by grind⟩
theorem Cg.mul {p a b c d : Int} (h : Cg p a b) (h' : Cg p c d) : Cg p (a * c) (b * d) := by
  obtain ⟨k, h⟩ := h; obtain ⟨k', h'⟩ := h'; exact ⟨b * k' + k * d + p * k * k', by grind⟩
theorem Cg.mod (p a : Int) : Cg p (a % p) a := ⟨-(a / p), by have := Int.emod_def a p; grind⟩
theorem Cg.plus (p a : Int) : Cg p (a + p) a := ⟨1, by grind⟩
theorem Cg.emod_eq {p a b : Int} (h : Cg p a b) : a % p = b % p := by
  obtain ⟨k, h⟩ := h; rw [h, Int.add_mul_emod_self_left]
theorem Cg.eq {p a b : Int} (h : Cg p a b) (a0 : 0 ≤ a) (a1 : a < p) (b0 : 0 ≤ b) (b1 : b < p) : a = b := by
  have := h.emod_eq
  rwa [Int.emod_eq_of_lt a0 a1, Int.emod_eq_of_lt b0 b1] at this
theorem Cg.mod_l {p a b : Int} (h : Cg p a b) : Cg p (a % p) b := (Cg.mod p a).trans h
theorem Cg.of_emod {p a b : Int} (h : a % p = b % p) : Cg p a b := (Cg.mod p a).symm.trans ((Cg.of_eq h).trans (Cg.mod p b))
theorem inv_cg {p a : Int} (hp : isPr p = true) (h1 : 1 ≤ a) (h2 : a < p) : Cg p (a * invM p a) 1 := by
  have h := (invM_spec hp h1 h2).1
  have hb := isPr_bd hp
  exact (Cg.mod p _).symm.trans (Cg.of_eq h)
theorem isPr_all : ∀ p : Fin 32, 2 ≤ p.val → (∀ e : Fin 6, 2 ≤ e.val → e.val * e.val ≤ p.val → p.val % e.val ≠ 0) → isPr (p.val : Int) = true := by decide +kernel
theorem isPr_of {p : Int} (h : primeI p) : isPr p = true := by
  obtain ⟨⟨h1, h2⟩, h3⟩ := h
  obtain ⟨p, rfl⟩ : ∃ n : Nat, p = n := ⟨p.toNat, by omega⟩
  refine isPr_all ⟨p, by omega⟩ (by simp only; omega) (fun e he hp hq => h3 (e.val : Int) (by omega) (by exact_mod_cast hp) ?_)
  have : (p : Int) % (e.val : Int) = ((p % e.val : Nat) : Int) := by simp
  rw [this]
  simp only at hq
  rw [hq]; rfl
def powM (p a : Int) : Nat → Int
  | 0 => 1 % p
  | k + 1 => powM p a k * a % p
theorem powM_in {p a : Int} (hp : 0 < p) : ∀ k, 0 ≤ powM p a k ∧ powM p a k < p
  | 0 => emod_bd hp 1
  | k + 1 => emod_bd hp _
theorem pow_small : ∀ p a : Fin 32, isPr (p.val : Int) = true → 1 ≤ a.val → a.val < p.val → powM (p.val : Int) (a.val : Int) (p.val - 2) = invM p.val a.val := by decide +kernel
theorem pow_inv {p a : Int} (hp : isPr p = true) (h1 : 1 ≤ a) (h2 : a < p) : powM p a (p - 2).toNat = invM p a := by
  have hb := isPr_bd hp
  obtain ⟨p, rfl⟩ : ∃ n : Nat, p = n := ⟨p.toNat, by omega⟩
  obtain ⟨a, rfl⟩ : ∃ n : Nat, a = n := ⟨a.toNat, by omega⟩
  have := pow_small ⟨p, by omega⟩ ⟨a, by omega⟩ hp (by simp only; omega) (by simp only; omega)
  rw [show ((p : Int) - 2).toNat = p - 2 by omega]
  exact this
/-- The first i are changed. -/
def updF {α : Type} (d : α) (f : Nat → α) (lo : List α) (i : Nat) : List α := (List.range lo.length).map (fun j => if j < i then f j else lo.getD j d)
theorem updF_len {α : Type} (d : α) (f : Nat → α) (lo : List α) (i : Nat) : (updF d f lo i).length = lo.length := by simp [updF]
theorem updF_at {α : Type} {d z : α} {f : Nat → α} {lo : List α} {i : Nat} (hz : (updF d f lo i)[(i : Int).toNat]? = some z) : z = lo.getD i d := by
  rw [Int.toNat_natCast] at hz
  have hi := (List.getElem?_eq_some_iff.1 hz).1
  rw [updF_len] at hi
  unfold updF at hz
  rw [List.getElem?_map, List.getElem?_range hi] at hz
  simp at hz
  rw [← hz]; simp
theorem updF_set {α : Type} {d y : α} {f : Nat → α} {lo : List α} {i : Nat} (hy : y = f i) : (updF d f lo i).set (i : Int).toNat y = updF d f lo (i + 1) := by
  rw [Int.toNat_natCast]
  apply List.ext_getElem?
  intro q
  by_cases e : q = i
  · subst e
    rcases Nat.lt_or_ge q lo.length with h | h
    · rw [List.getElem?_set_self (by rw [updF_len]; exact h)]
      simp [updF, h, hy]
    · rw [List.getElem?_eq_none (by rw [List.length_set, updF_len]; exact h), List.getElem?_eq_none (by rw [updF_len]; exact h)]
  · rw [List.getElem?_set_ne (fun h => e h.symm)]
    unfold updF
    rw [List.getElem?_map, List.getElem?_map]
    rcases Nat.lt_or_ge q lo.length with h | h
    · rw [List.getElem?_range h]
      simp only [Option.map_some]
      by_cases h2 : q < i
      · rw [if_pos h2, if_pos (by omega)]
      · rw [if_neg h2, if_neg (by omega)]
    · rw [List.getElem?_eq_none (by simpa using h)]; rfl
theorem updF_zero {α : Type} (d : α) (f : Nat → α) (lo : List α) : updF d f lo 0 = lo := by
  apply List.ext_getElem?
  intro q
  unfold updF
  rw [List.getElem?_map]
  rcases Nat.lt_or_ge q lo.length with h | h
  · rw [List.getElem?_range h]; simp [h]
  · rw [List.getElem?_eq_none (by simpa using h), List.getElem?_eq_none h]; rfl
theorem updF_end {α : Type} {d : α} {f : Nat → α} {lo : List α} {i : Nat} (h : lo.length ≤ i) : updF d f lo i = (List.range lo.length).map f := by
  unfold updF
  refine List.map_congr_left fun j hj => ?_
  rw [if_pos (by have := List.mem_range.1 hj; omega)]
theorem getD_in {p : Int} {a : List Int} (h : elems p a) (hp : 0 < p) (j : Nat) : 0 ≤ a.getD j 0 ∧ a.getD j 0 ≤ p - 1 := by
  rcases Nat.lt_or_ge j a.length with h1 | h1
  · exact h j h1
  · rw [List.getD_eq_getElem?_getD, List.getElem?_eq_none h1]; simp; omega
theorem getD_ge {α : Type} {a : List α} {d : α} {j : Nat} (h : ¬ j < a.length) : a.getD j d = d := by
  rw [List.getD_eq_getElem?_getD, List.getElem?_eq_none (by omega)]; rfl
def scl (p t : Int) (c : List Int) : List Int := (List.range c.length).map (fun j => c.getD j 0 * t % p)
theorem scl_len (p t : Int) (c : List Int) : (scl p t c).length = c.length := by simp [scl]
theorem scl_in {p : Int} (hp : 0 < p) (t : Int) (c : List Int) : elems p (scl p t c) := fun j hj => by
  rw [scl_len] at hj
  have h := emod_bd hp (c.getD j 0 * t)
  have e : (scl p t c).getD j 0 = c.getD j 0 * t % p := by simp [scl, hj]
  rw [e]; omega
/-! ### Gauss -/
/-- A row, less t times another one. -/
def offR (p t : Int) (l m : List Int) : List Int := (List.range l.length).map (fun j => (l.getD j 0 + (p - t) * m.getD j 0) % p)
theorem offR_len (p t : Int) (l m : List Int) : (offR p t l m).length = l.length := by simp [offR]
theorem offR_get {p t : Int} {l m : List Int} {j : Nat} (h : j < l.length) : (offR p t l m).getD j 0 = (l.getD j 0 + (p - t) * m.getD j 0) % p := by
  simp [offR, List.getD_eq_getElem?_getD, h]
theorem offR_in {p : Int} (hp : 0 < p) (t : Int) (l m : List Int) : elems p (offR p t l m) := fun j hj => by
  rw [offR_len] at hj
  rw [offR_get hj]
  have := emod_bd hp (l.getD j 0 + (p - t) * m.getD j 0)
  omega
theorem scl_get {p t : Int} {l : List Int} {j : Nat} (h : j < l.length) : (scl p t l).getD j 0 = l.getD j 0 * t % p := by
  simp [scl, List.getD_eq_getElem?_getD, h]
/-- The first row from n on that isn't 0 in a column. -/
def findR (rows : List (List Int)) (c : Nat) : Nat → Nat → Nat
  | 0, a => a
  | d + 1, a => if (rows.getD a []).getD c 0 = 0 then findR rows c d (a + 1) else a
theorem findR_eq {rows : List (List Int)} {c : Nat} : ∀ {d a b : Nat}, a ≤ b → b ≤ a + d → (∀ j, a ≤ j → j < b → (rows.getD j []).getD c 0 = 0) → (b = a + d ∨ (rows.getD b []).getD c 0 ≠ 0) → findR rows c d a = b
  | 0, a, b, h1, h2, _, _ => by simp only [findR]; omega
  | d + 1, a, b, h1, h2, hz, he => by
    simp only [findR]
    rcases Nat.lt_or_ge a b with h | h
    · rw [if_pos (hz a (Nat.le_refl _) h)]
      exact findR_eq (by omega) (by omega) (fun j g1 g2 => hz j (by omega) g2) (he.imp (by omega) id)
    · obtain rfl : a = b := by omega
      rw [if_neg (he.resolve_left (by omega))]
theorem findR_spec {rows : List (List Int)} {c : Nat} : ∀ (d a : Nat), a ≤ findR rows c d a ∧ findR rows c d a ≤ a + d ∧ (∀ j, a ≤ j → j < findR rows c d a → (rows.getD j []).getD c 0 = 0) ∧ (findR rows c d a = a + d ∨ (rows.getD (findR rows c d a) []).getD c 0 ≠ 0)
  | 0, a => ⟨Nat.le_refl _, Nat.le_refl _, fun j h1 h2 => by simp only [findR] at h2; omega, .inl rfl⟩
  | d + 1, a => by
    simp only [findR]
    split
    · rename_i h
      obtain ⟨h1, h2, h3, h4⟩ := findR_spec (rows := rows) (c := c) d (a + 1)
      refine ⟨by omega, by omega, fun j g1 g2 => ?_, h4.imp (by omega) id⟩
      rcases Nat.lt_or_ge a j with g | g
      · exact h3 j g g2
      · obtain rfl : j = a := by omega
        exact h
    · rename_i h
      exact ⟨Nat.le_refl _, by omega, fun j g1 g2 => by omega, .inr h⟩
def swapL (l : List (List Int)) (i j : Nat) : List (List Int) := (l.set i (l.getD j [])).set j (l.getD i [])
theorem swapL_len (l : List (List Int)) (i j : Nat) : (swapL l i j).length = l.length := by simp [swapL]
theorem swapL_get {l : List (List Int)} {i j k : Nat} (hi : i < l.length) (hj : j < l.length) : (swapL l i j).getD k [] = if k = j then l.getD i [] else if k = i then l.getD j [] else l.getD k [] := by
  simp only [swapL, List.getD_eq_getElem?_getD, List.getElem?_set, List.length_set]
  by_cases h1 : j = k
  · subst h1; simp [hj]
  · by_cases h2 : i = k
    · subst h2
      have h1' : ¬ i = j := fun e => h1 e.symm
      simp [h1, h1', hi]
    · have h1' : ¬ k = j := fun e => h1 e.symm
      have h2' : ¬ k = i := fun e => h2 e.symm
      simp [h1, h2, h1', h2']
/-- All rows but one, less what makes their element in a column 0; of the first i ones. -/
def clrAt (p : Int) (c n : Nat) (rows : List (List Int)) (i : Nat) : List Int := if i = n then rows.getD i [] else offR p ((rows.getD i []).getD c 0) (rows.getD i []) (rows.getD n [])
def clrL (p : Int) (c n : Nat) (rows : List (List Int)) (i : Nat) : List (List Int) := updF [] (clrAt p c n rows) rows i
def normR (p : Int) (c : Nat) (r : List Int) : List Int := scl p (invM p (r.getD c 0)) r
def stepE (p : Int) (s : List (List Int) × List Int) (c : Nat) : List (List Int) × List Int :=
  let n := s.2.length
  let a := findR s.1 c (s.1.length - n) n
  if a = s.1.length then s else
  let r1 := swapL s.1 n a
  let r2 := r1.set n (normR p c (r1.getD n []))
  (clrL p c n r2 r2.length, s.2 ++ [(c : Int)])
def ech (p : Int) (rows : List (List Int)) (c : Nat) : List (List Int) × List Int := (List.range c).foldl (stepE p) (rows, [])
theorem ech_succ (p : Int) (rows : List (List Int)) (c : Nat) : ech p rows (c + 1) = stepE p (ech p rows c) c := by
  unfold ech
  rw [List.range_succ, List.foldl_append]; rfl
/-- Rows of one length of elements. -/
def rect (p : Int) (K : Nat) (rows : List (List Int)) : Prop := ∀ i, i < rows.length → (rows.getD i []).length = K ∧ elems p (rows.getD i [])
theorem rect.set {p : Int} {K : Nat} {rows : List (List Int)} (h : rect p K rows) {x : List Int} (hx : x.length = K ∧ elems p x) (n : Nat) : rect p K (rows.set n x) := fun i hi => by
  rw [List.length_set] at hi
  rw [List.getD_eq_getElem?_getD, List.getElem?_set]
  split
  · rename_i e; subst e; simp [hi, hx]
  · rw [← List.getD_eq_getElem?_getD]; exact h i hi
theorem rect.swap {p : Int} {K : Nat} {rows : List (List Int)} (h : rect p K rows) {i j : Nat} (hi : i < rows.length) (hj : j < rows.length) : rect p K (swapL rows i j) := (h.set (h j hj) i).set (h i hi) j
theorem clrL_len (p : Int) (c n : Nat) (rows : List (List Int)) (i : Nat) : (clrL p c n rows i).length = rows.length := updF_len _ _ _ _
theorem clrL_get {p : Int} {c n : Nat} {rows : List (List Int)} {i j : Nat} (hj : j < rows.length) : (clrL p c n rows i).getD j [] = if j < i then clrAt p c n rows j else rows.getD j [] := by
  simp [clrL, updF, List.getD_eq_getElem?_getD, hj]
theorem rect.clr {p : Int} (hp : 0 < p) {K : Nat} {rows : List (List Int)} (h : rect p K rows) (c n i : Nat) : rect p K (clrL p c n rows i) := fun j hj => by
  rw [clrL_len] at hj
  rw [clrL_get hj]
  split
  · unfold clrAt
    split
    · exact h j hj
    · exact ⟨(offR_len _ _ _ _).trans (h j hj).1, offR_in hp _ _ _⟩
  · exact h j hj
theorem rect.norm {p : Int} (hp : 0 < p) {K : Nat} {r : List Int} (h : r.length = K) (c : Nat) : (normR p c r).length = K ∧ elems p (normR p c r) := ⟨(scl_len _ _ _).trans h, scl_in hp _ _⟩
theorem rect.step {p : Int} (hp : 0 < p) {K : Nat} {s : List (List Int) × List Int} (h : rect p K s.1) (hn : s.2.length ≤ s.1.length) (c : Nat) : rect p K (stepE p s c).1 ∧ (stepE p s c).1.length = s.1.length ∧ (stepE p s c).2.length ≤ s.1.length ∧ ((stepE p s c).2 = s.2 ∨ (stepE p s c).2 = s.2 ++ [(c : Int)]) := by
  unfold stepE
  simp only
  obtain ⟨h1, h2, _, _⟩ := findR_spec (rows := s.1) (c := c) (s.1.length - s.2.length) s.2.length
  split
  · exact ⟨h, rfl, hn, .inl rfl⟩
  · rename_i hne
    have ha : findR s.1 c (s.1.length - s.2.length) s.2.length < s.1.length := by omega
    have g1 := h.swap (i := s.2.length) (j := findR s.1 c (s.1.length - s.2.length) s.2.length) (by omega) ha
    have g2 := g1 s.2.length (by rw [swapL_len]; omega)
    exact ⟨rect.clr hp (g1.set (rect.norm hp g2.1 c) _) _ _ _, by rw [clrL_len, List.length_set, swapL_len], by simp; omega, .inr rfl⟩
theorem ech_ok {p : Int} (hp : 0 < p) {K : Nat} {rows : List (List Int)} (h : rect p K rows) : ∀ c : Nat, rect p K (ech p rows c).1 ∧ (ech p rows c).1.length = rows.length ∧ (ech p rows c).2.length ≤ rows.length ∧ (∀ q ∈ (ech p rows c).2, 0 ≤ q ∧ q < c)
  | 0 => ⟨h, rfl, Nat.zero_le _, fun q hq => by cases hq⟩
  | c + 1 => by
    obtain ⟨h1, h2, h3, h4⟩ := ech_ok hp h c
    rw [ech_succ]
    obtain ⟨g1, g2, g3, g4⟩ := rect.step hp h1 (by omega) c
    refine ⟨g1, by omega, by omega, fun q hq => ?_⟩
    rcases g4 with e | e
    · rw [e] at hq; have := h4 q hq; omega
    · rw [e] at hq
      rcases List.mem_append.1 hq with hq | hq
      · have := h4 q hq; omega
      · have : q = (c : Int) := by simpa using hq
        omega
/-- When there is no room left, nothing happens. -/
theorem stepE_full {p : Int} {s : List (List Int) × List Int} (h : s.2.length = s.1.length) (c : Nat) : stepE p s c = s := by
  unfold stepE
  have : findR s.1 c (s.1.length - s.2.length) s.2.length = s.1.length := by rw [h, Nat.sub_self]; rfl
  simp only [this, if_true]
theorem ech_full {p : Int} {rows : List (List Int)} {c : Nat} (h : (ech p rows c).2.length = (ech p rows c).1.length) : ∀ d : Nat, ech p rows (c + d) = ech p rows c
  | 0 => rfl
  | d + 1 => by
    have e := ech_full h d
    rw [show c + (d + 1) = c + d + 1 by omega, ech_succ, e]
    exact stepE_full h _
theorem stepE_no {p : Int} {s : List (List Int) × List Int} {c a : Nat} (hn : s.2.length ≤ a) (ha : a = s.1.length) (hz : ∀ j, s.2.length ≤ j → j < a → (s.1.getD j []).getD c 0 = 0) : stepE p s c = s := by
  have : findR s.1 c (s.1.length - s.2.length) s.2.length = s.1.length := findR_eq (by omega) (by omega) (fun j h1 h2 => hz j h1 (by omega)) (.inl (by omega))
  unfold stepE
  simp only [this, if_true]
theorem stepE_yes {p : Int} {s : List (List Int) × List Int} {c a : Nat} (hn : s.2.length ≤ a) (ha : a < s.1.length) (hz : ∀ j, s.2.length ≤ j → j < a → (s.1.getD j []).getD c 0 = 0) (hy : (s.1.getD a []).getD c 0 ≠ 0) :
    stepE p s c = (clrL p c s.2.length ((swapL s.1 s.2.length a).set s.2.length (normR p c ((swapL s.1 s.2.length a).getD s.2.length []))) s.1.length, s.2 ++ [(c : Int)]) := by
  have : findR s.1 c (s.1.length - s.2.length) s.2.length = a := findR_eq hn (by omega) hz (.inr hy)
  unfold stepE
  simp only [this]
  rw [if_neg (by omega), List.length_set, swapL_len]
/-- A column. -/
def colT (rows : List (List Int)) (c : Nat) : List Int := rows.map (fun r => r.getD c 0)
theorem colT_get {rows : List (List Int)} {c j : Nat} : (colT rows c).getD j 0 = (rows.getD j []).getD c 0 := by
  simp only [colT, List.getD_eq_getElem?_getD, List.getElem?_map]
  cases rows[j]? <;> rfl
theorem pow_zero {p a : Int} (hp : 2 ≤ p) : (1 : Int) = powM p a 0 := (Int.emod_eq_of_lt (by decide) (by omega)).symm
theorem tk_snoc {α : Type} {l : List α} {i : Nat} {z : α} (hz : l[(i : Int).toNat]? = some z) : l.take (i + 1) = l.take i ++ [z] := by
  rw [Int.toNat_natCast] at hz
  rw [List.take_add_one, hz]; rfl
theorem rect_at {p : Int} {K : Nat} {l : List (List Int)} {q : Int} {z : List Int} (h : rect p K l) (hz : l[q.toNat]? = some z) : z.length = K ∧ elems p z := by
  have hi := (List.getElem?_eq_some_iff.1 hz).1
  have := h q.toNat hi
  rwa [List.getD_eq_getElem?_getD, hz] at this
def addF (p x : Int) (lo l : List Int) (j : Nat) : Int := (lo.getD j 0 + l.getD j 0 * x) % p
def addR (p x : Int) (lo l : List Int) : List Int := (List.range lo.length).map (addF p x lo l)
/-- Rows with more columns. -/
def besAt (l cols : List (List Int)) (i : Nat) : List Int := l.getD i [] ++ colT cols i
def besL (l cols : List (List Int)) (n : Nat) : List (List Int) := (List.range n).map (besAt l cols)
theorem besL_succ (l cols : List (List Int)) (n : Nat) : besL l cols (n + 1) = besL l cols n ++ [besAt l cols n] := by
  unfold besL
  rw [List.range_succ, List.map_append]; rfl
theorem besL_len (l cols : List (List Int)) (n : Nat) : (besL l cols n).length = n := by simp [besL]
theorem besL_get {l cols : List (List Int)} {n i : Nat} (h : i < n) : (besL l cols n).getD i [] = besAt l cols i := by
  simp [besL, List.getD_eq_getElem?_getD, h]
theorem clr_set {p : Int} {c n i : Nat} {R : List (List Int)} {z y : List Int} (hz : (clrL p c n R i)[(i : Int).toNat]? = some z) (hne : i ≠ n) (hy : y = offR p (z.getD c 0) z (R.getD n [])) : (clrL p c n R i).set (i : Int).toNat y = clrL p c n R (i + 1) := by
  have e := updF_at hz
  subst e
  exact updF_set (by unfold clrAt; rw [if_neg hne]; exact hy)
theorem clr_same {p : Int} {c n i : Nat} {R : List (List Int)} (h : i < R.length → clrAt p c n R i = R.getD i []) : clrL p c n R i = clrL p c n R (i + 1) := by
  apply list_eq (d := []) (by rw [clrL_len, clrL_len])
  intro j hj
  rw [clrL_len] at hj
  rw [clrL_get hj, clrL_get hj]
  by_cases e : j = i
  · subst e; rw [if_neg (Nat.lt_irrefl _), if_pos (Nat.lt_succ_self _), h hj]
  · by_cases e2 : j < i
    · rw [if_pos e2, if_pos (by omega)]
    · rw [if_neg e2, if_neg (by omega)]
theorem clr_n {p : Int} {c n i : Nat} {R : List (List Int)} (e : i = n) : clrL p c n R i = clrL p c n R (i + 1) := clr_same (fun _ => by unfold clrAt; rw [if_pos e])
theorem clr_at_n {p : Int} {c n i : Nat} {R : List (List Int)} (hn : n < R.length) : (clrL p c n R i).getD n [] = R.getD n [] := by
  rw [clrL_get hn]
  split
  · unfold clrAt; rw [if_pos rfl]
  · rfl
theorem clr_begin (p : Int) (c n : Nat) (R : List (List Int)) : clrL p c n R 0 = R := updF_zero _ _ _
theorem swapL_fst {l : List (List Int)} {i j : Nat} (hi : i < l.length) (hj : j < l.length) : (swapL l i j).getD i [] = l.getD j [] := by
  rw [swapL_get hi hj]
  split
  · rename_i e; rw [e]
  · rw [if_pos rfl]
variable {W : World} {H : Hp}

set_option maxRecDepth 100000 in
theorem cloneI_ok {v : Value} {l : List Int} {ok : Nat → Prop} (hr : RdK kI W H ok v l) (hl : l.length ≤ 1048576) : ACalls Try.prog W 87 #[v] H (fun r H' => Ext H H' ∧ OwnK kI 2 W H' (fun b => H.bd ≤ b) r l) := by
  refine ACalls.of (args := [v]) Try.func87 rfl rfl ?_
  have X0 := Ext.refl H
  have hm1 := hr.max
  refine AW.rs ?_
  refine AL.val rfl (.inl rfl) (HV.as rfl) ?_
  refine AL.nx ?_
  refine AW.seq ?_
  refine AW.rs ?_
  refine AL.val rfl (.inl rfl) (HV.mv rfl) ?_
  refine AL.val rfl (.inl rfl) (HV.nne Try.underlying22 hr.isSl rfl rfl) ?_
  refine AL.nx ?_
  refine AW.cond rfl (fun c2 => ?_) (fun c2 => ?_)
  · -- then
    refine AW.rs ?_
    refine AL.val rfl (.inl rfl) (HV.as rfl) ?_
    refine AL.nx ?_
    refine AW.ret ?_
    refine ret_and ?_
    refine post_one rfl rfl ?_ (.inr rfl)
    exact ⟨X0, by rw [nn_nil hr (by assumption)]; exact OwnK.nil _⟩
  · -- else
    refine AW.skip ?_
    refine nrm_and ?_
    refine AW.rs ?_
    have o3 := X0.bd
    refine AL.w rfl (.inl rfl) (WV.bsK (K := kI) (l := ([] : List Int)) (css := []) sl22 rfl rfl (by first | rfl | (simp [Instr.fill, Value.cells, kI, kB, kU, kU8, kS, Kd.sc]; done) | (simp [Instr.fill, Value.cells, kI, kB, kU, kU8, kS, Kd.sc, rng1, rng2, rng3, rng4, kP])) rfl segs_nil) ?_
    rintro v4 H5 ⟨hx6, ho7⟩
    have X8 := Ext.trans X0 hx6
    refine AL.val rfl (.inl rfl) (HV.mv rfl) ?_
    have X10 := Ext.refl H5
    refine AL.w rfl (.inl rfl) (WV.apk sl22 rfl rfl ho7 (hr.lo.ext X8) (by simp; omega) (by simp; omega) (fun b hb _ e => by have h1 : H.bd ≤ b := (ho7.blk b e).1; have h2 : b < H.bd := hb; have h3 := o3; omega)) ?_
    rintro v11 H12 ⟨hx13, ho14, hb15⟩
    have ho16 := ho14.narrow (ok' := fun b => H.bd ≤ b) kI_flat (fun b q => (hb15 b q).elim (fun e => (ho7.blk b e).1) (fun e => Nat.le_trans X8.bd e))
    have X17 := Ext.thru X8 hx13 (fun b hb => Nat.le_trans o3 (ho7.blk b hb).1)
    refine AL.val rfl (.inl rfl) (HV.as rfl) ?_
    refine AL.nx ?_
    refine AW.ret ?_
    refine post_one rfl rfl ?_ (.inr rfl)
    exact ⟨X17, ho16.okk (fun b hb _ => Nat.le_trans o3 hb)⟩

set_option maxRecDepth 100000 in
theorem l00Own_ok {v : Value} {l : List Int} {ok : Nat → Prop} (hr : RdK kI W H ok v l) (hl : l.length ≤ 1048576) : ACalls Try.prog W 85 #[v] H (fun r H' => Ext H H' ∧ OwnK kI 2 W H' (fun b => H.bd ≤ b) r l) := by
  refine ACalls.of (args := [v]) Try.func85 rfl rfl ?_
  have X0 := Ext.refl H
  have hm1 := hr.max
  refine AW.rs ?_
  refine AL.val rfl (.inl rfl) (HV.as rfl) ?_
  refine AL.nx ?_
  refine AW.rs ?_
  have o2 := X0.bd
  refine AL.w rfl (.inl rfl) (WV.bsK (K := kI) (l := ([] : List Int)) (css := []) sl22 rfl rfl (by first | rfl | (simp [Instr.fill, Value.cells, kI, kB, kU, kU8, kS, Kd.sc]; done) | (simp [Instr.fill, Value.cells, kI, kB, kU, kU8, kS, Kd.sc, rng1, rng2, rng3, rng4, kP])) rfl segs_nil) ?_
  rintro v3 H4 ⟨hx5, ho6⟩
  have X7 := Ext.trans X0 hx5
  refine AL.val rfl (.inl rfl) (HV.mv rfl) ?_
  have X9 := Ext.refl H4
  refine AL.w rfl (.inl rfl) (WV.apk sl22 rfl rfl ho6 (hr.lo.ext X7) (by simp; omega) (by simp; omega) (fun b hb _ e => by have h1 : H.bd ≤ b := (ho6.blk b e).1; have h2 : b < H.bd := hb; have h3 := o2; omega)) ?_
  rintro v10 H11 ⟨hx12, ho13, hb14⟩
  have ho15 := ho13.narrow (ok' := fun b => H.bd ≤ b) kI_flat (fun b q => (hb14 b q).elim (fun e => (ho6.blk b e).1) (fun e => Nat.le_trans X7.bd e))
  have X16 := Ext.thru X7 hx12 (fun b hb => Nat.le_trans o2 (ho6.blk b hb).1)
  refine AL.val rfl (.inl rfl) (HV.as rfl) ?_
  refine AL.nx ?_
  refine AW.ret ?_
  refine post_one rfl rfl ?_ (.inr rfl)
  exact ⟨X16, ho15.okk (fun b hb _ => Nat.le_trans o2 hb)⟩

set_option maxRecDepth 100000 in
theorem power_ok (p a n : Int) (hp : 2 ≤ p ∧ p ≤ 31) (ha : 0 ≤ a ∧ a ≤ 31) (hn : 0 ≤ n ∧ n ≤ 31) : ACalls Try.prog W 161 #[.int .i64 p, .int .i64 a, .int .i64 n] H (fun r H' => r = .int .i64 (powM p a n.toNat) ∧ Ext H H') := by
  refine ACalls.of (args := [.int .i64 p, .int .i64 a, .int .i64 n]) Try.func161 rfl rfl ?_
  have X0 := Ext.refl H
  refine AW.rs ?_
  refine AL.val rfl (.inl rfl) (HV.as rfl) ?_
  refine AL.nx ?_
  refine AW.rs ?_
  refine AL.val rfl (.inl rfl) (HV.mv rfl) ?_
  refine AL.val rfl (.inl rfl) (HV.rem rfl rfl (by omega)) ?_
  refine AL.val rfl (.inl rfl) (HV.as rfl) ?_
  refine AL.nx ?_
  refine AW.seq ?_
  refine AW.rs ?_
  refine AL.val rfl (.inl rfl) (HV.mv rfl) ?_
  refine AL.val rfl (.inl rfl) (HV.mv rfl) ?_
  refine AL.nx ?_
  refine AW.block ?_
  refine AW.loop (σ := Nat) (fun i => [(0, .int .i64 p), (1, .int .i64 a), (6, .int .i64 0), (10, .int .i64 n), (7, .int .i64 (powM p a i)), (11, .int .i64 (i : Int))]) (fun i H' => Ext H H' ∧ (i : Int) ≤ n ∧ True) (fun i => n.toNat - i) 0 ⟨X0, by omega, trivial⟩ ⟨rfl, rfl, rfl, rfl, rfl, rfl, trivial⟩ ?_
  rintro i H1 ⟨X2, hi, _⟩
  refine AW.rs ?_
  refine AL.val rfl (.inl rfl) (HV.lti rfl rfl) ?_
  refine AL.nx ?_
  refine AW.seq ?_
  refine AW.ifd rfl (fun c3 => ?_) (fun c3 => ?_)
  · -- then
    refine AW.skip ?_
    refine nrm_and ?_
    refine AW.seq ?_
    refine AW.block ?_
    refine AW.reg ?_
    refine AL.val rfl (.inl rfl) (HV.mv rfl) ?_
    refine AL.val rfl (.inl rfl) (HV.mv rfl) ?_
    refine AL.val rfl (.inl rfl) (HV.mul rfl rfl (by have q := powM_in (a := a) (show 0 < p by omega) i; have := mul31 (a := powM p a i) (b := a) (by omega) (by omega) (by omega) (by omega); omega)) ?_
    refine AL.val rfl (.inl rfl) (HV.mv rfl) ?_
    refine AL.val rfl (.inl rfl) (HV.rem rfl rfl (by have q := powM_in (a := a) (show 0 < p by omega) i; have := mul31 (a := powM p a i) (b := a) (by omega) (by omega) (by omega) (by omega); omega)) ?_
    refine AL.val rfl (.inl rfl) (HV.as rfl) ?_
    refine AL.nil ?_
    refine nrm_blk (nrm_and ?_)
    refine AW.reg ?_
    refine AL.val rfl (.inl rfl) (HV.add rfl rfl (by omega)) ?_
    refine AL.val rfl (.inl rfl) (HV.mv rfl) ?_
    refine AL.nil ?_
    refine nrm_and ?_
    exact ⟨i + 1, ⟨X2, by omega, trivial⟩, by first | omega | (dsimp only; omega), ⟨rfl, rfl, rfl, rfl, rfl, rfl, trivial⟩⟩
  · -- else
    refine AW.exit ?_
    refine ex_and (ex_and (ex_blk ?_))
    refine nrm_and ?_
    refine AW.rs ?_
    refine AL.val rfl (.inl rfl) (HV.mv rfl) ?_
    refine AL.val rfl (.inl rfl) (HV.as rfl) ?_
    refine AL.nx ?_
    refine AW.ret ?_
    refine post_one rfl rfl ?_ (.inr rfl)
    exact ⟨by have e : i = n.toNat := (by omega); rw [e], X2⟩

set_option maxRecDepth 100000 in
theorem inverse_ok (p a : Int) (hq : isPr p = true) (h1 : 1 ≤ a) (h2 : a < p) : ACalls Try.prog W 141 #[.int .i64 p, .int .i64 a] H (fun r H' => r = .int .i64 (invM p a) ∧ Ext H H') := by
  refine ACalls.of (args := [.int .i64 p, .int .i64 a]) Try.func141 rfl rfl ?_
  have X0 := Ext.refl H
  have hb := isPr_bd hq
  refine AW.rs ?_
  refine AL.val rfl (.inl rfl) (HV.as rfl) ?_
  refine AL.nx ?_
  refine AW.rs ?_
  refine AL.val rfl (.inl rfl) (HV.mv rfl) ?_
  refine AL.val rfl (.inl rfl) (HV.mv rfl) ?_
  refine AL.val rfl (.inl rfl) (HV.mv rfl) ?_
  refine AL.val rfl (.inl rfl) (HV.sub rfl rfl (by omega)) ?_
  refine AL.w rfl (.inl rfl) (WV.call fn161 rfl (power_ok (W := W) p a (p - 2) (by omega) (by omega) (by omega))) ?_
  rintro _ H1 ⟨rfl, hx2⟩
  have X3 := Ext.trans X0 hx2
  refine AL.val rfl (.inl rfl) (HV.as rfl) ?_
  refine AL.nx ?_
  refine AW.ret ?_
  refine post_one rfl rfl ?_ (.inr rfl)
  exact ⟨congrArg (Value.int .i64) (pow_inv hq h1 h2), X3⟩

set_option maxRecDepth 100000 in
theorem scaled_ok {v : Value} {l : List Int} {ok : Nat → Prop} {p t : Int} (ho : OwnK kI 2 W H ok v l) (hp : 2 ≤ p ∧ p ≤ 31) (hle : elems p l) (ht : 0 ≤ t ∧ t ≤ p - 1) : ACalls Try.prog W 142 #[.int .i64 p, v, .int .i64 t] H (fun r H' => But (fun b => some b = v.ownBlock) H H' ∧ OwnK kI 2 W H' ok v (scl p t l)) := by
  refine ACalls.of (args := [.int .i64 p, v, .int .i64 t]) Try.func142 rfl rfl ?_
  have X0 := Ext.refl H
  have B0 := But.refl (fun b => some b = v.ownBlock) H
  have hmL := ho.rd.max
  refine AW.rs ?_
  refine AL.val rfl (.inl rfl) (HV.mv rfl) ?_
  refine AL.val rfl (.inl rfl) (HV.len Try.underlying22 rfl ho.rd.isSl) ?_
  refine AL.val rfl (.inl rfl) (HV.mv rfl) ?_
  refine AL.nx ?_
  refine AW.block ?_
  refine AW.loop (σ := Nat × List Int) (fun ⟨i, k⟩ => [(0, .int .i64 p), (1, v), (2, .int .i64 t), (8, .int .i64 (l.length : Int)), (1, v), (9, .int .i64 (i : Int))]) (fun ⟨i, k⟩ H' => i ≤ l.length ∧ k = updF 0 (fun j => l.getD j 0 * t % p) l i ∧ k.length = l.length ∧ OwnK kI 2 W H' ok v k ∧ But (fun b => some b = v.ownBlock) H H' ∧ True) (fun ⟨i, k⟩ => l.length - i) (0, l) ⟨Nat.zero_le _, (updF_zero _ _ _).symm, rfl, ho, B0, trivial⟩ ⟨rfl, rfl, rfl, rfl, rfl, rfl, trivial⟩ ?_
  rintro ⟨i, k⟩ H1 ⟨hi, hk, hk2, hoL, hB, _⟩
  refine AW.rs ?_
  refine AL.val rfl (.inl rfl) (HV.lti rfl rfl) ?_
  refine AL.nx ?_
  refine AW.seq ?_
  refine AW.ifd rfl (fun c2 => ?_) (fun c2 => ?_)
  · -- then
    refine AW.skip ?_
    refine nrm_and ?_
    refine AW.seq ?_
    refine AW.block ?_
    refine AW.rs ?_
    refine AL.val rfl (.inl rfl) (HV.mv rfl) ?_
    refine AL.val rfl (.inl rfl) (HV.as rfl) ?_
    refine AL.nx ?_
    refine AW.reg ?_
    refine AL.val rfl (.inl rfl) (HV.mv rfl) ?_
    refine AL.val rfl (.inl rfl) (HV.mv rfl) ?_
    refine AL.val rfl (.inl rfl) (HV.mv rfl) ?_
    refine AL.val rfl (.inl rfl) (HV.mv rfl) ?_
    obtain ⟨g3, z4, cs5, hz6, hK7, hC8, hg9, hP10⟩ := OwnK.ix (q := (i : Int)) hoL sl22 (by omega) (by omega)
    have X11 := Ext.refl H1
    obtain rfl : cs5 = [.int .i64 z4] := hK7
    refine AL.val rfl (.inl rfl) (hP10 rfl rfl) ?_
    refine AL.val rfl (.inl rfl) (HV.ld rfl va2 (cells_first hC8 rfl)) ?_
    refine AL.val rfl (.inl rfl) (HV.mv rfl) ?_
    have e16 : z4 = l.getD i 0 := updF_at (by rw [← hk]; exact hz6)
    have b16 := getD_in hle (show 0 < p by omega) i
    have q16 := mul31 (a := z4) (b := t) (by omega) (by omega) (by omega) (by omega)
    refine AL.val rfl (.inl rfl) (HV.mul rfl rfl (by omega)) ?_
    refine AL.val rfl (.inl rfl) (HV.mv rfl) ?_
    refine AL.val rfl (.inl rfl) (HV.rem rfl rfl (by omega)) ?_
    obtain ⟨g12, z13, cs14, hz15, hK16, hC17, hg18, hP19⟩ := OwnK.ix (q := (i : Int)) hoL sl22 (by omega) (by omega)
    obtain rfl : cs14 = [.int .i64 z13] := hK16
    refine AL.val rfl (.inl rfl) (hP19 rfl rfl) ?_
    refine AL.w0 (.inl rfl) (WV.stK (okx := fun _ => False) (x' := (z4 * t) % p) hoL hg18 rfl rfl va2 (by omega) rfl (fun _ h => h.elim)) ?_
    rintro _ H20 ⟨hx21, ho22⟩
    have B24 := But.trans hB hx21
    have ho25 := ho22.okk (ok' := ok) (fun b hb _ => hb.elim id False.elim)
    refine AL.nil ?_
    refine nrm_blk (nrm_and ?_)
    refine AW.reg ?_
    refine AL.val rfl (.inl rfl) (HV.add rfl rfl (by omega)) ?_
    refine AL.val rfl (.inl rfl) (HV.mv rfl) ?_
    refine AL.nil ?_
    refine nrm_and ?_
    exact ⟨(i + 1, (k.set ((i : Int) : Int).toNat ((z4 * t) % p))), ⟨by omega, by rw [hk]; exact updF_set (by rw [e16]), by simp [hk2], ho25, B24, trivial⟩, by first | omega | (dsimp only; omega), ⟨rfl, rfl, rfl, rfl, rfl, rfl, trivial⟩⟩
  · -- else
    refine AW.exit ?_
    refine ex_and (ex_and (ex_blk ?_))
    refine post_none rfl ?_ (.inl rfl)
    exact ⟨hB, by have e : k = scl p t l := (by rw [hk, updF_end (by omega)]; rfl); rw [← e]; exact hoL⟩

set_option maxRecDepth 100000 in
theorem takeOff_ok {v vb : Value} {lo l : List Int} {ok ok2 : Nat → Prop} {p x : Int} (ho : OwnK kI 2 W H ok v lo) (hr : RdK kI W H ok2 vb l) (hne : ∀ b, ok2 b → some b = v.ownBlock → False) (hp : 2 ≤ p ∧ p ≤ 31) (hlo : elems p lo) (hle : elems p l) (hx : 0 ≤ x ∧ x ≤ p - 1) (hl : l.length = lo.length) : ACalls Try.prog W 140 #[.int .i64 p, v, vb, .int .i64 x] H (fun r H' => But (fun b => some b = v.ownBlock) H H' ∧ OwnK kI 2 W H' ok v (offR p x lo l)) := by
  refine ACalls.of (args := [.int .i64 p, v, vb, .int .i64 x]) Try.func140 rfl rfl ?_
  have X0 := Ext.refl H
  have B0 := But.refl (fun b => some b = v.ownBlock) H
  have hmL := ho.rd.max
  refine AW.rs ?_
  refine AL.val rfl (.inl rfl) (HV.mv rfl) ?_
  refine AL.val rfl (.inl rfl) (HV.len Try.underlying22 rfl hr.isSl) ?_
  refine AL.val rfl (.inl rfl) (HV.mv rfl) ?_
  refine AL.nx ?_
  refine AW.block ?_
  refine AW.loop (σ := Nat × List Int) (fun ⟨i, k⟩ => [(0, .int .i64 p), (1, v), (3, .int .i64 x), (10, vb), (11, .int .i64 (l.length : Int)), (1, v), (12, .int .i64 (i : Int))]) (fun ⟨i, k⟩ H' => RdK kI W H' (ok2) vb l ∧ i ≤ l.length ∧ k = updF 0 (fun j => (lo.getD j 0 + (p - x) * l.getD j 0) % p) lo i ∧ k.length = lo.length ∧ OwnK kI 2 W H' ok v k ∧ But (fun b => some b = v.ownBlock) H H' ∧ True) (fun ⟨i, k⟩ => l.length - i) (0, lo) ⟨hr, Nat.zero_le _, (updF_zero _ _ _).symm, rfl, ho, B0, trivial⟩ ⟨rfl, rfl, rfl, rfl, rfl, rfl, rfl, trivial⟩ ?_
  rintro ⟨i, k⟩ H1 ⟨ho2, hi, hk, hk2, hoL, hB, _⟩
  refine AW.rs ?_
  refine AL.val rfl (.inl rfl) (HV.lti rfl rfl) ?_
  refine AL.nx ?_
  refine AW.seq ?_
  refine AW.ifd rfl (fun c3 => ?_) (fun c3 => ?_)
  · -- then
    refine AW.skip ?_
    refine nrm_and ?_
    refine AW.seq ?_
    refine AW.block ?_
    refine AW.rs ?_
    refine AL.val rfl (.inl rfl) (HV.mv rfl) ?_
    have X11 := Ext.refl H1
    obtain ⟨p4, z5, cs6, hz7, hK8, hC9, hP10⟩ := RdK.ix (q := (i : Int)) ho2 sl22 (by omega) (by omega)
    obtain rfl : cs6 = [.int .i64 z5] := hK8
    refine AL.val rfl (.inl rfl) (hP10 rfl rfl) ?_
    refine AL.val rfl (.inl rfl) (HV.ld rfl va2 (cells_first hC9 rfl)) ?_
    refine AL.val rfl (.inl rfl) (HV.as rfl) ?_
    refine AL.val rfl (.inl rfl) (HV.as rfl) ?_
    refine AL.nx ?_
    refine AW.reg ?_
    refine AL.val rfl (.inl rfl) (HV.mv rfl) ?_
    refine AL.val rfl (.inl rfl) (HV.mv rfl) ?_
    refine AL.val rfl (.inl rfl) (HV.mv rfl) ?_
    refine AL.val rfl (.inl rfl) (HV.mv rfl) ?_
    obtain ⟨g12, z13, cs14, hz15, hK16, hC17, hg18, hP19⟩ := OwnK.ix (q := (i : Int)) hoL sl22 (by omega) (by omega)
    obtain rfl : cs14 = [.int .i64 z13] := hK16
    refine AL.val rfl (.inl rfl) (hP19 rfl rfl) ?_
    refine AL.val rfl (.inl rfl) (HV.ld rfl va2 (cells_first hC17 rfl)) ?_
    refine AL.val rfl (.inl rfl) (HV.mv rfl) ?_
    refine AL.val rfl (.inl rfl) (HV.mv rfl) ?_
    refine AL.val rfl (.inl rfl) (HV.sub rfl rfl (by omega)) ?_
    refine AL.val rfl (.inl rfl) (HV.mv rfl) ?_
    have e21 : z13 = lo.getD i 0 := updF_at (by rw [← hk]; exact hz15)
    have b21 := getD_in hlo (show 0 < p by omega) i
    have b15 := elem_at hle hz7
    have q15 := mul31 (a := p - x) (b := z5) (by omega) (by omega) (by omega) (by omega)
    refine AL.val rfl (.inl rfl) (HV.mul rfl rfl (by omega)) ?_
    refine AL.val rfl (.inl rfl) (HV.add rfl rfl (by omega)) ?_
    refine AL.val rfl (.inl rfl) (HV.mv rfl) ?_
    refine AL.val rfl (.inl rfl) (HV.rem rfl rfl (by omega)) ?_
    obtain ⟨g20, z21, cs22, hz23, hK24, hC25, hg26, hP27⟩ := OwnK.ix (q := (i : Int)) hoL sl22 (by omega) (by omega)
    obtain rfl : cs22 = [.int .i64 z21] := hK24
    refine AL.val rfl (.inl rfl) (hP27 rfl rfl) ?_
    refine AL.w0 (.inl rfl) (WV.stK (okx := fun _ => False) (x' := (z13 + ((p - x) * z5)) % p) hoL hg26 rfl rfl va2 (by omega) rfl (fun _ h => h.elim)) ?_
    rintro _ H28 ⟨hx29, ho30⟩
    have B32 := But.trans hB hx29
    have ho33 := ho2.but hx29 (fun b h1 _ e => hne b h1 e) (fun b hb => (hoL.blk b hb).2.2)
    have ho34 := ho30.okk (ok' := ok) (fun b hb _ => hb.elim id False.elim)
    refine AL.nil ?_
    refine nrm_blk (nrm_and ?_)
    refine AW.reg ?_
    refine AL.val rfl (.inl rfl) (HV.add rfl rfl (by omega)) ?_
    refine AL.val rfl (.inl rfl) (HV.mv rfl) ?_
    refine AL.nil ?_
    refine nrm_and ?_
    exact ⟨(i + 1, (k.set ((i : Int) : Int).toNat ((z13 + ((p - x) * z5)) % p))), ⟨ho33, by omega, by rw [hk]; exact updF_set (by rw [e21, (gd hz7 rfl : l.getD i 0 = z5)]), by simp [hk2], ho34, B32, trivial⟩, by first | omega | (dsimp only; omega), ⟨rfl, rfl, rfl, rfl, rfl, rfl, rfl, trivial⟩⟩
  · -- else
    refine AW.exit ?_
    refine ex_and (ex_and (ex_blk ?_))
    refine post_none rfl ?_ (.inl rfl)
    exact ⟨hB, by have e : k = (offR p x lo l) := (by rw [hk, updF_end (by omega)]; rfl); rw [← e]; exact hoL⟩

set_option maxRecDepth 100000 in
theorem copyRows_ok {v : Value} {l : List (List Int)} {ok : Nat → Prop} (hr : RdK (kR kI) W H ok v l) {p : Int} {K : Nat} (hrc : rect p K l) (hK : K ≤ 40) (hR : l.length ≤ 40) : ACalls Try.prog W 180 #[v] H (fun r H' => Ext H H' ∧ OwnD (kO 2 kI) 22 W H' (fun b => H.bd ≤ b) r l) := by
  refine ACalls.of (args := [v]) Try.func180 rfl rfl ?_
  have X0 := Ext.refl H
  have hm1 := hr.max
  have hmx := hr.max
  refine AW.rs ?_
  refine AL.val rfl (.inl rfl) (HV.as rfl) ?_
  refine AL.nx ?_
  refine AW.rs ?_
  have o2 := X0.bd
  refine AL.w rfl (.inl rfl) (WV.bsK (K := (kO 2 kI)) (l := ([] : List (List Int))) (css := []) sl23 rfl rfl (by first | rfl | (simp [Instr.fill, Value.cells, kI, kB, kU, kU8, kS, Kd.sc]; done) | (simp [Instr.fill, Value.cells, kI, kB, kU, kU8, kS, Kd.sc, rng1, rng2, rng3, rng4, kP])) rfl segs_nil) ?_
  rintro v3 H4 ⟨hx5, ho6⟩
  have X7 := Ext.trans X0 hx5
  have ho8 := ho6.deep0
  refine AL.val rfl (.inl rfl) (HV.as rfl) ?_
  refine AL.nx ?_
  refine AW.seq ?_
  refine AW.rs ?_
  refine AL.val rfl (.inl rfl) (HV.mv rfl) ?_
  refine AL.val rfl (.inl rfl) (HV.len Try.underlying23 rfl hr.isSl) ?_
  refine AL.val rfl (.inl rfl) (HV.mv rfl) ?_
  refine AL.nx ?_
  refine AW.block ?_
  refine AW.loop (σ := Nat × Value) (fun ⟨i, vv⟩ => [(2, (.slice none 0 0)), (7, v), (8, .int .i64 (l.length : Int)), (3, vv), (9, .int .i64 (i : Int))]) (fun ⟨i, vv⟩ H' => Ext H H' ∧ i ≤ l.length ∧ OwnD (kO 2 kI) 22 W H' (fun b => H.bd ≤ b) vv (l.take i) ∧ True) (fun ⟨i, vv⟩ => l.length - i) (0, v3) ⟨X7, Nat.zero_le _, ho8, trivial⟩ ⟨rfl, rfl, rfl, rfl, rfl, trivial⟩ ?_
  rintro ⟨i, vv⟩ H10 ⟨X11, hi, hoL, _⟩
  refine AW.rs ?_
  refine AL.val rfl (.inl rfl) (HV.lti rfl rfl) ?_
  refine AL.nx ?_
  refine AW.seq ?_
  refine AW.ifd rfl (fun c12 => ?_) (fun c12 => ?_)
  · -- then
    refine AW.skip ?_
    refine nrm_and ?_
    refine AW.seq ?_
    refine AW.block ?_
    refine AW.rs ?_
    obtain ⟨p13, z14, cs15, hz16, hK17, hC18, hP19⟩ := RdK.ix (q := (i : Int)) hr sl23 (by omega) (by omega)
    obtain ⟨v20, rfl, hr21⟩ := hK17
    have hm22 := hr21.max
    refine AL.val rfl (.inl rfl) (hP19 rfl rfl) ?_
    refine AL.val rfl (.inl rfl) (HV.ld rfl va22 (cells_first (hC18.ext X11) rfl)) ?_
    refine AL.val rfl (.inl rfl) (HV.as rfl) ?_
    refine AL.nx ?_
    refine AW.reg ?_
    refine AL.val rfl (.inl rfl) (HV.mv rfl) ?_
    refine AL.val rfl (.inl rfl) (HV.mv rfl) ?_
    have X23 := Ext.refl H10
    have o24 := X11.bd
    have o25 := X23.bd
    have a26 := hoL.ltb
    have ho27 := hoL.okk (ok' := fun b => H.bd ≤ b ∧ b < H10.bd) (fun b hb hlt => ⟨hb, hlt⟩)
    refine AL.w rfl (.inl rfl) (WV.call fn87 rfl (cloneI_ok (hr21.ext X11) (by have := rect_at hrc hz16; omega))) ?_
    rintro v28 H29 ⟨hx30, ho31⟩
    have X32 := Ext.trans X11 hx30
    have X33 := Ext.trans X23 hx30
    have ho34 := ho27.ext hx30
    have X36 := Ext.refl H29
    have o37 := X32.bd
    have o38 := X33.bd
    have o39 := X36.bd
    have a40 := ho34.ltb
    have a41 := ho31.ltb
    have hc46 : v28.cells = #[v28] := by obtain ⟨A, c, e⟩ := ho31.isSl; rw [e]; rfl
    refine AL.w rfl (.inl rfl) (WV.bsO (okx := fun b => H10.bd ≤ b) (K := (kO 2 kI)) (l := ([z14] : List (List Int))) (css := [[v28]]) sl23 rfl rfl (by simp [Instr.fill, hc46, kO, rng1]) rfl (segs_cons ⟨_, rfl, ho31⟩ segs_nil)) ?_
    rintro v42 H43 ⟨hx44, ho45⟩
    have X48 := Ext.trans X32 hx44
    have X49 := Ext.trans X33 hx44
    have X50 := Ext.trans X36 hx44
    have ho51 := ho34.ext hx44
    have ho52 := ho31.ext hx44
    have ho47 := ho45.okk (ok' := fun b => H10.bd ≤ b) (fun b hb _ => hb.elim id (fun e => Nat.le_trans X33.bd e))
    have X54 := Ext.refl H43
    refine AL.w rfl (.inl rfl) (WV.apD (ok := fun b => H.bd ≤ b) (B := H10.bd) sl23 rfl rfl ho51 ho47.rd X49.bd (by simp; omega) (by simp; omega)) ?_
    rintro v55 H56 ⟨hx57, ho58, hb59⟩
    have ho60 := ho58.okk (ok' := fun b => H.bd ≤ b) (fun b hb _ => hb.elim id (fun e => Nat.le_trans o24 e))
    have X61 := Ext.thru X48 hx57 (fun b hb => Nat.le_trans o2 (ho51.blk b hb).1.1)
    refine AL.val rfl (.inl rfl) (HV.as rfl) ?_
    refine AL.nil ?_
    refine nrm_blk (nrm_and ?_)
    refine AW.reg ?_
    refine AL.val rfl (.inl rfl) (HV.add rfl rfl (by omega)) ?_
    refine AL.val rfl (.inl rfl) (HV.mv rfl) ?_
    refine AL.nil ?_
    refine nrm_and ?_
    exact ⟨(i + 1, v55), ⟨X61, by omega, by rw [tk_snoc hz16]; exact ho60, trivial⟩, by first | omega | (dsimp only; omega), ⟨rfl, rfl, rfl, rfl, rfl, trivial⟩⟩
  · -- else
    refine AW.exit ?_
    refine ex_and (ex_and (ex_blk ?_))
    refine nrm_and ?_
    refine AW.rs ?_
    refine AL.val rfl (.inl rfl) (HV.mv rfl) ?_
    refine AL.val rfl (.inl rfl) (HV.as rfl) ?_
    refine AL.nx ?_
    refine AW.ret ?_
    refine post_one rfl rfl ?_ (.inr rfl)
    exact ⟨X11, by rw [show l = l.take i by rw [List.take_of_length_le (by omega)]]; exact hoL.okk (fun b hb _ => Nat.le_trans o2 hb)⟩

set_option maxRecDepth 100000 in
theorem implEch_ok {v : Value} {l : List (List Int)} {ok : Nat → Prop} (p k : Int) (hr : RdK (kR kI) W H ok v l) {K : Nat} (hq : isPr p = true) (hkK : k = (K : Int)) (hrc : rect p K l) (hK : K ≤ 40) (hR : l.length ≤ 40) : ACalls Try.prog W 135 #[.agg #[.int .i64 p, .int .i64 k, v]] H (fun r H' => (∃ u q, r = .tuple #[.agg #[.int .i64 p, .int .i64 k, u], q] ∧ RdK (kR kI) W H' (fun _ => True) u ((ech p l K).1.take (ech p l K).2.length) ∧ RdK kI W H' (fun _ => True) q (ech p l K).2) ∧ Ext H H') := by
  refine ACalls.of (args := [.agg #[.int .i64 p, .int .i64 k, v]]) Try.func135 rfl rfl ?_
  have X0 := Ext.refl H
  have hm1 := hr.max
  have hp := isPr_bd hq
  have hp0 : 0 < p := by omega
  have hmx := hr.max
  refine AW.rs ?_
  refine AL.w rfl (.inl rfl) (WV.bx rfl rfl) ?_
  rintro _ H3 ⟨b2, rfl, hx4, hn5, hb6⟩
  have o7 := Nat.le_trans X0.bd hn5
  have X8 := Ext.trans X0 hx4
  have X9 := Ext.refl H3
  refine AL.w rfl (.inl rfl) (WV.al ze29 rfl) ?_
  rintro _ H11 ⟨b10, rfl, hx12, hn13, hb14⟩
  have o15 := Nat.le_trans X8.bd hn13
  have o16 := Nat.le_trans X9.bd hn13
  have ne17 : b2 ≠ b10 := by have := hb6.lt; omega
  have X18 := Ext.trans X8 hx12
  have X19 := Ext.trans X9 hx12
  have hb20 := hb6.ext hx12
  have X21 := Ext.refl H11
  refine AL.val rfl (.inl rfl) (HV.as rfl) ?_
  refine AL.nx ?_
  refine AW.rs ?_
  refine AL.val rfl (.inl rfl) (HV.fa fl29_2 rfl) ?_
  refine AL.val rfl (.inl rfl) (HV.ld rfl va23 (at_cell_add (j := 2) hb20 rfl)) ?_
  have y22 := hb20.lt
  have y23 := hb14.lt
  have o24 := X18.bd
  have o25 := X19.bd
  have o26 := X21.bd
  refine AL.w rfl (.inl rfl) (WV.call fn180 rfl (copyRows_ok (hr.ext X18) hrc hK hR)) ?_
  rintro v27 H28 ⟨hx29, ho30⟩
  have X31 := Ext.trans X18 hx29
  have X32 := Ext.trans X19 hx29
  have X33 := Ext.trans X21 hx29
  have hb34 := hb20.ext hx29
  have hb35 := hb14.ext hx29
  have X37 := Ext.refl H28
  have ho38 := ho30.okk (ok' := fun b => H11.bd ≤ b ∧ b < H28.bd) (fun b hb hlt => ⟨hb, hlt⟩)
  have y39 := hb34.lt
  have y40 := hb35.lt
  have o41 := X31.bd
  have o42 := X32.bd
  have o43 := X33.bd
  have o44 := X37.bd
  have a45 := ho38.ltb
  refine AL.w rfl (.inl rfl) (WV.bsK (K := kI) (l := ([] : List Int)) (css := []) sl161 rfl rfl (by first | rfl | (simp [Instr.fill, Value.cells, kI, kB, kU, kU8, kS, Kd.sc]; done) | (simp [Instr.fill, Value.cells, kI, kB, kU, kU8, kS, Kd.sc, rng1, rng2, rng3, rng4, kP])) rfl segs_nil) ?_
  rintro v46 H47 ⟨hx48, ho49⟩
  have X50 := Ext.trans X31 hx48
  have X51 := Ext.trans X32 hx48
  have X52 := Ext.trans X33 hx48
  have X53 := Ext.trans X37 hx48
  have ho54 := ho38.ext hx48
  have hb55 := hb34.ext hx48
  have hb56 := hb35.ext hx48
  refine AL.val rfl (.inl rfl) (HV.as rfl) ?_
  refine AL.val rfl (.inl rfl) (HV.as rfl) ?_
  refine AL.nx ?_
  refine AW.seq ?_
  refine AW.rs ?_
  refine AL.val rfl (.inl rfl) (HV.fa fl29_1 rfl) ?_
  refine AL.val rfl (.inl rfl) (HV.ld rfl va2 (at_cell_add (j := 1) hb55 rfl)) ?_
  refine AL.val rfl (.inl rfl) (HV.mv rfl) ?_
  refine AL.nx ?_
  refine AW.block ?_
  refine AW.loop (σ := Nat × Value × List Int × List (List Int)) (fun ⟨c, vq, q, kk⟩ => [(1, .pointer (some ⟨b2, 0, none⟩)), (2, .pointer (some ⟨b10, 0, none⟩)), (3, (.slice none 0 0)), (4, v27), (16, .int .i64 k), (4, v27), (5, vq), (17, .int .i64 (c : Int))]) (fun ⟨c, vq, q, kk⟩ H' => Ext H H' ∧ Ext H3 H' ∧ Ext H11 H' ∧ At W H' b2 ⟨29, [.int .i64 p, .int .i64 k, v], 3⟩ ∧ At W H' b10 ⟨29, [.int .i64 0, .int .i64 0, (.slice none 0 0)], 3⟩ ∧ H28.bd ≤ H'.bd ∧ c ≤ K ∧ kk = (ech p l c).1 ∧ q = (ech p l c).2 ∧ OwnD (kO 2 kI) 22 W H' (fun b => H11.bd ≤ b ∧ b < H28.bd) v27 kk ∧ OwnK kI 3 W H' (fun b => H28.bd ≤ b) vq q ∧ True) (fun ⟨c, vq, q, kk⟩ => K - c) (0, v46, [], l) ⟨X50, X51, X52, hb55, hb56, X53.bd, Nat.zero_le _, rfl, rfl, ho54, ho49, trivial⟩ ⟨rfl, rfl, rfl, rfl, rfl, rfl, rfl, rfl, trivial⟩ ?_
  rintro ⟨c, vq, q, kk⟩ H58 ⟨X59, X60, X61, hb62, hb63, q64, hcK, hkk, hqq, hoL, hoQ, _⟩
  obtain ⟨hr1, hr2, hr3, hr4⟩ := ech_ok hp0 hrc c
  rw [← hkk] at hr1 hr2
  rw [← hqq] at hr3 hr4
  refine AW.rs ?_
  refine AL.val rfl (.inl rfl) (HV.lti rfl rfl) ?_
  refine AL.nx ?_
  refine AW.seq ?_
  refine AW.ifd rfl (fun c65 => ?_) (fun c65 => ?_)
  · -- then
    refine AW.skip ?_
    refine nrm_and ?_
    refine AW.seq ?_
    refine AW.block ?_
    refine AW.rs ?_
    refine AL.val rfl (.inl rfl) (HV.mv rfl) ?_
    refine AL.val rfl (.inl rfl) (HV.as rfl) ?_
    refine AL.nx ?_
    refine AW.rs ?_
    refine AL.val rfl (.inl rfl) (HV.mv rfl) ?_
    refine AL.val rfl (.inl rfl) (HV.len Try.underlying161 rfl hoQ.rd.isSl) ?_
    refine AL.val rfl (.inl rfl) (HV.as rfl) ?_
    refine AL.nx ?_
    refine AW.rs ?_
    refine AL.val rfl (.inl rfl) (HV.mv rfl) ?_
    refine AL.val rfl (.inl rfl) (HV.as rfl) ?_
    refine AL.nx ?_
    refine AW.seq ?_
    refine AW.block ?_
    refine AW.loop (σ := Nat) (fun a => [(1, .pointer (some ⟨b2, 0, none⟩)), (2, .pointer (some ⟨b10, 0, none⟩)), (3, (.slice none 0 0)), (4, v27), (5, vq), (6, .int .i64 (c : Int)), (7, .int .i64 (q.length : Int)), (16, .int .i64 k), (17, .int .i64 (c : Int)), (18, .bool (decide ((c : Int) < k))), (19, .int .i64 (c : Int)), (20, vq), (21, .int .i64 (q.length : Int)), (22, .int .i64 (q.length : Int)), (8, .int .i64 (a : Int))]) (fun a H' => Ext H H' ∧ Ext H3 H' ∧ Ext H11 H' ∧ At W H' b2 ⟨29, [.int .i64 p, .int .i64 k, v], 3⟩ ∧ At W H' b10 ⟨29, [.int .i64 0, .int .i64 0, (.slice none 0 0)], 3⟩ ∧ H28.bd ≤ H'.bd ∧ OwnD (kO 2 kI) 22 W H' (fun b => H11.bd ≤ b ∧ b < H28.bd) v27 kk ∧ OwnK kI 3 W H' (fun b => H28.bd ≤ b) vq q ∧ q.length ≤ a ∧ a ≤ kk.length ∧ (∀ j, q.length ≤ j → j < a → (kk.getD j []).getD c 0 = 0) ∧ True) (fun a => kk.length - a) q.length ⟨X59, X60, X61, hb62, hb63, q64, hoL, hoQ, Nat.le_refl _, by omega, fun j h1 h2 => absurd h1 (by omega), trivial⟩ ⟨rfl, rfl, rfl, rfl, rfl, rfl, rfl, rfl, rfl, rfl, rfl, rfl, rfl, rfl, rfl, trivial⟩ ?_
    rintro a H66 ⟨X67, X68, X69, hb70, hb71, q72, ho73, ho74, ha1, ha2, haz, _⟩
    refine AW.seq ?_
    refine AW.rs ?_
    refine AL.val rfl (.inl rfl) (HV.mv rfl) ?_
    refine AL.val rfl (.inl rfl) (HV.mv rfl) ?_
    refine AL.val rfl (.inl rfl) (HV.len Try.underlying23 rfl (rd_ofO ho73.rd).isSl) ?_
    refine AL.val rfl (.inl rfl) (HV.lti rfl rfl) ?_
    refine AL.val rfl (.inl rfl) (HV.mv rfl) ?_
    by_cases c75 : (a : Int) < (kk.length : Int)
    · -- true
      have c75_ : decide ((a : Int) < (kk.length : Int)) = true := decide_eq_true c75
      rw [c75_]
      refine AL.val rfl (.inr ⟨_, _, _, rfl, rfl, rfl⟩) (HV.mv rfl) ?_
      refine AL.val rfl (.inr ⟨_, _, _, rfl, rfl, rfl⟩) (HV.mv rfl) ?_
      obtain ⟨g76, z77, cs78, hz79, hK80, hC81, hg82, hP83⟩ := OwnK.ix (q := (a : Int)) ho73.own sl23 (by omega) (by omega)
      have X84 := Ext.refl H66
      obtain ⟨v85, rfl, hr86⟩ := hK80
      have hO87 := hr86
      replace hr86 := hr86.rd
      have hm88 := hr86.max
      refine AL.val rfl (.inr ⟨_, _, _, rfl, rfl, rfl⟩) (hP83 rfl rfl) ?_
      refine AL.val rfl (.inr ⟨_, _, _, rfl, rfl, rfl⟩) (HV.ld rfl va22 (cells_first hC81 rfl)) ?_
      refine AL.val rfl (.inr ⟨_, _, _, rfl, rfl, rfl⟩) (HV.mv rfl) ?_
      obtain ⟨p89, z90, cs91, hz92, hK93, hC94, hP95⟩ := RdK.ix (q := (c : Int)) hr86 sl22 (by omega) (by have := rect_at hr1 hz79; omega)
      obtain rfl : cs91 = [.int .i64 z90] := hK93
      refine AL.val rfl (.inr ⟨_, _, _, rfl, rfl, rfl⟩) (hP95 rfl rfl) ?_
      refine AL.val rfl (.inr ⟨_, _, _, rfl, rfl, rfl⟩) (HV.ld rfl va2 (cells_first hC94 rfl)) ?_
      refine AL.val rfl (.inr ⟨_, _, _, rfl, rfl, rfl⟩) (HV.eqi rfl rfl) ?_
      refine AL.val rfl (.inl rfl) (HV.pickT rfl rfl) ?_
      refine AL.nx ?_
      refine AW.ifd rfl (fun c96 => ?_) (fun c96 => ?_)
      · -- then
        refine AW.skip ?_
        refine nrm_and ?_
        refine AW.block ?_
        refine AW.reg ?_
        refine AL.val rfl (.inl rfl) (HV.mv rfl) ?_
        refine AL.val rfl (.inl rfl) (HV.add rfl rfl (by omega)) ?_
        refine AL.val rfl (.inl rfl) (HV.as rfl) ?_
        refine AL.nil ?_
        refine nrm_blk (nrm_and ?_)
        exact ⟨a + 1, ⟨X67, X68, X69, hb70, hb71, q72, ho73, ho74, by omega, by omega, fun j h1 h2 => by
      rcases Nat.lt_or_ge j a with h3 | h3
      · exact haz j h1 h3
      · obtain rfl : j = a := by omega
        rw [(gd hz79 rfl : kk.getD j [] = z77), (gd hz92 rfl : (z77).getD c 0 = z90)]; omega, trivial⟩, by first | omega | (dsimp only; omega), ⟨rfl, rfl, rfl, rfl, rfl, rfl, rfl, rfl, rfl, rfl, rfl, rfl, rfl, rfl, rfl, trivial⟩⟩
      · -- else
        refine AW.exit ?_
        refine ex_and (ex_and (ex_blk ?_))
        refine nrm_and ?_
        refine AW.seq ?_
        refine AW.rs ?_
        refine AL.val rfl (.inl rfl) (HV.mv rfl) ?_
        refine AL.val rfl (.inl rfl) (HV.mv rfl) ?_
        refine AL.val rfl (.inl rfl) (HV.len Try.underlying23 rfl (rd_ofO ho73.rd).isSl) ?_
        refine AL.val rfl (.inl rfl) (HV.eqi rfl rfl) ?_
        refine AL.nx ?_
        refine AW.ifd rfl (fun c97 => ?_) (fun c97 => ?_)
        · -- then
          exfalso; omega
        · -- else
          refine AW.skip ?_
          refine nrm_and ?_
          refine AW.seq ?_
          refine AW.draw' [0, 0, 0, 0, 0, 0, 48, 112, 0, 0, 768, 1792, 4083, 8179, 16383, 32767] mixed (by rfl) ?_
          refine Dr.read 0 _ 43 _ rfl rfl rfl rfl rfl (RV.of (by intro _ _ h; cases h) (.inl rfl) (fun _ xd => HV.mv rfl)) ?_
          refine Dr.read 1 _ 44 _ rfl rfl rfl rfl rfl (RV.of (by intro _ _ h; cases h) (.inl rfl) (fun _ xd => HV.mv rfl)) ?_
          refine Dr.read 2 _ 45 _ rfl rfl rfl rfl rfl (RV.of (by intro _ _ h; cases h) (.inl rfl) (fun _ xd => HV.mv rfl)) ?_
          refine Dr.read 3 _ 46 _ rfl rfl rfl rfl rfl (RV.of (by intro _ _ h; cases h) (.inl rfl) (fun _ xd => HV.mv rfl)) ?_
          refine Dr.read 4 _ 47 _ rfl rfl rfl rfl rfl (RV.of (by intro _ _ h; cases h) (.inl rfl) (fun _ xd => HV.mv rfl)) ?_
          refine Dr.read 5 _ 48 _ rfl rfl rfl rfl rfl (RV.of (by intro _ _ h; cases h) (.inl rfl) (fun _ xd => HV.mv rfl)) ?_
          obtain ⟨g98, z99, cs100, hz101, hK102, hC103, hg104, hP105⟩ := OwnK.ix (q := (a : Int)) ho73.own sl23 (by omega) (by omega)
          obtain ⟨v106, rfl, hr107⟩ := hK102
          have hO108 := hr107
          replace hr107 := hr107.rd
          have hm109 := hr107.max
          refine Dr.read 6 _ 49 _ rfl rfl rfl rfl rfl (RV.of (by intro _ _ h; cases h) (.inl rfl) (fun _ xd => hP105 rfl rfl)) ?_
          refine Dr.read 7 _ 50 _ rfl rfl rfl rfl rfl (RV.of (by intro _ _ h; cases h) (.inl rfl) (fun _ xd => HV.ld rfl va22 (rdc_ext xd (cells_first hC103 rfl)))) ?_
          refine Dr.read 8 _ 51 _ rfl rfl rfl rfl rfl (RV.of (by intro _ _ h; cases h) (.inl rfl) (fun _ xd => HV.mv rfl)) ?_
          refine Dr.read 9 _ 52 _ rfl rfl rfl rfl rfl (RV.of (by intro _ _ h; cases h) (.inl rfl) (fun _ xd => HV.mv rfl)) ?_
          obtain ⟨g110, z111, cs112, hz113, hK114, hC115, hg116, hP117⟩ := OwnK.ix (q := (q.length : Int)) ho73.own sl23 (by omega) (by omega)
          obtain ⟨v118, rfl, hr119⟩ := hK114
          have hO120 := hr119
          replace hr119 := hr119.rd
          have hm121 := hr119.max
          refine Dr.read 10 _ 53 _ rfl rfl rfl rfl rfl (RV.of (by intro _ _ h; cases h) (.inl rfl) (fun _ xd => hP117 rfl rfl)) ?_
          refine Dr.read 11 _ 54 _ rfl rfl rfl rfl rfl (RV.of (by intro _ _ h; cases h) (.inl rfl) (fun _ xd => HV.ld rfl va22 (rdc_ext xd (cells_first hC115 rfl)))) ?_
          obtain ⟨g122, z123, cs124, hz125, hK126, hC127, hg128, hP129⟩ := OwnK.ix (q := (q.length : Int)) ho73.own sl23 (by omega) (by omega)
          obtain ⟨v130, rfl, hr131⟩ := hK126
          have hO132 := hr131
          replace hr131 := hr131.rd
          have hm133 := hr131.max
          refine Dr.read 12 _ 55 _ rfl rfl rfl rfl rfl (RV.of (by intro _ _ h; cases h) (.inl rfl) (fun _ xd => hP129 rfl rfl)) ?_
          refine Dr.eff 13 _ _ rfl (by intro d h; cases h) rfl rfl rfl (EC.of (by intro _ _ h; cases h) (.inl rfl) (WV.sw1 (i := q.length) (j := a) ho73 hg128 hg116 hg104 (by omega) (by omega) (Cells.one hC115) (Cells.one hC103) rfl rfl va22)) ?_ ?_
          · -- kept
            rintro _ H134 ⟨hx135, hsw136⟩
            have q137 := Nat.le_trans q72 hx135.bd
            have X138 := Ext.thru X67 hx135 (fun b hb => Nat.le_trans o24 (ho73.blk b hb).1.1)
            have X139 := Ext.thru X68 hx135 (fun b hb => Nat.le_trans o25 (ho73.blk b hb).1.1)
            have X140 := Ext.thru X69 hx135 (fun b hb => Nat.le_trans o26 (ho73.blk b hb).1.1)
            have q142 := Nat.le_trans X84.bd hx135.bd
            have ho143 := ho74.but hx135 (fun b hb _ e => by have h1 : H28.bd ≤ b := hb; have h2 : H11.bd ≤ b ∧ b < H28.bd := (ho73.blk b e).1; omega) (fun b hb => (ho73.blk b hb).2.2)
            have hb144 := hb70.but hx135 (fun e => by have q : H11.bd ≤ _ := (ho73.blk _ e).1.1; omega)
            have hb145 := hb71.but hx135 (fun e => by have q : H11.bd ≤ _ := (ho73.blk _ e).1.1; omega)
            refine .inr (.inr ?_)
            exact (kept_cons (.inl rfl) (kept_cons (.inl rfl) (kept_cons (.inl rfl) (kept_cons (.inl rfl) (kept_cons (.inl rfl) (kept_cons (.inl rfl) (kept_cons (.inl rfl) (kept_cons (.inl rfl) (kept_cons (.inl rfl) (kept_cons (.inr ⟨_, _, _, rfl, rfl, rfl, (RV.of (by intro _ _ h; cases h) (.inl rfl) (fun _ xd => HV.mv rfl))⟩) (kept_cons (.inr ⟨_, _, _, rfl, rfl, rfl, (RV.of (by intro _ _ h; cases h) (.inl rfl) (fun _ xd => HV.mv rfl))⟩) (kept_cons (.inl rfl) (kept_cons (.inl rfl) kept_nil)))))))))))))
          rintro _ H134 ⟨hx135, hsw136⟩
          have q146 := Nat.le_trans q72 hx135.bd
          have X147 := Ext.thru X67 hx135 (fun b hb => Nat.le_trans o24 (ho73.blk b hb).1.1)
          have X148 := Ext.thru X68 hx135 (fun b hb => Nat.le_trans o25 (ho73.blk b hb).1.1)
          have X149 := Ext.thru X69 hx135 (fun b hb => Nat.le_trans o26 (ho73.blk b hb).1.1)
          have q151 := Nat.le_trans X84.bd hx135.bd
          have ho152 := ho74.but hx135 (fun b hb _ e => by have h1 : H28.bd ≤ b := hb; have h2 : H11.bd ≤ b ∧ b < H28.bd := (ho73.blk b e).1; omega) (fun b hb => (ho73.blk b hb).2.2)
          have hb153 := hb70.but hx135 (fun e => by have q : H11.bd ≤ _ := (ho73.blk _ e).1.1; omega)
          have hb154 := hb71.but hx135 (fun e => by have q : H11.bd ≤ _ := (ho73.blk _ e).1.1; omega)
          refine Dr.read 14 _ 56 _ rfl rfl rfl rfl rfl (RV.of (by intro _ _ h; cases h) (.inl rfl) (fun _ xd => hP105 rfl rfl)) ?_
          refine Dr.eff 15 _ _ rfl (by intro d h; cases h) rfl rfl rfl (EC.of (by intro _ _ h; cases h) (.inl rfl) (WV.sw2 hsw136 hg104 (by omega) (by omega) rfl rfl va22)) (fun v H' h => .inr (.inl rfl)) ?_
          rintro _ H155 ⟨hx156, ho157, hc158, hc159⟩
          have q161 := Nat.le_trans q146 hx156.bd
          have q162 := Nat.le_trans q151 hx156.bd
          have X163 := Ext.thru X147 hx156 (fun b hb => Nat.le_trans o24 (ho73.blk b hb).1.1)
          have X164 := Ext.thru X148 hx156 (fun b hb => Nat.le_trans o25 (ho73.blk b hb).1.1)
          have X165 := Ext.thru X149 hx156 (fun b hb => Nat.le_trans o26 (ho73.blk b hb).1.1)
          have ho166 := ho152.but hx156 (fun b hb _ e => by have h1 : H28.bd ≤ b := hb; have h2 : H11.bd ≤ b ∧ b < H28.bd := (ho73.blk b e).1; omega) (fun b hb => (ho73.blk b hb).2.2)
          have hb167 := hb153.but hx156 (fun e => by have q : H11.bd ≤ _ := (ho73.blk _ e).1.1; omega)
          have hb168 := hb154.but hx156 (fun e => by have q : H11.bd ≤ _ := (ho73.blk _ e).1.1; omega)
          have ho160 : OwnD (kO 2 kI) 22 W H155 (fun b => H11.bd ≤ b ∧ b < H28.bd) v27 (swapL kk (q.length) (a)) := ho157
          refine Dr.fin rfl ?_
          refine nrm_and ?_
          refine AW.seq ?_
          refine AW.draw' [0, 1, 0, 0, 12, 28, 0, 64, 0, 0, 768, 1792, 0, 7936, 16128, 32704, 65535] mixed (by rfl) ?_
          refine Dr.read 0 _ 57 _ rfl rfl rfl rfl rfl (RV.of (by intro _ _ h; cases h) (.inl rfl) (fun _ xd => HV.fa fl29_0 rfl)) ?_
          refine Dr.read 1 _ 58 _ rfl rfl rfl rfl rfl (RV.of (by intro _ _ h; cases h) (.inl rfl) (fun _ xd => HV.ld rfl va2 (rdc_ext xd (at_cell hb167 rfl)))) ?_
          refine Dr.read 2 _ 59 _ rfl rfl rfl rfl rfl (RV.of (by intro _ _ h; cases h) (.inl rfl) (fun _ xd => HV.mv rfl)) ?_
          refine Dr.read 3 _ 60 _ rfl rfl rfl rfl rfl (RV.of (by intro _ _ h; cases h) (.inl rfl) (fun _ xd => HV.mv rfl)) ?_
          obtain ⟨g169, z170, cs171, hz172, hK173, hC174, hg175, hP176⟩ := OwnK.ix (q := (q.length : Int)) ho160.own sl23 (by omega) (by first | omega | (simp only [swapL_len, List.length_set, clrL_len]; omega))
          have X177 := Ext.refl H155
          obtain ⟨v178, rfl, hr179⟩ := hK173
          have hO180 := hr179
          replace hr179 := hr179.rd
          have hm181 := hr179.max
          refine Dr.read 4 _ 61 _ rfl rfl rfl rfl rfl (RV.of (by intro _ _ h; cases h) (.inl rfl) (fun _ xd => hP176 rfl rfl)) ?_
          refine Dr.read 5 _ 62 _ rfl rfl rfl rfl rfl (RV.of (by intro _ _ h; cases h) (.inl rfl) (fun _ xd => HV.ld rfl va22 (rdc_ext xd (cells_first hC174 rfl)))) ?_
          refine Dr.read 6 _ 63 _ rfl rfl rfl rfl rfl (RV.of (by intro _ _ h; cases h) (.inl rfl) (fun _ xd => HV.fa fl29_0 rfl)) ?_
          refine Dr.read 7 _ 64 _ rfl rfl rfl rfl rfl (RV.of (by intro _ _ h; cases h) (.inl rfl) (fun _ xd => HV.ld rfl va2 (rdc_ext xd (at_cell hb167 rfl)))) ?_
          refine Dr.read 8 _ 65 _ rfl rfl rfl rfl rfl (RV.of (by intro _ _ h; cases h) (.inl rfl) (fun _ xd => HV.mv rfl)) ?_
          refine Dr.read 9 _ 66 _ rfl rfl rfl rfl rfl (RV.of (by intro _ _ h; cases h) (.inl rfl) (fun _ xd => HV.mv rfl)) ?_
          obtain ⟨g182, z183, cs184, hz185, hK186, hC187, hg188, hP189⟩ := OwnK.ix (q := (q.length : Int)) ho160.own sl23 (by omega) (by first | omega | (simp only [swapL_len, List.length_set, clrL_len]; omega))
          obtain ⟨v190, rfl, hr191⟩ := hK186
          have hO192 := hr191
          replace hr191 := hr191.rd
          have hm193 := hr191.max
          refine Dr.read 10 _ 67 _ rfl rfl rfl rfl rfl (RV.of (by intro _ _ h; cases h) (.inl rfl) (fun _ xd => hP189 rfl rfl)) ?_
          refine Dr.read 11 _ 68 _ rfl rfl rfl rfl rfl (RV.of (by intro _ _ h; cases h) (.inl rfl) (fun _ xd => HV.ld rfl va22 (rdc_ext xd (cells_first hC187 rfl)))) ?_
          refine Dr.read 12 _ 69 _ rfl rfl rfl rfl rfl (RV.of (by intro _ _ h; cases h) (.inl rfl) (fun _ xd => HV.mv rfl)) ?_
          obtain ⟨p194, z195, cs196, hz197, hK198, hC199, hP200⟩ := RdK.ix (q := (c : Int)) hr191 sl22 (by omega) (by have := rect_at (hr1.swap (i := q.length) (j := a) (by omega) (by omega)) hz185; omega)
          obtain rfl : cs196 = [.int .i64 z195] := hK198
          refine Dr.read 13 _ 70 _ rfl rfl rfl rfl rfl (RV.of (by intro _ _ h; cases h) (.inl rfl) (fun _ xd => hP200 rfl rfl)) ?_
          refine Dr.read 14 _ 71 _ rfl rfl rfl rfl rfl (RV.of (by intro _ _ h; cases h) (.inl rfl) (fun _ xd => HV.ld rfl va2 (rdc_ext xd (cells_first hC199 rfl)))) ?_
          have hX : (swapL kk q.length a).getD q.length [] = kk.getD a [] := swapL_fst (by omega) (by omega)
          have h67 : (swapL kk q.length a).getD q.length [] = z183 := gd hz185 rfl
          have hy71 : (kk.getD a []).getD c 0 = z195 := by rw [← hX, h67]; exact gd hz197 rfl
          have e33 : z195 = z90 := by rw [← hy71, (gd hz79 rfl : kk.getD a [] = z77)]; exact gd hz92 rfl
          have hb33 := elem_at (rect_at hr1 hz79).2 hz92
          have hnz : z195 ≠ 0 := by omega
          have g1 := hr1.swap (i := q.length) (j := a) (by omega) (by omega)
          have hiv := invM_spec hq (show 1 ≤ z195 by omega) (show z195 < p by omega)
          refine Dr.eff 15 _ _ rfl (by intro d h; cases h; exact ⟨rfl, rfl⟩) rfl rfl rfl (EC.of (by intro _ _ h; cases h) (.inl rfl) (WV.call fn141 rfl (inverse_ok (W := W) p z195 hq (by omega) (by omega)))) (fun v H' h => .inl (h.2)) ?_
          rintro _ H201 ⟨rfl, hx202⟩
          have q203 := Nat.le_trans q161 hx202.bd
          have q204 := Nat.le_trans q162 hx202.bd
          have X205 := Ext.trans X163 hx202
          have X206 := Ext.trans X164 hx202
          have X207 := Ext.trans X165 hx202
          have X208 := Ext.trans X177 hx202
          have hc209 := rdc_ext hx202 hc158
          have hc210 := rdc_ext hx202 hc159
          have ho211 := ho160.ext hx202
          have ho212 := ho166.ext hx202
          have hb213 := hb167.ext hx202
          have hb214 := hb168.ext hx202
          have hel218 := OwnD.el (i := q.length) ho211 hg175 (Cells.one (hC174.ext X208)) (by first | omega | (simp only [swapL_len, List.length_set, clrL_len]; omega))
          refine Dr.eff 16 _ _ rfl (by intro d h; cases h; exact ⟨rfl, rfl⟩) rfl rfl rfl (EC.of (by intro _ _ h; cases h) (.inl rfl) (WV.call fn142 rfl (scaled_ok hel218 hp (g1 q.length (by rw [swapL_len]; omega)).2 (by omega)))) (fun v H' h => .inr (.inl rfl)) ?_
          rintro _ H215 ⟨hx216, ho217⟩
          have hwr219 := OwnD.wr (i := q.length) ho211 hg175 (Cells.one (hC174.ext X208)) (by first | omega | (simp only [swapL_len, List.length_set, clrL_len]; omega)) hx216 ho217
          have q221 := Nat.le_trans q203 hx216.bd
          have q222 := Nat.le_trans q204 hx216.bd
          have X223 := Ext.thru X205 hx216 (fun b hb => Nat.le_trans o24 (hel218.blk b hb).1.1)
          have X224 := Ext.thru X206 hx216 (fun b hb => Nat.le_trans o25 (hel218.blk b hb).1.1)
          have X225 := Ext.thru X207 hx216 (fun b hb => Nat.le_trans o26 (hel218.blk b hb).1.1)
          have q227 := Nat.le_trans X208.bd hx216.bd
          have ho228 := ho212.but hx216 (fun b hb _ e => by have h1 : H28.bd ≤ b := hb; have h2 : H11.bd ≤ b ∧ b < H28.bd := (hel218.blk b e).1; omega) (fun b hb => (hel218.blk b hb).2.2)
          have hb229 := hb213.but hx216 (fun e => by have q : H11.bd ≤ _ := (hel218.blk _ e).1.1; omega)
          have hb230 := hb214.but hx216 (fun e => by have q : H11.bd ≤ _ := (hel218.blk _ e).1.1; omega)
          have ho220 := hwr219.1
          have hc231 := hwr219.2 _ _ _ hg104 hc209
          have hc232 := hwr219.2 _ _ _ hg104 hc210
          refine Dr.fin rfl ?_
          refine nrm_and ?_
          refine AW.seq ?_
          refine AW.rs ?_
          obtain ⟨R, hRd⟩ : ∃ R, R = ((swapL kk (q.length) (a)).set (q.length) (scl p (invM p z195) ((swapL kk (q.length) (a)).getD (q.length) []))) := ⟨_, rfl⟩
          have ho233 : OwnD (kO 2 kI) 22 W H215 (fun b => H11.bd ≤ b ∧ b < H28.bd) v27 R := by rw [hRd]; exact ho220
          have hR2 : R = (swapL kk q.length a).set q.length (normR p c ((swapL kk q.length a).getD q.length [])) := by rw [hRd]; unfold normR; rw [hX, hy71]
          have hRl : R.length = kk.length := by rw [hR2, List.length_set, swapL_len]
          have g2 : rect p K R := by rw [hR2]; exact g1.set (rect.norm hp0 (g1 q.length (by rw [swapL_len]; omega)).1 c) _
          refine AL.val rfl (.inl rfl) (HV.mv rfl) ?_
          refine AL.val rfl (.inl rfl) (HV.len Try.underlying23 rfl (rd_ofO ho233.rd).isSl) ?_
          refine AL.val rfl (.inl rfl) (HV.mv rfl) ?_
          refine AL.nx ?_
          refine AW.block ?_
          refine AW.loop (σ := Nat × List (List Int)) (fun ⟨i, k2⟩ => [(1, .pointer (some ⟨b2, 0, none⟩)), (2, .pointer (some ⟨b10, 0, none⟩)), (3, (.slice none 0 0)), (4, v27), (5, vq), (6, .int .i64 (c : Int)), (7, .int .i64 (q.length : Int)), (8, .int .i64 (a : Int)), (16, .int .i64 k), (17, .int .i64 (c : Int)), (18, .bool (decide ((c : Int) < k))), (19, .int .i64 (c : Int)), (20, vq), (21, .int .i64 (q.length : Int)), (22, .int .i64 (q.length : Int)), (23, .int .i64 (a : Int)), (24, v27), (25, .int .i64 (kk.length : Int)), (26, .bool true), (27, .bool true), (28, v27), (29, .int .i64 (a : Int)), (30, .pointer (some ⟨g76, ((a : Int) : Int).toNat * ((kO 2 kI)).sz, none⟩)), (31, v85), (32, .int .i64 (c : Int)), (33, .pointer (some p89)), (34, .int .i64 z90), (35, .bool (decide (z90 = 0))), (36, .bool (decide (z90 = 0))), (39, .int .i64 (a : Int)), (40, v27), (41, .int .i64 (kk.length : Int)), (42, .bool (decide ((a : Int) = (kk.length : Int)))), (43, v27), (44, .int .i64 (q.length : Int)), (45, v27), (46, .int .i64 (a : Int)), (47, v27), (48, .int .i64 (a : Int)), (49, .pointer (some ⟨g98, ((a : Int) : Int).toNat * ((kO 2 kI)).sz, none⟩)), (50, v106), (51, v27), (52, .int .i64 (q.length : Int)), (53, .pointer (some ⟨g110, ((q.length : Int) : Int).toNat * ((kO 2 kI)).sz, none⟩)), (54, v118), (55, .pointer (some ⟨g122, ((q.length : Int) : Int).toNat * ((kO 2 kI)).sz, none⟩)), (56, .pointer (some ⟨g98, ((a : Int) : Int).toNat * ((kO 2 kI)).sz, none⟩)), (57, .pointer (some ⟨b2, 0, none⟩)), (58, .int .i64 p), (59, v27), (60, .int .i64 (q.length : Int)), (61, .pointer (some ⟨g169, ((q.length : Int) : Int).toNat * ((kO 2 kI)).sz, none⟩)), (62, v178), (63, .pointer (some ⟨b2, 0, none⟩)), (64, .int .i64 p), (65, v27), (66, .int .i64 (q.length : Int)), (67, .pointer (some ⟨g182, ((q.length : Int) : Int).toNat * ((kO 2 kI)).sz, none⟩)), (68, v190), (69, .int .i64 (c : Int)), (70, .pointer (some p194)), (71, .int .i64 z195), (72, .int .i64 (invM p z195)), (74, v27), (75, .int .i64 (R.length : Int)), (4, v27), (74, v27), (76, .int .i64 (i : Int))]) (fun ⟨i, k2⟩ H' => Ext H H' ∧ Ext H3 H' ∧ Ext H11 H' ∧ At W H' b2 ⟨29, [.int .i64 p, .int .i64 k, v], 3⟩ ∧ At W H' b10 ⟨29, [.int .i64 0, .int .i64 0, (.slice none 0 0)], 3⟩ ∧ H28.bd ≤ H'.bd ∧ i ≤ R.length ∧ k2 = clrL p c q.length R i ∧ OwnD (kO 2 kI) 22 W H' (fun b => H11.bd ≤ b ∧ b < H28.bd) v27 k2 ∧ OwnK kI 3 W H' (fun b => H28.bd ≤ b) vq q ∧ True) (fun ⟨i, k2⟩ => R.length - i) (0, R) ⟨X223, X224, X225, hb229, hb230, q221, Nat.zero_le _, (clr_begin _ _ _ _).symm, ho233, ho228, trivial⟩ ⟨rfl, rfl, rfl, rfl, rfl, rfl, rfl, rfl, rfl, rfl, rfl, rfl, rfl, rfl, rfl, rfl, rfl, rfl, rfl, rfl, rfl, rfl, rfl, rfl, rfl, rfl, rfl, rfl, rfl, rfl, rfl, rfl, rfl, rfl, rfl, rfl, rfl, rfl, rfl, rfl, rfl, rfl, rfl, rfl, rfl, rfl, rfl, rfl, rfl, rfl, rfl, rfl, rfl, rfl, rfl, rfl, rfl, rfl, rfl, rfl, rfl, rfl, rfl, rfl, rfl, rfl, rfl, rfl, trivial⟩ ?_
          rintro ⟨i, k2⟩ H234 ⟨X235, X236, X237, hb238, hb239, q240, hi, hk2, hoL2, hoQ2, _⟩
          have g3 : rect p K k2 := by rw [hk2]; exact rect.clr hp0 g2 c q.length i
          have hk2l : k2.length = R.length := by rw [hk2, clrL_len]
          refine AW.rs ?_
          refine AL.val rfl (.inl rfl) (HV.lti rfl rfl) ?_
          refine AL.nx ?_
          refine AW.seq ?_
          refine AW.ifd rfl (fun c241 => ?_) (fun c241 => ?_)
          · -- then
            refine AW.skip ?_
            refine nrm_and ?_
            refine AW.seq ?_
            refine AW.block ?_
            refine AW.rs ?_
            refine AL.val rfl (.inl rfl) (HV.mv rfl) ?_
            obtain ⟨g242, z243, cs244, hz245, hK246, hC247, hg248, hP249⟩ := OwnK.ix (q := (i : Int)) hoL2.own sl23 (by omega) (by omega)
            have X250 := Ext.refl H234
            obtain ⟨v251, rfl, hr252⟩ := hK246
            have hO253 := hr252
            replace hr252 := hr252.rd
            have hm254 := hr252.max
            refine AL.val rfl (.inl rfl) (hP249 rfl rfl) ?_
            refine AL.val rfl (.inl rfl) (HV.ld rfl va22 (cells_first hC247 rfl)) ?_
            refine AL.val rfl (.inl rfl) (HV.as rfl) ?_
            refine AL.val rfl (.inl rfl) (HV.as rfl) ?_
            refine AL.nx ?_
            refine AW.rs ?_
            refine AL.val rfl (.inl rfl) (HV.mv rfl) ?_
            refine AL.val rfl (.inl rfl) (HV.mv rfl) ?_
            refine AL.val rfl (.inl rfl) (HV.nei rfl rfl) ?_
            refine AL.nx ?_
            refine AW.ifd rfl (fun c255 => ?_) (fun c255 => ?_)
            · -- then
              refine AW.draw' [0, 1, 0, 0, 0, 24, 56, 0, 0, 384, 896, 2047] mixed (by rfl) ?_
              refine Dr.read 0 _ 84 _ rfl rfl rfl rfl rfl (RV.of (by intro _ _ h; cases h) (.inl rfl) (fun _ xd => HV.fa fl29_0 rfl)) ?_
              refine Dr.read 1 _ 85 _ rfl rfl rfl rfl rfl (RV.of (by intro _ _ h; cases h) (.inl rfl) (fun _ xd => HV.ld rfl va2 (rdc_ext xd (at_cell hb238 rfl)))) ?_
              refine Dr.read 2 _ 86 _ rfl rfl rfl rfl rfl (RV.of (by intro _ _ h; cases h) (.inl rfl) (fun _ xd => HV.mv rfl)) ?_
              refine Dr.read 3 _ 87 _ rfl rfl rfl rfl rfl (RV.of (by intro _ _ h; cases h) (.inl rfl) (fun _ xd => HV.mv rfl)) ?_
              refine Dr.read 4 _ 88 _ rfl rfl rfl rfl rfl (RV.of (by intro _ _ h; cases h) (.inl rfl) (fun _ xd => HV.mv rfl)) ?_
              obtain ⟨g256, z257, cs258, hz259, hK260, hC261, hg262, hP263⟩ := OwnK.ix (q := (q.length : Int)) hoL2.own sl23 (by omega) (by omega)
              obtain ⟨v264, rfl, hr265⟩ := hK260
              have hO266 := hr265
              replace hr265 := hr265.rd
              have hm267 := hr265.max
              refine Dr.read 5 _ 89 _ rfl rfl rfl rfl rfl (RV.of (by intro _ _ h; cases h) (.inl rfl) (fun _ xd => hP263 rfl rfl)) ?_
              refine Dr.read 6 _ 90 _ rfl rfl rfl rfl rfl (RV.of (by intro _ _ h; cases h) (.inl rfl) (fun _ xd => HV.ld rfl va22 (rdc_ext xd (cells_first hC261 rfl)))) ?_
              refine Dr.read 7 _ 91 _ rfl rfl rfl rfl rfl (RV.of (by intro _ _ h; cases h) (.inl rfl) (fun _ xd => HV.mv rfl)) ?_
              refine Dr.read 8 _ 92 _ rfl rfl rfl rfl rfl (RV.of (by intro _ _ h; cases h) (.inl rfl) (fun _ xd => HV.mv rfl)) ?_
              obtain ⟨p268, z269, cs270, hz271, hK272, hC273, hP274⟩ := RdK.ix (q := (c : Int)) hr252 sl22 (by omega) (by have := rect_at g3 hz245; omega)
              obtain rfl : cs270 = [.int .i64 z269] := hK272
              refine Dr.read 9 _ 93 _ rfl rfl rfl rfl rfl (RV.of (by intro _ _ h; cases h) (.inl rfl) (fun _ xd => hP274 rfl rfl)) ?_
              refine Dr.read 10 _ 94 _ rfl rfl rfl rfl rfl (RV.of (by intro _ _ h; cases h) (.inl rfl) (fun _ xd => HV.ld rfl va2 (rdc_ext xd (cells_first hC273 rfl)))) ?_
              have hel278 := OwnD.el (i := i) hoL2 hg248 (Cells.one hC247) (by first | omega | (simp only [swapL_len, List.length_set, clrL_len]; omega))
              have hof281 := OwnD.off (i := i) (j := q.length) hoL2 hg248 hg262 (Cells.one hC247) (Cells.one hC261) (by first | omega | (simp only [swapL_len, List.length_set, clrL_len]; omega)) (by first | omega | (simp only [swapL_len, List.length_set, clrL_len]; omega)) (by omega)
              refine Dr.eff 11 _ _ rfl (by intro d h; cases h; exact ⟨rfl, rfl⟩) rfl rfl rfl (EC.of (by intro _ _ h; cases h) (.inl rfl) (WV.call fn140 rfl (takeOff_ok hel278 hof281.rd (fun b h1 e => h1.2 e) hp (g3 i (by omega)).2 (g3 q.length (by omega)).2 (elem_at (rect_at g3 hz245).2 hz271) ((g3 q.length (by omega)).1.trans (g3 i (by omega)).1.symm)))) (fun v H' h => .inr (.inl rfl)) ?_
              rintro _ H275 ⟨hx276, ho277⟩
              have hwr279 := OwnD.wr (i := i) hoL2 hg248 (Cells.one hC247) (by first | omega | (simp only [swapL_len, List.length_set, clrL_len]; omega)) hx276 ho277
              have q282 := Nat.le_trans q240 hx276.bd
              have X283 := Ext.thru X235 hx276 (fun b hb => Nat.le_trans o24 (hel278.blk b hb).1.1)
              have X284 := Ext.thru X236 hx276 (fun b hb => Nat.le_trans o25 (hel278.blk b hb).1.1)
              have X285 := Ext.thru X237 hx276 (fun b hb => Nat.le_trans o26 (hel278.blk b hb).1.1)
              have q287 := Nat.le_trans X250.bd hx276.bd
              have ho288 := hoQ2.but hx276 (fun b hb _ e => by have h1 : H28.bd ≤ b := hb; have h2 : H11.bd ≤ b ∧ b < H28.bd := (hel278.blk b e).1; omega) (fun b hb => (hel278.blk b hb).2.2)
              have hb289 := hb238.but hx276 (fun e => by have q : H11.bd ≤ _ := (hel278.blk _ e).1.1; omega)
              have hb290 := hb239.but hx276 (fun e => by have q : H11.bd ≤ _ := (hel278.blk _ e).1.1; omega)
              have ho280 := hwr279.1
              refine Dr.fin rfl ?_
              refine nrm_blk (nrm_and ?_)
              refine AW.reg ?_
              refine AL.val rfl (.inl rfl) (HV.add rfl rfl (by omega)) ?_
              refine AL.val rfl (.inl rfl) (HV.mv rfl) ?_
              refine AL.nil ?_
              refine nrm_and ?_
              exact ⟨(i + 1, (k2.set (i) (offR p z269 (k2.getD (i) []) (k2.getD (q.length) [])))), ⟨X283, X284, X285, hb289, hb290, q282, by omega, by have hz := hz245; rw [hk2] at hz ⊢; exact clr_set hz (by omega) (by rw [(gd hz rfl : (clrL p c q.length R i).getD i [] = z243), clr_at_n (by omega), (gd hz271 rfl : (z243).getD c 0 = z269)]), ho280, ho288, trivial⟩, by first | omega | (dsimp only; omega), ⟨rfl, rfl, rfl, rfl, rfl, rfl, rfl, rfl, rfl, rfl, rfl, rfl, rfl, rfl, rfl, rfl, rfl, rfl, rfl, rfl, rfl, rfl, rfl, rfl, rfl, rfl, rfl, rfl, rfl, rfl, rfl, rfl, rfl, rfl, rfl, rfl, rfl, rfl, rfl, rfl, rfl, rfl, rfl, rfl, rfl, rfl, rfl, rfl, rfl, rfl, rfl, rfl, rfl, rfl, rfl, rfl, rfl, rfl, rfl, rfl, rfl, rfl, rfl, rfl, rfl, rfl, rfl, rfl, trivial⟩⟩
            · -- else
              refine AW.skip ?_
              refine nrm_blk (nrm_and ?_)
              refine AW.reg ?_
              refine AL.val rfl (.inl rfl) (HV.add rfl rfl (by omega)) ?_
              refine AL.val rfl (.inl rfl) (HV.mv rfl) ?_
              refine AL.nil ?_
              refine nrm_and ?_
              exact ⟨(i + 1, k2), ⟨X235, X236, X237, hb238, hb239, q240, by omega, by rw [hk2]; exact clr_n (by omega), hoL2, hoQ2, trivial⟩, by first | omega | (dsimp only; omega), ⟨rfl, rfl, rfl, rfl, rfl, rfl, rfl, rfl, rfl, rfl, rfl, rfl, rfl, rfl, rfl, rfl, rfl, rfl, rfl, rfl, rfl, rfl, rfl, rfl, rfl, rfl, rfl, rfl, rfl, rfl, rfl, rfl, rfl, rfl, rfl, rfl, rfl, rfl, rfl, rfl, rfl, rfl, rfl, rfl, rfl, rfl, rfl, rfl, rfl, rfl, rfl, rfl, rfl, rfl, rfl, rfl, rfl, rfl, rfl, rfl, rfl, rfl, rfl, rfl, rfl, rfl, rfl, rfl, trivial⟩⟩
          · -- else
            refine AW.exit ?_
            refine ex_and (ex_and (ex_blk ?_))
            refine nrm_and ?_
            refine AW.reg ?_
            refine AL.val rfl (.inl rfl) (HV.mv rfl) ?_
            refine AL.val rfl (.inl rfl) (HV.mv rfl) ?_
            have X291 := Ext.refl H234
            have y292 := hb238.lt
            have y293 := hb239.lt
            have o294 := X235.bd
            have o295 := X236.bd
            have o296 := X237.bd
            have o297 := X291.bd
            have a298 := hoL2.ltb
            have a299 := hoQ2.ltb
            refine AL.w rfl (.inl rfl) (WV.bsK (K := kI) (l := ([(c : Int)] : List Int)) (css := [[.int .i64 (c : Int)]]) sl161 rfl rfl (by first | rfl | (simp [Instr.fill, Value.cells, kI, kB, kU, kU8, kS, Kd.sc]; done) | (simp [Instr.fill, Value.cells, kI, kB, kU, kU8, kS, Kd.sc, rng1, rng2, rng3, rng4, kP])) rfl (segs_cons rfl segs_nil)) ?_
            rintro v300 H301 ⟨hx302, ho303⟩
            have q304 := Nat.le_trans q240 hx302.bd
            have X305 := Ext.trans X235 hx302
            have X306 := Ext.trans X236 hx302
            have X307 := Ext.trans X237 hx302
            have X308 := Ext.trans X291 hx302
            have ho309 := hoL2.ext hx302
            have ho310 := hoQ2.ext hx302
            have hb311 := hb238.ext hx302
            have hb312 := hb239.ext hx302
            have X314 := Ext.refl H301
            refine AL.w rfl (.inl rfl) (WV.apk sl161 rfl rfl ho310 ho303.rd (by simp; omega) (by simp; omega) (fun b hb _ e => Nat.lt_irrefl _ (Nat.lt_of_lt_of_le (a299 b e) hb))) ?_
            rintro v315 H316 ⟨hx317, ho318, hb319⟩
            have ho320 := ho318.narrow (ok' := fun b => H28.bd ≤ b) kI_flat (fun b q => (hb319 b q).elim (fun e => (ho310.blk b e).1) (fun e => Nat.le_trans q304 e))
            have q321 := Nat.le_trans q304 hx317.bd
            have X322 := Ext.thru X305 hx317 (fun b hb => Nat.le_trans o41 (ho310.blk b hb).1)
            have X323 := Ext.thru X306 hx317 (fun b hb => Nat.le_trans o42 (ho310.blk b hb).1)
            have X324 := Ext.thru X307 hx317 (fun b hb => Nat.le_trans o43 (ho310.blk b hb).1)
            have q326 := Nat.le_trans X308.bd hx317.bd
            have q328 := Nat.le_trans X314.bd hx317.bd
            have ho329 := ho309.but hx317 (fun b hb _ e => by have h1 : H11.bd ≤ b ∧ b < H28.bd := hb; have h2 : H28.bd ≤ b := (ho310.blk b e).1; omega) (fun b hb => (ho310.blk b hb).2.2)
            have hb331 := hb311.but hx317 (fun e => by have q : H28.bd ≤ _ := (ho310.blk _ e).1; omega)
            have hb332 := hb312.but hx317 (fun e => by have q : H28.bd ≤ _ := (ho310.blk _ e).1; omega)
            refine AL.val rfl (.inl rfl) (HV.as rfl) ?_
            refine AL.nil ?_
            refine nrm_blk (nrm_and ?_)
            refine AW.reg ?_
            refine AL.val rfl (.inl rfl) (HV.add rfl rfl (by omega)) ?_
            refine AL.val rfl (.inl rfl) (HV.mv rfl) ?_
            refine AL.nil ?_
            refine nrm_and ?_
            have hst : ech p l (c + 1) = (clrL p c q.length R kk.length, q ++ [(c : Int)]) := by rw [ech_succ, stepE_yes (a := a) (by rw [← hqq]; omega) (by rw [← hkk]; omega) (by rw [← hqq, ← hkk]; exact (fun j h1 h2 => haz j (by omega) (by omega))) (by rw [← hkk, hy71]; exact hnz), ← hqq, ← hkk, ← hR2]
            exact ⟨(c + 1, v315, (q ++ (([(c : Int)] : List Int) : List Int)), k2), ⟨X322, X323, X324, hb331, hb332, q321, by omega, by rw [hst]; show k2 = _; rw [hk2, show i = kk.length by omega], by rw [hst], ho329, ho320, trivial⟩, by first | omega | (dsimp only; omega), ⟨rfl, rfl, rfl, rfl, rfl, rfl, rfl, rfl, trivial⟩⟩
    · -- false
      have c75_ : decide ((a : Int) < (kk.length : Int)) = false := decide_eq_false c75
      rw [c75_]
      refine AL.off rfl rfl (by decide) rfl ?_
      refine AL.off rfl rfl (by decide) rfl ?_
      refine AL.off rfl rfl (by decide) rfl ?_
      refine AL.off rfl rfl (by decide) rfl ?_
      refine AL.off rfl rfl (by decide) rfl ?_
      refine AL.off rfl rfl (by decide) rfl ?_
      refine AL.off rfl rfl (by decide) rfl ?_
      refine AL.off rfl rfl (by decide) rfl ?_
      refine AL.val rfl (.inl rfl) (HV.pickF rfl rfl) ?_
      refine AL.nx ?_
      refine AW.cond rfl (fun h => by cases h) (fun _ => ?_)
      refine AW.exit ?_
      refine ex_and (ex_and (ex_blk ?_))
      refine nrm_and ?_
      refine AW.seq ?_
      refine AW.rs ?_
      refine AL.val rfl (.inl rfl) (HV.mv rfl) ?_
      refine AL.val rfl (.inl rfl) (HV.mv rfl) ?_
      refine AL.val rfl (.inl rfl) (HV.len Try.underlying23 rfl (rd_ofO ho73.rd).isSl) ?_
      refine AL.val rfl (.inl rfl) (HV.eqi rfl rfl) ?_
      refine AL.nx ?_
      refine AW.ifd rfl (fun c334 => ?_) (fun c334 => ?_)
      · -- then
        refine AW.exit ?_
        refine ex_and (ex_blk ?_)
        refine nrm_and ?_
        refine AW.reg ?_
        refine AL.val rfl (.inl rfl) (HV.add rfl rfl (by omega)) ?_
        refine AL.val rfl (.inl rfl) (HV.mv rfl) ?_
        refine AL.nil ?_
        refine nrm_and ?_
        have hst : ech p l (c + 1) = ech p l c := by rw [ech_succ]; exact stepE_no (by rw [← hqq]; omega) (by rw [← hkk]; omega) (by rw [← hqq, ← hkk]; exact (fun j h1 h2 => haz j (by omega) (by omega)))
        exact ⟨(c + 1, vq, q, kk), ⟨X67, X68, X69, hb70, hb71, q72, by omega, by rw [hst]; exact hkk, by rw [hst]; exact hqq, ho73, ho74, trivial⟩, by first | omega | (dsimp only; omega), ⟨rfl, rfl, rfl, rfl, rfl, rfl, rfl, rfl, trivial⟩⟩
      · -- else
        exfalso; omega
  · -- else
    refine AW.exit ?_
    refine ex_and (ex_and (ex_blk ?_))
    refine nrm_and ?_
    refine AW.seq ?_
    refine AW.draw' [0, 1, 0, 4, 0, 0, 32, 112, 255, 0, 511, 2047] mixed (by rfl) ?_
    refine Dr.read 0 _ 102 _ rfl rfl rfl rfl rfl (RV.of (by intro _ _ h; cases h) (.inl rfl) (fun _ xd => HV.fa fl29_0 rfl)) ?_
    refine Dr.read 1 _ 103 _ rfl rfl rfl rfl rfl (RV.of (by intro _ _ h; cases h) (.inl rfl) (fun _ xd => HV.ld rfl va2 (rdc_ext xd (at_cell hb62 rfl)))) ?_
    refine Dr.read 2 _ 104 _ rfl rfl rfl rfl rfl (RV.of (by intro _ _ h; cases h) (.inl rfl) (fun _ xd => HV.fa fl29_1 rfl)) ?_
    refine Dr.read 3 _ 105 _ rfl rfl rfl rfl rfl (RV.of (by intro _ _ h; cases h) (.inl rfl) (fun _ xd => HV.ld rfl va2 (rdc_ext xd (at_cell_add (j := 1) hb62 rfl)))) ?_
    refine Dr.read 4 _ 106 _ rfl rfl rfl rfl rfl (RV.of (by intro _ _ h; cases h) (.inl rfl) (fun _ xd => HV.mv rfl)) ?_
    refine Dr.read 5 _ 107 _ rfl rfl rfl rfl rfl (RV.of (by intro _ _ h; cases h) (.inl rfl) (fun _ xd => HV.mv rfl)) ?_
    refine Dr.read 6 _ 108 _ rfl rfl rfl rfl rfl (RV.of (by intro _ _ h; cases h) (.inl rfl) (fun _ xd => HV.len Try.underlying161 rfl hoQ.rd.isSl)) ?_
    obtain ⟨v335, hr336, hP337⟩ := RdK.cutH (q := (q.length : Int)) (rd_ofO hoL.rd) sl23 (by omega) (by have q1 := ech_ok hp0 hrc c; rw [← hkk, ← hqq] at q1; omega)
    refine Dr.read 7 _ 109 _ rfl rfl rfl rfl rfl (RV.of (by intro _ _ h; cases h) (.inl rfl) (fun _ xd => hP337 rfl rfl)) ?_
    refine Dr.read 8 _ 110 _ rfl rfl rfl rfl rfl (RV.of (by intro _ _ h; cases h) (.inl rfl) (fun _ xd => HV.bd rfl (bd29_0_1_2 p k hr336.isSl))) ?_
    refine Dr.read 9 _ 111 _ rfl rfl rfl rfl rfl (RV.of (by intro _ _ h; cases h) (.inl rfl) (fun _ xd => HV.mv rfl)) ?_
    refine Dr.eff 10 _ _ rfl (by intro d h; cases h) rfl rfl rfl (EC.of (by intro _ _ h; cases h) (.inl rfl) (WV.st rfl rfl va29 rfl hb63 (Nat.le_of_ble_eq_true rfl) (one_cons rfl (one_cons rfl (one_cons (sl_one1 hr336.isSl) one_nil))))) ?_ ?_
    · -- kept
      rintro _ H339 ⟨hx340, hb341⟩
      have q342 := Nat.le_trans q64 hx340.bd
      have X343 := Ext.thru X59 hx340 (fun z_ hz_ => by rw [hz_]; exact o15)
      have X344 := Ext.thru X60 hx340 (fun z_ hz_ => by rw [hz_]; exact o16)
      have q346 := Nat.le_trans X61.bd hx340.bd
      have ho347 := hoL.but hx340 (fun b hb _ e => by have hb' : H11.bd ≤ b ∧ b < H28.bd := hb; have e' : b = b10 := e; omega) (fun z_ hz_ => by rw [hz_]; exact hb63.w)
      have ho348 := hoQ.but hx340 (fun b hb _ e => by have hb' : H28.bd ≤ b := hb; have e' : b = b10 := e; omega) (fun z_ hz_ => by rw [hz_]; exact hb63.w)
      have ho349 := hr336.but hx340 (fun b hb _ e => by have h1 : H11.bd ≤ b ∧ b < H28.bd := hb; have h2 : b = b10 := e; omega) (fun z_ hz_ => by rw [hz_]; exact hb63.w)
      have hb350 := hb62.but hx340 ne17
      have hb351 : At W H339 b10 ⟨29, [.int .i64 p, .int .i64 k, v335], 3⟩ := hb341
      refine .inr (.inr ?_)
      exact (kept_cons (.inr ⟨_, _, _, rfl, rfl, rfl, (RV.of (by intro _ _ h; cases h) (.inl rfl) (fun _ xd => HV.mv rfl))⟩) (kept_cons (.inl rfl) (kept_cons (.inl rfl) (kept_cons (.inl rfl) (kept_cons (.inl rfl) (kept_cons (.inl rfl) (kept_cons (.inl rfl) (kept_cons (.inl rfl) (kept_cons (.inl rfl) (kept_cons (.inl rfl) kept_nil))))))))))
    rintro _ H339 ⟨hx340, hb341⟩
    have q352 := Nat.le_trans q64 hx340.bd
    have X353 := Ext.thru X59 hx340 (fun z_ hz_ => by rw [hz_]; exact o15)
    have X354 := Ext.thru X60 hx340 (fun z_ hz_ => by rw [hz_]; exact o16)
    have q356 := Nat.le_trans X61.bd hx340.bd
    have ho357 := hoL.but hx340 (fun b hb _ e => by have hb' : H11.bd ≤ b ∧ b < H28.bd := hb; have e' : b = b10 := e; omega) (fun z_ hz_ => by rw [hz_]; exact hb63.w)
    have ho358 := hoQ.but hx340 (fun b hb _ e => by have hb' : H28.bd ≤ b := hb; have e' : b = b10 := e; omega) (fun z_ hz_ => by rw [hz_]; exact hb63.w)
    have ho359 := hr336.but hx340 (fun b hb _ e => by have h1 : H11.bd ≤ b ∧ b < H28.bd := hb; have h2 : b = b10 := e; omega) (fun z_ hz_ => by rw [hz_]; exact hb63.w)
    have hb360 := hb62.but hx340 ne17
    have hb361 : At W H339 b10 ⟨29, [.int .i64 p, .int .i64 k, v335], 3⟩ := hb341
    refine Dr.read 11 _ 3 _ rfl rfl rfl rfl rfl (RV.of (by intro _ _ h; cases h) (.inl rfl) (fun _ xd => HV.as rfl)) ?_
    refine Dr.fin rfl ?_
    refine nrm_and ?_
    refine AW.ret ?_
    refine post_ct rfl rfl rfl va29 hb361 ?_ (.inr rfl)
    have eK : ech p l K = ech p l c := (by obtain ⟨d, rfl⟩ : ∃ d, K = c + d := ⟨K - c, by omega⟩; rcases Nat.eq_zero_or_pos d with h0 | h0; (subst h0; rfl); first | (exfalso; omega) | exact ech_full (by rw [← hkk, ← hqq]; omega) d); exact ⟨⟨_, _, rfl, by rw [eK, ← hkk, ← hqq]; exact (ho359).okk (fun _ _ _ => trivial), by rw [eK, ← hqq]; exact ho358.rd.okk (fun _ _ _ => trivial)⟩, X353⟩

end Go.Proofs.Yticobjbjejpomaa.VC

