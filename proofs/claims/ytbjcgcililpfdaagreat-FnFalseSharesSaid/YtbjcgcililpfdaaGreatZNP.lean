/- Walks. -/
import Derived.Test.YtbjcgcililpfdaaGreatZE
set_option linter.unusedVariables false
set_option linter.unusedSimpArgs false
namespace Go.Proofs.YtbjcgcililpfdaaGreat.VC
open Go Go.RowKit
variable {W : World} {H : Hp}

def cmpI (a b : Int) : Int := if a < b then -1 else if a > b then 1 else 0
/-- Lexicographic order, as a number. -/
def lexI : List Int → List Int → Int
  | [], [] => 0
  | [], _ :: _ => -1
  | _ :: _, [] => 1
  | a :: l, b :: m => if a < b then -1 else if a > b then 1 else lexI l m
theorem lexI_drop {l m : List Int} : ∀ {i : Nat}, (∀ j, j < i → l.getD j 0 = m.getD j 0) → i ≤ l.length → i ≤ m.length → lexI l m = lexI (l.drop i) (m.drop i)
  | 0, _, _, _ => rfl
  | i + 1, he, h1, h2 => by
    cases l with
    | nil => simp at h1
    | cons a l => cases m with
      | nil => simp at h2
      | cons b m =>
        have h0 := he 0 (by omega)
        simp only [List.getD_cons_zero] at h0
        subst h0
        simp only [lexI, Int.lt_irrefl, gt_iff_lt, if_false, List.drop_succ_cons]
        exact lexI_drop (fun j hj => by have := he (j + 1) (by omega); simpa only [List.getD_cons_succ] using this) (by simpa using h1) (by simpa using h2)
theorem lexI_at {l m : List Int} {i : Nat} (he : ∀ j, j < i → l.getD j 0 = m.getD j 0) (h1 : i < l.length) (h2 : i < m.length) (hn : l.getD i 0 ≠ m.getD i 0) : lexI l m = cmpI (l.getD i 0) (m.getD i 0) := by
  rw [lexI_drop he (by omega) (by omega)]
  rw [List.drop_eq_getElem_cons h1, List.drop_eq_getElem_cons h2]
  have e1 : l.getD i 0 = l[i] := by simp [h1]
  have e2 : m.getD i 0 = m[i] := by simp [h2]
  rw [e1, e2] at hn ⊢
  simp only [lexI, cmpI]
  by_cases c1 : l[i] < m[i]
  · simp [c1]
  · by_cases c2 : l[i] > m[i]
    · simp [c1, c2]
    · omega
theorem lexI_end {l m : List Int} {i : Nat} (he : ∀ j, j < i → l.getD j 0 = m.getD j 0) (h1 : i ≤ l.length) (h2 : i ≤ m.length) (h : i = l.length ∨ i = m.length) : lexI l m = if l.length < m.length then -1 else if l.length > m.length then 1 else 0 := by
  rw [lexI_drop he h1 h2]
  rcases h with rfl | rfl
  · rw [List.drop_length]
    rcases Nat.lt_or_ge l.length m.length with h | h
    · rw [List.drop_eq_getElem_cons h, if_pos h]; rfl
    · have : m.drop l.length = [] := List.drop_of_length_le h
      rw [this, if_neg (by omega), if_neg (by omega)]; rfl
  · rw [List.drop_length]
    rcases Nat.lt_or_ge m.length l.length with h | h
    · rw [List.drop_eq_getElem_cons h, if_neg (by omega), if_pos h]; rfl
    · have : l.drop m.length = [] := List.drop_of_length_le h
      rw [this, if_neg (by omega), if_neg (by omega)]; rfl
theorem list_eq {α : Type} [Inhabited α] {l m : List α} {d : α} (hl : l.length = m.length) (h : ∀ j, j < l.length → l.getD j d = m.getD j d) : l = m := by
  apply List.ext_getElem hl
  intro j h1 h2
  have := h j h1
  simpa [h1, h2] using this
theorem cmpI_zero {a b : Int} : cmpI a b = 0 ↔ a = b := by unfold cmpI; split <;> (try split) <;> omega
def bitsI (l : List Int) : Int := l.foldl (fun a h => bt .or .i64 a (IntKind.i64.wrap (1 * 2 ^ min (IntKind.u64.wrap h).toNat IntKind.i64.bits))) 0
def RisAt (lo hi : Int) (l : List Int) (j : Nat) : Prop := lo ≤ l.getD j 0 ∧ l.getD j 0 ≤ hi ∧ (0 < j → l.getD (j - 1) 0 < l.getD j 0)
instance (lo hi : Int) (l : List Int) (j : Nat) : Decidable (RisAt lo hi l j) := by unfold RisAt; infer_instance
def Ris (lo hi : Int) (l : List Int) : Prop := ∀ j, j < l.length → RisAt lo hi l j
instance (lo hi : Int) (l : List Int) : Decidable (Ris lo hi l) := by unfold Ris; infer_instance
def crowd (l : List Int) : Int := l.foldl (fun a h => bt .or .u64 a (IntKind.u64.wrap (1 * 2 ^ min h.toNat IntKind.u64.bits))) 0
/-- A holder's row lies in one of the rows. -/
def opC (q : Int) (l : List (List Int)) : Prop := ∃ x ∈ l, bt .and .u64 q (crowd x) = crowd x
noncomputable instance (q : Int) (l : List (List Int)) : Decidable (opC q l) := Classical.propDecidable _
def RowAt (n : Int) (l : List (List Int)) (i : Nat) : Prop := Ris 0 (n - 1) (l.getD i []) ∧ (0 < i → lexI (l.getD (i - 1) []) (l.getD i []) < 0)
def inI (x y : List Int) : Prop := bt .and .i64 (bitsI x) (bitsI y) = bitsI x
def inC (x y : List Int) : Prop := bt .and .u64 (crowd x) (crowd y) = crowd y
def okI (n : Int) (l : List (List Int)) : Prop := (1 ≤ n ∧ n ≤ 7) ∧ (∀ i, i < l.length → RowAt n l i) ∧ ∀ i, i < l.length → ∀ j, j < l.length → i ≠ j → ¬ inI (l.getD i []) (l.getD j [])
def okC (n : Int) (l : List (List Int)) : Prop := (1 ≤ n ∧ n ≤ 7) ∧ ∀ i, i < l.length → RowAt n l i ∧ ∀ j, j < i → ¬ inC (l.getD j []) (l.getD i []) ∧ ¬ inC (l.getD i []) (l.getD j [])
noncomputable instance (n : Int) (l : List (List Int)) : Decidable (okI n l) := Classical.propDecidable _
noncomputable instance (n : Int) (l : List (List Int)) : Decidable (okC n l) := Classical.propDecidable _
/-- A holder's row lies in one of the rows, by the reference's bits. -/
def opI (s : Int) (l : List (List Int)) : Prop := ∃ x ∈ l, bt .and .i64 (bitsI x) s = bitsI x
noncomputable instance (q : Int) (l : List (List Int)) : Decidable (opI q l) := Classical.propDecidable _
noncomputable def tabI (n : Int) (l : List (List Int)) : List Bool := (List.range (2 ^ n.toNat)).map fun (s : Nat) => decide (opI (s : Int) l)
/-! ### Curves and shares -/
theorem sq6 {d : Int} (h1 : 2 ≤ d) (h2 : d ≤ 6) : 4 ≤ d * d ∧ d * d ≤ 36 ∧ (d * d ≤ 31 → d ≤ 5) := by
  have : d = 2 ∨ d = 3 ∨ d = 4 ∨ d = 5 ∨ d = 6 := by omega
  rcases this with rfl | rfl | rfl | rfl | rfl <;> decide
theorem sq_lt {d e : Int} (h0 : 0 ≤ d) (h : e * e < d * d) (h1 : 0 ≤ e) : e < d := by
  rcases Int.lt_or_le e d with h2 | h2
  · exact h2
  · have := Int.mul_le_mul h2 h2 h0 h1; omega
def primeI (p : Int) : Prop := (2 ≤ p ∧ p ≤ 31) ∧ ∀ e : Int, 2 ≤ e → e * e ≤ p → p % e ≠ 0
noncomputable instance (p : Int) : Decidable (primeI p) := Classical.propDecidable _
def elems (p : Int) (l : List Int) : Prop := ∀ j, j < l.length → 0 ≤ l.getD j 0 ∧ l.getD j 0 ≤ p - 1
noncomputable instance (p : Int) (l : List Int) : Decidable (elems p l) := Classical.propDecidable _
def ptsI (p : Int) (l : List Int) : Prop := (l.length : Int) ≤ 10 ∧ Ris 1 (p - 1) l
instance (p : Int) (l : List Int) : Decidable (ptsI p l) := by unfold ptsI; infer_instance
def curveI (p : Int) (c : List Int) : Prop := (c.length : Int) ≤ 7 ∧ elems p c ∧ ((c.length : Int) = 0 ∨ c.getD (c.length - 1) 0 ≠ 0)
noncomputable instance (p : Int) (c : List Int) : Decidable (curveI p c) := Classical.propDecidable _
def allC (p : Int) (L : List (List Int)) : Prop := ∀ j, j < L.length → curveI p (L.getD j [])
noncomputable instance (p : Int) (L : List (List Int)) : Decidable (allC p L) := Classical.propDecidable _
def allV (p : Int) (L : List (List Int)) : Prop := ∀ j, j < L.length → primeI p ∧ curveI p (L.getD j [])
noncomputable instance (p : Int) (L : List (List Int)) : Decidable (allV p L) := Classical.propDecidable _
def vS (p : Int) (l : List (Int × Int)) : Prop := primeI p ∧ elems p (l.map Prod.snd) ∧ ptsI p (l.map Prod.fst)
noncomputable instance (p : Int) (l : List (Int × Int)) : Decidable (vS p l) := Classical.propDecidable _
def val (p : Int) (c : List Int) (x : Int) : Int := c.foldr (fun a acc => (acc * x + a) % p) 0
theorem val_step {p x z : Int} {c : List Int} {i : Nat} (hz : c[i]? = some z) : val p (c.drop i) x = (val p (c.drop (i + 1)) x * x + z) % p := by
  have hi := (List.getElem?_eq_some_iff.1 hz).1
  unfold val
  rw [List.drop_eq_getElem_cons hi, List.foldr_cons, (List.getElem?_eq_some_iff.1 hz).2]
theorem val_in {p : Int} (hp : 0 < p) (c : List Int) (x : Int) : 0 ≤ val p c x ∧ val p c x ≤ p - 1 := by
  cases c with
  | nil => simp only [val, List.foldr_nil]; omega
  | cons a c =>
    have h1 := Int.emod_nonneg ((c.foldr (fun a acc => (acc * x + a) % p) 0) * x + a) (show p ≠ 0 by omega)
    have h2 := Int.emod_lt_of_pos ((c.foldr (fun a acc => (acc * x + a) % p) 0) * x + a) hp
    simp only [val, List.foldr_cons]; omega
theorem mul31 {a b : Int} (h1 : 0 ≤ a) (h2 : a ≤ 31) (h3 : 0 ≤ b) (h4 : b ≤ 31) : 0 ≤ a * b ∧ a * b ≤ 961 := by
  have h5 := Int.mul_nonneg h1 h3
  have h6 := Int.mul_le_mul h2 h4 h3 (by decide)
  omega
theorem elem_at {p : Int} {l : List Int} {q z : Int} (h : elems p l) (hz : l[q.toNat]? = some z) : 0 ≤ z ∧ z ≤ p - 1 := by
  have hi := (List.getElem?_eq_some_iff.1 hz).1
  have := h q.toNat hi
  rwa [List.getD_eq_getElem?_getD, hz] at this
theorem map_snoc {α : Type} {f : α → Int} {l : List α} {i : Nat} {z : α} (hz : l[(i : Int).toNat]? = some z) : (l.take (i + 1)).map f = (l.take i).map f ++ [f z] := by
  rw [Int.toNat_natCast] at hz
  rw [List.take_add_one, hz]; simp
/-- A share to which a mask's value is added. -/
def addS (p : Int) (m : List Int) (s : Int × Int) : Int × Int := (s.1, (s.2 + val p m s.1) % p)
def refr (p : Int) (L : List (List Int)) (l : List (Int × Int)) : List (Int × Int) := L.foldl (fun out m => out.map (addS p m)) l
/-- The first are changed. -/
def updS (f : Int × Int → Int × Int) (l : List (Int × Int)) (j : Nat) : List (Int × Int) := (l.take j).map f ++ l.drop j
/-- Values and points that stay within. -/
def bnd (p : Int) (l : List (Int × Int)) : Prop := ∀ s ∈ l, (1 ≤ s.1 ∧ s.1 ≤ p - 1) ∧ 0 ≤ s.2 ∧ s.2 ≤ p - 1
/-- Masks that do not change the secret. -/
def zer (L : List (List Int)) : Prop := ∀ j, j < L.length → (L.getD j []).getD 0 0 = 0
noncomputable instance (L : List (List Int)) : Decidable (zer L) := Classical.propDecidable _
noncomputable def rfCode (p : Int) (l : List (Int × Int)) (L : List (List Int)) : Int := if vS p l ∧ allC p L then if zer L then 0 else 4 else 1
noncomputable def rfRow (p : Int) (l : List (Int × Int)) (L : List (List Int)) : List (Int × Int) := if vS p l ∧ allC p L then if zer L then refr p L l else [] else []
theorem same_at {α : Type} {l : List α} {q : Int} {z y : α} (h : l[q.toNat]? = some z) (k : l[q.toNat]? = some y) : y = z := Option.some.inj (k.symm.trans h)
/-! ### Numbers modulo a prime -/
def isPr (p : Int) : Bool := decide (p ∈ ([2, 3, 5, 7, 11, 13, 17, 19, 23, 29, 31] : List Int))
theorem isPr_bd {p : Int} (h : isPr p = true) : 2 ≤ p ∧ p ≤ 31 := by
  simp only [isPr, decide_eq_true_eq, List.mem_cons, List.mem_nil_iff, or_false] at h
  omega
theorem emod_bd {p : Int} (hp : 0 < p) (a : Int) : 0 ≤ a % p ∧ a % p < p := ⟨Int.emod_nonneg _ (by omega), Int.emod_lt_of_pos _ hp⟩
def invM (p a : Int) : Int := (((List.range 31).map (fun n : Nat => (n : Int))).find? (fun x => decide (a * x % p = 1 ∧ 0 < x ∧ x < p))).getD 0
theorem invM_small : ∀ p a : Fin 32, isPr (p.val : Int) = true → 1 ≤ a.val → a.val < p.val → ((a.val : Int) * invM p.val a.val) % p.val = 1 ∧ 1 ≤ invM p.val a.val ∧ invM (p.val : Int) a.val < p.val := by decide +kernel
theorem invM_spec {p a : Int} (hp : isPr p = true) (h1 : 1 ≤ a) (h2 : a < p) : (a * invM p a) % p = 1 ∧ 1 ≤ invM p a ∧ invM p a < p := by
  have hb := isPr_bd hp
  obtain ⟨p, rfl⟩ : ∃ n : Nat, p = n := ⟨p.toNat, by omega⟩
  obtain ⟨a, rfl⟩ : ∃ n : Nat, a = n := ⟨a.toNat, by omega⟩
  exact invM_small ⟨p, by omega⟩ ⟨a, by omega⟩ hp (by simp only; omega) (by simp only; omega)

def Cg (p a b : Int) : Prop := ∃ k, a = b + p * k
theorem Cg.refl (p a : Int) : Cg p a a := ⟨0, by omega⟩
theorem Cg.of_eq {p a b : Int} (h : a = b) : Cg p a b := h ▸ Cg.refl p a
theorem Cg.symm {p a b : Int} (h : Cg p a b) : Cg p b a := by
  obtain ⟨k, h⟩ := h; exact ⟨-k, by grind⟩
theorem Cg.trans {p a b c : Int} (h : Cg p a b) (h' : Cg p b c) : Cg p a c := by
  obtain ⟨k, h⟩ := h; obtain ⟨k', h'⟩ := h'; exact ⟨k + k', by grind⟩
theorem Cg.add {p a b c d : Int} (h : Cg p a b) (h' : Cg p c d) : Cg p (a + c) (b + d) := by
  obtain ⟨k, h⟩ := h; obtain ⟨k', h'⟩ := h'; exact ⟨k + k', by grind⟩
theorem Cg.sub {p a b c d : Int} (h : Cg p a b) (h' : Cg p c d) : Cg p (a - c) (b - d) := by
  obtain ⟨k, h⟩ := h; obtain ⟨k', h'⟩ := h'; exact ⟨k - k', by grind⟩
theorem Cg.mul {p a b c d : Int} (h : Cg p a b) (h' : Cg p c d) : Cg p (a * c) (b * d) := by
  obtain ⟨k, h⟩ := h; obtain ⟨k', h'⟩ := h'; exact ⟨b * k' + k * d + p * k * k', by grind⟩
theorem Cg.mod (p a : Int) : Cg p (a % p) a := ⟨-(a / p), by have := Int.emod_def a p; grind⟩
theorem Cg.plus (p a : Int) : Cg p (a + p) a := ⟨1, by grind⟩
theorem Cg.emod_eq {p a b : Int} (h : Cg p a b) : a % p = b % p := by
  obtain ⟨k, h⟩ := h; rw [h, Int.add_mul_emod_self_left]
theorem Cg.eq {p a b : Int} (h : Cg p a b) (a0 : 0 ≤ a) (a1 : a < p) (b0 : 0 ≤ b) (b1 : b < p) : a = b := by
  have := h.emod_eq
  rwa [Int.emod_eq_of_lt a0 a1, Int.emod_eq_of_lt b0 b1] at this
theorem Cg.mod_l {p a b : Int} (h : Cg p a b) : Cg p (a % p) b := (Cg.mod p a).trans h
theorem tmod_Cg (p a : Int) : Cg p (Int.tmod a p) a := ⟨-(Int.tdiv a p), by have := Int.tmod_add_mul_tdiv a p; grind⟩
theorem inv_cg {p a : Int} (hp : isPr p = true) (h1 : 1 ≤ a) (h2 : a < p) : Cg p (a * invM p a) 1 := by
  have h := (invM_spec hp h1 h2).1
  have hb := isPr_bd hp
  exact (Cg.mod p _).symm.trans (Cg.of_eq h)
theorem mul_nz {p a b : Int} (hp : isPr p = true) (a1 : 1 ≤ a) (a2 : a < p) (b1 : 1 ≤ b) (b2 : b < p) : 1 ≤ (a * b) % p ∧ (a * b) % p < p := by
  have hb := isPr_bd hp
  have h := emod_bd (p := p) (by omega) (a * b)
  refine ⟨?_, h.2⟩
  rcases (show 0 < (a * b) % p ∨ (a * b) % p ≤ 0 by omega) with h0 | h0
  · omega
  · exfalso
    have e : (a * b) % p = 0 := by omega
    have z : Cg p (a * b) 0 := (Cg.mod p _).symm.trans (Cg.of_eq e)
    have one : Cg p 1 0 := by
      have h3 := (inv_cg hp a1 a2).mul (inv_cg hp b1 b2)
      have h4 := z.mul (Cg.refl p (invM p a * invM p b))
      have h5 : (a * invM p a) * (b * invM p b) = (a * b) * (invM p a * invM p b) := by grind
      rw [h5] at h3
      have h6 := h3.symm.trans h4
      simpa using h6
    have := one.eq (by omega) (by omega) (by omega) (by omega)
    omega

def wS (p x xi w y : Int) : Int := ((w * ((x - y) % p)) % p * invM p ((xi - y) % p)) % p
theorem wS_step {p x xi w y a b : Int} (hp : isPr p = true) (hxi : 1 ≤ xi ∧ xi ≤ p - 1) (hy : 1 ≤ y ∧ y ≤ p - 1) (hne : y ≠ xi) (hb : 1 ≤ b ∧ b < p) (h : Cg p (w * b) a) :
    Cg p (wS p x xi w y * ((b * (xi - y + p)) % p)) ((a * (x - y + p)) % p) ∧ 1 ≤ (b * (xi - y + p)) % p ∧ (b * (xi - y + p)) % p < p := by
  have hpb := isPr_bd hp
  have hd : 1 ≤ (xi - y) % p ∧ (xi - y) % p < p := by
    have := emod_bd (p := p) (by omega) (xi - y)
    refine ⟨?_, this.2⟩
    rcases (show 0 < (xi - y) % p ∨ (xi - y) % p ≤ 0 by omega) with h0 | h0
    · omega
    · exfalso
      have e : (xi - y) % p = 0 := by omega
      have z : Cg p (xi - y) 0 := (Cg.mod p _).symm.trans (Cg.of_eq e)
      have := (z.add (Cg.refl p y)).eq (by omega) (by omega) (by omega) (by omega)
      omega
  have e1 : (b * (xi - y + p)) % p = (b * ((xi - y) % p)) % p := by
    apply Cg.emod_eq
    exact (Cg.refl p b).mul ((Cg.plus p _).trans (Cg.mod p _).symm)
  have hnz := mul_nz hp hb.1 hb.2 hd.1 hd.2
  rw [e1]
  refine ⟨?_, hnz⟩
  have i1 := inv_cg hp hd.1 hd.2
  have g1 : Cg p (wS p x xi w y) (w * ((x - y) % p) * invM p ((xi - y) % p)) := by
    unfold wS
    exact (Cg.mod p _).trans ((Cg.mod p _).mul (Cg.refl p _))
  have g2 : Cg p ((b * ((xi - y) % p)) % p) (b * ((xi - y) % p)) := Cg.mod p _
  have g3 := g1.mul g2
  have e2 : (w * ((x - y) % p) * invM p ((xi - y) % p)) * (b * ((xi - y) % p)) = (w * b) * ((x - y) % p) * ((xi - y) % p * invM p ((xi - y) % p)) := by grind
  rw [e2] at g3
  have g4 : Cg p ((w * b) * ((x - y) % p) * ((xi - y) % p * invM p ((xi - y) % p))) (a * (x - y + p) * 1) := ((h.mul ((Cg.mod p (x - y)).trans (Cg.plus p _).symm)).mul i1)
  exact (g3.trans g4).trans ((Cg.of_eq (by omega)).trans (Cg.mod p _).symm)
theorem wS_end {p w a b : Int} (hp : isPr p = true) (hb : 1 ≤ b ∧ b < p) (hw : 0 ≤ w ∧ w < p) (h : Cg p (w * b) a) : (a * invM p b) % p = w := by
  have hpb := isPr_bd hp
  have i1 := inv_cg hp hb.1 hb.2
  have g : Cg p (a * invM p b) w := by
    have := (h.symm.mul (Cg.refl p (invM p b)))
    have e : w * b * invM p b = w * (b * invM p b) := by grind
    rw [e] at this
    have := this.trans ((Cg.refl p w).mul i1)
    simpa using this
  have := emod_bd (p := p) (by omega) (a * invM p b)
  exact g.mod_l.eq this.1 this.2 hw.1 hw.2
theorem isPr_all : ∀ p : Fin 32, 2 ≤ p.val → (∀ e : Fin 6, 2 ≤ e.val → e.val * e.val ≤ p.val → p.val % e.val ≠ 0) → isPr (p.val : Int) = true := by decide +kernel
theorem isPr_of {p : Int} (h : primeI p) : isPr p = true := by
  obtain ⟨⟨h1, h2⟩, h3⟩ := h
  obtain ⟨p, rfl⟩ : ∃ n : Nat, p = n := ⟨p.toNat, by omega⟩
  refine isPr_all ⟨p, by omega⟩ (by simp only; omega) (fun e he hp hq => h3 (e.val : Int) (by omega) (by exact_mod_cast hp) ?_)
  have : (p : Int) % (e.val : Int) = ((p % e.val : Nat) : Int) := by simp
  rw [this]
  simp only at hq
  rw [hq]; rfl
theorem rest_mod {p a : Int} (hp : 0 < p) : (Int.tmod a p + p) % p = a % p := Cg.emod_eq ((Cg.plus p _).trans (tmod_Cg p a))
theorem tmod_in {p a : Int} (hp : 0 < p) : -p < Int.tmod a p ∧ Int.tmod a p < p := ⟨Int.lt_tmod_of_pos a hp, Int.tmod_lt_of_pos a hp⟩
theorem inv_at {p a x : Int} (hp : isPr p = true) (h0 : 0 ≤ a) (h1 : a < p) (hx : 1 ≤ x) (hx2 : x < p) (h : a * x % p = 1) : invM p a = x := by
  have hb := isPr_bd hp
  have ha : 1 ≤ a := by
    rcases Int.lt_or_le 0 a with h2 | h2
    · omega
    · obtain rfl : a = 0 := by omega
      simp at h
  obtain ⟨s1, s2, s3⟩ := invM_spec hp ha h1
  have g1 : Cg p (a * x) 1 := (Cg.mod p _).symm.trans (Cg.of_eq h)
  have g2 := inv_cg hp ha h1
  have g3 : Cg p (invM p a) x := by
    have e1 := (g1.symm.mul (Cg.refl p (invM p a)))
    have e2 : a * x * invM p a = x * (a * invM p a) := by grind
    rw [e2] at e1
    have e3 := e1.trans ((Cg.refl p x).mul g2)
    simpa using e3
  exact g3.eq (by omega) s3 (by omega) hx2
theorem inv_zero : ∀ p : Fin 32, isPr (p.val : Int) = true → invM (p.val : Int) 0 = 0 := by decide +kernel
theorem inv_none {p a : Int} (hp : isPr p = true) (h0 : 0 ≤ a) (h1 : a < p) (h : ∀ x : Int, 1 ≤ x → x < p → a * x % p ≠ 1) : invM p a = 0 := by
  have hb := isPr_bd hp
  rcases Int.lt_or_le 0 a with h2 | h2
  · obtain ⟨s1, s2, s3⟩ := invM_spec hp (show 1 ≤ a by omega) h1
    exact absurd s1 (h _ s2 s3)
  · obtain rfl : a = 0 := by omega
    obtain ⟨p, rfl⟩ : ∃ n : Nat, p = n := ⟨p.toNat, by omega⟩
    exact inv_zero ⟨p, by omega⟩ hp
def powM (p a : Int) : Nat → Int
  | 0 => 1 % p
  | k + 1 => powM p a k * a % p
theorem powM_in {p a : Int} (hp : 0 < p) : ∀ k, 0 ≤ powM p a k ∧ powM p a k < p
  | 0 => emod_bd hp 1
  | k + 1 => emod_bd hp _
theorem pow_small : ∀ p a : Fin 32, isPr (p.val : Int) = true → 1 ≤ a.val → a.val < p.val → powM (p.val : Int) (a.val : Int) (p.val - 2) = invM p.val a.val := by decide +kernel
theorem pow_inv {p a : Int} (hp : isPr p = true) (h1 : 1 ≤ a) (h2 : a < p) : powM p a (p - 2).toNat = invM p a := by
  have hb := isPr_bd hp
  obtain ⟨p, rfl⟩ : ∃ n : Nat, p = n := ⟨p.toNat, by omega⟩
  obtain ⟨a, rfl⟩ : ∃ n : Nat, a = n := ⟨a.toNat, by omega⟩
  have := pow_small ⟨p, by omega⟩ ⟨a, by omega⟩ hp (by simp only; omega) (by simp only; omega)
  rw [show ((p : Int) - 2).toNat = p - 2 by omega]
  exact this
/-! ### Weights -/
def wP (p : Int) (l : List Int) (x : Int) (i j : Nat) : Int := (List.range j).foldl (fun w k => if k = i then w else wS p x (l.getD i 0) w (l.getD k 0)) 1
def wts (p : Int) (l : List Int) (x : Int) (n : Nat) : List Int := (List.range n).map (fun i => wP p l x i l.length)
theorem ris_lt {lo hi : Int} {l : List Int} (h : Ris lo hi l) {i : Nat} : ∀ d, i + 1 + d < l.length → l.getD i 0 < l.getD (i + 1 + d) 0
  | 0, hd => by have := (h (i + 1) hd).2.2 (by omega); simpa using this
  | d + 1, hd => by
    have h1 := ris_lt h (i := i) d (by omega)
    have h2 := (h (i + 1 + (d + 1)) hd).2.2 (by omega)
    have e : i + 1 + (d + 1) - 1 = i + 1 + d := by omega
    rw [e] at h2
    omega
theorem ris_ne {lo hi : Int} {l : List Int} (h : Ris lo hi l) {i j : Nat} (hi' : i < l.length) (hj : j < l.length) (hne : j ≠ i) : l.getD j 0 ≠ l.getD i 0 := by
  rcases Nat.lt_trichotomy i j with g | g | g
  · obtain ⟨d, rfl⟩ : ∃ d, j = i + 1 + d := ⟨j - i - 1, by omega⟩
    have := ris_lt h (i := i) d hj; omega
  · exact absurd g.symm hne
  · obtain ⟨d, rfl⟩ : ∃ d, i = j + 1 + d := ⟨i - j - 1, by omega⟩
    have := ris_lt h (i := j) d hi'; omega
theorem ris_at {lo hi : Int} {l : List Int} {q z : Int} (h : Ris lo hi l) (hz : l[q.toNat]? = some z) : lo ≤ z ∧ z ≤ hi := by
  have hi := (List.getElem?_eq_some_iff.1 hz).1
  have := h q.toNat hi
  unfold RisAt at this
  rw [List.getD_eq_getElem?_getD, hz] at this
  exact ⟨this.1, this.2.1⟩
/-! ### Shares dealt anew -/
def sumC (p : Int) (w : List Int) (L : List (List Int)) (x : Int) (j : Nat) : Int := (List.range j).foldl (fun s i => s + w.getD i 0 * val p (L.getD i []) x) 0
def rsh (p : Int) (l : List (Int × Int)) (L : List (List Int)) (pts : List Int) : List (Int × Int) := pts.map (fun x => (x, sumC p (wts p (l.map Prod.fst) 0 l.length) L x L.length % p))
def fits (p : Int) (l : List (Int × Int)) (L : List (List Int)) : Prop := ∀ j, j < l.length → val p (L.getD j []) 0 = (l.getD j (0, 0)).2
noncomputable instance (p : Int) (l : List (Int × Int)) (L : List (List Int)) : Decidable (fits p l L) := Classical.propDecidable _
noncomputable def rs {α : Type} (p : Int) (l : List (Int × Int)) (L : List (List Int)) (pts : List Int) (a b c d : α) : α := if vS p l ∧ allC p L then if (L.length : Int) = l.length ∧ ptsI p pts then if fits p l L ∧ (l.length : Int) ≠ 0 then d else c else b else a
noncomputable def rsCode (p : Int) (l : List (Int × Int)) (L : List (List Int)) (pts : List Int) : Int := rs p l L pts 1 2 4 0
noncomputable def rsRow (p : Int) (l : List (Int × Int)) (L : List (List Int)) (pts : List Int) : List (Int × Int) := rs p l L pts [] [] [] (rsh p l L pts)
theorem mul62 {a b : Int} (h1 : 0 ≤ a) (h2 : a ≤ 31) (h3 : 0 ≤ b) (h4 : b ≤ 62) : 0 ≤ a * b ∧ a * b ≤ 1922 := by
  have h5 := Int.mul_nonneg h1 h3
  have h6 := Int.mul_le_mul h2 h4 h3 (by decide)
  omega
/-! ### Rows of rows, marked -/
def offs (l : List (List Int)) (i : Nat) : Int := (List.range i).foldl (fun s t => s + ((l.getD t []).length : Int)) 0
def sameLen (k l : List (List Int)) : Prop := k.length = l.length ∧ ∀ t, (k.getD t []).length = (l.getD t []).length
theorem sameLen.refl (l : List (List Int)) : sameLen l l := ⟨rfl, fun _ => rfl⟩
theorem sameLen.trans {a b c : List (List Int)} (h : sameLen a b) (k : sameLen b c) : sameLen a c := ⟨h.1.trans k.1, fun t => (h.2 t).trans (k.2 t)⟩
theorem sameLen.set {k l : List (List Int)} (h : sameLen k l) {i : Nat} {z x : List Int} (hz : k[(i : Int).toNat]? = some z) (hx : x.length = z.length) : sameLen (k.set (i : Int).toNat x) l := by
  rw [Int.toNat_natCast] at hz ⊢
  refine ⟨by simp [h.1], fun t => ?_⟩
  rw [← h.2 t]
  have hi := (List.getElem?_eq_some_iff.1 hz).1
  simp only [List.getD_eq_getElem?_getD]
  by_cases e : t = i
  · subst e; simp [hi, hx, ← (List.getElem?_eq_some_iff.1 hz).2]
  · rw [List.getElem?_set_ne (fun e' => e e'.symm)]
def heldL (q : Int) (l k : List (List Int)) (n : Nat) : Prop := ∀ i, i < n → ∀ j : Nat, j < (k.getD i []).length → (k.getD i []).getD j 0 = q + offs l i + (j : Int)
/-! ### Enrolling -/
def lastE (p a : Int) (row : List Int) : Int := row.foldl (fun x m => (x - m) % p) a
def enrE (p : Int) (l : List (Int × Int)) (L : List (List Int)) (at_ : Int) (i : Nat) : List Int := L.getD i [] ++ [lastE p ((wts p (l.map Prod.fst) at_ (l.map Prod.fst).length).getD i 0 * (l.getD i (0, 0)).2 % p) (L.getD i [])]
def enrN (p : Int) (l : List (Int × Int)) (L : List (List Int)) (at_ : Int) (n : Nat) : List (List Int) := (List.range n).map (enrE p l L at_)
def rowOk (n p : Int) (x : List Int) : Prop := (x.length : Int) = n - 1 ∧ elems p x
noncomputable instance (n p : Int) (x : List Int) : Decidable (rowOk n p x) := Classical.propDecidable _
def rowsOk (n p : Int) (L : List (List Int)) : Prop := ∀ j, j < L.length → rowOk n p (L.getD j [])
noncomputable instance (n p : Int) (L : List (List Int)) : Decidable (rowsOk n p L) := Classical.propDecidable _
def gdE (p : Int) (l : List (Int × Int)) (L : List (List Int)) (at_ : Int) : Prop := ((0 ≤ at_ ∧ at_ ≤ p - 1) ∧ (L.length : Int) = l.length) ∧ rowsOk l.length p L
noncomputable instance (p : Int) (l : List (Int × Int)) (L : List (List Int)) (at_ : Int) : Decidable (gdE p l L at_) := Classical.propDecidable _
noncomputable def en {α : Type} (p : Int) (l : List (Int × Int)) (L : List (List Int)) (at_ : Int) (a b c d : α) : α := if vS p l then if gdE p l L at_ then if (l.length : Int) ≠ 0 then d else c else b else a
noncomputable def enCode (p : Int) (l : List (Int × Int)) (L : List (List Int)) (at_ : Int) : Int := en p l L at_ 1 2 4 0
noncomputable def enRow (p : Int) (l : List (Int × Int)) (L : List (List Int)) (at_ : Int) : List (List Int) := en p l L at_ [] [] [] (enrN p l L at_ l.length)
theorem elems_one {p a : Int} : elems p [a] ↔ 0 ≤ a ∧ a ≤ p - 1 := by
  constructor
  · intro h; simpa using h 0 (by simp)
  · intro h j hj
    obtain rfl : j = 0 := by simp at hj; exact hj
    simpa using h
/-! ### Choices out of bytes -/
def bytes (l : List Int) : Prop := ∀ x ∈ l, 0 ≤ x ∧ x ≤ 255
theorem i64_id {z : Int} (h : 0 ≤ z ∧ z ≤ 255) : IntKind.i64.wrap z = z := by
  have h1 : z % 18446744073709551616 = z := by omega
  simp [IntKind.wrap, IntKind.signed, IntKind.bits, h1]; omega
theorem bt_255 (x : Int) : 0 ≤ bt .and .u64 x 255 ∧ bt .and .u64 x 255 ≤ 255 := by
  have h1 : (BitVec.ofInt IntKind.u64.bits x &&& BitVec.ofInt IntKind.u64.bits 255).toNat ≤ 255 := by
    rw [BitVec.toNat_and]
    exact Nat.le_trans Nat.and_le_right (by decide)
  simp only [bt]
  generalize (BitVec.ofInt IntKind.u64.bits x &&& BitVec.ofInt IntKind.u64.bits 255).toNat = n at h1
  have h2 : (n : Int) % 18446744073709551616 = n := by omega
  have h3 : IntKind.u64.wrap (n : Int) = n := by simp [IntKind.wrap, IntKind.signed, IntKind.bits, h2]
  rw [h3]; omega
theorem elems_snoc {p q : Int} {k : List Int} (h : elems p k) (hq : 0 ≤ q ∧ q ≤ p - 1) : elems p (k ++ [q]) := fun j hj => by
  rcases Nat.lt_or_ge j k.length with h1 | h1
  · have := h j h1
    simp only [List.getD_eq_getElem?_getD] at this ⊢
    rwa [List.getElem?_append_left h1]
  · have e : j = k.length := by simp at hj; omega
    subst e
    simpa [List.getD_eq_getElem?_getD] using hq
theorem elems_take {p : Int} {k : List Int} (h : elems p k) (i : Nat) : elems p (k.take i) := fun j hj => by
  have hj' : j < i ∧ j < k.length := by simp at hj; omega
  have := h j hj'.2
  simp only [List.getD_eq_getElem?_getD, List.getElem?_take, if_pos hj'.1] at this ⊢
  exact this
theorem take_last {k : List Int} {i : Nat} (hi : i ≤ k.length) : (k.take i).getD ((k.take i).length - 1) 0 = if i = 0 then 0 else k.getD (i - 1) 0 := by
  rw [List.length_take, Nat.min_eq_left hi]
  split
  · rename_i h; subst h; simp
  · simp only [List.getD_eq_getElem?_getD, List.getElem?_take, if_pos (show i - 1 < i by omega)]
def ins (x : Int) : List Int → List Int
  | [] => [x]
  | y :: l => if y < x then y :: ins x l else if y = x then y :: l else x :: y :: l
theorem ins_lt {x y : Int} {l : List Int} (h : y < x) : ins x (y :: l) = y :: ins x l := if_pos h
theorem ins_eq {x y : Int} {l : List Int} (h : y = x) : ins x (y :: l) = y :: l := by unfold ins; rw [if_neg (by omega), if_pos h]
theorem ins_gt {x y : Int} {l : List Int} (h : x < y) : ins x (y :: l) = x :: y :: l := by unfold ins; rw [if_neg (by omega), if_neg (by omega)]
theorem ins_len (x : Int) : ∀ l : List Int, (ins x l).length ≤ l.length + 1
  | [] => by simp [ins]
  | y :: l => by
    have := ins_len x l
    unfold ins
    split
    · simp only [List.length_cons]; omega
    · split
      · simp
      · simp
theorem ins_mem {x z : Int} : ∀ {l : List Int}, z ∈ ins x l ↔ z = x ∨ z ∈ l
  | [] => by simp [ins]
  | y :: l => by
    have := ins_mem (x := x) (z := z) (l := l)
    unfold ins
    split
    · simp only [List.mem_cons, this]
      constructor
      · rintro (h | h | h)
        · exact .inr (.inl h)
        · exact .inl h
        · exact .inr (.inr h)
      · rintro (h | h | h)
        · exact .inr (.inl h)
        · exact .inl h
        · exact .inr (.inr h)
    · split
      · rename_i h; subst h
        simp only [List.mem_cons]
        constructor
        · exact fun h => .inr h
        · rintro (h | h)
          · exact .inl h
          · exact h
      · simp only [List.mem_cons]
theorem ins_pw {x : Int} : ∀ {l : List Int}, l.Pairwise (· < ·) → (ins x l).Pairwise (· < ·)
  | [], _ => by simp [ins]
  | y :: l, h => by
    obtain ⟨h1, h2⟩ := List.pairwise_cons.1 h
    unfold ins
    split
    · rename_i hy
      refine List.pairwise_cons.2 ⟨fun z hz => ?_, ins_pw h2⟩
      rcases ins_mem.1 hz with rfl | hz
      · exact hy
      · exact h1 z hz
    · split
      · exact h
      · refine List.pairwise_cons.2 ⟨fun z hz => ?_, h⟩
        rcases List.mem_cons.1 hz with rfl | hz
        · omega
        · have := h1 z hz; omega
theorem ris_iff {lo hi : Int} {l : List Int} : Ris lo hi l ↔ l.Pairwise (· < ·) ∧ ∀ x ∈ l, lo ≤ x ∧ x ≤ hi := by
  constructor
  · intro h
    refine ⟨List.pairwise_iff_getElem.2 fun i j hi' hj hij => ?_, fun x hx => ?_⟩
    · obtain ⟨d, rfl⟩ : ∃ d, j = i + 1 + d := ⟨j - i - 1, by omega⟩
      have := ris_lt h (i := i) d hj
      simpa [hi', hj] using this
    · obtain ⟨j, hj, rfl⟩ := List.getElem_of_mem hx
      have := h j hj
      unfold RisAt at this
      simp [hj] at this
      exact ⟨this.1, this.2.1⟩
  · rintro ⟨h1, h2⟩ j hj
    have := h2 l[j] (List.getElem_mem hj)
    unfold RisAt
    refine ⟨by simpa [hj] using this.1, by simpa [hj] using this.2, fun h0 => ?_⟩
    have := List.pairwise_iff_getElem.1 h1 (j - 1) j (by omega) hj (by omega)
    simpa [hj, show j - 1 < l.length by omega] using this
theorem ris_ins {lo hi x : Int} {l : List Int} (h : Ris lo hi l) (hx : lo ≤ x ∧ x ≤ hi) : Ris lo hi (ins x l) := by
  obtain ⟨h1, h2⟩ := ris_iff.1 h
  refine ris_iff.2 ⟨ins_pw h1, fun z hz => ?_⟩
  rcases ins_mem.1 hz with rfl | hz
  · exact hx
  · exact h2 z hz
theorem ris_full {hi : Int} {l : List Int} (h : Ris 1 hi l) : ∀ n : Nat, (∀ y : Int, 1 ≤ y → y ≤ n → y ∈ l) → n ≤ l.length ∧ ∀ t : Nat, t < n → l.getD t 0 = (t : Int) + 1
  | 0, _ => ⟨Nat.zero_le _, fun t ht => absurd ht (Nat.not_lt_zero _)⟩
  | n + 1, hm => by
    obtain ⟨h1, h2⟩ := ris_full h n (fun y a b => hm y a (by omega))
    obtain ⟨j, hj, e⟩ := List.getElem_of_mem (hm ((n : Int) + 1) (by omega) (by omega))
    have e' : l.getD j 0 = (n : Int) + 1 := by simp [hj, e]
    have hjn : j = n := by
      rcases Nat.lt_trichotomy j n with g | g | g
      · have := h2 j g; omega
      · exact g
      · obtain ⟨d, rfl⟩ : ∃ d, j = n + 1 + d := ⟨j - n - 1, by omega⟩
        have q1 := ris_lt h (i := n) d hj
        rcases Nat.eq_zero_or_pos n with rfl | hn
        · have := (h 0 (by omega)).1; omega
        · have q2 := h2 (n - 1) (by omega)
          have q3 := (h n (by omega)).2.2 hn
          omega
    subst hjn
    refine ⟨hj, fun t ht => ?_⟩
    rcases Nat.lt_or_ge t j with g | g
    · exact h2 t g
    · obtain rfl : t = j := by omega
      exact e'
theorem drop_at {l : List Int} {i : Nat} {z : Int} (hz : l[(i : Int).toNat]? = some z) : l.drop i = z :: l.drop (i + 1) := by
  rw [Int.toNat_natCast] at hz
  have hi := (List.getElem?_eq_some_iff.1 hz).1
  rw [List.drop_eq_getElem_cons hi, (List.getElem?_eq_some_iff.1 hz).2]
theorem mapS_snoc {f : Int → Int × Int} {l : List Int} {i : Nat} {z : Int} (hz : l[(i : Int).toNat]? = some z) : (l.take (i + 1)).map f = (l.take i).map f ++ [f z] := by
  rw [Int.toNat_natCast] at hz
  rw [List.take_add_one, hz]; simp
/-! ### Joining -/
def sumI (l : List Int) (j : Nat) : Int := (List.range j).foldl (fun s i => s + l.getD i 0) 0
def totI (L : List (List Int)) (i : Nat) : Int := (List.range i).foldl (fun s t => s + sumI (L.getD t []) (L.getD t []).length) 0
theorem totI_succ (L : List (List Int)) (i : Nat) : totI L (i + 1) = totI L i + sumI (L.getD i []) (L.getD i []).length := by
  unfold totI
  rw [List.range_succ, List.foldl_append]; rfl
set_option maxRecDepth 100000 in
theorem within_ok (a b c : Int) : ACalls Tryz.prog W 28 #[.int .i64 a, .int .i64 b, .int .i64 c] H (fun r H' => r = .bool (decide (b ≤ a ∧ a ≤ c)) ∧ Ext H H') := by
  refine ACalls.of (args := [.int .i64 a, .int .i64 b, .int .i64 c]) Tryz.func28 rfl rfl ?_
  have X0 := Ext.refl H
  refine AW.rs ?_
  refine AL.val rfl (.inl rfl) (HV.as rfl) ?_
  refine AL.nx ?_
  refine AW.rs ?_
  refine AL.val rfl (.inl rfl) (HV.mv rfl) ?_
  refine AL.val rfl (.inl rfl) (HV.mv rfl) ?_
  refine AL.val rfl (.inl rfl) (HV.gei rfl rfl) ?_
  refine AL.val rfl (.inl rfl) (HV.mv rfl) ?_
  by_cases c1 : a ≥ b
  · -- true
    have c1_ : decide (a ≥ b) = true := decide_eq_true c1
    rw [c1_]
    refine AL.val rfl (.inr ⟨_, _, _, rfl, rfl, rfl⟩) (HV.mv rfl) ?_
    refine AL.val rfl (.inr ⟨_, _, _, rfl, rfl, rfl⟩) (HV.mv rfl) ?_
    refine AL.val rfl (.inr ⟨_, _, _, rfl, rfl, rfl⟩) (HV.lei rfl rfl) ?_
    refine AL.val rfl (.inl rfl) (HV.pickT rfl rfl) ?_
    refine AL.val rfl (.inl rfl) (HV.as rfl) ?_
    refine AL.nx ?_
    refine AW.ret ?_
    refine post_one rfl rfl ?_ (.inr rfl)
    exact ⟨congrArg Value.bool (by rw [Bool.eq_iff_iff]; simp; omega), X0⟩
  · -- false
    have c1_ : decide (a ≥ b) = false := decide_eq_false c1
    rw [c1_]
    refine AL.off rfl rfl (by decide) rfl ?_
    refine AL.off rfl rfl (by decide) rfl ?_
    refine AL.off rfl rfl (by decide) rfl ?_
    refine AL.val rfl (.inl rfl) (HV.pickF rfl rfl) ?_
    refine AL.val rfl (.inl rfl) (HV.as rfl) ?_
    refine AL.nx ?_
    refine AW.ret ?_
    refine post_one rfl rfl ?_ (.inr rfl)
    exact ⟨congrArg Value.bool (by rw [Bool.eq_iff_iff]; simp; omega), X0⟩

set_option maxRecDepth 100000 in
theorem l00In_ok (a b c : Int) : ACalls Tryz.prog W 32 #[.int .i64 a, .int .i64 b, .int .i64 c] H (fun r H' => r = .bool (decide (b ≤ a ∧ a ≤ c)) ∧ Ext H H') := by
  refine ACalls.of (args := [.int .i64 a, .int .i64 b, .int .i64 c]) Tryz.func32 rfl rfl ?_
  have X0 := Ext.refl H
  refine AW.rs ?_
  refine AL.val rfl (.inl rfl) (HV.as rfl) ?_
  refine AL.nx ?_
  refine AW.rs ?_
  refine AL.val rfl (.inl rfl) (HV.mv rfl) ?_
  refine AL.val rfl (.inl rfl) (HV.mv rfl) ?_
  refine AL.val rfl (.inl rfl) (HV.gei rfl rfl) ?_
  refine AL.val rfl (.inl rfl) (HV.mv rfl) ?_
  by_cases c1 : a ≥ b
  · -- true
    have c1_ : decide (a ≥ b) = true := decide_eq_true c1
    rw [c1_]
    refine AL.val rfl (.inr ⟨_, _, _, rfl, rfl, rfl⟩) (HV.mv rfl) ?_
    refine AL.val rfl (.inr ⟨_, _, _, rfl, rfl, rfl⟩) (HV.mv rfl) ?_
    refine AL.val rfl (.inr ⟨_, _, _, rfl, rfl, rfl⟩) (HV.lei rfl rfl) ?_
    refine AL.val rfl (.inl rfl) (HV.pickT rfl rfl) ?_
    refine AL.val rfl (.inl rfl) (HV.as rfl) ?_
    refine AL.nx ?_
    refine AW.ret ?_
    refine post_one rfl rfl ?_ (.inr rfl)
    exact ⟨congrArg Value.bool (by rw [Bool.eq_iff_iff]; simp; omega), X0⟩
  · -- false
    have c1_ : decide (a ≥ b) = false := decide_eq_false c1
    rw [c1_]
    refine AL.off rfl rfl (by decide) rfl ?_
    refine AL.off rfl rfl (by decide) rfl ?_
    refine AL.off rfl rfl (by decide) rfl ?_
    refine AL.val rfl (.inl rfl) (HV.pickF rfl rfl) ?_
    refine AL.val rfl (.inl rfl) (HV.as rfl) ?_
    refine AL.nx ?_
    refine AW.ret ?_
    refine post_one rfl rfl ?_ (.inr rfl)
    exact ⟨congrArg Value.bool (by rw [Bool.eq_iff_iff]; simp; omega), X0⟩

set_option maxRecDepth 100000 in
theorem l00Rises_ok {v : Value} {l : List Int} {ok : Nat → Prop} (a b : Int) (hr : RdK kI W H ok v l) : ACalls Tryz.prog W 43 #[v, .int .i64 a, .int .i64 b] H (fun r H' => r = .bool (decide (Ris a b l)) ∧ Ext H H') := by
  refine ACalls.of (args := [v, .int .i64 a, .int .i64 b]) Tryz.func43 rfl rfl ?_
  have X0 := Ext.refl H
  have hm1 := hr.max
  refine AW.rs ?_
  refine AL.val rfl (.inl rfl) (HV.as rfl) ?_
  refine AL.nx ?_
  refine AW.seq ?_
  refine AW.rs ?_
  refine AL.val rfl (.inl rfl) (HV.as rfl) ?_
  refine AL.nx ?_
  refine AW.block ?_
  refine AW.loop (σ := Nat) (fun i => [(0, v), (1, .int .i64 a), (2, .int .i64 b), (7, .int .i64 (i : Int))]) (fun i H' => Ext H H' ∧ i ≤ l.length ∧ (∀ j, j < i → RisAt a b l j) ∧ True) (fun i => l.length - i) 0 ⟨X0, Nat.zero_le _, fun j hj => absurd hj (Nat.not_lt_zero _), trivial⟩ ⟨rfl, rfl, rfl, rfl, trivial⟩ ?_
  rintro i H2 ⟨X3, hi, hi2, _⟩
  refine AW.seq ?_
  refine AW.rs ?_
  refine AL.val rfl (.inl rfl) (HV.mv rfl) ?_
  refine AL.val rfl (.inl rfl) (HV.mv rfl) ?_
  refine AL.val rfl (.inl rfl) (HV.len Tryz.underlying25 rfl hr.isSl) ?_
  refine AL.val rfl (.inl rfl) (HV.lti rfl rfl) ?_
  refine AL.nx ?_
  refine AW.ifd rfl (fun c4 => ?_) (fun c4 => ?_)
  · -- then
    refine AW.skip ?_
    refine nrm_and ?_
    refine AW.seq ?_
    refine AW.block ?_
    refine AW.seq ?_
    refine AW.draw' [0, 0, 3, 7, 0, 0, 63, 127, 255, 511, 1023, 2047, 4095, 4095, 12287, 32767, 65535, 4095, 4095, 397311, 921599, 2097151, 4194303, 8388607] mixed (by rfl) ?_
    refine Dr.read 0 _ 14 _ rfl rfl rfl rfl rfl (RV.of (by intro _ _ h; cases h) (.inl rfl) (fun _ xd => HV.mv rfl)) ?_
    refine Dr.read 1 _ 15 _ rfl rfl rfl rfl rfl (RV.of (by intro _ _ h; cases h) (.inl rfl) (fun _ xd => HV.mv rfl)) ?_
    obtain ⟨p5, z6, cs7, hz8, hK9, hC10, hP11⟩ := RdK.ix (q := (i : Int)) hr sl25 (by omega) (by omega)
    obtain rfl : cs7 = [.int .i64 z6] := hK9
    refine Dr.read 2 _ 16 _ rfl rfl rfl rfl rfl (RV.of (by intro _ _ h; cases h) (.inl rfl) (fun _ xd => hP11 rfl rfl)) ?_
    refine Dr.read 3 _ 17 _ rfl rfl rfl rfl rfl (RV.of (by intro _ _ h; cases h) (.inl rfl) (fun _ xd => HV.ld rfl va2 (rdc_ext xd (cells_first (hC10.ext X3) rfl)))) ?_
    refine Dr.read 4 _ 18 _ rfl rfl rfl rfl rfl (RV.of (by intro _ _ h; cases h) (.inl rfl) (fun _ xd => HV.mv rfl)) ?_
    refine Dr.read 5 _ 19 _ rfl rfl rfl rfl rfl (RV.of (by intro _ _ h; cases h) (.inl rfl) (fun _ xd => HV.mv rfl)) ?_
    refine Dr.eff 6 _ _ rfl (by intro d h; cases h; exact ⟨rfl, rfl⟩) rfl rfl rfl (EC.of (by intro _ _ h; cases h) (.inl rfl) (WV.call fn32 rfl (l00In_ok (W := W) z6 a b))) (fun v H' h => .inl (h.2)) ?_
    rintro _ H12 ⟨rfl, hx13⟩
    have X14 := Ext.trans X3 hx13
    refine Dr.read 7 _ 21 _ rfl rfl rfl rfl rfl (RV.of (by intro _ _ h; cases h) (.inl rfl) (fun _ xd => HV.not rfl)) ?_
    refine Dr.read 8 _ 22 _ rfl rfl rfl rfl rfl (RV.of (by intro _ _ h; cases h) (.inl rfl) (fun _ xd => HV.mv rfl)) ?_
    by_cases c15 : a ≤ z6 ∧ z6 ≤ b
    · -- false
      have c15_ : (!decide (a ≤ z6 ∧ z6 ≤ b)) = false := by rw [decide_eq_true c15]; rfl
      rw [c15_]
      refine Dr.read 9 _ 23 _ rfl rfl rfl rfl rfl (RV.of (by intro _ _ h; cases h) (.inr ⟨_, _, _, rfl, rfl, rfl⟩) (fun _ xd => HV.mv rfl)) ?_
      refine Dr.read 10 _ 24 _ rfl rfl rfl rfl rfl (RV.of (by intro _ _ h; cases h) (.inr ⟨_, _, _, rfl, rfl, rfl⟩) (fun _ xd => HV.gti rfl rfl)) ?_
      refine Dr.read 11 _ 25 _ rfl rfl rfl rfl rfl (RV.of (by intro _ _ h; cases h) (.inr ⟨_, _, _, rfl, rfl, rfl⟩) (fun _ xd => HV.mv rfl)) ?_
      by_cases c16 : (i : Int) > 0
      · -- true
        have c16_ : decide ((i : Int) > 0) = true := decide_eq_true c16
        rw [c16_]
        refine Dr.read 12 _ 26 _ rfl rfl rfl rfl rfl (RV.of (by intro _ _ h; cases h) (.inr ⟨_, _, _, rfl, rfl, rfl⟩) (fun _ xd => HV.mv rfl)) ?_
        refine Dr.read 13 _ 27 _ rfl rfl rfl rfl rfl (RV.of (by intro _ _ h; cases h) (.inr ⟨_, _, _, rfl, rfl, rfl⟩) (fun _ xd => HV.mv rfl)) ?_
        refine Dr.read 14 _ 28 _ rfl rfl rfl rfl rfl (RV.of (by intro _ _ h; cases h) (.inr ⟨_, _, _, rfl, rfl, rfl⟩) (fun _ xd => HV.sub rfl rfl (by omega))) ?_
        obtain ⟨p17, z18, cs19, hz20, hK21, hC22, hP23⟩ := RdK.ix (q := (i : Int) - 1) hr sl25 (by omega) (by omega)
        obtain rfl : cs19 = [.int .i64 z18] := hK21
        refine Dr.read 15 _ 29 _ rfl rfl rfl rfl rfl (RV.of (by intro _ _ h; cases h) (.inr ⟨_, _, _, rfl, rfl, rfl⟩) (fun _ xd => hP23 rfl rfl)) ?_
        refine Dr.read 16 _ 30 _ rfl rfl rfl rfl rfl (RV.of (by intro _ _ h; cases h) (.inr ⟨_, _, _, rfl, rfl, rfl⟩) (fun _ xd => HV.ld rfl va2 (rdc_ext xd (cells_first (hC22.ext X14) rfl)))) ?_
        refine Dr.read 17 _ 31 _ rfl rfl rfl rfl rfl (RV.of (by intro _ _ h; cases h) (.inr ⟨_, _, _, rfl, rfl, rfl⟩) (fun _ xd => HV.mv rfl)) ?_
        refine Dr.read 18 _ 32 _ rfl rfl rfl rfl rfl (RV.of (by intro _ _ h; cases h) (.inr ⟨_, _, _, rfl, rfl, rfl⟩) (fun _ xd => HV.mv rfl)) ?_
        obtain ⟨p24, z25, cs26, hz27, hK28, hC29, hP30⟩ := RdK.ix (q := (i : Int)) hr sl25 (by omega) (by omega)
        obtain rfl : cs26 = [.int .i64 z25] := hK28
        refine Dr.read 19 _ 33 _ rfl rfl rfl rfl rfl (RV.of (by intro _ _ h; cases h) (.inr ⟨_, _, _, rfl, rfl, rfl⟩) (fun _ xd => hP30 rfl rfl)) ?_
        refine Dr.read 20 _ 34 _ rfl rfl rfl rfl rfl (RV.of (by intro _ _ h; cases h) (.inr ⟨_, _, _, rfl, rfl, rfl⟩) (fun _ xd => HV.ld rfl va2 (rdc_ext xd (cells_first (hC29.ext X14) rfl)))) ?_
        refine Dr.read 21 _ 35 _ rfl rfl rfl rfl rfl (RV.of (by intro _ _ h; cases h) (.inr ⟨_, _, _, rfl, rfl, rfl⟩) (fun _ xd => HV.gei rfl rfl)) ?_
        refine Dr.read 22 _ 36 _ rfl rfl rfl rfl rfl (RV.of (by intro _ _ h; cases h) (.inr ⟨_, _, _, rfl, rfl, rfl⟩) (fun _ xd => HV.pickT rfl rfl)) ?_
        refine Dr.read 23 _ 37 _ rfl rfl rfl rfl rfl (RV.of (by intro _ _ h; cases h) (.inl rfl) (fun _ xd => HV.pickF rfl rfl)) ?_
        refine Dr.fin rfl ?_
        refine nrm_and ?_
        refine AW.ifd rfl (fun c31 => ?_) (fun c31 => ?_)
        · -- then
          refine AW.rs ?_
          refine AL.val rfl (.inl rfl) (HV.as rfl) ?_
          refine AL.nx ?_
          refine AW.ret ?_
          refine ret_blk (ret_and (ret_and (ret_blk (ret_and ?_))))
          refine post_one rfl rfl ?_ (.inr rfl)
          exact ⟨dec_f fun hR => by have q := hR i (by omega); unfold RisAt at q; have g17 : l.getD i 0 = z6 := gd hz8 (by omega); have g30 : l.getD (i - 1) 0 = z18 := gd hz20 (by omega); have g34 : l.getD i 0 = z25 := gd hz27 (by omega); omega, X14⟩
        · -- else
          refine AW.skip ?_
          refine nrm_blk (nrm_and ?_)
          refine AW.reg ?_
          refine AL.val rfl (.inl rfl) (HV.mv rfl) ?_
          refine AL.val rfl (.inl rfl) (HV.add rfl rfl (by omega)) ?_
          refine AL.val rfl (.inl rfl) (HV.as rfl) ?_
          refine AL.nil ?_
          refine nrm_and ?_
          exact ⟨i + 1, ⟨X14, by omega, fun j hj => by
      rcases Nat.lt_or_ge j i with h1 | h1
      · exact hi2 j h1
      · obtain rfl : j = i := by omega
        unfold RisAt; have g17 : l.getD j 0 = z6 := gd hz8 (by omega); have g30 : l.getD (j - 1) 0 = z18 := gd hz20 (by omega); have g34 : l.getD j 0 = z25 := gd hz27 (by omega); exact ⟨by omega, by omega, fun h0 => by omega⟩, trivial⟩, by first | omega | (dsimp only; omega), ⟨rfl, rfl, rfl, rfl, trivial⟩⟩
      · -- false
        have c16_ : decide ((i : Int) > 0) = false := decide_eq_false c16
        rw [c16_]
        refine Dr.read 12 _ 26 _ rfl rfl rfl rfl rfl (RV.off (by intro _ _ h; cases h) rfl rfl (by decide)) ?_
        refine Dr.read 13 _ 27 _ rfl rfl rfl rfl rfl (RV.off (by intro _ _ h; cases h) rfl rfl (by decide)) ?_
        refine Dr.read 14 _ 28 _ rfl rfl rfl rfl rfl (RV.off (by intro _ _ h; cases h) rfl rfl (by decide)) ?_
        refine Dr.read 15 _ 29 _ rfl rfl rfl rfl rfl (RV.off (by intro _ _ h; cases h) rfl rfl (by decide)) ?_
        refine Dr.read 16 _ 30 _ rfl rfl rfl rfl rfl (RV.off (by intro _ _ h; cases h) rfl rfl (by decide)) ?_
        refine Dr.read 17 _ 31 _ rfl rfl rfl rfl rfl (RV.off (by intro _ _ h; cases h) rfl rfl (by decide)) ?_
        refine Dr.read 18 _ 32 _ rfl rfl rfl rfl rfl (RV.off (by intro _ _ h; cases h) rfl rfl (by decide)) ?_
        refine Dr.read 19 _ 33 _ rfl rfl rfl rfl rfl (RV.off (by intro _ _ h; cases h) rfl rfl (by decide)) ?_
        refine Dr.read 20 _ 34 _ rfl rfl rfl rfl rfl (RV.off (by intro _ _ h; cases h) rfl rfl (by decide)) ?_
        refine Dr.read 21 _ 35 _ rfl rfl rfl rfl rfl (RV.off (by intro _ _ h; cases h) rfl rfl (by decide)) ?_
        refine Dr.read 22 _ 36 _ rfl rfl rfl rfl rfl (RV.of (by intro _ _ h; cases h) (.inr ⟨_, _, _, rfl, rfl, rfl⟩) (fun _ xd => HV.pickF rfl rfl)) ?_
        refine Dr.read 23 _ 37 _ rfl rfl rfl rfl rfl (RV.of (by intro _ _ h; cases h) (.inl rfl) (fun _ xd => HV.pickF rfl rfl)) ?_
        refine Dr.fin rfl ?_
        refine nrm_and ?_
        refine AW.cond rfl (fun h => by cases h) (fun _ => ?_)
        refine AW.skip ?_
        refine nrm_blk (nrm_and ?_)
        refine AW.reg ?_
        refine AL.val rfl (.inl rfl) (HV.mv rfl) ?_
        refine AL.val rfl (.inl rfl) (HV.add rfl rfl (by omega)) ?_
        refine AL.val rfl (.inl rfl) (HV.as rfl) ?_
        refine AL.nil ?_
        refine nrm_and ?_
        exact ⟨i + 1, ⟨X14, by omega, fun j hj => by
      rcases Nat.lt_or_ge j i with h1 | h1
      · exact hi2 j h1
      · obtain rfl : j = i := by omega
        unfold RisAt; have g17 : l.getD j 0 = z6 := gd hz8 (by omega); exact ⟨by omega, by omega, fun h0 => by omega⟩, trivial⟩, by first | omega | (dsimp only; omega), ⟨rfl, rfl, rfl, rfl, trivial⟩⟩
    · -- true
      have c15_ : (!decide (a ≤ z6 ∧ z6 ≤ b)) = true := by rw [decide_eq_false c15]; rfl
      rw [c15_]
      refine Dr.read 9 _ 23 _ rfl rfl rfl rfl rfl (RV.off (by intro _ _ h; cases h) rfl rfl (by decide)) ?_
      refine Dr.read 10 _ 24 _ rfl rfl rfl rfl rfl (RV.off (by intro _ _ h; cases h) rfl rfl (by decide)) ?_
      refine Dr.read 11 _ 25 _ rfl rfl rfl rfl rfl (RV.off (by intro _ _ h; cases h) rfl rfl (by decide)) ?_
      refine Dr.read 12 _ 26 _ rfl rfl rfl rfl rfl (RV.offu (by intro _ _ h; cases h) rfl rfl) ?_
      refine Dr.read 13 _ 27 _ rfl rfl rfl rfl rfl (RV.offu (by intro _ _ h; cases h) rfl rfl) ?_
      refine Dr.read 14 _ 28 _ rfl rfl rfl rfl rfl (RV.offu (by intro _ _ h; cases h) rfl rfl) ?_
      refine Dr.read 15 _ 29 _ rfl rfl rfl rfl rfl (RV.offu (by intro _ _ h; cases h) rfl rfl) ?_
      refine Dr.read 16 _ 30 _ rfl rfl rfl rfl rfl (RV.offu (by intro _ _ h; cases h) rfl rfl) ?_
      refine Dr.read 17 _ 31 _ rfl rfl rfl rfl rfl (RV.offu (by intro _ _ h; cases h) rfl rfl) ?_
      refine Dr.read 18 _ 32 _ rfl rfl rfl rfl rfl (RV.offu (by intro _ _ h; cases h) rfl rfl) ?_
      refine Dr.read 19 _ 33 _ rfl rfl rfl rfl rfl (RV.offu (by intro _ _ h; cases h) rfl rfl) ?_
      refine Dr.read 20 _ 34 _ rfl rfl rfl rfl rfl (RV.offu (by intro _ _ h; cases h) rfl rfl) ?_
      refine Dr.read 21 _ 35 _ rfl rfl rfl rfl rfl (RV.offu (by intro _ _ h; cases h) rfl rfl) ?_
      refine Dr.read 22 _ 36 _ rfl rfl rfl rfl rfl (RV.off (by intro _ _ h; cases h) rfl rfl (by decide)) ?_
      refine Dr.read 23 _ 37 _ rfl rfl rfl rfl rfl (RV.of (by intro _ _ h; cases h) (.inl rfl) (fun _ xd => HV.pickT rfl rfl)) ?_
      refine Dr.fin rfl ?_
      refine nrm_and ?_
      refine AW.cond rfl (fun _ => ?_) (fun h => by cases h)
      refine AW.rs ?_
      refine AL.val rfl (.inl rfl) (HV.as rfl) ?_
      refine AL.nx ?_
      refine AW.ret ?_
      refine ret_blk (ret_and (ret_and (ret_blk (ret_and ?_))))
      refine post_one rfl rfl ?_ (.inr rfl)
      exact ⟨dec_f fun hR => by have q := hR i (by omega); unfold RisAt at q; have g17 : l.getD i 0 = z6 := gd hz8 (by omega); omega, X14⟩
  · -- else
    refine AW.exit ?_
    refine ex_and (ex_and (ex_blk ?_))
    refine nrm_and ?_
    refine AW.rs ?_
    refine AL.val rfl (.inl rfl) (HV.as rfl) ?_
    refine AL.nx ?_
    refine AW.ret ?_
    refine post_one rfl rfl ?_ (.inr rfl)
    exact ⟨dec_t fun j hj => hi2 j (by omega), X3⟩

set_option maxRecDepth 100000 in
theorem isNaN_ok (a : Int) : ACalls Tryz.prog W 89 #[.int .i64 a] H (fun r H' => r = .bool false ∧ Ext H H') := by
  refine ACalls.of (args := [.int .i64 a]) Tryz.func89 rfl rfl ?_
  have X0 := Ext.refl H
  refine AW.rs ?_
  refine AL.val rfl (.inl rfl) (HV.as rfl) ?_
  refine AL.nx ?_
  refine AW.rs ?_
  refine AL.val rfl (.inl rfl) (HV.mv rfl) ?_
  refine AL.val rfl (.inl rfl) (HV.mv rfl) ?_
  refine AL.val rfl (.inl rfl) (HV.nei rfl rfl) ?_
  refine AL.val rfl (.inl rfl) (HV.as rfl) ?_
  refine AL.nx ?_
  refine AW.ret ?_
  refine post_one rfl rfl ?_ (.inr rfl)
  exact ⟨by simp, X0⟩

set_option maxRecDepth 100000 in
theorem cmpI_ok (a b : Int) : ACalls Tryz.prog W 74 #[.int .i64 a, .int .i64 b] H (fun r H' => r = .int .i64 (cmpI a b) ∧ Ext H H') := by
  refine ACalls.of (args := [.int .i64 a, .int .i64 b]) Tryz.func74 rfl rfl ?_
  have X0 := Ext.refl H
  refine AW.rs ?_
  refine AL.val rfl (.inl rfl) (HV.as rfl) ?_
  refine AL.nx ?_
  refine AW.rs ?_
  refine AL.val rfl (.inl rfl) (HV.mv rfl) ?_
  refine AL.w rfl (.inl rfl) (WV.call fn89 rfl (isNaN_ok (W := W) a)) ?_
  rintro _ H1 ⟨rfl, hx2⟩
  have X3 := Ext.trans X0 hx2
  refine AL.val rfl (.inl rfl) (HV.as rfl) ?_
  refine AL.nx ?_
  refine AW.rs ?_
  refine AL.val rfl (.inl rfl) (HV.mv rfl) ?_
  refine AL.w rfl (.inl rfl) (WV.call fn89 rfl (isNaN_ok (W := W) b)) ?_
  rintro _ H4 ⟨rfl, hx5⟩
  have X6 := Ext.trans X3 hx5
  refine AL.val rfl (.inl rfl) (HV.as rfl) ?_
  refine AL.nx ?_
  refine AW.seq ?_
  refine AW.rs ?_
  refine AL.val rfl (.inl rfl) (HV.mv rfl) ?_
  refine AL.nx ?_
  refine AW.cond rfl (fun h => by cases h) (fun _ => ?_)
  refine AW.skip ?_
  refine nrm_and ?_
  refine AW.seq ?_
  refine AW.rs ?_
  refine AL.val rfl (.inl rfl) (HV.mv rfl) ?_
  refine AL.nx ?_
  refine AW.cond rfl (fun h => by cases h) (fun _ => ?_)
  refine AW.skip ?_
  refine nrm_and ?_
  refine AW.seq ?_
  refine AW.rs ?_
  refine AL.val rfl (.inl rfl) (HV.mv rfl) ?_
  refine AL.val rfl (.inl rfl) (HV.mv rfl) ?_
  refine AL.val rfl (.inl rfl) (HV.lti rfl rfl) ?_
  refine AL.nx ?_
  refine AW.ifd rfl (fun c9 => ?_) (fun c9 => ?_)
  · -- then
    refine AW.rs ?_
    refine AL.val rfl (.inl rfl) (HV.as rfl) ?_
    refine AL.nx ?_
    refine AW.ret ?_
    refine ret_and ?_
    refine post_one rfl rfl ?_ (.inr rfl)
    exact ⟨by unfold cmpI; first | rw [if_pos (by omega)] | rw [if_neg (by omega), if_pos (by omega)] | rw [if_neg (by omega), if_neg (by omega)], X6⟩
  · -- else
    refine AW.skip ?_
    refine nrm_and ?_
    refine AW.seq ?_
    refine AW.rs ?_
    refine AL.val rfl (.inl rfl) (HV.mv rfl) ?_
    refine AL.val rfl (.inl rfl) (HV.mv rfl) ?_
    refine AL.val rfl (.inl rfl) (HV.gti rfl rfl) ?_
    refine AL.nx ?_
    refine AW.ifd rfl (fun c10 => ?_) (fun c10 => ?_)
    · -- then
      refine AW.rs ?_
      refine AL.val rfl (.inl rfl) (HV.as rfl) ?_
      refine AL.nx ?_
      refine AW.ret ?_
      refine ret_and ?_
      refine post_one rfl rfl ?_ (.inr rfl)
      exact ⟨by unfold cmpI; first | rw [if_pos (by omega)] | rw [if_neg (by omega), if_pos (by omega)] | rw [if_neg (by omega), if_neg (by omega)], X6⟩
    · -- else
      refine AW.skip ?_
      refine nrm_and ?_
      refine AW.rs ?_
      refine AL.val rfl (.inl rfl) (HV.as rfl) ?_
      refine AL.nx ?_
      refine AW.ret ?_
      refine post_one rfl rfl ?_ (.inr rfl)
      exact ⟨by unfold cmpI; first | rw [if_pos (by omega)] | rw [if_neg (by omega), if_pos (by omega)] | rw [if_neg (by omega), if_neg (by omega)], X6⟩

set_option maxRecDepth 100000 in
theorem lexI_ok {v v2 : Value} {l m : List Int} {ok ok2 : Nat → Prop} (hr : RdK kI W H ok v l) (hr2 : RdK kI W H ok2 v2 m) : ACalls Tryz.prog W 54 #[v, v2] H (fun r H' => r = .int .i64 (lexI l m) ∧ Ext H H') := by
  refine ACalls.of (args := [v, v2]) Tryz.func54 rfl rfl ?_
  have X0 := Ext.refl H
  have hm1 := hr.max
  have hm2 := hr2.max
  refine AW.rs ?_
  refine AL.val rfl (.inl rfl) (HV.as rfl) ?_
  refine AL.nx ?_
  refine AW.seq ?_
  refine AW.rs ?_
  refine AL.val rfl (.inl rfl) (HV.mv rfl) ?_
  refine AL.val rfl (.inl rfl) (HV.len Tryz.underlying25 rfl hr.isSl) ?_
  refine AL.val rfl (.inl rfl) (HV.mv rfl) ?_
  refine AL.nx ?_
  refine AW.block ?_
  refine AW.loop (σ := Nat) (fun i => [(0, v), (1, v2), (9, v), (10, .int .i64 (l.length : Int)), (11, .int .i64 (i : Int))]) (fun i H' => Ext H H' ∧ i ≤ l.length ∧ i ≤ m.length ∧ (∀ j, j < i → l.getD j 0 = m.getD j 0) ∧ True) (fun i => l.length - i) 0 ⟨X0, Nat.zero_le _, Nat.zero_le _, fun j hj => absurd hj (Nat.not_lt_zero _), trivial⟩ ⟨rfl, rfl, rfl, rfl, rfl, trivial⟩ ?_
  rintro i H3 ⟨X4, hi, hi2, he, _⟩
  refine AW.rs ?_
  refine AL.val rfl (.inl rfl) (HV.lti rfl rfl) ?_
  refine AL.nx ?_
  refine AW.seq ?_
  refine AW.ifd rfl (fun c5 => ?_) (fun c5 => ?_)
  · -- then
    refine AW.skip ?_
    refine nrm_and ?_
    refine AW.seq ?_
    refine AW.block ?_
    refine AW.rs ?_
    refine AL.val rfl (.inl rfl) (HV.mv rfl) ?_
    obtain ⟨p6, z7, cs8, hz9, hK10, hC11, hP12⟩ := RdK.ix (q := (i : Int)) hr sl25 (by omega) (by omega)
    obtain rfl : cs8 = [.int .i64 z7] := hK10
    refine AL.val rfl (.inl rfl) (hP12 rfl rfl) ?_
    refine AL.val rfl (.inl rfl) (HV.ld rfl va2 (cells_first (hC11.ext X4) rfl)) ?_
    refine AL.val rfl (.inl rfl) (HV.as rfl) ?_
    refine AL.val rfl (.inl rfl) (HV.as rfl) ?_
    refine AL.nx ?_
    refine AW.seq ?_
    refine AW.rs ?_
    refine AL.val rfl (.inl rfl) (HV.mv rfl) ?_
    refine AL.val rfl (.inl rfl) (HV.mv rfl) ?_
    refine AL.val rfl (.inl rfl) (HV.len Tryz.underlying25 rfl hr2.isSl) ?_
    refine AL.val rfl (.inl rfl) (HV.gei rfl rfl) ?_
    refine AL.nx ?_
    refine AW.ifd rfl (fun c13 => ?_) (fun c13 => ?_)
    · -- then
      refine AW.rs ?_
      refine AL.val rfl (.inl rfl) (HV.as rfl) ?_
      refine AL.nx ?_
      refine AW.ret ?_
      refine ret_and (ret_blk (ret_and (ret_and (ret_blk (ret_and ?_)))))
      refine post_one rfl rfl ?_ (.inr rfl)
      exact ⟨by rw [lexI_end he (by omega) (by omega) (.inr (by omega)), if_neg (by omega), if_pos (by omega)], X4⟩
    · -- else
      refine AW.skip ?_
      refine nrm_and ?_
      refine AW.rs ?_
      refine AL.val rfl (.inl rfl) (HV.mv rfl) ?_
      refine AL.val rfl (.inl rfl) (HV.mv rfl) ?_
      obtain ⟨p14, z15, cs16, hz17, hK18, hC19, hP20⟩ := RdK.ix (q := (i : Int)) hr2 sl25 (by omega) (by omega)
      obtain rfl : cs16 = [.int .i64 z15] := hK18
      refine AL.val rfl (.inl rfl) (hP20 rfl rfl) ?_
      refine AL.val rfl (.inl rfl) (HV.ld rfl va2 (cells_first (hC19.ext X4) rfl)) ?_
      refine AL.val rfl (.inl rfl) (HV.as rfl) ?_
      refine AL.nx ?_
      refine AW.rs ?_
      refine AL.val rfl (.inl rfl) (HV.mv rfl) ?_
      refine AL.val rfl (.inl rfl) (HV.mv rfl) ?_
      refine AL.w rfl (.inl rfl) (WV.call fn74 rfl (cmpI_ok (W := W) z7 z15)) ?_
      rintro _ H21 ⟨rfl, hx22⟩
      have X23 := Ext.trans X4 hx22
      refine AL.val rfl (.inl rfl) (HV.as rfl) ?_
      refine AL.nx ?_
      refine AW.rs ?_
      refine AL.val rfl (.inl rfl) (HV.mv rfl) ?_
      refine AL.val rfl (.inl rfl) (HV.nei rfl rfl) ?_
      refine AL.nx ?_
      refine AW.ifd rfl (fun c24 => ?_) (fun c24 => ?_)
      · -- then
        refine AW.rs ?_
        refine AL.val rfl (.inl rfl) (HV.mv rfl) ?_
        refine AL.val rfl (.inl rfl) (HV.as rfl) ?_
        refine AL.nx ?_
        refine AW.ret ?_
        refine ret_blk (ret_and (ret_and (ret_blk (ret_and ?_))))
        refine post_one rfl rfl ?_ (.inr rfl)
        exact ⟨by have g15 : l.getD i 0 = z7 := gd hz9 (by omega); have g23 : m.getD i 0 = z15 := gd hz17 (by omega); rw [lexI_at he (by omega) (by omega) (by rw [g15, g23]; intro e; have := cmpI_zero.2 e; contradiction), g15, g23], X23⟩
      · -- else
        refine AW.skip ?_
        refine nrm_blk (nrm_and ?_)
        refine AW.reg ?_
        refine AL.val rfl (.inl rfl) (HV.add rfl rfl (by omega)) ?_
        refine AL.val rfl (.inl rfl) (HV.mv rfl) ?_
        refine AL.nil ?_
        refine nrm_and ?_
        exact ⟨i + 1, ⟨X23, by omega, by omega, fun j hj => by
      rcases Nat.lt_or_ge j i with h1 | h1
      · exact he j h1
      · obtain rfl : j = i := by omega
        have hz0 := (cmpI_zero (a := z7) (b := z15)).1 (by omega); have g15 : l.getD j 0 = z7 := gd hz9 (by omega); have g23 : m.getD j 0 = z15 := gd hz17 (by omega); omega, trivial⟩, by first | omega | (dsimp only; omega), ⟨rfl, rfl, rfl, rfl, rfl, trivial⟩⟩
  · -- else
    refine AW.exit ?_
    refine ex_and (ex_and (ex_blk ?_))
    refine nrm_and ?_
    refine AW.seq ?_
    refine AW.rs ?_
    refine AL.val rfl (.inl rfl) (HV.mv rfl) ?_
    refine AL.val rfl (.inl rfl) (HV.len Tryz.underlying25 rfl hr.isSl) ?_
    refine AL.val rfl (.inl rfl) (HV.mv rfl) ?_
    refine AL.val rfl (.inl rfl) (HV.len Tryz.underlying25 rfl hr2.isSl) ?_
    refine AL.val rfl (.inl rfl) (HV.lti rfl rfl) ?_
    refine AL.nx ?_
    refine AW.ifd rfl (fun c25 => ?_) (fun c25 => ?_)
    · -- then
      refine AW.rs ?_
      refine AL.val rfl (.inl rfl) (HV.as rfl) ?_
      refine AL.nx ?_
      refine AW.ret ?_
      refine ret_and ?_
      refine post_one rfl rfl ?_ (.inr rfl)
      exact ⟨by rw [lexI_end he (by omega) (by omega) (.inl (by omega))]; first | rw [if_pos (by omega)] | rw [if_neg (by omega), if_neg (by omega)], X4⟩
    · -- else
      refine AW.skip ?_
      refine nrm_and ?_
      refine AW.rs ?_
      refine AL.val rfl (.inl rfl) (HV.as rfl) ?_
      refine AL.nx ?_
      refine AW.ret ?_
      refine post_one rfl rfl ?_ (.inr rfl)
      exact ⟨by rw [lexI_end he (by omega) (by omega) (.inl (by omega))]; first | rw [if_pos (by omega)] | rw [if_neg (by omega), if_neg (by omega)], X4⟩
end Go.Proofs.YtbjcgcililpfdaaGreat.VC

