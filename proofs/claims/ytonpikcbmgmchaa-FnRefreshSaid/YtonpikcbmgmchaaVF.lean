/- Walks. -/
import Derived.Test.YtonpikcbmgmchaaVE
set_option linter.unusedVariables false
set_option linter.unusedSimpArgs false
namespace Go.Proofs.Ytonpikcbmgmchaa.VC
open Go Go.RowKit
variable {W : World} {H : Hp}

def cmpI (a b : Int) : Int := if a < b then -1 else if a > b then 1 else 0
/-- Lexicographic order, as a number. -/
def lexI : List Int → List Int → Int
  | [], [] => 0
  | [], _ :: _ => -1
  | _ :: _, [] => 1
  | a :: l, b :: m => if a < b then -1 else if a > b then 1 else lexI l m
theorem lexI_drop {l m : List Int} : ∀ {i : Nat}, (∀ j, j < i → l.getD j 0 = m.getD j 0) → i ≤ l.length → i ≤ m.length → lexI l m = lexI (l.drop i) (m.drop i)
  | 0, _, _, _ => rfl
  | i + 1, he, h1, h2 => by
    cases l with
    | nil => simp at h1
    | cons a l => cases m with
      | nil => simp at h2
      | cons b m =>
        have h0 := he 0 (by omega)
        simp only [List.getD_cons_zero] at h0
        subst h0
        simp only [lexI, Int.lt_irrefl, gt_iff_lt, if_false, List.drop_succ_cons]
        exact lexI_drop (fun j hj => by have := he (j + 1) (by omega); simpa only [List.getD_cons_succ] using this) (by simpa using h1) (by simpa using h2)
theorem lexI_at {l m : List Int} {i : Nat} (he : ∀ j, j < i → l.getD j 0 = m.getD j 0) (h1 : i < l.length) (h2 : i < m.length) (hn : l.getD i 0 ≠ m.getD i 0) : lexI l m = cmpI (l.getD i 0) (m.getD i 0) := by
  rw [lexI_drop he (by omega) (by omega)]
  rw [List.drop_eq_getElem_cons h1, List.drop_eq_getElem_cons h2]
  have e1 : l.getD i 0 = l[i] := by simp [h1]
  have e2 : m.getD i 0 = m[i] := by simp [h2]
  rw [e1, e2] at hn ⊢
  simp only [lexI, cmpI]
  by_cases c1 : l[i] < m[i]
  · simp [c1]
  · by_cases c2 : l[i] > m[i]
    · simp [c1, c2]
    · omega
theorem lexI_end {l m : List Int} {i : Nat} (he : ∀ j, j < i → l.getD j 0 = m.getD j 0) (h1 : i ≤ l.length) (h2 : i ≤ m.length) (h : i = l.length ∨ i = m.length) : lexI l m = if l.length < m.length then -1 else if l.length > m.length then 1 else 0 := by
  rw [lexI_drop he h1 h2]
  rcases h with rfl | rfl
  · rw [List.drop_length]
    rcases Nat.lt_or_ge l.length m.length with h | h
    · rw [List.drop_eq_getElem_cons h, if_pos h]; rfl
    · have : m.drop l.length = [] := List.drop_of_length_le h
      rw [this, if_neg (by omega), if_neg (by omega)]; rfl
  · rw [List.drop_length]
    rcases Nat.lt_or_ge m.length l.length with h | h
    · rw [List.drop_eq_getElem_cons h, if_neg (by omega), if_pos h]; rfl
    · have : l.drop m.length = [] := List.drop_of_length_le h
      rw [this, if_neg (by omega), if_neg (by omega)]; rfl
theorem list_eq {α : Type} [Inhabited α] {l m : List α} {d : α} (hl : l.length = m.length) (h : ∀ j, j < l.length → l.getD j d = m.getD j d) : l = m := by
  apply List.ext_getElem hl
  intro j h1 h2
  have := h j h1
  simpa [h1, h2] using this
theorem set_step {α : Type} {k l : List α} {d z : α} {i : Nat} (he : ∀ j, j < i → k.getD j d = l.getD j d) (hk : k.length = l.length) (hz : l[i]? = some z) : ∀ j, j < i + 1 → (k.set (i : Int).toNat z).getD j d = l.getD j d := fun j hj => by
  have hi := (List.getElem?_eq_some_iff.1 hz).1
  rw [Int.toNat_natCast]
  by_cases e : j = i
  · subst e
    have h2 := (List.getElem?_eq_some_iff.1 hz).2
    simp [hk, hi, h2]
  · have := he j (by omega)
    simp only [List.getD_eq_getElem?_getD] at this ⊢
    rw [List.getElem?_set_ne (fun e' => e e'.symm)]
    exact this
theorem cmpI_zero {a b : Int} : cmpI a b = 0 ↔ a = b := by unfold cmpI; split <;> (try split) <;> omega
def bitsI (l : List Int) : Int := l.foldl (fun a h => bt .or .i64 a (IntKind.i64.wrap (1 * 2 ^ min (IntKind.u64.wrap h).toNat IntKind.i64.bits))) 0
theorem foldl_snoc0 {α β : Type} (f : β → α → β) (b : β) {l : List α} {i : Nat} {z : α} (h : l[i]? = some z) : (l.take (i + 1)).foldl f b = f ((l.take i).foldl f b) z := by
  rw [List.take_succ_eq_append_getElem (List.getElem?_eq_some_iff.1 h).1, List.foldl_append, (List.getElem?_eq_some_iff.1 h).2]; rfl
theorem bitsI_snoc {l : List Int} {i : Nat} {z : Int} (h : l[(i : Int).toNat]? = some z) : bitsI (l.take (i + 1)) = bt .or .i64 (bitsI (l.take i)) (IntKind.i64.wrap (1 * 2 ^ min (IntKind.u64.wrap z).toNat IntKind.i64.bits)) := foldl_snoc0 _ _ h
theorem u64_nonneg (x : Int) : 0 ≤ IntKind.u64.wrap x := by
  simp only [IntKind.wrap, IntKind.signed, IntKind.bits, Bool.false_and, Bool.false_eq_true, if_false]
  exact Int.emod_nonneg _ (by decide)
def RisAt (lo hi : Int) (l : List Int) (j : Nat) : Prop := lo ≤ l.getD j 0 ∧ l.getD j 0 ≤ hi ∧ (0 < j → l.getD (j - 1) 0 < l.getD j 0)
instance (lo hi : Int) (l : List Int) (j : Nat) : Decidable (RisAt lo hi l j) := by unfold RisAt; infer_instance
def Ris (lo hi : Int) (l : List Int) : Prop := ∀ j, j < l.length → RisAt lo hi l j
instance (lo hi : Int) (l : List Int) : Decidable (Ris lo hi l) := by unfold Ris; infer_instance
def crowd (l : List Int) : Int := l.foldl (fun a h => bt .or .u64 a (IntKind.u64.wrap (1 * 2 ^ min h.toNat IntKind.u64.bits))) 0
theorem foldl_snoc {α β : Type} (f : β → α → β) (b : β) {l : List α} {i : Nat} {z : α} (h : l[i]? = some z) : (l.take (i + 1)).foldl f b = f ((l.take i).foldl f b) z := by
  rw [List.take_succ_eq_append_getElem (List.getElem?_eq_some_iff.1 h).1, List.foldl_append, (List.getElem?_eq_some_iff.1 h).2]; rfl
theorem crowd_snoc {l : List Int} {i : Nat} {z : Int} (h : l[(i : Int).toNat]? = some z) : crowd (l.take (i + 1)) = bt .or .u64 (crowd (l.take i)) (IntKind.u64.wrap (1 * 2 ^ min z.toNat IntKind.u64.bits)) := foldl_snoc _ _ h
theorem gdt {α : Type} {l : List α} {q p : Int} {j : Nat} {z d : α} (h : (l.take q.toNat)[p.toNat]? = some z) (e : (j : Int) = p) : l.getD j d = z := by
  subst e
  rw [Int.toNat_natCast, List.getElem?_take] at h
  split at h
  · simp [h]
  · cases h
theorem ris_low {n : Int} {l : List Int} (hn : 1 ≤ n ∧ n ≤ 7) (h : Ris 0 (n - 1) l) : ∀ x ∈ l, 0 ≤ x ∧ x < 64 := fun x hx => by
  obtain ⟨j, hj, rfl⟩ := List.getElem_of_mem hx
  have q := h j hj
  have e : l.getD j 0 = l[j] := by simp [hj]
  unfold RisAt at q
  rw [e] at q
  omega
/-- A holder's row lies in one of the rows. -/
def opC (q : Int) (l : List (List Int)) : Prop := ∃ x ∈ l, bt .and .u64 q (crowd x) = crowd x
noncomputable instance (q : Int) (l : List (List Int)) : Decidable (opC q l) := Classical.propDecidable _
theorem shl7 {n : Int} (hn : 1 ≤ n ∧ n ≤ 7) : ∃ N : Nat, IntKind.i64.wrap (1 * 2 ^ min (IntKind.u64.wrap n : Int).toNat IntKind.i64.bits) = N ∧ 2 ^ n.toNat = N ∧ (1 ≤ N ∧ N ≤ 128) := by
  have : n = 1 ∨ n = 2 ∨ n = 3 ∨ n = 4 ∨ n = 5 ∨ n = 6 ∨ n = 7 := by omega
  rcases this with rfl | rfl | rfl | rfl | rfl | rfl | rfl <;> exact ⟨_, rfl, rfl, by decide⟩
def RowAt (n : Int) (l : List (List Int)) (i : Nat) : Prop := Ris 0 (n - 1) (l.getD i []) ∧ (0 < i → lexI (l.getD (i - 1) []) (l.getD i []) < 0)
def inI (x y : List Int) : Prop := bt .and .i64 (bitsI x) (bitsI y) = bitsI x
def inC (x y : List Int) : Prop := bt .and .u64 (crowd x) (crowd y) = crowd y
def okI (n : Int) (l : List (List Int)) : Prop := (1 ≤ n ∧ n ≤ 7) ∧ (∀ i, i < l.length → RowAt n l i) ∧ ∀ i, i < l.length → ∀ j, j < l.length → i ≠ j → ¬ inI (l.getD i []) (l.getD j [])
def okC (n : Int) (l : List (List Int)) : Prop := (1 ≤ n ∧ n ≤ 7) ∧ ∀ i, i < l.length → RowAt n l i ∧ ∀ j, j < i → ¬ inC (l.getD j []) (l.getD i []) ∧ ¬ inC (l.getD i []) (l.getD j [])
noncomputable instance (n : Int) (l : List (List Int)) : Decidable (okI n l) := Classical.propDecidable _
noncomputable instance (n : Int) (l : List (List Int)) : Decidable (okC n l) := Classical.propDecidable _
/-- A holder's row lies in one of the rows, by the reference's bits. -/
def opI (s : Int) (l : List (List Int)) : Prop := ∃ x ∈ l, bt .and .i64 (bitsI x) s = bitsI x
noncomputable instance (q : Int) (l : List (List Int)) : Decidable (opI q l) := Classical.propDecidable _
noncomputable def tabI (n : Int) (l : List (List Int)) : List Bool := (List.range (2 ^ n.toNat)).map fun (s : Nat) => decide (opI (s : Int) l)
theorem tabI_length (n : Int) (l : List (List Int)) : (tabI n l).length = 2 ^ n.toNat := by simp [tabI]
theorem tabI_get {n : Int} {l : List (List Int)} {s : Nat} (h : s < 2 ^ n.toNat) : (tabI n l).getD s false = decide (opI s l) := by
  simp [tabI, List.getD_eq_getElem?_getD, h]
theorem set_ne {k : List Bool} {i s : Nat} {b : Bool} (h : s ≠ i) : (k.set (i : Int).toNat b).getD s false = k.getD s false := by
  simp only [List.getD_eq_getElem?_getD, Int.toNat_natCast]
  rw [List.getElem?_set_ne (fun e => h e.symm)]
theorem opI_snoc {s : Int} {l : List (List Int)} {j : Nat} {z : List Int} (hz : l[(j : Int).toNat]? = some z) : opI s (l.take (j + 1)) ↔ opI s (l.take j) ∨ bt .and .i64 (bitsI z) s = bitsI z := by
  rw [Int.toNat_natCast] at hz
  rw [List.take_add_one, hz]
  simp only [opI, List.mem_append, Option.toList_some, List.mem_singleton]
  constructor
  · rintro ⟨x, hx | rfl, h⟩
    · exact .inl ⟨x, hx, h⟩
    · exact .inr h
  · rintro (⟨x, hx, h⟩ | h)
    · exact ⟨x, .inl hx, h⟩
    · exact ⟨z, .inr rfl, h⟩
theorem tab_step {k : List Bool} {i j : Nat} {l : List (List Int)} {z : List Int} {t : Bool} (hi : i < k.length) (hm : k.getD i false = decide (opI i (l.take j))) (ht : k[(i : Int).toNat]? = some t) (hc : (!t) = true) (hz : l[(j : Int).toNat]? = some z) :
    (k.set (i : Int).toNat (decide (bt .and .i64 (bitsI z) (i : Int) = bitsI z))).getD i false = decide (opI i (l.take (j + 1))) := by
  have e0 : k.getD i false = t := gd ht rfl
  have e1 : t = false := by cases t <;> simp_all
  have e2 : ¬ opI i (l.take j) := of_decide_eq_false (by rw [← hm, e0, e1])
  rw [Bool.eq_iff_iff, decide_eq_true_iff, opI_snoc hz]
  simp [hi, e2]
theorem opI_take {s : Int} {l : List (List Int)} {j : Nat} (h : opI s (l.take j)) : opI s l := by
  obtain ⟨x, hx, h⟩ := h
  exact ⟨x, List.mem_of_mem_take hx, h⟩
theorem tab_t {k : List Bool} {i j : Nat} {l : List (List Int)} {t : Bool} (hm : k.getD i false = decide (opI i (l.take j))) (ht : k[(i : Int).toNat]? = some t) (hc : (!t) = false) : k.getD i false = decide (opI i l) := by
  have e0 : k.getD i false = t := gd ht rfl
  have e1 : t = true := by cases t <;> simp_all
  have e2 : opI i (l.take j) := of_decide_eq_true (by rw [← hm, e0, e1])
  rw [e0, e1]
  exact (decide_eq_true (opI_take e2)).symm
/-! ### Curves and shares -/
theorem mark_step {k : List Int} {q p : Int} {i : Nat} (he : ∀ j, j < i → k.getD j 0 = q + (j : Int)) (hi : i < k.length) (hp : p = q + i) : ∀ j, j < i + 1 → (k.set (i : Int).toNat p).getD j 0 = q + (j : Int) := fun j hj => by
  rw [Int.toNat_natCast]
  simp only [List.getD_eq_getElem?_getD] at he ⊢
  by_cases e : j = i
  · subst e; simp [hi, hp]
  · rw [List.getElem?_set_ne (fun e' => e e'.symm)]; exact he j (by omega)
theorem mark2_step {k : List (Int × Int)} {q p : Int} {i : Nat} {z z' : Int × Int} (he : ∀ j, j < i → k.getD j (0, 0) = (q + 2 * (j : Int), q + 2 * (j : Int) + 1)) (hi : i < k.length) (hp : p = q + 2 * i) (hz' : (k.set (i : Int).toNat (p, z.2))[(i : Int).toNat]? = some z') :
    ∀ j, j < i + 1 → ((k.set (i : Int).toNat (p, z.2)).set (i : Int).toNat (z'.1, p + 1)).getD j (0, 0) = (q + 2 * (j : Int), q + 2 * (j : Int) + 1) := fun j hj => by
  rw [Int.toNat_natCast] at hz' ⊢
  rw [List.getElem?_set_self hi] at hz'
  cases hz'
  simp only [List.getD_eq_getElem?_getD, List.set_set] at he ⊢
  by_cases e : j = i
  · subst e; simp [hi, hp]
  · rw [List.getElem?_set_ne (fun e' => e e'.symm)]; exact he j (by omega)
theorem sq6 {d : Int} (h1 : 2 ≤ d) (h2 : d ≤ 6) : 4 ≤ d * d ∧ d * d ≤ 36 ∧ (d * d ≤ 31 → d ≤ 5) := by
  have : d = 2 ∨ d = 3 ∨ d = 4 ∨ d = 5 ∨ d = 6 := by omega
  rcases this with rfl | rfl | rfl | rfl | rfl <;> decide
theorem sq_lt {d e : Int} (h0 : 0 ≤ d) (h : e * e < d * d) (h1 : 0 ≤ e) : e < d := by
  rcases Int.lt_or_le e d with h2 | h2
  · exact h2
  · have := Int.mul_le_mul h2 h2 h0 h1; omega
def primeI (p : Int) : Prop := (2 ≤ p ∧ p ≤ 31) ∧ ∀ e : Int, 2 ≤ e → e * e ≤ p → p % e ≠ 0
noncomputable instance (p : Int) : Decidable (primeI p) := Classical.propDecidable _
def elems (p : Int) (l : List Int) : Prop := ∀ j, j < l.length → 0 ≤ l.getD j 0 ∧ l.getD j 0 ≤ p - 1
noncomputable instance (p : Int) (l : List Int) : Decidable (elems p l) := Classical.propDecidable _
def ptsI (p : Int) (l : List Int) : Prop := (l.length : Int) ≤ 10 ∧ Ris 1 (p - 1) l
instance (p : Int) (l : List Int) : Decidable (ptsI p l) := by unfold ptsI; infer_instance
def curveI (p : Int) (c : List Int) : Prop := (c.length : Int) ≤ 7 ∧ elems p c ∧ ((c.length : Int) = 0 ∨ c.getD (c.length - 1) 0 ≠ 0)
noncomputable instance (p : Int) (c : List Int) : Decidable (curveI p c) := Classical.propDecidable _
def allC (p : Int) (L : List (List Int)) : Prop := ∀ j, j < L.length → curveI p (L.getD j [])
noncomputable instance (p : Int) (L : List (List Int)) : Decidable (allC p L) := Classical.propDecidable _
def allV (p : Int) (L : List (List Int)) : Prop := ∀ j, j < L.length → primeI p ∧ curveI p (L.getD j [])
noncomputable instance (p : Int) (L : List (List Int)) : Decidable (allV p L) := Classical.propDecidable _
def vS (p : Int) (l : List (Int × Int)) : Prop := primeI p ∧ elems p (l.map Prod.snd) ∧ ptsI p (l.map Prod.fst)
noncomputable instance (p : Int) (l : List (Int × Int)) : Decidable (vS p l) := Classical.propDecidable _
def val (p : Int) (c : List Int) (x : Int) : Int := c.foldr (fun a acc => (acc * x + a) % p) 0
theorem val_step {p x z : Int} {c : List Int} {i : Nat} (hz : c[i]? = some z) : val p (c.drop i) x = (val p (c.drop (i + 1)) x * x + z) % p := by
  have hi := (List.getElem?_eq_some_iff.1 hz).1
  unfold val
  rw [List.drop_eq_getElem_cons hi, List.foldr_cons, (List.getElem?_eq_some_iff.1 hz).2]
theorem val_in {p : Int} (hp : 0 < p) (c : List Int) (x : Int) : 0 ≤ val p c x ∧ val p c x ≤ p - 1 := by
  cases c with
  | nil => simp only [val, List.foldr_nil]; omega
  | cons a c =>
    have h1 := Int.emod_nonneg ((c.foldr (fun a acc => (acc * x + a) % p) 0) * x + a) (show p ≠ 0 by omega)
    have h2 := Int.emod_lt_of_pos ((c.foldr (fun a acc => (acc * x + a) % p) 0) * x + a) hp
    simp only [val, List.foldr_cons]; omega
theorem mul31 {a b : Int} (h1 : 0 ≤ a) (h2 : a ≤ 31) (h3 : 0 ≤ b) (h4 : b ≤ 31) : 0 ≤ a * b ∧ a * b ≤ 961 := by
  have h5 := Int.mul_nonneg h1 h3
  have h6 := Int.mul_le_mul h2 h4 h3 (by decide)
  omega
theorem elem_at {p : Int} {l : List Int} {q z : Int} (h : elems p l) (hz : l[q.toNat]? = some z) : 0 ≤ z ∧ z ≤ p - 1 := by
  have hi := (List.getElem?_eq_some_iff.1 hz).1
  have := h q.toNat hi
  rwa [List.getD_eq_getElem?_getD, hz] at this
theorem val_zero {p : Int} {c : List Int} (h : elems p c) (hp : 0 < p) : val p c 0 = c.getD 0 0 := by
  cases c with
  | nil => rfl
  | cons a c =>
    have := h 0 (by simp)
    simp only [List.getD_cons_zero] at this
    simp only [val, List.foldr_cons, Int.mul_zero, Int.zero_add, List.getD_cons_zero]
    exact Int.emod_eq_of_lt this.1 (by omega)
theorem map_snoc {α : Type} {f : α → Int} {l : List α} {i : Nat} {z : α} (hz : l[(i : Int).toNat]? = some z) : (l.take (i + 1)).map f = (l.take i).map f ++ [f z] := by
  rw [Int.toNat_natCast] at hz
  rw [List.take_add_one, hz]; simp
theorem nn_nil {α : Type} {K : Kd α} {ok : Nat → Prop} {v : Value} {l : List α} (h : RdK K W H ok v l) (hn : (!nn v) = true) : l = [] := by
  cases l with
  | nil => rfl
  | cons a l => rw [nn_pos h (by simp)] at hn; cases hn
/-- A share to which a mask's value is added. -/
def addS (p : Int) (m : List Int) (s : Int × Int) : Int × Int := (s.1, (s.2 + val p m s.1) % p)
def refr (p : Int) (L : List (List Int)) (l : List (Int × Int)) : List (Int × Int) := L.foldl (fun out m => out.map (addS p m)) l
theorem refr_snoc {p : Int} {L : List (List Int)} {l : List (Int × Int)} {i : Nat} {z : List Int} (hz : L[(i : Int).toNat]? = some z) : refr p (L.take (i + 1)) l = (refr p (L.take i) l).map (addS p z) := by
  rw [Int.toNat_natCast] at hz
  unfold refr
  rw [List.take_add_one, hz, List.foldl_append]; rfl
theorem refr_len (p : Int) : ∀ (L : List (List Int)) (l : List (Int × Int)), (refr p L l).length = l.length
  | [], _ => rfl
  | m :: L, l => by
    show (refr p L (l.map (addS p m))).length = _
    rw [refr_len p L]; simp
/-- The first are changed. -/
def updS (f : Int × Int → Int × Int) (l : List (Int × Int)) (j : Nat) : List (Int × Int) := (l.take j).map f ++ l.drop j
theorem updS_len (f : Int × Int → Int × Int) (l : List (Int × Int)) (j : Nat) : (updS f l j).length = l.length := by simp [updS]; omega
theorem updS_at {f : Int × Int → Int × Int} {l : List (Int × Int)} {j : Nat} (hj : j < l.length) : (updS f l j)[j]? = l[j]? := by
  unfold updS
  rw [List.getElem?_append_right (by simp; omega)]
  simp [Nat.min_eq_left (Nat.le_of_lt hj)]
theorem updS_step {f : Int × Int → Int × Int} {l : List (Int × Int)} {j : Nat} {z y : Int × Int} (hz : (updS f l j)[(j : Int).toNat]? = some z) (hj : j < l.length) (hy : y = f z) : (updS f l j).set (j : Int).toNat y = updS f l (j + 1) := by
  rw [Int.toNat_natCast] at hz ⊢
  rw [updS_at hj] at hz
  subst hy
  apply List.ext_getElem?
  intro q
  have hz2 := (List.getElem?_eq_some_iff.1 hz).2
  rcases Nat.lt_trichotomy q j with h | h | h
  · rw [List.getElem?_set_ne (by omega)]
    unfold updS
    rw [List.getElem?_append_left (by simp; omega), List.getElem?_append_left (by simp; omega)]
    simp only [List.getElem?_map, List.getElem?_take, if_pos h, if_pos (show q < j + 1 by omega)]
  · subst h
    rw [List.getElem?_set_self (by rw [updS_len]; exact hj)]
    unfold updS
    rw [List.getElem?_append_left (by simp; omega)]
    simp [hz]
  · rw [List.getElem?_set_ne (by omega)]
    unfold updS
    rw [List.getElem?_append_right (by simp; omega), List.getElem?_append_right (by simp; omega)]
    simp only [List.length_map, List.length_take, List.getElem?_drop]
    congr 1; omega
theorem updS_all (f : Int × Int → Int × Int) (l : List (Int × Int)) : updS f l l.length = l.map f := by simp [updS]
/-- Values and points that stay within. -/
def bnd (p : Int) (l : List (Int × Int)) : Prop := ∀ s ∈ l, (1 ≤ s.1 ∧ s.1 ≤ p - 1) ∧ 0 ≤ s.2 ∧ s.2 ≤ p - 1
theorem vS_bnd {p : Int} {l : List (Int × Int)} (h : vS p l) : bnd p l := fun s hs => by
  obtain ⟨j, hj, rfl⟩ := List.getElem_of_mem hs
  have h1 := h.2.1 j (by simpa using hj)
  have h2 := h.2.2.2 j (by simpa using hj)
  unfold RisAt at h2
  simp [hj] at h1 h2
  exact ⟨⟨h2.1, h2.2.1⟩, h1⟩
theorem addS_bnd {p : Int} (hp : 0 < p) (m : List Int) {s : Int × Int} (h : (1 ≤ s.1 ∧ s.1 ≤ p - 1) ∧ 0 ≤ s.2 ∧ s.2 ≤ p - 1) : (1 ≤ (addS p m s).1 ∧ (addS p m s).1 ≤ p - 1) ∧ 0 ≤ (addS p m s).2 ∧ (addS p m s).2 ≤ p - 1 := by
  have h1 := Int.emod_nonneg (s.2 + val p m s.1) (show p ≠ 0 by omega)
  have h2 := Int.emod_lt_of_pos (s.2 + val p m s.1) hp
  refine ⟨h.1, ?_⟩
  simp only [addS]; omega
theorem refr_bnd {p : Int} (hp : 0 < p) : ∀ (L : List (List Int)) {l : List (Int × Int)}, bnd p l → bnd p (refr p L l)
  | [], _, h => h
  | m :: L, l, h => refr_bnd hp L (fun s hs => by
    obtain ⟨t, ht, rfl⟩ := List.mem_map.1 hs
    exact addS_bnd hp m (h t ht))
theorem updS_bnd {p : Int} (hp : 0 < p) {m : List Int} {l : List (Int × Int)} {j : Nat} (h : bnd p l) : bnd p (updS (addS p m) l j) := fun s hs => by
  rcases List.mem_append.1 hs with hs | hs
  · obtain ⟨t, ht, rfl⟩ := List.mem_map.1 hs
    exact addS_bnd hp m (h t (List.mem_of_mem_take ht))
  · exact h s (List.mem_of_mem_drop hs)
/-- Masks that do not change the secret. -/
def zer (L : List (List Int)) : Prop := ∀ j, j < L.length → (L.getD j []).getD 0 0 = 0
noncomputable instance (L : List (List Int)) : Decidable (zer L) := Classical.propDecidable _
noncomputable def rfCode (p : Int) (l : List (Int × Int)) (L : List (List Int)) : Int := if vS p l ∧ allC p L then if zer L then 0 else 4 else 1
noncomputable def rfRow (p : Int) (l : List (Int × Int)) (L : List (List Int)) : List (Int × Int) := if vS p l ∧ allC p L then if zer L then refr p L l else [] else []
theorem rf_bad {p : Int} {l : List (Int × Int)} {L : List (List Int)} (h : ¬ (vS p l ∧ allC p L)) : rfCode p l L = 1 ∧ rfRow p l L = [] := ⟨if_neg h, if_neg h⟩
theorem rf_state {p : Int} {l : List (Int × Int)} {L : List (List Int)} (h : vS p l ∧ allC p L) (hz : ¬ zer L) : rfCode p l L = 4 ∧ rfRow p l L = [] := ⟨by unfold rfCode; rw [if_pos h, if_neg hz], by unfold rfRow; rw [if_pos h, if_neg hz]⟩
theorem rf_ok {p : Int} {l : List (Int × Int)} {L : List (List Int)} (h : vS p l ∧ allC p L) (hz : zer L) : rfCode p l L = 0 ∧ rfRow p l L = refr p L l := ⟨by unfold rfCode; rw [if_pos h, if_pos hz], by unfold rfRow; rw [if_pos h, if_pos hz]⟩
theorem rf_len {p : Int} {l : List (Int × Int)} {L : List (List Int)} (h : l.length ≤ 1048576) : (rfRow p l L).length ≤ 1048576 := by
  unfold rfRow
  split
  · split
    · rw [refr_len]; exact h
    · exact Nat.zero_le _
  · exact Nat.zero_le _
theorem get_getD {α : Type} {l : List α} {i : Nat} {d : α} (h : i < l.length) : l[(i : Int).toNat]? = some (l.getD i d) := by
  rw [Int.toNat_natCast]; simp [h]
theorem same_at {α : Type} {l : List α} {q : Int} {z y : α} (h : l[q.toNat]? = some z) (k : l[q.toNat]? = some y) : y = z := Option.some.inj (k.symm.trans h)
theorem refr_in {p : Int} {l : List (Int × Int)} {m : List (List Int)} {i j : Nat} {q : Int} {z : Int × Int} (hv : vS p l) (hz : (updS (addS p (m.getD i [])) (refr p (m.take i) l) j)[q.toNat]? = some z) : (1 ≤ z.1 ∧ z.1 ≤ p - 1) ∧ 0 ≤ z.2 ∧ z.2 ≤ p - 1 := by
  have hp := hv.1.1
  exact updS_bnd (m := m.getD i []) (j := j) (show 0 < p by omega) (refr_bnd (show 0 < p by omega) (m.take i) (vS_bnd hv)) _ (List.mem_of_getElem? hz)
set_option maxRecDepth 100000 in
theorem szInt64S_ok {v : Value} {l : List Int} {ok : Nat → Prop} (q : Int) (hr : RdK kI W H ok v l) (hq : -1 ≤ q ∧ q ≤ 1048576) (hl : l.length ≤ 9223372036854775807) : ACalls Try.prog W 78 #[v, .int .i64 q] H (fun r H' => (∃ q' : Int, r = .int .i64 q' ∧ -1 ≤ q' ∧ q' ≤ 1048576 ∧ (0 ≤ q' → l.length ≤ 1048576)) ∧ Ext H H') := by
  refine ACalls.of (args := [v, .int .i64 q]) Try.func78 rfl rfl ?_
  have X0 := Ext.refl H
  have hm1 := hr.max
  refine AW.rs ?_
  refine AL.val rfl (.inl rfl) (HV.as rfl) ?_
  refine AL.nx ?_
  refine AW.rs ?_
  refine AL.val rfl (.inl rfl) (HV.mv rfl) ?_
  refine AL.val rfl (.inl rfl) (HV.mv rfl) ?_
  refine AL.val rfl (.inl rfl) (HV.len Try.underlying24 rfl hr.isSl) ?_
  refine AL.val rfl (.inl rfl) (HV.sub rfl rfl (by omega)) ?_
  refine AL.val rfl (.inl rfl) (HV.as rfl) ?_
  refine AL.nx ?_
  refine AW.seq ?_
  refine AW.rs ?_
  refine AL.val rfl (.inl rfl) (HV.mv rfl) ?_
  refine AL.val rfl (.inl rfl) (HV.lti rfl rfl) ?_
  refine AL.nx ?_
  refine AW.ifd rfl (fun c2 => ?_) (fun c2 => ?_)
  · -- then
    refine AW.rs ?_
    refine AL.val rfl (.inl rfl) (HV.as rfl) ?_
    refine AL.nx ?_
    refine AW.ret ?_
    refine ret_and ?_
    refine post_one rfl rfl ?_ (.inr rfl)
    exact ⟨⟨_, rfl, by omega, by omega, fun h => by omega⟩, X0⟩
  · -- else
    refine AW.skip ?_
    refine nrm_and ?_
    refine AW.rs ?_
    refine AL.val rfl (.inl rfl) (HV.mv rfl) ?_
    refine AL.val rfl (.inl rfl) (HV.as rfl) ?_
    refine AL.nx ?_
    refine AW.ret ?_
    refine post_one rfl rfl ?_ (.inr rfl)
    exact ⟨⟨_, rfl, by omega, by omega, fun h => by omega⟩, X0⟩

set_option maxRecDepth 100000 in
theorem within_ok (a b c : Int) : ACalls Try.prog W 73 #[.int .i64 a, .int .i64 b, .int .i64 c] H (fun r H' => r = .bool (decide (b ≤ a ∧ a ≤ c)) ∧ Ext H H') := by
  refine ACalls.of (args := [.int .i64 a, .int .i64 b, .int .i64 c]) Try.func73 rfl rfl ?_
  have X0 := Ext.refl H
  refine AW.rs ?_
  refine AL.val rfl (.inl rfl) (HV.as rfl) ?_
  refine AL.nx ?_
  refine AW.rs ?_
  refine AL.val rfl (.inl rfl) (HV.mv rfl) ?_
  refine AL.val rfl (.inl rfl) (HV.mv rfl) ?_
  refine AL.val rfl (.inl rfl) (HV.gei rfl rfl) ?_
  refine AL.val rfl (.inl rfl) (HV.mv rfl) ?_
  by_cases c1 : a ≥ b
  · -- true
    have c1_ : decide (a ≥ b) = true := decide_eq_true c1
    rw [c1_]
    refine AL.val rfl (.inr ⟨_, _, _, rfl, rfl, rfl⟩) (HV.mv rfl) ?_
    refine AL.val rfl (.inr ⟨_, _, _, rfl, rfl, rfl⟩) (HV.mv rfl) ?_
    refine AL.val rfl (.inr ⟨_, _, _, rfl, rfl, rfl⟩) (HV.lei rfl rfl) ?_
    refine AL.val rfl (.inl rfl) (HV.pickT rfl rfl) ?_
    refine AL.val rfl (.inl rfl) (HV.as rfl) ?_
    refine AL.nx ?_
    refine AW.ret ?_
    refine post_one rfl rfl ?_ (.inr rfl)
    exact ⟨congrArg Value.bool (by rw [Bool.eq_iff_iff]; simp; omega), X0⟩
  · -- false
    have c1_ : decide (a ≥ b) = false := decide_eq_false c1
    rw [c1_]
    refine AL.off rfl rfl (by decide) rfl ?_
    refine AL.off rfl rfl (by decide) rfl ?_
    refine AL.off rfl rfl (by decide) rfl ?_
    refine AL.val rfl (.inl rfl) (HV.pickF rfl rfl) ?_
    refine AL.val rfl (.inl rfl) (HV.as rfl) ?_
    refine AL.nx ?_
    refine AW.ret ?_
    refine post_one rfl rfl ?_ (.inr rfl)
    exact ⟨congrArg Value.bool (by rw [Bool.eq_iff_iff]; simp; omega), X0⟩

set_option maxRecDepth 100000 in
theorem l00In_ok (a b c : Int) : ACalls Try.prog W 68 #[.int .i64 a, .int .i64 b, .int .i64 c] H (fun r H' => r = .bool (decide (b ≤ a ∧ a ≤ c)) ∧ Ext H H') := by
  refine ACalls.of (args := [.int .i64 a, .int .i64 b, .int .i64 c]) Try.func68 rfl rfl ?_
  have X0 := Ext.refl H
  refine AW.rs ?_
  refine AL.val rfl (.inl rfl) (HV.as rfl) ?_
  refine AL.nx ?_
  refine AW.rs ?_
  refine AL.val rfl (.inl rfl) (HV.mv rfl) ?_
  refine AL.val rfl (.inl rfl) (HV.mv rfl) ?_
  refine AL.val rfl (.inl rfl) (HV.gei rfl rfl) ?_
  refine AL.val rfl (.inl rfl) (HV.mv rfl) ?_
  by_cases c1 : a ≥ b
  · -- true
    have c1_ : decide (a ≥ b) = true := decide_eq_true c1
    rw [c1_]
    refine AL.val rfl (.inr ⟨_, _, _, rfl, rfl, rfl⟩) (HV.mv rfl) ?_
    refine AL.val rfl (.inr ⟨_, _, _, rfl, rfl, rfl⟩) (HV.mv rfl) ?_
    refine AL.val rfl (.inr ⟨_, _, _, rfl, rfl, rfl⟩) (HV.lei rfl rfl) ?_
    refine AL.val rfl (.inl rfl) (HV.pickT rfl rfl) ?_
    refine AL.val rfl (.inl rfl) (HV.as rfl) ?_
    refine AL.nx ?_
    refine AW.ret ?_
    refine post_one rfl rfl ?_ (.inr rfl)
    exact ⟨congrArg Value.bool (by rw [Bool.eq_iff_iff]; simp; omega), X0⟩
  · -- false
    have c1_ : decide (a ≥ b) = false := decide_eq_false c1
    rw [c1_]
    refine AL.off rfl rfl (by decide) rfl ?_
    refine AL.off rfl rfl (by decide) rfl ?_
    refine AL.off rfl rfl (by decide) rfl ?_
    refine AL.val rfl (.inl rfl) (HV.pickF rfl rfl) ?_
    refine AL.val rfl (.inl rfl) (HV.as rfl) ?_
    refine AL.nx ?_
    refine AW.ret ?_
    refine post_one rfl rfl ?_ (.inr rfl)
    exact ⟨congrArg Value.bool (by rw [Bool.eq_iff_iff]; simp; omega), X0⟩

set_option maxRecDepth 100000 in
theorem l00Rises_ok {v : Value} {l : List Int} {ok : Nat → Prop} (a b : Int) (hr : RdK kI W H ok v l) : ACalls Try.prog W 125 #[v, .int .i64 a, .int .i64 b] H (fun r H' => r = .bool (decide (Ris a b l)) ∧ Ext H H') := by
  refine ACalls.of (args := [v, .int .i64 a, .int .i64 b]) Try.func125 rfl rfl ?_
  have X0 := Ext.refl H
  have hm1 := hr.max
  refine AW.rs ?_
  refine AL.val rfl (.inl rfl) (HV.as rfl) ?_
  refine AL.nx ?_
  refine AW.seq ?_
  refine AW.rs ?_
  refine AL.val rfl (.inl rfl) (HV.as rfl) ?_
  refine AL.nx ?_
  refine AW.block ?_
  refine AW.loop (σ := Nat) (fun i => [(0, v), (1, .int .i64 a), (2, .int .i64 b), (7, .int .i64 (i : Int))]) (fun i H' => Ext H H' ∧ i ≤ l.length ∧ (∀ j, j < i → RisAt a b l j) ∧ True) (fun i => l.length - i) 0 ⟨X0, Nat.zero_le _, fun j hj => absurd hj (Nat.not_lt_zero _), trivial⟩ ⟨rfl, rfl, rfl, rfl, trivial⟩ ?_
  rintro i H2 ⟨X3, hi, hi2, _⟩
  refine AW.seq ?_
  refine AW.rs ?_
  refine AL.val rfl (.inl rfl) (HV.mv rfl) ?_
  refine AL.val rfl (.inl rfl) (HV.mv rfl) ?_
  refine AL.val rfl (.inl rfl) (HV.len Try.underlying24 rfl hr.isSl) ?_
  refine AL.val rfl (.inl rfl) (HV.lti rfl rfl) ?_
  refine AL.nx ?_
  refine AW.ifd rfl (fun c4 => ?_) (fun c4 => ?_)
  · -- then
    refine AW.skip ?_
    refine nrm_and ?_
    refine AW.seq ?_
    refine AW.block ?_
    refine AW.seq ?_
    refine AW.draw' [0, 0, 3, 7, 0, 0, 63, 127, 255, 511, 1023, 2047, 4095, 4095, 12287, 32767, 65535, 4095, 4095, 397311, 921599, 2097151, 4194303, 8388607] mixed (by rfl) ?_
    refine Dr.read 0 _ 14 _ rfl rfl rfl rfl rfl (RV.of (by intro _ _ h; cases h) (.inl rfl) (fun _ xd => HV.mv rfl)) ?_
    refine Dr.read 1 _ 15 _ rfl rfl rfl rfl rfl (RV.of (by intro _ _ h; cases h) (.inl rfl) (fun _ xd => HV.mv rfl)) ?_
    obtain ⟨p5, z6, cs7, hz8, hK9, hC10, hP11⟩ := RdK.ix (q := (i : Int)) hr sl24 (by omega) (by omega)
    obtain rfl : cs7 = [.int .i64 z6] := hK9
    refine Dr.read 2 _ 16 _ rfl rfl rfl rfl rfl (RV.of (by intro _ _ h; cases h) (.inl rfl) (fun _ xd => hP11 rfl rfl)) ?_
    refine Dr.read 3 _ 17 _ rfl rfl rfl rfl rfl (RV.of (by intro _ _ h; cases h) (.inl rfl) (fun _ xd => HV.ld rfl va2 (rdc_ext xd (cells_first (hC10.ext X3) rfl)))) ?_
    refine Dr.read 4 _ 18 _ rfl rfl rfl rfl rfl (RV.of (by intro _ _ h; cases h) (.inl rfl) (fun _ xd => HV.mv rfl)) ?_
    refine Dr.read 5 _ 19 _ rfl rfl rfl rfl rfl (RV.of (by intro _ _ h; cases h) (.inl rfl) (fun _ xd => HV.mv rfl)) ?_
    refine Dr.eff 6 _ _ rfl (by intro d h; cases h; exact ⟨rfl, rfl⟩) rfl rfl rfl (EC.of (by intro _ _ h; cases h) (.inl rfl) (WV.call fn68 rfl (l00In_ok (W := W) z6 a b))) (fun v H' h => .inl (h.2)) ?_
    rintro _ H12 ⟨rfl, hx13⟩
    have X14 := Ext.trans X3 hx13
    refine Dr.read 7 _ 21 _ rfl rfl rfl rfl rfl (RV.of (by intro _ _ h; cases h) (.inl rfl) (fun _ xd => HV.not rfl)) ?_
    refine Dr.read 8 _ 22 _ rfl rfl rfl rfl rfl (RV.of (by intro _ _ h; cases h) (.inl rfl) (fun _ xd => HV.mv rfl)) ?_
    by_cases c15 : a ≤ z6 ∧ z6 ≤ b
    · -- false
      have c15_ : (!decide (a ≤ z6 ∧ z6 ≤ b)) = false := by rw [decide_eq_true c15]; rfl
      rw [c15_]
      refine Dr.read 9 _ 23 _ rfl rfl rfl rfl rfl (RV.of (by intro _ _ h; cases h) (.inr ⟨_, _, _, rfl, rfl, rfl⟩) (fun _ xd => HV.mv rfl)) ?_
      refine Dr.read 10 _ 24 _ rfl rfl rfl rfl rfl (RV.of (by intro _ _ h; cases h) (.inr ⟨_, _, _, rfl, rfl, rfl⟩) (fun _ xd => HV.gti rfl rfl)) ?_
      refine Dr.read 11 _ 25 _ rfl rfl rfl rfl rfl (RV.of (by intro _ _ h; cases h) (.inr ⟨_, _, _, rfl, rfl, rfl⟩) (fun _ xd => HV.mv rfl)) ?_
      by_cases c16 : (i : Int) > 0
      · -- true
        have c16_ : decide ((i : Int) > 0) = true := decide_eq_true c16
        rw [c16_]
        refine Dr.read 12 _ 26 _ rfl rfl rfl rfl rfl (RV.of (by intro _ _ h; cases h) (.inr ⟨_, _, _, rfl, rfl, rfl⟩) (fun _ xd => HV.mv rfl)) ?_
        refine Dr.read 13 _ 27 _ rfl rfl rfl rfl rfl (RV.of (by intro _ _ h; cases h) (.inr ⟨_, _, _, rfl, rfl, rfl⟩) (fun _ xd => HV.mv rfl)) ?_
        refine Dr.read 14 _ 28 _ rfl rfl rfl rfl rfl (RV.of (by intro _ _ h; cases h) (.inr ⟨_, _, _, rfl, rfl, rfl⟩) (fun _ xd => HV.sub rfl rfl (by omega))) ?_
        obtain ⟨p17, z18, cs19, hz20, hK21, hC22, hP23⟩ := RdK.ix (q := (i : Int) - 1) hr sl24 (by omega) (by omega)
        obtain rfl : cs19 = [.int .i64 z18] := hK21
        refine Dr.read 15 _ 29 _ rfl rfl rfl rfl rfl (RV.of (by intro _ _ h; cases h) (.inr ⟨_, _, _, rfl, rfl, rfl⟩) (fun _ xd => hP23 rfl rfl)) ?_
        refine Dr.read 16 _ 30 _ rfl rfl rfl rfl rfl (RV.of (by intro _ _ h; cases h) (.inr ⟨_, _, _, rfl, rfl, rfl⟩) (fun _ xd => HV.ld rfl va2 (rdc_ext xd (cells_first (hC22.ext X14) rfl)))) ?_
        refine Dr.read 17 _ 31 _ rfl rfl rfl rfl rfl (RV.of (by intro _ _ h; cases h) (.inr ⟨_, _, _, rfl, rfl, rfl⟩) (fun _ xd => HV.mv rfl)) ?_
        refine Dr.read 18 _ 32 _ rfl rfl rfl rfl rfl (RV.of (by intro _ _ h; cases h) (.inr ⟨_, _, _, rfl, rfl, rfl⟩) (fun _ xd => HV.mv rfl)) ?_
        obtain ⟨p24, z25, cs26, hz27, hK28, hC29, hP30⟩ := RdK.ix (q := (i : Int)) hr sl24 (by omega) (by omega)
        obtain rfl : cs26 = [.int .i64 z25] := hK28
        refine Dr.read 19 _ 33 _ rfl rfl rfl rfl rfl (RV.of (by intro _ _ h; cases h) (.inr ⟨_, _, _, rfl, rfl, rfl⟩) (fun _ xd => hP30 rfl rfl)) ?_
        refine Dr.read 20 _ 34 _ rfl rfl rfl rfl rfl (RV.of (by intro _ _ h; cases h) (.inr ⟨_, _, _, rfl, rfl, rfl⟩) (fun _ xd => HV.ld rfl va2 (rdc_ext xd (cells_first (hC29.ext X14) rfl)))) ?_
        refine Dr.read 21 _ 35 _ rfl rfl rfl rfl rfl (RV.of (by intro _ _ h; cases h) (.inr ⟨_, _, _, rfl, rfl, rfl⟩) (fun _ xd => HV.gei rfl rfl)) ?_
        refine Dr.read 22 _ 36 _ rfl rfl rfl rfl rfl (RV.of (by intro _ _ h; cases h) (.inr ⟨_, _, _, rfl, rfl, rfl⟩) (fun _ xd => HV.pickT rfl rfl)) ?_
        refine Dr.read 23 _ 37 _ rfl rfl rfl rfl rfl (RV.of (by intro _ _ h; cases h) (.inl rfl) (fun _ xd => HV.pickF rfl rfl)) ?_
        refine Dr.fin rfl ?_
        refine nrm_and ?_
        refine AW.ifd rfl (fun c31 => ?_) (fun c31 => ?_)
        · -- then
          refine AW.rs ?_
          refine AL.val rfl (.inl rfl) (HV.as rfl) ?_
          refine AL.nx ?_
          refine AW.ret ?_
          refine ret_blk (ret_and (ret_and (ret_blk (ret_and ?_))))
          refine post_one rfl rfl ?_ (.inr rfl)
          exact ⟨dec_f fun hR => by have q := hR i (by omega); unfold RisAt at q; have g17 : l.getD i 0 = z6 := gd hz8 (by omega); have g30 : l.getD (i - 1) 0 = z18 := gd hz20 (by omega); have g34 : l.getD i 0 = z25 := gd hz27 (by omega); omega, X14⟩
        · -- else
          refine AW.skip ?_
          refine nrm_blk (nrm_and ?_)
          refine AW.reg ?_
          refine AL.val rfl (.inl rfl) (HV.mv rfl) ?_
          refine AL.val rfl (.inl rfl) (HV.add rfl rfl (by omega)) ?_
          refine AL.val rfl (.inl rfl) (HV.as rfl) ?_
          refine AL.nil ?_
          refine nrm_and ?_
          exact ⟨i + 1, ⟨X14, by omega, fun j hj => by
      rcases Nat.lt_or_ge j i with h1 | h1
      · exact hi2 j h1
      · obtain rfl : j = i := by omega
        unfold RisAt; have g17 : l.getD j 0 = z6 := gd hz8 (by omega); have g30 : l.getD (j - 1) 0 = z18 := gd hz20 (by omega); have g34 : l.getD j 0 = z25 := gd hz27 (by omega); exact ⟨by omega, by omega, fun h0 => by omega⟩, trivial⟩, by first | omega | (dsimp only; omega), ⟨rfl, rfl, rfl, rfl, trivial⟩⟩
      · -- false
        have c16_ : decide ((i : Int) > 0) = false := decide_eq_false c16
        rw [c16_]
        refine Dr.read 12 _ 26 _ rfl rfl rfl rfl rfl (RV.off (by intro _ _ h; cases h) rfl rfl (by decide)) ?_
        refine Dr.read 13 _ 27 _ rfl rfl rfl rfl rfl (RV.off (by intro _ _ h; cases h) rfl rfl (by decide)) ?_
        refine Dr.read 14 _ 28 _ rfl rfl rfl rfl rfl (RV.off (by intro _ _ h; cases h) rfl rfl (by decide)) ?_
        refine Dr.read 15 _ 29 _ rfl rfl rfl rfl rfl (RV.off (by intro _ _ h; cases h) rfl rfl (by decide)) ?_
        refine Dr.read 16 _ 30 _ rfl rfl rfl rfl rfl (RV.off (by intro _ _ h; cases h) rfl rfl (by decide)) ?_
        refine Dr.read 17 _ 31 _ rfl rfl rfl rfl rfl (RV.off (by intro _ _ h; cases h) rfl rfl (by decide)) ?_
        refine Dr.read 18 _ 32 _ rfl rfl rfl rfl rfl (RV.off (by intro _ _ h; cases h) rfl rfl (by decide)) ?_
        refine Dr.read 19 _ 33 _ rfl rfl rfl rfl rfl (RV.off (by intro _ _ h; cases h) rfl rfl (by decide)) ?_
        refine Dr.read 20 _ 34 _ rfl rfl rfl rfl rfl (RV.off (by intro _ _ h; cases h) rfl rfl (by decide)) ?_
        refine Dr.read 21 _ 35 _ rfl rfl rfl rfl rfl (RV.off (by intro _ _ h; cases h) rfl rfl (by decide)) ?_
        refine Dr.read 22 _ 36 _ rfl rfl rfl rfl rfl (RV.of (by intro _ _ h; cases h) (.inr ⟨_, _, _, rfl, rfl, rfl⟩) (fun _ xd => HV.pickF rfl rfl)) ?_
        refine Dr.read 23 _ 37 _ rfl rfl rfl rfl rfl (RV.of (by intro _ _ h; cases h) (.inl rfl) (fun _ xd => HV.pickF rfl rfl)) ?_
        refine Dr.fin rfl ?_
        refine nrm_and ?_
        refine AW.cond rfl (fun h => by cases h) (fun _ => ?_)
        refine AW.skip ?_
        refine nrm_blk (nrm_and ?_)
        refine AW.reg ?_
        refine AL.val rfl (.inl rfl) (HV.mv rfl) ?_
        refine AL.val rfl (.inl rfl) (HV.add rfl rfl (by omega)) ?_
        refine AL.val rfl (.inl rfl) (HV.as rfl) ?_
        refine AL.nil ?_
        refine nrm_and ?_
        exact ⟨i + 1, ⟨X14, by omega, fun j hj => by
      rcases Nat.lt_or_ge j i with h1 | h1
      · exact hi2 j h1
      · obtain rfl : j = i := by omega
        unfold RisAt; have g17 : l.getD j 0 = z6 := gd hz8 (by omega); exact ⟨by omega, by omega, fun h0 => by omega⟩, trivial⟩, by first | omega | (dsimp only; omega), ⟨rfl, rfl, rfl, rfl, trivial⟩⟩
    · -- true
      have c15_ : (!decide (a ≤ z6 ∧ z6 ≤ b)) = true := by rw [decide_eq_false c15]; rfl
      rw [c15_]
      refine Dr.read 9 _ 23 _ rfl rfl rfl rfl rfl (RV.off (by intro _ _ h; cases h) rfl rfl (by decide)) ?_
      refine Dr.read 10 _ 24 _ rfl rfl rfl rfl rfl (RV.off (by intro _ _ h; cases h) rfl rfl (by decide)) ?_
      refine Dr.read 11 _ 25 _ rfl rfl rfl rfl rfl (RV.off (by intro _ _ h; cases h) rfl rfl (by decide)) ?_
      refine Dr.read 12 _ 26 _ rfl rfl rfl rfl rfl (RV.offu (by intro _ _ h; cases h) rfl rfl) ?_
      refine Dr.read 13 _ 27 _ rfl rfl rfl rfl rfl (RV.offu (by intro _ _ h; cases h) rfl rfl) ?_
      refine Dr.read 14 _ 28 _ rfl rfl rfl rfl rfl (RV.offu (by intro _ _ h; cases h) rfl rfl) ?_
      refine Dr.read 15 _ 29 _ rfl rfl rfl rfl rfl (RV.offu (by intro _ _ h; cases h) rfl rfl) ?_
      refine Dr.read 16 _ 30 _ rfl rfl rfl rfl rfl (RV.offu (by intro _ _ h; cases h) rfl rfl) ?_
      refine Dr.read 17 _ 31 _ rfl rfl rfl rfl rfl (RV.offu (by intro _ _ h; cases h) rfl rfl) ?_
      refine Dr.read 18 _ 32 _ rfl rfl rfl rfl rfl (RV.offu (by intro _ _ h; cases h) rfl rfl) ?_
      refine Dr.read 19 _ 33 _ rfl rfl rfl rfl rfl (RV.offu (by intro _ _ h; cases h) rfl rfl) ?_
      refine Dr.read 20 _ 34 _ rfl rfl rfl rfl rfl (RV.offu (by intro _ _ h; cases h) rfl rfl) ?_
      refine Dr.read 21 _ 35 _ rfl rfl rfl rfl rfl (RV.offu (by intro _ _ h; cases h) rfl rfl) ?_
      refine Dr.read 22 _ 36 _ rfl rfl rfl rfl rfl (RV.off (by intro _ _ h; cases h) rfl rfl (by decide)) ?_
      refine Dr.read 23 _ 37 _ rfl rfl rfl rfl rfl (RV.of (by intro _ _ h; cases h) (.inl rfl) (fun _ xd => HV.pickT rfl rfl)) ?_
      refine Dr.fin rfl ?_
      refine nrm_and ?_
      refine AW.cond rfl (fun _ => ?_) (fun h => by cases h)
      refine AW.rs ?_
      refine AL.val rfl (.inl rfl) (HV.as rfl) ?_
      refine AL.nx ?_
      refine AW.ret ?_
      refine ret_blk (ret_and (ret_and (ret_blk (ret_and ?_))))
      refine post_one rfl rfl ?_ (.inr rfl)
      exact ⟨dec_f fun hR => by have q := hR i (by omega); unfold RisAt at q; have g17 : l.getD i 0 = z6 := gd hz8 (by omega); omega, X14⟩
  · -- else
    refine AW.exit ?_
    refine ex_and (ex_and (ex_blk ?_))
    refine nrm_and ?_
    refine AW.rs ?_
    refine AL.val rfl (.inl rfl) (HV.as rfl) ?_
    refine AL.nx ?_
    refine AW.ret ?_
    refine post_one rfl rfl ?_ (.inr rfl)
    exact ⟨dec_t fun j hj => hi2 j (by omega), X3⟩

set_option maxRecDepth 100000 in
theorem eqS_ok {v v2 : Value} {l m : List Int} {ok ok2 : Nat → Prop} (hr : RdK kI W H ok v l) (hr2 : RdK kI W H ok2 v2 m) : ACalls Try.prog W 19 #[v, v2] H (fun r H' => r = .bool (decide (l = m)) ∧ Ext H H') := by
  refine ACalls.of (args := [v, v2]) Try.func19 rfl rfl ?_
  have X0 := Ext.refl H
  have hm1 := hr.max
  have hm2 := hr2.max
  refine AW.rs ?_
  refine AL.val rfl (.inl rfl) (HV.as rfl) ?_
  refine AL.nx ?_
  refine AW.seq ?_
  refine AW.rs ?_
  refine AL.val rfl (.inl rfl) (HV.mv rfl) ?_
  refine AL.val rfl (.inl rfl) (HV.len Try.underlying24 rfl hr.isSl) ?_
  refine AL.val rfl (.inl rfl) (HV.mv rfl) ?_
  refine AL.val rfl (.inl rfl) (HV.len Try.underlying24 rfl hr2.isSl) ?_
  refine AL.val rfl (.inl rfl) (HV.nei rfl rfl) ?_
  refine AL.nx ?_
  refine AW.ifd rfl (fun c3 => ?_) (fun c3 => ?_)
  · -- then
    refine AW.rs ?_
    refine AL.val rfl (.inl rfl) (HV.as rfl) ?_
    refine AL.nx ?_
    refine AW.ret ?_
    refine ret_and ?_
    refine post_one rfl rfl ?_ (.inr rfl)
    exact ⟨dec_f (fun e => by subst e; omega), X0⟩
  · -- else
    refine AW.skip ?_
    refine nrm_and ?_
    refine AW.seq ?_
    refine AW.rs ?_
    refine AL.val rfl (.inl rfl) (HV.as rfl) ?_
    refine AL.nx ?_
    refine AW.block ?_
    refine AW.loop (σ := Nat) (fun i => [(0, v), (1, v2), (5, .int .i64 (i : Int))]) (fun i H' => Ext H H' ∧ i ≤ l.length ∧ (∀ j, j < i → l.getD j 0 = m.getD j 0) ∧ True) (fun i => l.length - i) 0 ⟨X0, Nat.zero_le _, fun j hj => absurd hj (Nat.not_lt_zero _), trivial⟩ ⟨rfl, rfl, rfl, trivial⟩ ?_
    rintro i H4 ⟨X5, hi, he, _⟩
    refine AW.seq ?_
    refine AW.rs ?_
    refine AL.val rfl (.inl rfl) (HV.mv rfl) ?_
    refine AL.val rfl (.inl rfl) (HV.mv rfl) ?_
    refine AL.val rfl (.inl rfl) (HV.len Try.underlying24 rfl hr.isSl) ?_
    refine AL.val rfl (.inl rfl) (HV.lti rfl rfl) ?_
    refine AL.nx ?_
    refine AW.ifd rfl (fun c6 => ?_) (fun c6 => ?_)
    · -- then
      refine AW.skip ?_
      refine nrm_and ?_
      refine AW.seq ?_
      refine AW.block ?_
      refine AW.seq ?_
      refine AW.draw' [0, 0, 3, 7, 0, 0, 48, 112, 255] mixed (by rfl) ?_
      refine Dr.read 0 _ 17 _ rfl rfl rfl rfl rfl (RV.of (by intro _ _ h; cases h) (.inl rfl) (fun _ xd => HV.mv rfl)) ?_
      refine Dr.read 1 _ 18 _ rfl rfl rfl rfl rfl (RV.of (by intro _ _ h; cases h) (.inl rfl) (fun _ xd => HV.mv rfl)) ?_
      obtain ⟨p7, z8, cs9, hz10, hK11, hC12, hP13⟩ := RdK.ix (q := (i : Int)) hr sl24 (by omega) (by omega)
      obtain rfl : cs9 = [.int .i64 z8] := hK11
      refine Dr.read 2 _ 19 _ rfl rfl rfl rfl rfl (RV.of (by intro _ _ h; cases h) (.inl rfl) (fun _ xd => hP13 rfl rfl)) ?_
      refine Dr.read 3 _ 20 _ rfl rfl rfl rfl rfl (RV.of (by intro _ _ h; cases h) (.inl rfl) (fun _ xd => HV.ld rfl va2 (rdc_ext xd (cells_first (hC12.ext X5) rfl)))) ?_
      refine Dr.read 4 _ 21 _ rfl rfl rfl rfl rfl (RV.of (by intro _ _ h; cases h) (.inl rfl) (fun _ xd => HV.mv rfl)) ?_
      refine Dr.read 5 _ 22 _ rfl rfl rfl rfl rfl (RV.of (by intro _ _ h; cases h) (.inl rfl) (fun _ xd => HV.mv rfl)) ?_
      obtain ⟨p14, z15, cs16, hz17, hK18, hC19, hP20⟩ := RdK.ix (q := (i : Int)) hr2 sl24 (by omega) (by omega)
      obtain rfl : cs16 = [.int .i64 z15] := hK18
      refine Dr.read 6 _ 23 _ rfl rfl rfl rfl rfl (RV.of (by intro _ _ h; cases h) (.inl rfl) (fun _ xd => hP20 rfl rfl)) ?_
      refine Dr.read 7 _ 24 _ rfl rfl rfl rfl rfl (RV.of (by intro _ _ h; cases h) (.inl rfl) (fun _ xd => HV.ld rfl va2 (rdc_ext xd (cells_first (hC19.ext X5) rfl)))) ?_
      refine Dr.read 8 _ 25 _ rfl rfl rfl rfl rfl (RV.of (by intro _ _ h; cases h) (.inl rfl) (fun _ xd => HV.nei rfl rfl)) ?_
      refine Dr.fin rfl ?_
      refine nrm_and ?_
      refine AW.ifd rfl (fun c21 => ?_) (fun c21 => ?_)
      · -- then
        refine AW.rs ?_
        refine AL.val rfl (.inl rfl) (HV.as rfl) ?_
        refine AL.nx ?_
        refine AW.ret ?_
        refine ret_blk (ret_and (ret_and (ret_blk (ret_and ?_))))
        refine post_one rfl rfl ?_ (.inr rfl)
        exact ⟨dec_f (fun e => by subst e; have g20 : l.getD i 0 = z8 := gd hz10 (by omega); have g24 : l.getD i 0 = z15 := gd hz17 (by omega); omega), X5⟩
      · -- else
        refine AW.skip ?_
        refine nrm_blk (nrm_and ?_)
        refine AW.reg ?_
        refine AL.val rfl (.inl rfl) (HV.mv rfl) ?_
        refine AL.val rfl (.inl rfl) (HV.add rfl rfl (by omega)) ?_
        refine AL.val rfl (.inl rfl) (HV.as rfl) ?_
        refine AL.nil ?_
        refine nrm_and ?_
        exact ⟨i + 1, ⟨X5, by omega, fun j hj => by
      rcases Nat.lt_or_ge j i with h1 | h1
      · exact he j h1
      · obtain rfl : j = i := by omega
        have g20 : l.getD j 0 = z8 := gd hz10 (by omega); have g24 : m.getD j 0 = z15 := gd hz17 (by omega); omega, trivial⟩, by first | omega | (dsimp only; omega), ⟨rfl, rfl, rfl, trivial⟩⟩
    · -- else
      refine AW.exit ?_
      refine ex_and (ex_and (ex_blk ?_))
      refine nrm_and ?_
      refine AW.rs ?_
      refine AL.val rfl (.inl rfl) (HV.as rfl) ?_
      refine AL.nx ?_
      refine AW.ret ?_
      refine post_one rfl rfl ?_ (.inr rfl)
      exact ⟨dec_t (list_eq (by omega) (fun j hj => he j (by omega))), X5⟩

set_option maxRecDepth 100000 in
theorem toS_ok {v : Value} {l : List Int} {ok : Nat → Prop} (hr : RdK kI W H ok v l) (hl : l.length ≤ 1048576) : ACalls Try.prog W 39 #[v] H (fun r H' => Ext H H' ∧ OwnK kI 2 W H' (fun b => H.bd ≤ b) r l) := by
  refine ACalls.of (args := [v]) Try.func39 rfl rfl ?_
  have X0 := Ext.refl H
  have hm1 := hr.max
  refine AW.rs ?_
  refine AL.val rfl (.inl rfl) (HV.as rfl) ?_
  refine AL.nx ?_
  refine AW.rs ?_
  refine AL.val rfl (.inl rfl) (HV.mv rfl) ?_
  refine AL.val rfl (.inl rfl) (HV.len Try.underlying24 rfl hr.isSl) ?_
  have o2 := X0.bd
  refine AL.w rfl (.inl rfl) (WV.mkK (K := kI) (0 : Int) (fun _ _ _ => rfl) sl24 rfl rfl rfl (by omega) (by omega) (by omega)) ?_
  rintro v3 H4 ⟨hx5, ho6⟩
  have X7 := Ext.trans X0 hx5
  refine AL.val rfl (.inl rfl) (HV.as rfl) ?_
  refine AL.nx ?_
  refine AW.seq ?_
  refine AW.rs ?_
  refine AL.val rfl (.inl rfl) (HV.as rfl) ?_
  refine AL.nx ?_
  refine AW.block ?_
  refine AW.loop (σ := Nat × List Int) (fun ⟨i, k⟩ => [(0, v), (2, (.slice none 0 0)), (3, v3), (3, v3), (4, .int .i64 (i : Int))]) (fun ⟨i, k⟩ H' => Ext H H' ∧ i ≤ l.length ∧ k.length = l.length ∧ (∀ j, j < i → k.getD j 0 = l.getD j 0) ∧ OwnK kI 2 W H' (fun b => H.bd ≤ b) v3 k ∧ True) (fun ⟨i, k⟩ => l.length - i) (0, (List.replicate ((l.length : Int) : Int).toNat (0 : Int))) ⟨X7, Nat.zero_le _, by simp, fun j hj => absurd hj (Nat.not_lt_zero _), ho6, trivial⟩ ⟨rfl, rfl, rfl, rfl, rfl, trivial⟩ ?_
  rintro ⟨i, k⟩ H9 ⟨X10, hi, hk, he, hoL, _⟩
  refine AW.seq ?_
  refine AW.rs ?_
  refine AL.val rfl (.inl rfl) (HV.mv rfl) ?_
  refine AL.val rfl (.inl rfl) (HV.mv rfl) ?_
  refine AL.val rfl (.inl rfl) (HV.len Try.underlying24 rfl hr.isSl) ?_
  refine AL.val rfl (.inl rfl) (HV.lti rfl rfl) ?_
  refine AL.nx ?_
  refine AW.ifd rfl (fun c11 => ?_) (fun c11 => ?_)
  · -- then
    refine AW.skip ?_
    refine nrm_and ?_
    refine AW.seq ?_
    refine AW.block ?_
    refine AW.reg ?_
    refine AL.val rfl (.inl rfl) (HV.mv rfl) ?_
    refine AL.val rfl (.inl rfl) (HV.mv rfl) ?_
    refine AL.val rfl (.inl rfl) (HV.mv rfl) ?_
    refine AL.val rfl (.inl rfl) (HV.mv rfl) ?_
    obtain ⟨p12, z13, cs14, hz15, hK16, hC17, hP18⟩ := RdK.ix (q := (i : Int)) hr sl24 (by omega) (by omega)
    obtain rfl : cs14 = [.int .i64 z13] := hK16
    refine AL.val rfl (.inl rfl) (hP18 rfl rfl) ?_
    refine AL.val rfl (.inl rfl) (HV.ld rfl va2 (cells_first (hC17.ext X10) rfl)) ?_
    obtain ⟨g19, z20, cs21, hz22, hK23, hC24, hg25, hP26⟩ := OwnK.ix (q := (i : Int)) hoL sl24 (by omega) (by omega)
    have X27 := Ext.refl H9
    obtain rfl : cs21 = [.int .i64 z20] := hK23
    refine AL.val rfl (.inl rfl) (hP26 rfl rfl) ?_
    refine AL.w0 (.inl rfl) (WV.stK (okx := fun _ => False) (x' := z13) hoL hg25 rfl rfl va2 (by omega) rfl (fun _ h => h.elim)) ?_
    rintro _ H28 ⟨hx29, ho30⟩
    have X31 := Ext.thru X10 hx29 (fun b hb => Nat.le_trans o2 (hoL.blk b hb).1)
    have ho33 := ho30.okk (ok' := fun b => H.bd ≤ b) (fun b hb _ => hb.elim id False.elim)
    refine AL.nil ?_
    refine nrm_blk (nrm_and ?_)
    refine AW.reg ?_
    refine AL.val rfl (.inl rfl) (HV.mv rfl) ?_
    refine AL.val rfl (.inl rfl) (HV.add rfl rfl (by omega)) ?_
    refine AL.val rfl (.inl rfl) (HV.as rfl) ?_
    refine AL.nil ?_
    refine nrm_and ?_
    exact ⟨(i + 1, (k.set ((i : Int) : Int).toNat z13)), ⟨X31, by omega, by simp [hk], set_step he hk (getq hz15 rfl), ho33, trivial⟩, by first | omega | (dsimp only; omega), ⟨rfl, rfl, rfl, rfl, rfl, trivial⟩⟩
  · -- else
    refine AW.exit ?_
    refine ex_and (ex_and (ex_blk ?_))
    refine nrm_and ?_
    refine AW.rs ?_
    refine AL.val rfl (.inl rfl) (HV.mv rfl) ?_
    refine AL.val rfl (.inl rfl) (HV.as rfl) ?_
    refine AL.nx ?_
    refine AW.ret ?_
    refine post_one rfl rfl ?_ (.inr rfl)
    exact ⟨X10, by obtain rfl : k = l := list_eq (d := 0) hk (fun j hj => he j (by omega)); exact hoL⟩

set_option maxRecDepth 100000 in
theorem toSS_ok {v : Value} {l : List (List Int)} {ok : Nat → Prop} (hr : RdK (kR kI) W H ok v l) (hl : l.length ≤ 1048576) (hm : ∀ x ∈ l, x.length ≤ 1048576) : ACalls Try.prog W 28 #[v] H (fun r H' => Ext H H' ∧ OwnD (kO 2 kI) 24 W H' (fun b => H.bd ≤ b) r l) := by
  refine ACalls.of (args := [v]) Try.func28 rfl rfl ?_
  have X0 := Ext.refl H
  have hm1 := hr.max
  refine AW.rs ?_
  refine AL.val rfl (.inl rfl) (HV.as rfl) ?_
  refine AL.nx ?_
  refine AW.rs ?_
  refine AL.val rfl (.inl rfl) (HV.mv rfl) ?_
  refine AL.val rfl (.inl rfl) (HV.len Try.underlying36 rfl hr.isSl) ?_
  have o2 := X0.bd
  refine AL.w rfl (.inl rfl) (WV.mkD (K := (kO 2 kI)) [] (fun _ _ _ => ⟨_, rfl, OwnK.nil _⟩) sl36 rfl rfl rfl (by omega) (by omega) (by omega)) ?_
  rintro v3 H4 ⟨hx5, ho6⟩
  have X7 := Ext.trans X0 hx5
  refine AL.val rfl (.inl rfl) (HV.as rfl) ?_
  refine AL.nx ?_
  refine AW.seq ?_
  refine AW.rs ?_
  refine AL.val rfl (.inl rfl) (HV.as rfl) ?_
  refine AL.nx ?_
  refine AW.block ?_
  refine AW.loop (σ := Nat × List (List Int)) (fun ⟨i, k⟩ => [(0, v), (2, (.slice none 0 0)), (3, v3), (3, v3), (4, .int .i64 (i : Int))]) (fun ⟨i, k⟩ H' => Ext H H' ∧ i ≤ l.length ∧ k.length = l.length ∧ (∀ j, j < i → k.getD j [] = l.getD j []) ∧ OwnD (kO 2 kI) 24 W H' (fun b => H.bd ≤ b) v3 k ∧ True) (fun ⟨i, k⟩ => l.length - i) (0, (List.replicate ((l.length : Int) : Int).toNat [])) ⟨X7, Nat.zero_le _, by simp, fun j hj => absurd hj (Nat.not_lt_zero _), ho6, trivial⟩ ⟨rfl, rfl, rfl, rfl, rfl, trivial⟩ ?_
  rintro ⟨i, k⟩ H9 ⟨X10, hi, hk, he, hoL, _⟩
  refine AW.seq ?_
  refine AW.rs ?_
  refine AL.val rfl (.inl rfl) (HV.mv rfl) ?_
  refine AL.val rfl (.inl rfl) (HV.mv rfl) ?_
  refine AL.val rfl (.inl rfl) (HV.len Try.underlying36 rfl hr.isSl) ?_
  refine AL.val rfl (.inl rfl) (HV.lti rfl rfl) ?_
  refine AL.nx ?_
  refine AW.ifd rfl (fun c11 => ?_) (fun c11 => ?_)
  · -- then
    refine AW.skip ?_
    refine nrm_and ?_
    refine AW.seq ?_
    refine AW.block ?_
    refine AW.reg ?_
    refine AL.val rfl (.inl rfl) (HV.mv rfl) ?_
    refine AL.val rfl (.inl rfl) (HV.mv rfl) ?_
    refine AL.val rfl (.inl rfl) (HV.mv rfl) ?_
    refine AL.val rfl (.inl rfl) (HV.mv rfl) ?_
    obtain ⟨p12, z13, cs14, hz15, hK16, hC17, hP18⟩ := RdK.ix (q := (i : Int)) hr sl36 (by omega) (by omega)
    obtain ⟨v19, rfl, hr20⟩ := hK16
    have hm21 := hr20.max
    refine AL.val rfl (.inl rfl) (hP18 rfl rfl) ?_
    refine AL.val rfl (.inl rfl) (HV.ld rfl va24 (cells_first (hC17.ext X10) rfl)) ?_
    have X22 := Ext.refl H9
    have o23 := X10.bd
    have o24 := X22.bd
    have a25 := hoL.ltb
    have s26 := hoL.lo
    refine AL.w rfl (.inl rfl) (WV.call fn39 rfl (toS_ok (hr20.ext X10) (hm _ (List.mem_of_getElem? hz15)))) ?_
    rintro v27 H28 ⟨hx29, ho30⟩
    have X31 := Ext.trans X10 hx29
    have X32 := Ext.trans X22 hx29
    have s34 := s26.ext hx29
    have ho33 := hoL.ext hx29
    obtain ⟨g36, z37, cs38, hz39, hK40, hC41, hg42, hP43⟩ := OwnK.ix (q := (i : Int)) ho33.own sl36 (by omega) (by omega)
    have X44 := Ext.refl H28
    obtain ⟨v45, rfl, hr46⟩ := hK40
    have hO47 := hr46
    replace hr46 := hr46.rd
    have hm48 := hr46.max
    refine AL.val rfl (.inl rfl) (hP43 rfl rfl) ?_
    refine AL.w0 (.inl rfl) (WV.stD (B := H9.bd) (x' := z13) s34 hg42 rfl rfl va24 (by omega) ⟨_, sl_cells ho30.isSl, ho30⟩) ?_
    rintro _ H49 ⟨hx50, ho51⟩
    have X52 := Ext.thru X31 hx50 (fun b hb => Nat.le_trans o2 (ho33.blk b hb).1)
    have ho55 := ho51.okk (ok' := fun b => H.bd ≤ b) (fun b hb _ => hb.elim id (fun h => Nat.le_trans o23 h))
    refine AL.nil ?_
    refine nrm_blk (nrm_and ?_)
    refine AW.reg ?_
    refine AL.val rfl (.inl rfl) (HV.mv rfl) ?_
    refine AL.val rfl (.inl rfl) (HV.add rfl rfl (by omega)) ?_
    refine AL.val rfl (.inl rfl) (HV.as rfl) ?_
    refine AL.nil ?_
    refine nrm_and ?_
    exact ⟨(i + 1, (k.set ((i : Int) : Int).toNat z13)), ⟨X52, by omega, by simp [hk], set_step he hk (getq hz15 rfl), ho55, trivial⟩, by first | omega | (dsimp only; omega), ⟨rfl, rfl, rfl, rfl, rfl, trivial⟩⟩
  · -- else
    refine AW.exit ?_
    refine ex_and (ex_and (ex_blk ?_))
    refine nrm_and ?_
    refine AW.rs ?_
    refine AL.val rfl (.inl rfl) (HV.mv rfl) ?_
    refine AL.val rfl (.inl rfl) (HV.as rfl) ?_
    refine AL.nx ?_
    refine AW.ret ?_
    refine post_one rfl rfl ?_ (.inr rfl)
    exact ⟨X10, by obtain rfl : k = l := list_eq (d := []) hk (fun j hj => he j (by omega)); exact hoL⟩

set_option maxRecDepth 100000 in
theorem szInt64SS_ok {v : Value} {l : List (List Int)} {ok : Nat → Prop} (hr : RdK (kR kI) W H ok v l) (q : Int) (hq : -1 ≤ q ∧ q ≤ 1048576) : ACalls Try.prog W 26 #[v, .int .i64 q] H (fun r H' => (∃ q' : Int, r = .int .i64 q' ∧ -1 ≤ q' ∧ q' ≤ 1048576 ∧ (0 ≤ q' → (l.length ≤ 1048576 ∧ ∀ x ∈ l, x.length ≤ 1048576))) ∧ Ext H H') := by
  refine ACalls.of (args := [v, .int .i64 q]) Try.func26 rfl rfl ?_
  have X0 := Ext.refl H
  have hm1 := hr.max
  refine AW.rs ?_
  refine AL.val rfl (.inl rfl) (HV.as rfl) ?_
  refine AL.nx ?_
  refine AW.rs ?_
  refine AL.val rfl (.inl rfl) (HV.mv rfl) ?_
  refine AL.val rfl (.inl rfl) (HV.mv rfl) ?_
  refine AL.val rfl (.inl rfl) (HV.len Try.underlying36 rfl hr.isSl) ?_
  refine AL.val rfl (.inl rfl) (HV.sub rfl rfl (by omega)) ?_
  refine AL.val rfl (.inl rfl) (HV.as rfl) ?_
  refine AL.nx ?_
  refine AW.seq ?_
  refine AW.rs ?_
  refine AL.val rfl (.inl rfl) (HV.mv rfl) ?_
  refine AL.val rfl (.inl rfl) (HV.lti rfl rfl) ?_
  refine AL.nx ?_
  refine AW.ifd rfl (fun c2 => ?_) (fun c2 => ?_)
  · -- then
    refine AW.rs ?_
    refine AL.val rfl (.inl rfl) (HV.as rfl) ?_
    refine AL.nx ?_
    refine AW.ret ?_
    refine ret_and ?_
    refine post_one rfl rfl ?_ (.inr rfl)
    exact ⟨⟨_, rfl, by omega, by omega, fun h => absurd h (by decide)⟩, X0⟩
  · -- else
    refine AW.skip ?_
    refine nrm_and ?_
    refine AW.seq ?_
    refine AW.rs ?_
    refine AL.val rfl (.inl rfl) (HV.as rfl) ?_
    refine AL.nx ?_
    refine AW.block ?_
    refine AW.loop (σ := Nat × Int) (fun ⟨i, p⟩ => [(0, v), (1, .int .i64 p), (5, .int .i64 (i : Int))]) (fun ⟨i, p⟩ H' => Ext H H' ∧ i ≤ l.length ∧ 0 ≤ p ∧ p ≤ 1048576 ∧ l.length ≤ 1048576 ∧ (∀ j, j < i → (l.getD j []).length ≤ 1048576) ∧ True) (fun ⟨i, p⟩ => l.length - i) (0, q - (l.length : Int)) ⟨X0, Nat.zero_le _, by omega, by omega, by omega, fun j hj => absurd hj (Nat.not_lt_zero _), trivial⟩ ⟨rfl, rfl, rfl, trivial⟩ ?_
    rintro ⟨i, p⟩ H3 ⟨X4, hi, hp, hp2, hl, he, _⟩
    refine AW.seq ?_
    refine AW.rs ?_
    refine AL.val rfl (.inl rfl) (HV.mv rfl) ?_
    refine AL.val rfl (.inl rfl) (HV.mv rfl) ?_
    refine AL.val rfl (.inl rfl) (HV.len Try.underlying36 rfl hr.isSl) ?_
    refine AL.val rfl (.inl rfl) (HV.lti rfl rfl) ?_
    refine AL.nx ?_
    refine AW.ifd rfl (fun c5 => ?_) (fun c5 => ?_)
    · -- then
      refine AW.skip ?_
      refine nrm_and ?_
      refine AW.seq ?_
      refine AW.block ?_
      refine AW.rs ?_
      refine AL.val rfl (.inl rfl) (HV.mv rfl) ?_
      refine AL.val rfl (.inl rfl) (HV.mv rfl) ?_
      obtain ⟨p6, z7, cs8, hz9, hK10, hC11, hP12⟩ := RdK.ix (q := (i : Int)) hr sl36 (by omega) (by omega)
      obtain ⟨v13, rfl, hr14⟩ := hK10
      have hm15 := hr14.max
      refine AL.val rfl (.inl rfl) (hP12 rfl rfl) ?_
      refine AL.val rfl (.inl rfl) (HV.ld rfl va24 (cells_first (hC11.ext X4) rfl)) ?_
      refine AL.val rfl (.inl rfl) (HV.mv rfl) ?_
      refine AL.w rfl (.inl rfl) (WV.call fn78 rfl (szInt64S_ok p (hr14.ext X4) (by omega) (by omega))) ?_
      rintro _ H16 ⟨⟨q18, rfl, ha19, hb20, he21⟩, hx17⟩
      have X22 := Ext.trans X4 hx17
      refine AL.val rfl (.inl rfl) (HV.as rfl) ?_
      refine AL.nx ?_
      refine AW.rs ?_
      refine AL.val rfl (.inl rfl) (HV.mv rfl) ?_
      refine AL.val rfl (.inl rfl) (HV.lti rfl rfl) ?_
      refine AL.nx ?_
      refine AW.ifd rfl (fun c23 => ?_) (fun c23 => ?_)
      · -- then
        refine AW.rs ?_
        refine AL.val rfl (.inl rfl) (HV.as rfl) ?_
        refine AL.nx ?_
        refine AW.ret ?_
        refine ret_blk (ret_and (ret_and (ret_blk (ret_and ?_))))
        refine post_one rfl rfl ?_ (.inr rfl)
        exact ⟨⟨_, rfl, by omega, by omega, fun h => absurd h (by decide)⟩, X22⟩
      · -- else
        refine AW.skip ?_
        refine nrm_blk (nrm_and ?_)
        refine AW.reg ?_
        refine AL.val rfl (.inl rfl) (HV.mv rfl) ?_
        refine AL.val rfl (.inl rfl) (HV.add rfl rfl (by omega)) ?_
        refine AL.val rfl (.inl rfl) (HV.as rfl) ?_
        refine AL.nil ?_
        refine nrm_and ?_
        exact ⟨(i + 1, q18), ⟨X22, by omega, by omega, by omega, hl, fun j hj => by
      rcases Nat.lt_or_ge j i with h1 | h1
      · exact he j h1
      · obtain rfl : j = i := by omega
        have g21 : l.getD j [] = z7 := gd hz9 (by omega); rw [g21]; exact he21 (by omega), trivial⟩, by first | omega | (dsimp only; omega), ⟨rfl, rfl, rfl, trivial⟩⟩
    · -- else
      refine AW.exit ?_
      refine ex_and (ex_and (ex_blk ?_))
      refine nrm_and ?_
      refine AW.rs ?_
      refine AL.val rfl (.inl rfl) (HV.mv rfl) ?_
      refine AL.val rfl (.inl rfl) (HV.as rfl) ?_
      refine AL.nx ?_
      refine AW.ret ?_
      refine post_one rfl rfl ?_ (.inr rfl)
      exact ⟨⟨_, rfl, by omega, by omega, fun h => ⟨hl, fun x hx => by
    obtain ⟨j, hj, rfl⟩ := List.getElem_of_mem hx
    have := he j (by omega)
    simpa [hj] using this⟩⟩, X4⟩

set_option maxRecDepth 100000 in
theorem eqSS_ok {v v2 : Value} {l m : List (List Int)} {ok ok2 : Nat → Prop} (hr : RdK (kR kI) W H ok v l) (hr2 : RdK (kR kI) W H ok2 v2 m) : ACalls Try.prog W 30 #[v, v2] H (fun r H' => r = .bool (decide (l = m)) ∧ Ext H H') := by
  refine ACalls.of (args := [v, v2]) Try.func30 rfl rfl ?_
  have X0 := Ext.refl H
  have hm1 := hr.max
  have hm2 := hr2.max
  refine AW.rs ?_
  refine AL.val rfl (.inl rfl) (HV.as rfl) ?_
  refine AL.nx ?_
  refine AW.seq ?_
  refine AW.rs ?_
  refine AL.val rfl (.inl rfl) (HV.mv rfl) ?_
  refine AL.val rfl (.inl rfl) (HV.len Try.underlying36 rfl hr.isSl) ?_
  refine AL.val rfl (.inl rfl) (HV.mv rfl) ?_
  refine AL.val rfl (.inl rfl) (HV.len Try.underlying36 rfl hr2.isSl) ?_
  refine AL.val rfl (.inl rfl) (HV.nei rfl rfl) ?_
  refine AL.nx ?_
  refine AW.ifd rfl (fun c3 => ?_) (fun c3 => ?_)
  · -- then
    refine AW.rs ?_
    refine AL.val rfl (.inl rfl) (HV.as rfl) ?_
    refine AL.nx ?_
    refine AW.ret ?_
    refine ret_and ?_
    refine post_one rfl rfl ?_ (.inr rfl)
    exact ⟨dec_f (fun e => by subst e; omega), X0⟩
  · -- else
    refine AW.skip ?_
    refine nrm_and ?_
    refine AW.seq ?_
    refine AW.rs ?_
    refine AL.val rfl (.inl rfl) (HV.as rfl) ?_
    refine AL.nx ?_
    refine AW.block ?_
    refine AW.loop (σ := Nat) (fun i => [(0, v), (1, v2), (5, .int .i64 (i : Int))]) (fun i H' => Ext H H' ∧ i ≤ l.length ∧ (∀ j, j < i → l.getD j [] = m.getD j []) ∧ True) (fun i => l.length - i) 0 ⟨X0, Nat.zero_le _, fun j hj => absurd hj (Nat.not_lt_zero _), trivial⟩ ⟨rfl, rfl, rfl, trivial⟩ ?_
    rintro i H4 ⟨X5, hi, he, _⟩
    refine AW.seq ?_
    refine AW.rs ?_
    refine AL.val rfl (.inl rfl) (HV.mv rfl) ?_
    refine AL.val rfl (.inl rfl) (HV.mv rfl) ?_
    refine AL.val rfl (.inl rfl) (HV.len Try.underlying36 rfl hr.isSl) ?_
    refine AL.val rfl (.inl rfl) (HV.lti rfl rfl) ?_
    refine AL.nx ?_
    refine AW.ifd rfl (fun c6 => ?_) (fun c6 => ?_)
    · -- then
      refine AW.skip ?_
      refine nrm_and ?_
      refine AW.seq ?_
      refine AW.block ?_
      refine AW.seq ?_
      refine AW.draw' [0, 0, 3, 7, 0, 0, 48, 112, 255, 511] mixed (by rfl) ?_
      refine Dr.read 0 _ 17 _ rfl rfl rfl rfl rfl (RV.of (by intro _ _ h; cases h) (.inl rfl) (fun _ xd => HV.mv rfl)) ?_
      refine Dr.read 1 _ 18 _ rfl rfl rfl rfl rfl (RV.of (by intro _ _ h; cases h) (.inl rfl) (fun _ xd => HV.mv rfl)) ?_
      obtain ⟨p7, z8, cs9, hz10, hK11, hC12, hP13⟩ := RdK.ix (q := (i : Int)) hr sl36 (by omega) (by omega)
      obtain ⟨v14, rfl, hr15⟩ := hK11
      have hm16 := hr15.max
      refine Dr.read 2 _ 19 _ rfl rfl rfl rfl rfl (RV.of (by intro _ _ h; cases h) (.inl rfl) (fun _ xd => hP13 rfl rfl)) ?_
      refine Dr.read 3 _ 20 _ rfl rfl rfl rfl rfl (RV.of (by intro _ _ h; cases h) (.inl rfl) (fun _ xd => HV.ld rfl va24 (rdc_ext xd (cells_first (hC12.ext X5) rfl)))) ?_
      refine Dr.read 4 _ 21 _ rfl rfl rfl rfl rfl (RV.of (by intro _ _ h; cases h) (.inl rfl) (fun _ xd => HV.mv rfl)) ?_
      refine Dr.read 5 _ 22 _ rfl rfl rfl rfl rfl (RV.of (by intro _ _ h; cases h) (.inl rfl) (fun _ xd => HV.mv rfl)) ?_
      obtain ⟨p17, z18, cs19, hz20, hK21, hC22, hP23⟩ := RdK.ix (q := (i : Int)) hr2 sl36 (by omega) (by omega)
      obtain ⟨v24, rfl, hr25⟩ := hK21
      have hm26 := hr25.max
      refine Dr.read 6 _ 23 _ rfl rfl rfl rfl rfl (RV.of (by intro _ _ h; cases h) (.inl rfl) (fun _ xd => hP23 rfl rfl)) ?_
      refine Dr.read 7 _ 24 _ rfl rfl rfl rfl rfl (RV.of (by intro _ _ h; cases h) (.inl rfl) (fun _ xd => HV.ld rfl va24 (rdc_ext xd (cells_first (hC22.ext X5) rfl)))) ?_
      refine Dr.eff 8 _ _ rfl (by intro d h; cases h; exact ⟨rfl, rfl⟩) rfl rfl rfl (EC.of (by intro _ _ h; cases h) (.inl rfl) (WV.call fn19 rfl (eqS_ok (hr15.ext X5) (hr25.ext X5)))) (fun v H' h => .inl (h.2)) ?_
      rintro _ H27 ⟨rfl, hx28⟩
      have X29 := Ext.trans X5 hx28
      refine Dr.read 9 _ 26 _ rfl rfl rfl rfl rfl (RV.of (by intro _ _ h; cases h) (.inl rfl) (fun _ xd => HV.not rfl)) ?_
      refine Dr.fin rfl ?_
      refine nrm_and ?_
      refine AW.ifn rfl (fun c30 => ?_) (fun c30 => ?_)
      · -- then
        refine AW.rs ?_
        refine AL.val rfl (.inl rfl) (HV.as rfl) ?_
        refine AL.nx ?_
        refine AW.ret ?_
        refine ret_blk (ret_and (ret_and (ret_blk (ret_and ?_))))
        refine post_one rfl rfl ?_ (.inr rfl)
        exact ⟨dec_f (fun e => by subst e; have g20 : l.getD i [] = z8 := gd hz10 (by omega); have g24 : l.getD i [] = z18 := gd hz20 (by omega); exact c30 (g20.symm.trans g24)), X29⟩
      · -- else
        refine AW.skip ?_
        refine nrm_blk (nrm_and ?_)
        refine AW.reg ?_
        refine AL.val rfl (.inl rfl) (HV.mv rfl) ?_
        refine AL.val rfl (.inl rfl) (HV.add rfl rfl (by omega)) ?_
        refine AL.val rfl (.inl rfl) (HV.as rfl) ?_
        refine AL.nil ?_
        refine nrm_and ?_
        exact ⟨i + 1, ⟨X29, by omega, fun j hj => by
      rcases Nat.lt_or_ge j i with h1 | h1
      · exact he j h1
      · obtain rfl : j = i := by omega
        have g20 : l.getD j [] = z8 := gd hz10 (by omega); have g24 : m.getD j [] = z18 := gd hz20 (by omega); rw [g20, g24]; exact c30, trivial⟩, by first | omega | (dsimp only; omega), ⟨rfl, rfl, rfl, trivial⟩⟩
    · -- else
      refine AW.exit ?_
      refine ex_and (ex_and (ex_blk ?_))
      refine nrm_and ?_
      refine AW.rs ?_
      refine AL.val rfl (.inl rfl) (HV.as rfl) ?_
      refine AL.nx ?_
      refine AW.ret ?_
      refine post_one rfl rfl ?_ (.inr rfl)
      exact ⟨dec_t (list_eq (by omega) (fun j hj => he j (by omega))), X5⟩

set_option maxRecDepth 100000 in
theorem szSh_ok {v : Value} {l : List (Int × Int)} {ok : Nat → Prop} (hr : RdK (kP kI kI) W H ok v l) (q : Int) (hq : -1 ≤ q ∧ q ≤ 1048576) : ACalls Try.prog W 15 #[v, .int .i64 q] H (fun r H' => (∃ q' : Int, r = .int .i64 q' ∧ -1 ≤ q' ∧ q' ≤ 1048576 ∧ (0 ≤ q' → l.length ≤ 1048576)) ∧ Ext H H') := by
  refine ACalls.of (args := [v, .int .i64 q]) Try.func15 rfl rfl ?_
  have X0 := Ext.refl H
  have hm1 := hr.max
  refine AW.rs ?_
  refine AL.val rfl (.inl rfl) (HV.as rfl) ?_
  refine AL.nx ?_
  refine AW.rs ?_
  refine AL.val rfl (.inl rfl) (HV.mv rfl) ?_
  refine AL.val rfl (.inl rfl) (HV.mv rfl) ?_
  refine AL.val rfl (.inl rfl) (HV.len Try.underlying22 rfl hr.isSl) ?_
  refine AL.val rfl (.inl rfl) (HV.sub rfl rfl (by omega)) ?_
  refine AL.val rfl (.inl rfl) (HV.as rfl) ?_
  refine AL.nx ?_
  refine AW.seq ?_
  refine AW.rs ?_
  refine AL.val rfl (.inl rfl) (HV.mv rfl) ?_
  refine AL.val rfl (.inl rfl) (HV.lti rfl rfl) ?_
  refine AL.nx ?_
  refine AW.ifd rfl (fun c2 => ?_) (fun c2 => ?_)
  · -- then
    refine AW.rs ?_
    refine AL.val rfl (.inl rfl) (HV.as rfl) ?_
    refine AL.nx ?_
    refine AW.ret ?_
    refine ret_and ?_
    refine post_one rfl rfl ?_ (.inr rfl)
    exact ⟨⟨_, rfl, by omega, by omega, fun h => by omega⟩, X0⟩
  · -- else
    refine AW.skip ?_
    refine nrm_and ?_
    refine AW.rs ?_
    refine AL.val rfl (.inl rfl) (HV.mv rfl) ?_
    refine AL.val rfl (.inl rfl) (HV.as rfl) ?_
    refine AL.nx ?_
    refine AW.ret ?_
    refine post_one rfl rfl ?_ (.inr rfl)
    exact ⟨⟨_, rfl, by omega, by omega, fun h => by omega⟩, X0⟩

set_option maxRecDepth 100000 in
theorem toSh_ok (a b : Int) : ACalls Try.prog W 72 #[.agg #[.int .i64 a, .int .i64 b]] H (fun r H' => r = .agg #[.int .i64 a, .int .i64 b] ∧ Ext H H') := by
  refine ACalls.of (args := [.agg #[.int .i64 a, .int .i64 b]]) Try.func72 rfl rfl ?_
  have X0 := Ext.refl H
  refine AW.rs ?_
  refine AL.w rfl (.inl rfl) (WV.bx rfl rfl) ?_
  rintro _ H2 ⟨b1, rfl, hx3, hn4, hb5⟩
  have o6 := Nat.le_trans X0.bd hn4
  have X7 := Ext.trans X0 hx3
  have X8 := Ext.refl H2
  refine AL.w rfl (.inl rfl) (WV.al ze68 rfl) ?_
  rintro _ H10 ⟨b9, rfl, hx11, hn12, hb13⟩
  have o14 := Nat.le_trans X7.bd hn12
  have o15 := Nat.le_trans X8.bd hn12
  have ne16 : b1 ≠ b9 := by have := hb5.lt; omega
  have X17 := Ext.trans X7 hx11
  have X18 := Ext.trans X8 hx11
  have hb19 := hb5.ext hx11
  have X20 := Ext.refl H10
  refine AL.nx ?_
  refine AW.rs ?_
  refine AL.w rfl (.inl rfl) (WV.al ze68 rfl) ?_
  rintro _ H22 ⟨b21, rfl, hx23, hn24, hb25⟩
  have o26 := Nat.le_trans X17.bd hn24
  have o27 := Nat.le_trans X18.bd hn24
  have o28 := Nat.le_trans X20.bd hn24
  have ne29 : b1 ≠ b21 := by have := hb19.lt; omega
  have ne30 : b9 ≠ b21 := by have := hb13.lt; omega
  have X31 := Ext.trans X17 hx23
  have X32 := Ext.trans X18 hx23
  have X33 := Ext.trans X20 hx23
  have hb34 := hb19.ext hx23
  have hb35 := hb13.ext hx23
  have X36 := Ext.refl H22
  refine AL.nx ?_
  refine AW.rs ?_
  refine AL.val rfl (.inl rfl) (HV.fa fl73_0 rfl) ?_
  refine AL.val rfl (.inl rfl) (HV.ld rfl va2 (at_cell hb34 rfl)) ?_
  refine AL.val rfl (.inl rfl) (HV.fa fl68_0 rfl) ?_
  refine AL.w0 (.inl rfl) (WV.st rfl rfl va2 rfl hb25 (Nat.le_of_ble_eq_true rfl) (one_cons rfl one_nil)) ?_
  rintro _ H37 ⟨hx38, hb39⟩
  have X40 := Ext.thru X31 hx38 (fun z_ hz_ => by rw [hz_]; exact o26)
  have X41 := Ext.thru X32 hx38 (fun z_ hz_ => by rw [hz_]; exact o27)
  have X42 := Ext.thru X33 hx38 (fun z_ hz_ => by rw [hz_]; exact o28)
  have hb44 := hb34.but hx38 ne29
  have hb45 := hb35.but hx38 ne30
  have hb46 : At W H37 b21 ⟨68, [.int .i64 a, .int .i64 0], 2⟩ := hb39
  refine AL.nx ?_
  refine AW.rs ?_
  refine AL.val rfl (.inl rfl) (HV.fa fl73_1 rfl) ?_
  refine AL.val rfl (.inl rfl) (HV.ld rfl va2 (at_cell_add hb44 rfl)) ?_
  refine AL.val rfl (.inl rfl) (HV.fa fl68_1 rfl) ?_
  refine AL.w0 (.inl rfl) (WV.st rfl rfl va2 rfl hb46 (Nat.le_of_ble_eq_true rfl) (one_cons rfl one_nil)) ?_
  rintro _ H47 ⟨hx48, hb49⟩
  have X50 := Ext.thru X40 hx48 (fun z_ hz_ => by rw [hz_]; exact o26)
  have X51 := Ext.thru X41 hx48 (fun z_ hz_ => by rw [hz_]; exact o27)
  have X52 := Ext.thru X42 hx48 (fun z_ hz_ => by rw [hz_]; exact o28)
  have hb53 := hb44.but hx48 ne29
  have hb54 := hb45.but hx48 ne30
  have hb55 : At W H47 b21 ⟨68, [.int .i64 a, .int .i64 b], 2⟩ := hb49
  refine AL.nx ?_
  refine AW.rs ?_
  refine AL.val rfl (.inl rfl) (HV.lda (cs := [.int .i64 a, .int .i64 b]) rfl va68 (at_cells hb55 rfl)) ?_
  refine AL.w0 (.inl rfl) (WV.st rfl rfl va68 rfl hb54 (Nat.le_of_ble_eq_true rfl) (one_cons rfl (one_cons rfl one_nil))) ?_
  rintro _ H56 ⟨hx57, hb58⟩
  have X59 := Ext.thru X50 hx57 (fun z_ hz_ => by rw [hz_]; exact o14)
  have X60 := Ext.thru X51 hx57 (fun z_ hz_ => by rw [hz_]; exact o15)
  have hb62 := hb53.but hx57 ne16
  have hb63 := hb55.but hx57 (fun e => ne30 e.symm)
  have hb64 : At W H56 b9 ⟨68, [.int .i64 a, .int .i64 b], 2⟩ := hb58
  refine AL.nx ?_
  refine AW.ret ?_
  refine post_cell rfl rfl va68 hb64 ?_ (.inr rfl)
  exact ⟨rfl, X59⟩

set_option maxRecDepth 100000 in
theorem toShS_ok {v : Value} {l : List (Int × Int)} {ok : Nat → Prop} (hr : RdK (kP kI kI) W H ok v l) (hl : l.length ≤ 1048576) : ACalls Try.prog W 17 #[v] H (fun r H' => Ext H H' ∧ OwnK (kP kI kI) 68 W H' (fun b => H.bd ≤ b) r l) := by
  refine ACalls.of (args := [v]) Try.func17 rfl rfl ?_
  have X0 := Ext.refl H
  have hm1 := hr.max
  refine AW.rs ?_
  refine AL.val rfl (.inl rfl) (HV.as rfl) ?_
  refine AL.nx ?_
  refine AW.rs ?_
  refine AL.val rfl (.inl rfl) (HV.mv rfl) ?_
  refine AL.val rfl (.inl rfl) (HV.len Try.underlying22 rfl hr.isSl) ?_
  have o2 := X0.bd
  refine AL.w rfl (.inl rfl) (WV.mkKn (K := (kP kI kI)) (((0 : Int), (0 : Int)) : (Int × Int)) (fun _ _ _ => ⟨[.int .i64 0], [.int .i64 0], rfl, rfl, rfl⟩) sl27 rfl rfl (by omega) (by omega) (by omega)) ?_
  rintro v3 H4 ⟨hx5, ho6⟩
  have X7 := Ext.trans X0 hx5
  refine AL.val rfl (.inl rfl) (HV.as rfl) ?_
  refine AL.nx ?_
  refine AW.seq ?_
  refine AW.rs ?_
  refine AL.val rfl (.inl rfl) (HV.as rfl) ?_
  refine AL.nx ?_
  refine AW.block ?_
  refine AW.loop (σ := Nat × List (Int × Int)) (fun ⟨i, k⟩ => [(0, v), (2, (.slice none 0 0)), (3, v3), (3, v3), (4, .int .i64 (i : Int))]) (fun ⟨i, k⟩ H' => Ext H H' ∧ i ≤ l.length ∧ k.length = l.length ∧ (∀ j, j < i → k.getD j (0, 0) = l.getD j (0, 0)) ∧ OwnK (kP kI kI) 68 W H' (fun b => H.bd ≤ b) v3 k ∧ True) (fun ⟨i, k⟩ => l.length - i) (0, (List.replicate ((l.length : Int) : Int).toNat (((0 : Int), (0 : Int)) : (Int × Int)))) ⟨X7, Nat.zero_le _, by simp, fun j hj => absurd hj (Nat.not_lt_zero _), ho6, trivial⟩ ⟨rfl, rfl, rfl, rfl, rfl, trivial⟩ ?_
  rintro ⟨i, k⟩ H9 ⟨X10, hi, hk, he, hoL, _⟩
  refine AW.seq ?_
  refine AW.rs ?_
  refine AL.val rfl (.inl rfl) (HV.mv rfl) ?_
  refine AL.val rfl (.inl rfl) (HV.mv rfl) ?_
  refine AL.val rfl (.inl rfl) (HV.len Try.underlying22 rfl hr.isSl) ?_
  refine AL.val rfl (.inl rfl) (HV.lti rfl rfl) ?_
  refine AL.nx ?_
  refine AW.ifd rfl (fun c11 => ?_) (fun c11 => ?_)
  · -- then
    refine AW.skip ?_
    refine nrm_and ?_
    refine AW.seq ?_
    refine AW.block ?_
    refine AW.reg ?_
    refine AL.val rfl (.inl rfl) (HV.mv rfl) ?_
    refine AL.val rfl (.inl rfl) (HV.mv rfl) ?_
    refine AL.val rfl (.inl rfl) (HV.mv rfl) ?_
    refine AL.val rfl (.inl rfl) (HV.mv rfl) ?_
    obtain ⟨p12, z13, cs14, hz15, hK16, hC17, hP18⟩ := RdK.ix (q := (i : Int)) hr sl22 (by omega) (by omega)
    obtain ⟨cs19, cs20, rfl, hK21, hK22⟩ := hK16
    obtain rfl : cs19 = [.int .i64 z13.1] := hK21
    obtain rfl : cs20 = [.int .i64 z13.2] := hK22
    refine AL.val rfl (.inl rfl) (hP18 rfl rfl) ?_
    refine AL.val rfl (.inl rfl) (HV.lda (cs := [.int .i64 z13.1, .int .i64 z13.2]) rfl va73 (hC17.ext X10)) ?_
    refine AL.w rfl (.inl rfl) (WV.call fn72 rfl (toSh_ok (W := W) z13.1 z13.2)) ?_
    rintro _ H23 ⟨rfl, hx24⟩
    have X25 := Ext.trans X10 hx24
    have ho26 := hoL.ext hx24
    obtain ⟨g27, z28, cs29, hz30, hK31, hC32, hg33, hP34⟩ := OwnK.ix (q := (i : Int)) ho26 sl27 (by omega) (by omega)
    have X35 := Ext.refl H23
    obtain ⟨cs36, cs37, rfl, hK38, hK39⟩ := hK31
    obtain rfl : cs36 = [.int .i64 z28.1] := hK38
    obtain rfl : cs37 = [.int .i64 z28.2] := hK39
    refine AL.val rfl (.inl rfl) (hP34 rfl rfl) ?_
    refine AL.w0 (.inl rfl) (WV.stK (okx := fun _ => False) (x' := ((z13.1, z13.2) : (Int × Int))) ho26 hg33 rfl rfl va68 (by omega) ⟨[.int .i64 z13.1], [.int .i64 z13.2], rfl, rfl, rfl⟩ (fun _ h => h.elim)) ?_
    rintro _ H40 ⟨hx41, ho42⟩
    have X43 := Ext.thru X25 hx41 (fun b hb => Nat.le_trans o2 (ho26.blk b hb).1)
    have ho45 := ho42.okk (ok' := fun b => H.bd ≤ b) (fun b hb _ => hb.elim id False.elim)
    refine AL.nil ?_
    refine nrm_blk (nrm_and ?_)
    refine AW.reg ?_
    refine AL.val rfl (.inl rfl) (HV.mv rfl) ?_
    refine AL.val rfl (.inl rfl) (HV.add rfl rfl (by omega)) ?_
    refine AL.val rfl (.inl rfl) (HV.as rfl) ?_
    refine AL.nil ?_
    refine nrm_and ?_
    exact ⟨(i + 1, (k.set ((i : Int) : Int).toNat ((z13.1, z13.2) : (Int × Int)))), ⟨X43, by omega, by simp [hk], set_step he hk (getq hz15 rfl), ho45, trivial⟩, by first | omega | (dsimp only; omega), ⟨rfl, rfl, rfl, rfl, rfl, trivial⟩⟩
  · -- else
    refine AW.exit ?_
    refine ex_and (ex_and (ex_blk ?_))
    refine nrm_and ?_
    refine AW.rs ?_
    refine AL.val rfl (.inl rfl) (HV.mv rfl) ?_
    refine AL.val rfl (.inl rfl) (HV.as rfl) ?_
    refine AL.nx ?_
    refine AW.ret ?_
    refine post_one rfl rfl ?_ (.inr rfl)
    exact ⟨X10, by obtain rfl : k = l := list_eq (d := (0, 0)) hk (fun j hj => he j (by omega)); exact hoL⟩

set_option maxRecDepth 100000 in
theorem eqSh_ok (a b a2 b2 : Int) : ACalls Try.prog W 75 #[.agg #[.int .i64 a, .int .i64 b], .agg #[.int .i64 a2, .int .i64 b2]] H (fun r H' => r = .bool (decide (a = a2 ∧ b = b2)) ∧ Ext H H') := by
  refine ACalls.of (args := [.agg #[.int .i64 a, .int .i64 b], .agg #[.int .i64 a2, .int .i64 b2]]) Try.func75 rfl rfl ?_
  have X0 := Ext.refl H
  refine AW.rs ?_
  refine AL.w rfl (.inl rfl) (WV.bx rfl rfl) ?_
  rintro _ H2 ⟨b1, rfl, hx3, hn4, hb5⟩
  have o6 := Nat.le_trans X0.bd hn4
  have X7 := Ext.trans X0 hx3
  have X8 := Ext.refl H2
  refine AL.w rfl (.inl rfl) (WV.bx rfl rfl) ?_
  rintro _ H10 ⟨b9, rfl, hx11, hn12, hb13⟩
  have o14 := Nat.le_trans X7.bd hn12
  have o15 := Nat.le_trans X8.bd hn12
  have ne16 : b1 ≠ b9 := by have := hb5.lt; omega
  have X17 := Ext.trans X7 hx11
  have X18 := Ext.trans X8 hx11
  have hb19 := hb5.ext hx11
  have X20 := Ext.refl H10
  refine AL.val rfl (.inl rfl) (HV.as rfl) ?_
  refine AL.nx ?_
  refine AW.seq ?_
  refine AW.rs ?_
  refine AL.val rfl (.inl rfl) (HV.fa fl68_0 rfl) ?_
  refine AL.val rfl (.inl rfl) (HV.ld rfl va2 (at_cell hb19 rfl)) ?_
  refine AL.val rfl (.inl rfl) (HV.fa fl68_0 rfl) ?_
  refine AL.val rfl (.inl rfl) (HV.ld rfl va2 (at_cell hb13 rfl)) ?_
  refine AL.val rfl (.inl rfl) (HV.nei rfl rfl) ?_
  refine AL.nx ?_
  refine AW.ifd rfl (fun c21 => ?_) (fun c21 => ?_)
  · -- then
    refine AW.rs ?_
    refine AL.val rfl (.inl rfl) (HV.as rfl) ?_
    refine AL.nx ?_
    refine AW.ret ?_
    refine ret_and ?_
    refine post_one rfl rfl ?_ (.inr rfl)
    exact ⟨dec_f (fun e => by omega), X17⟩
  · -- else
    refine AW.skip ?_
    refine nrm_and ?_
    refine AW.seq ?_
    refine AW.rs ?_
    refine AL.val rfl (.inl rfl) (HV.fa fl68_1 rfl) ?_
    refine AL.val rfl (.inl rfl) (HV.ld rfl va2 (at_cell_add hb19 rfl)) ?_
    refine AL.val rfl (.inl rfl) (HV.fa fl68_1 rfl) ?_
    refine AL.val rfl (.inl rfl) (HV.ld rfl va2 (at_cell_add hb13 rfl)) ?_
    refine AL.val rfl (.inl rfl) (HV.nei rfl rfl) ?_
    refine AL.nx ?_
    refine AW.ifd rfl (fun c22 => ?_) (fun c22 => ?_)
    · -- then
      refine AW.rs ?_
      refine AL.val rfl (.inl rfl) (HV.as rfl) ?_
      refine AL.nx ?_
      refine AW.ret ?_
      refine ret_and ?_
      refine post_one rfl rfl ?_ (.inr rfl)
      exact ⟨dec_f (fun e => by omega), X17⟩
    · -- else
      refine AW.skip ?_
      refine nrm_and ?_
      refine AW.rs ?_
      refine AL.val rfl (.inl rfl) (HV.as rfl) ?_
      refine AL.nx ?_
      refine AW.ret ?_
      refine post_one rfl rfl ?_ (.inr rfl)
      exact ⟨dec_t ⟨by omega, by omega⟩, X17⟩

set_option maxRecDepth 100000 in
theorem eqShS_ok {va vb : Value} {l m : List (Int × Int)} {ok ok2 : Nat → Prop} (hr : RdK (kP kI kI) W H ok va l) (hr2 : RdK (kP kI kI) W H ok2 vb m) : ACalls Try.prog W 20 #[va, vb] H (fun r H' => r = .bool (decide (l = m)) ∧ Ext H H') := by
  refine ACalls.of (args := [va, vb]) Try.func20 rfl rfl ?_
  have X0 := Ext.refl H
  have hm1 := hr.max
  have hm2 := hr2.max
  refine AW.rs ?_
  refine AL.val rfl (.inl rfl) (HV.as rfl) ?_
  refine AL.nx ?_
  refine AW.seq ?_
  refine AW.rs ?_
  refine AL.val rfl (.inl rfl) (HV.mv rfl) ?_
  refine AL.val rfl (.inl rfl) (HV.len Try.underlying27 rfl hr.isSl) ?_
  refine AL.val rfl (.inl rfl) (HV.mv rfl) ?_
  refine AL.val rfl (.inl rfl) (HV.len Try.underlying27 rfl hr2.isSl) ?_
  refine AL.val rfl (.inl rfl) (HV.nei rfl rfl) ?_
  refine AL.nx ?_
  refine AW.ifd rfl (fun c3 => ?_) (fun c3 => ?_)
  · -- then
    refine AW.rs ?_
    refine AL.val rfl (.inl rfl) (HV.as rfl) ?_
    refine AL.nx ?_
    refine AW.ret ?_
    refine ret_and ?_
    refine post_one rfl rfl ?_ (.inr rfl)
    exact ⟨dec_f (fun e => by subst e; omega), X0⟩
  · -- else
    refine AW.skip ?_
    refine nrm_and ?_
    refine AW.seq ?_
    refine AW.rs ?_
    refine AL.val rfl (.inl rfl) (HV.as rfl) ?_
    refine AL.nx ?_
    refine AW.block ?_
    refine AW.loop (σ := Nat) (fun i => [(0, va), (1, vb), (5, .int .i64 (i : Int))]) (fun i H' => Ext H H' ∧ i ≤ l.length ∧ (∀ j, j < i → l.getD j (0, 0) = m.getD j (0, 0)) ∧ True) (fun i => l.length - i) 0 ⟨X0, Nat.zero_le _, fun j hj => absurd hj (Nat.not_lt_zero _), trivial⟩ ⟨rfl, rfl, rfl, trivial⟩ ?_
    rintro i H4 ⟨X5, hi, he, _⟩
    refine AW.seq ?_
    refine AW.rs ?_
    refine AL.val rfl (.inl rfl) (HV.mv rfl) ?_
    refine AL.val rfl (.inl rfl) (HV.mv rfl) ?_
    refine AL.val rfl (.inl rfl) (HV.len Try.underlying27 rfl hr.isSl) ?_
    refine AL.val rfl (.inl rfl) (HV.lti rfl rfl) ?_
    refine AL.nx ?_
    refine AW.ifd rfl (fun c6 => ?_) (fun c6 => ?_)
    · -- then
      refine AW.skip ?_
      refine nrm_and ?_
      refine AW.seq ?_
      refine AW.block ?_
      refine AW.seq ?_
      refine AW.draw' [0, 0, 3, 7, 0, 0, 48, 112, 255, 511] mixed (by rfl) ?_
      refine Dr.read 0 _ 17 _ rfl rfl rfl rfl rfl (RV.of (by intro _ _ h; cases h) (.inl rfl) (fun _ xd => HV.mv rfl)) ?_
      refine Dr.read 1 _ 18 _ rfl rfl rfl rfl rfl (RV.of (by intro _ _ h; cases h) (.inl rfl) (fun _ xd => HV.mv rfl)) ?_
      obtain ⟨p7, z8, cs9, hz10, hK11, hC12, hP13⟩ := RdK.ix (q := (i : Int)) hr sl27 (by omega) (by omega)
      obtain ⟨cs14, cs15, rfl, hK16, hK17⟩ := hK11
      obtain rfl : cs14 = [.int .i64 z8.1] := hK16
      obtain rfl : cs15 = [.int .i64 z8.2] := hK17
      refine Dr.read 2 _ 19 _ rfl rfl rfl rfl rfl (RV.of (by intro _ _ h; cases h) (.inl rfl) (fun _ xd => hP13 rfl rfl)) ?_
      refine Dr.read 3 _ 20 _ rfl rfl rfl rfl rfl (RV.of (by intro _ _ h; cases h) (.inl rfl) (fun _ xd => HV.lda (cs := [.int .i64 z8.1, .int .i64 z8.2]) rfl va68 (fun j u hu => rdc_ext xd ((hC12.ext X5) j u hu)))) ?_
      refine Dr.read 4 _ 21 _ rfl rfl rfl rfl rfl (RV.of (by intro _ _ h; cases h) (.inl rfl) (fun _ xd => HV.mv rfl)) ?_
      refine Dr.read 5 _ 22 _ rfl rfl rfl rfl rfl (RV.of (by intro _ _ h; cases h) (.inl rfl) (fun _ xd => HV.mv rfl)) ?_
      obtain ⟨p18, z19, cs20, hz21, hK22, hC23, hP24⟩ := RdK.ix (q := (i : Int)) hr2 sl27 (by omega) (by omega)
      obtain ⟨cs25, cs26, rfl, hK27, hK28⟩ := hK22
      obtain rfl : cs25 = [.int .i64 z19.1] := hK27
      obtain rfl : cs26 = [.int .i64 z19.2] := hK28
      refine Dr.read 6 _ 23 _ rfl rfl rfl rfl rfl (RV.of (by intro _ _ h; cases h) (.inl rfl) (fun _ xd => hP24 rfl rfl)) ?_
      refine Dr.read 7 _ 24 _ rfl rfl rfl rfl rfl (RV.of (by intro _ _ h; cases h) (.inl rfl) (fun _ xd => HV.lda (cs := [.int .i64 z19.1, .int .i64 z19.2]) rfl va68 (fun j u hu => rdc_ext xd ((hC23.ext X5) j u hu)))) ?_
      refine Dr.eff 8 _ _ rfl (by intro d h; cases h; exact ⟨rfl, rfl⟩) rfl rfl rfl (EC.of (by intro _ _ h; cases h) (.inl rfl) (WV.call fn75 rfl (eqSh_ok (W := W) z8.1 z8.2 z19.1 z19.2))) (fun v H' h => .inl (h.2)) ?_
      rintro _ H29 ⟨rfl, hx30⟩
      have X31 := Ext.trans X5 hx30
      refine Dr.read 9 _ 26 _ rfl rfl rfl rfl rfl (RV.of (by intro _ _ h; cases h) (.inl rfl) (fun _ xd => HV.not rfl)) ?_
      refine Dr.fin rfl ?_
      refine nrm_and ?_
      refine AW.ifn rfl (fun c32 => ?_) (fun c32 => ?_)
      · -- then
        refine AW.rs ?_
        refine AL.val rfl (.inl rfl) (HV.as rfl) ?_
        refine AL.nx ?_
        refine AW.ret ?_
        refine ret_blk (ret_and (ret_and (ret_blk (ret_and ?_))))
        refine post_one rfl rfl ?_ (.inr rfl)
        exact ⟨dec_f (fun e => by subst e; have g19 : l.getD i (0, 0) = z8 := gd hz10 (by omega); have g23 : l.getD i (0, 0) = z19 := gd hz21 (by omega); exact c32 ⟨congrArg Prod.fst (g19.symm.trans g23), congrArg Prod.snd (g19.symm.trans g23)⟩), X31⟩
      · -- else
        refine AW.skip ?_
        refine nrm_blk (nrm_and ?_)
        refine AW.reg ?_
        refine AL.val rfl (.inl rfl) (HV.mv rfl) ?_
        refine AL.val rfl (.inl rfl) (HV.add rfl rfl (by omega)) ?_
        refine AL.val rfl (.inl rfl) (HV.as rfl) ?_
        refine AL.nil ?_
        refine nrm_and ?_
        exact ⟨i + 1, ⟨X31, by omega, fun j hj => by
      rcases Nat.lt_or_ge j i with h1 | h1
      · exact he j h1
      · obtain rfl : j = i := by omega
        have g19 : l.getD j (0, 0) = z8 := gd hz10 (by omega); have g23 : m.getD j (0, 0) = z19 := gd hz21 (by omega); rw [g19, g23]; exact Prod.ext c32.1 c32.2, trivial⟩, by first | omega | (dsimp only; omega), ⟨rfl, rfl, rfl, trivial⟩⟩
    · -- else
      refine AW.exit ?_
      refine ex_and (ex_and (ex_blk ?_))
      refine nrm_and ?_
      refine AW.rs ?_
      refine AL.val rfl (.inl rfl) (HV.as rfl) ?_
      refine AL.nx ?_
      refine AW.ret ?_
      refine post_one rfl rfl ?_ (.inr rfl)
      exact ⟨dec_t (list_eq (d := (0, 0)) (by omega) (fun j hj => he j (by omega))), X5⟩

set_option maxRecDepth 100000 in
theorem markS_ok {v : Value} {l : List Int} {ok : Nat → Prop} (q : Int) (ho : OwnK kI 2 W H ok v l) (hq : 0 ≤ q ∧ q + l.length ≤ 1000000000000000) : ACalls Try.prog W 22 #[v, .int .i64 q] H (fun r H' => ∃ k, r = .int .i64 (q + (l.length : Int)) ∧ k.length = l.length ∧ (∀ j : Nat, j < k.length → k.getD j 0 = q + (j : Int)) ∧ But (fun b => some b = v.ownBlock) H H' ∧ OwnK kI 2 W H' ok v k) := by
  refine ACalls.of (args := [v, .int .i64 q]) Try.func22 rfl rfl ?_
  have X0 := Ext.refl H
  have B0 := But.refl (fun b => some b = v.ownBlock) H
  have hmL := ho.rd.max
  refine AW.rs ?_
  refine AL.val rfl (.inl rfl) (HV.as rfl) ?_
  refine AL.nx ?_
  refine AW.seq ?_
  refine AW.rs ?_
  refine AL.val rfl (.inl rfl) (HV.as rfl) ?_
  refine AL.nx ?_
  refine AW.block ?_
  refine AW.loop (σ := Nat × Int × List Int) (fun ⟨i, p, k⟩ => [(0, v), (4, .int .i64 0), (0, v), (1, .int .i64 p), (5, .int .i64 (i : Int))]) (fun ⟨i, p, k⟩ H' => i ≤ l.length ∧ p = q + i ∧ k.length = l.length ∧ (∀ j : Nat, j < i → k.getD j 0 = q + (j : Int)) ∧ OwnK kI 2 W H' ok v k ∧ But (fun b => some b = v.ownBlock) H H' ∧ True) (fun ⟨i, p, k⟩ => l.length - i) (0, q, l) ⟨Nat.zero_le _, by omega, rfl, fun j hj => absurd hj (Nat.not_lt_zero _), ho, B0, trivial⟩ ⟨rfl, rfl, rfl, rfl, rfl, trivial⟩ ?_
  rintro ⟨i, p, k⟩ H1 ⟨hi, hp, hk, he, hoL, hB, _⟩
  refine AW.seq ?_
  refine AW.rs ?_
  refine AL.val rfl (.inl rfl) (HV.mv rfl) ?_
  refine AL.val rfl (.inl rfl) (HV.mv rfl) ?_
  refine AL.val rfl (.inl rfl) (HV.len Try.underlying24 rfl hoL.rd.isSl) ?_
  refine AL.val rfl (.inl rfl) (HV.lti rfl rfl) ?_
  refine AL.nx ?_
  refine AW.ifd rfl (fun c2 => ?_) (fun c2 => ?_)
  · -- then
    refine AW.skip ?_
    refine nrm_and ?_
    refine AW.seq ?_
    refine AW.block ?_
    refine AW.rs ?_
    refine AL.val rfl (.inl rfl) (HV.mv rfl) ?_
    refine AL.val rfl (.inl rfl) (HV.mv rfl) ?_
    refine AL.val rfl (.inl rfl) (HV.mv rfl) ?_
    obtain ⟨g3, z4, cs5, hz6, hK7, hC8, hg9, hP10⟩ := OwnK.ix (q := (i : Int)) hoL sl24 (by omega) (by omega)
    have X11 := Ext.refl H1
    obtain rfl : cs5 = [.int .i64 z4] := hK7
    refine AL.val rfl (.inl rfl) (hP10 rfl rfl) ?_
    refine AL.w0 (.inl rfl) (WV.stK (okx := fun _ => False) (x' := p) hoL hg9 rfl rfl va2 (by omega) rfl (fun _ h => h.elim)) ?_
    rintro _ H12 ⟨hx13, ho14⟩
    have B16 := But.trans hB hx13
    have ho17 := ho14.okk (ok' := ok) (fun b hb _ => hb.elim id False.elim)
    refine AL.nx ?_
    refine AW.reg ?_
    refine AL.val rfl (.inl rfl) (HV.mv rfl) ?_
    refine AL.val rfl (.inl rfl) (HV.add rfl rfl (by omega)) ?_
    refine AL.val rfl (.inl rfl) (HV.as rfl) ?_
    refine AL.nil ?_
    refine nrm_blk (nrm_and ?_)
    refine AW.reg ?_
    refine AL.val rfl (.inl rfl) (HV.mv rfl) ?_
    refine AL.val rfl (.inl rfl) (HV.add rfl rfl (by omega)) ?_
    refine AL.val rfl (.inl rfl) (HV.as rfl) ?_
    refine AL.nil ?_
    refine nrm_and ?_
    exact ⟨(i + 1, p + 1, (k.set ((i : Int) : Int).toNat p)), ⟨by omega, by omega, by simp [hk], mark_step he (by omega) hp, ho17, B16, trivial⟩, by first | omega | (dsimp only; omega), ⟨rfl, rfl, rfl, rfl, rfl, trivial⟩⟩
  · -- else
    refine AW.exit ?_
    refine ex_and (ex_and (ex_blk ?_))
    refine nrm_and ?_
    refine AW.rs ?_
    refine AL.val rfl (.inl rfl) (HV.mv rfl) ?_
    refine AL.val rfl (.inl rfl) (HV.as rfl) ?_
    refine AL.nx ?_
    refine AW.ret ?_
    refine post_one rfl rfl ?_ (.inr rfl)
    exact ⟨k, congrArg (Value.int .i64) (by omega), hk, fun j hj => he j (by omega), hB, hoL⟩

set_option maxRecDepth 100000 in
theorem heldS_ok {v : Value} {l : List Int} {ok : Nat → Prop} (q : Int) (hr : RdK kI W H ok v l) (hq : 0 ≤ q ∧ q + l.length ≤ 1000000000000000) (hl : (∀ j : Nat, j < l.length → l.getD j 0 = q + (j : Int))) : ACalls Try.prog W 23 #[v, .int .i64 q] H (fun r H' => r = .int .i64 (q + (l.length : Int)) ∧ Ext H H') := by
  refine ACalls.of (args := [v, .int .i64 q]) Try.func23 rfl rfl ?_
  have X0 := Ext.refl H
  have hm1 := hr.max
  refine AW.rs ?_
  refine AL.val rfl (.inl rfl) (HV.as rfl) ?_
  refine AL.nx ?_
  refine AW.seq ?_
  refine AW.rs ?_
  refine AL.val rfl (.inl rfl) (HV.as rfl) ?_
  refine AL.nx ?_
  refine AW.block ?_
  refine AW.loop (σ := Nat × Int) (fun ⟨i, p⟩ => [(0, v), (1, .int .i64 p), (5, .int .i64 (i : Int))]) (fun ⟨i, p⟩ H' => Ext H H' ∧ i ≤ l.length ∧ p = q + i ∧ True) (fun ⟨i, p⟩ => l.length - i) (0, q) ⟨X0, Nat.zero_le _, by omega, trivial⟩ ⟨rfl, rfl, rfl, trivial⟩ ?_
  rintro ⟨i, p⟩ H2 ⟨X3, hi, hp, _⟩
  refine AW.seq ?_
  refine AW.rs ?_
  refine AL.val rfl (.inl rfl) (HV.mv rfl) ?_
  refine AL.val rfl (.inl rfl) (HV.mv rfl) ?_
  refine AL.val rfl (.inl rfl) (HV.len Try.underlying24 rfl hr.isSl) ?_
  refine AL.val rfl (.inl rfl) (HV.lti rfl rfl) ?_
  refine AL.nx ?_
  refine AW.ifd rfl (fun c4 => ?_) (fun c4 => ?_)
  · -- then
    refine AW.skip ?_
    refine nrm_and ?_
    refine AW.seq ?_
    refine AW.block ?_
    refine AW.seq ?_
    refine AW.rs ?_
    refine AL.val rfl (.inl rfl) (HV.mv rfl) ?_
    refine AL.val rfl (.inl rfl) (HV.mv rfl) ?_
    obtain ⟨p5, z6, cs7, hz8, hK9, hC10, hP11⟩ := RdK.ix (q := (i : Int)) hr sl24 (by omega) (by omega)
    obtain rfl : cs7 = [.int .i64 z6] := hK9
    refine AL.val rfl (.inl rfl) (hP11 rfl rfl) ?_
    refine AL.val rfl (.inl rfl) (HV.ld rfl va2 (cells_first (hC10.ext X3) rfl)) ?_
    refine AL.val rfl (.inl rfl) (HV.mv rfl) ?_
    refine AL.val rfl (.inl rfl) (HV.nei rfl rfl) ?_
    refine AL.nx ?_
    refine AW.ifd rfl (fun c12 => ?_) (fun c12 => ?_)
    · -- then
      refine AW.rs ?_
      refine AL.val rfl (.inl rfl) (HV.as rfl) ?_
      refine AL.nx ?_
      refine AW.ret ?_
      refine ret_and (ret_blk (ret_and (ret_and (ret_blk (ret_and ?_)))))
      refine post_one rfl rfl ?_ (.inr rfl)
      exact absurd (by have := hl i (by omega); rw [gd hz8 rfl] at this; omega) c12
    · -- else
      refine AW.skip ?_
      refine nrm_and ?_
      refine AW.reg ?_
      refine AL.val rfl (.inl rfl) (HV.mv rfl) ?_
      refine AL.val rfl (.inl rfl) (HV.add rfl rfl (by omega)) ?_
      refine AL.val rfl (.inl rfl) (HV.as rfl) ?_
      refine AL.nil ?_
      refine nrm_blk (nrm_and ?_)
      refine AW.reg ?_
      refine AL.val rfl (.inl rfl) (HV.mv rfl) ?_
      refine AL.val rfl (.inl rfl) (HV.add rfl rfl (by omega)) ?_
      refine AL.val rfl (.inl rfl) (HV.as rfl) ?_
      refine AL.nil ?_
      refine nrm_and ?_
      exact ⟨(i + 1, p + 1), ⟨X3, by omega, by omega, trivial⟩, by first | omega | (dsimp only; omega), ⟨rfl, rfl, rfl, trivial⟩⟩
  · -- else
    refine AW.exit ?_
    refine ex_and (ex_and (ex_blk ?_))
    refine nrm_and ?_
    refine AW.rs ?_
    refine AL.val rfl (.inl rfl) (HV.mv rfl) ?_
    refine AL.val rfl (.inl rfl) (HV.as rfl) ?_
    refine AL.nx ?_
    refine AW.ret ?_
    refine post_one rfl rfl ?_ (.inr rfl)
    exact ⟨congrArg (Value.int .i64) (by omega), X3⟩

set_option maxRecDepth 100000 in
theorem markSS_ok {v : Value} {l : List (List Int)} {ok : Nat → Prop} (ho : OwnD (kO 2 kI) 24 W H ok v l) (hl : (l.length ≤ 1048576 ∧ ∀ x ∈ l, x.length ≤ 1048576)) (q : Int) (hq : 0 ≤ q ∧ q ≤ 4194304) : ACalls Try.prog W 31 #[v, .int .i64 q] H (fun r H' => (∃ q' : Int, r = .int .i64 q' ∧ 0 ≤ q' ∧ q' ≤ 2000000000000) ∧ But ok H H') := by
  refine ACalls.of (args := [v, .int .i64 q]) Try.func31 rfl rfl ?_
  have X0 := Ext.refl H
  have B0 := But.refl ok H
  have hmL := ho.rd.max
  refine AW.rs ?_
  refine AL.val rfl (.inl rfl) (HV.as rfl) ?_
  refine AL.nx ?_
  refine AW.seq ?_
  refine AW.rs ?_
  refine AL.val rfl (.inl rfl) (HV.as rfl) ?_
  refine AL.nx ?_
  refine AW.block ?_
  refine AW.loop (σ := Nat × Int × List (List Int)) (fun ⟨i, p, k⟩ => [(0, v), (4, .int .i64 0), (0, v), (1, .int .i64 p), (5, .int .i64 (i : Int))]) (fun ⟨i, p, k⟩ H' => i ≤ l.length ∧ 0 ≤ p ∧ p ≤ 4194304 + (i : Int) * 1048576 ∧ k.length = l.length ∧ (∀ x ∈ k, x.length ≤ 1048576) ∧ OwnD (kO 2 kI) 24 W H' ok v k ∧ But ok H H' ∧ True) (fun ⟨i, p, k⟩ => l.length - i) (0, q, l) ⟨Nat.zero_le _, hq.1, by omega, rfl, hl.2, ho, B0, trivial⟩ ⟨rfl, rfl, rfl, rfl, rfl, trivial⟩ ?_
  rintro ⟨i, p, k⟩ H1 ⟨hi, hp0, hp, hk, hkl, hoL, hB, _⟩
  refine AW.seq ?_
  refine AW.rs ?_
  refine AL.val rfl (.inl rfl) (HV.mv rfl) ?_
  refine AL.val rfl (.inl rfl) (HV.mv rfl) ?_
  refine AL.val rfl (.inl rfl) (HV.len Try.underlying36 rfl (rd_ofO hoL.rd).isSl) ?_
  refine AL.val rfl (.inl rfl) (HV.lti rfl rfl) ?_
  refine AL.nx ?_
  refine AW.ifd rfl (fun c2 => ?_) (fun c2 => ?_)
  · -- then
    refine AW.skip ?_
    refine nrm_and ?_
    refine AW.seq ?_
    refine AW.block ?_
    refine AW.reg ?_
    refine AL.val rfl (.inl rfl) (HV.mv rfl) ?_
    refine AL.val rfl (.inl rfl) (HV.mv rfl) ?_
    obtain ⟨g3, z4, cs5, hz6, hK7, hC8, hg9, hP10⟩ := OwnK.ix (q := (i : Int)) hoL.own sl36 (by omega) (by omega)
    have X11 := Ext.refl H1
    obtain ⟨v12, rfl, hr13⟩ := hK7
    have hO14 := hr13
    replace hr13 := hr13.rd
    have hm15 := hr13.max
    refine AL.val rfl (.inl rfl) (hP10 rfl rfl) ?_
    refine AL.val rfl (.inl rfl) (HV.ld rfl va24 (cells_first hC8 rfl)) ?_
    refine AL.val rfl (.inl rfl) (HV.mv rfl) ?_
    refine AL.w rfl (.inl rfl) (WV.call fn22 rfl (markS_ok p hO14 (by have := hkl _ (List.mem_of_getElem? hz6); have := hl.1; omega))) ?_
    rintro _ H16 ⟨k17, rfl, hk18, hh19, hx20, ho21⟩
    have hd22 := OwnD.mark (i := ((i : Int) : Int).toNat) kI_flat hoL hg9 (Cells.one hC8) (by omega) hx20 ho21
    have B24 := But.trans hB (But.mono hx20 hd22.2)
    have ho25 := hd22.1
    refine AL.val rfl (.inl rfl) (HV.as rfl) ?_
    refine AL.nil ?_
    refine nrm_blk (nrm_and ?_)
    refine AW.reg ?_
    refine AL.val rfl (.inl rfl) (HV.mv rfl) ?_
    refine AL.val rfl (.inl rfl) (HV.add rfl rfl (by omega)) ?_
    refine AL.val rfl (.inl rfl) (HV.as rfl) ?_
    refine AL.nil ?_
    refine nrm_and ?_
    exact ⟨(i + 1, (p + (z4.length : Int)), (k.set ((i : Int) : Int).toNat k17)), ⟨by omega, by omega, by have := hkl _ (List.mem_of_getElem? hz6); omega, by simp [hk], fun x hx => by rcases List.mem_or_eq_of_mem_set hx with hx | rfl; (exact hkl x hx); (rw [hk18]; exact hkl _ (List.mem_of_getElem? hz6)), ho25, B24, trivial⟩, by first | omega | (dsimp only; omega), ⟨rfl, rfl, rfl, rfl, rfl, trivial⟩⟩
  · -- else
    refine AW.exit ?_
    refine ex_and (ex_and (ex_blk ?_))
    refine nrm_and ?_
    refine AW.rs ?_
    refine AL.val rfl (.inl rfl) (HV.mv rfl) ?_
    refine AL.val rfl (.inl rfl) (HV.as rfl) ?_
    refine AL.nx ?_
    refine AW.ret ?_
    refine post_one rfl rfl ?_ (.inr rfl)
    exact ⟨⟨_, rfl, hp0, by omega⟩, hB⟩

set_option maxRecDepth 100000 in
theorem markSh_ok {v : Value} {l : List (Int × Int)} {ok : Nat → Prop} (q : Int) (ho : OwnK (kP kI kI) 68 W H ok v l) (hq : 0 ≤ q ∧ q + 2 * l.length ≤ 1000000000000000) : ACalls Try.prog W 21 #[v, .int .i64 q] H (fun r H' => ∃ k, r = .int .i64 (q + 2 * (l.length : Int)) ∧ k.length = l.length ∧ (∀ j : Nat, j < k.length → k.getD j (0, 0) = (q + 2 * (j : Int), q + 2 * (j : Int) + 1)) ∧ But (fun b => some b = v.ownBlock) H H' ∧ OwnK (kP kI kI) 68 W H' ok v k) := by
  refine ACalls.of (args := [v, .int .i64 q]) Try.func21 rfl rfl ?_
  have X0 := Ext.refl H
  have B0 := But.refl (fun b => some b = v.ownBlock) H
  have hmL := ho.rd.max
  refine AW.rs ?_
  refine AL.val rfl (.inl rfl) (HV.as rfl) ?_
  refine AL.nx ?_
  refine AW.seq ?_
  refine AW.rs ?_
  refine AL.val rfl (.inl rfl) (HV.as rfl) ?_
  refine AL.nx ?_
  refine AW.block ?_
  refine AW.loop (σ := Nat × Int × List (Int × Int)) (fun ⟨i, p, k⟩ => [(0, v), (4, .int .i64 0), (0, v), (1, .int .i64 p), (5, .int .i64 (i : Int))]) (fun ⟨i, p, k⟩ H' => i ≤ l.length ∧ p = q + 2 * i ∧ k.length = l.length ∧ (∀ j : Nat, j < i → k.getD j (0, 0) = (q + 2 * (j : Int), q + 2 * (j : Int) + 1)) ∧ OwnK (kP kI kI) 68 W H' ok v k ∧ But (fun b => some b = v.ownBlock) H H' ∧ True) (fun ⟨i, p, k⟩ => l.length - i) (0, q, l) ⟨Nat.zero_le _, by omega, rfl, fun j hj => absurd hj (Nat.not_lt_zero _), ho, B0, trivial⟩ ⟨rfl, rfl, rfl, rfl, rfl, trivial⟩ ?_
  rintro ⟨i, p, k⟩ H1 ⟨hi, hp, hk, he, hoL, hB, _⟩
  refine AW.seq ?_
  refine AW.rs ?_
  refine AL.val rfl (.inl rfl) (HV.mv rfl) ?_
  refine AL.val rfl (.inl rfl) (HV.mv rfl) ?_
  refine AL.val rfl (.inl rfl) (HV.len Try.underlying27 rfl hoL.rd.isSl) ?_
  refine AL.val rfl (.inl rfl) (HV.lti rfl rfl) ?_
  refine AL.nx ?_
  refine AW.ifd rfl (fun c2 => ?_) (fun c2 => ?_)
  · -- then
    refine AW.skip ?_
    refine nrm_and ?_
    refine AW.seq ?_
    refine AW.block ?_
    refine AW.rs ?_
    refine AL.val rfl (.inl rfl) (HV.mv rfl) ?_
    refine AL.val rfl (.inl rfl) (HV.mv rfl) ?_
    refine AL.val rfl (.inl rfl) (HV.mv rfl) ?_
    obtain ⟨g3, z4, cs5, hz6, hK7, hC8, hg9, hP10⟩ := OwnK.ix (q := (i : Int)) hoL sl27 (by omega) (by omega)
    have X11 := Ext.refl H1
    obtain ⟨cs12, cs13, rfl, hK14, hK15⟩ := hK7
    obtain rfl : cs12 = [.int .i64 z4.1] := hK14
    obtain rfl : cs13 = [.int .i64 z4.2] := hK15
    refine AL.val rfl (.inl rfl) (hP10 rfl rfl) ?_
    refine AL.val rfl (.inl rfl) (HV.fa fl68_0 rfl) ?_
    refine AL.w0 (.inl rfl) (WV.stF (x' := (p, z4.2)) (off := 0) (kP_flat kI_flat kI_flat) hoL hg9 rfl rfl va2 rfl hz6 (by decide) (one_cons rfl one_nil) (fun cs hc => by obtain ⟨_, _, rfl, rfl, rfl⟩ := hc; exact ⟨[.int .i64 p], [.int .i64 z4.2], rfl, rfl, rfl⟩)) ?_
    rintro _ H16 ⟨hx17, ho18⟩
    have B21 := But.trans hB hx17
    refine AL.nx ?_
    refine AW.rs ?_
    refine AL.val rfl (.inl rfl) (HV.mv rfl) ?_
    refine AL.val rfl (.inl rfl) (HV.add rfl rfl (by omega)) ?_
    refine AL.val rfl (.inl rfl) (HV.as rfl) ?_
    refine AL.nx ?_
    refine AW.rs ?_
    refine AL.val rfl (.inl rfl) (HV.mv rfl) ?_
    refine AL.val rfl (.inl rfl) (HV.mv rfl) ?_
    refine AL.val rfl (.inl rfl) (HV.mv rfl) ?_
    obtain ⟨g22, z23, cs24, hz25, hK26, hC27, hg28, hP29⟩ := OwnK.ix (q := (i : Int)) ho18 sl27 (by omega) (by simp [hk]; omega)
    have X30 := Ext.refl H16
    obtain ⟨cs31, cs32, rfl, hK33, hK34⟩ := hK26
    obtain rfl : cs31 = [.int .i64 z23.1] := hK33
    obtain rfl : cs32 = [.int .i64 z23.2] := hK34
    refine AL.val rfl (.inl rfl) (hP29 rfl rfl) ?_
    refine AL.val rfl (.inl rfl) (HV.fa fl68_1 rfl) ?_
    refine AL.w0 (.inl rfl) (WV.stF (x' := (z23.1, p + 1)) (off := 1) (kP_flat kI_flat kI_flat) ho18 hg28 rfl rfl va2 rfl hz25 (by decide) (one_cons rfl one_nil) (fun cs hc => by obtain ⟨_, _, rfl, rfl, rfl⟩ := hc; exact ⟨[.int .i64 z23.1], [.int .i64 (p + 1)], rfl, rfl, rfl⟩)) ?_
    rintro _ H35 ⟨hx36, ho37⟩
    have B40 := But.trans B21 hx36
    refine AL.nx ?_
    refine AW.reg ?_
    refine AL.val rfl (.inl rfl) (HV.mv rfl) ?_
    refine AL.val rfl (.inl rfl) (HV.add rfl rfl (by omega)) ?_
    refine AL.val rfl (.inl rfl) (HV.as rfl) ?_
    refine AL.nil ?_
    refine nrm_blk (nrm_and ?_)
    refine AW.reg ?_
    refine AL.val rfl (.inl rfl) (HV.mv rfl) ?_
    refine AL.val rfl (.inl rfl) (HV.add rfl rfl (by omega)) ?_
    refine AL.val rfl (.inl rfl) (HV.as rfl) ?_
    refine AL.nil ?_
    refine nrm_and ?_
    exact ⟨(i + 1, (p + 1) + 1, ((k.set ((i : Int) : Int).toNat (p, z4.2)).set ((i : Int) : Int).toNat (z23.1, p + 1))), ⟨by omega, by omega, by simp [hk], mark2_step he (by omega) hp hz25, ho37, B40, trivial⟩, by first | omega | (dsimp only; omega), ⟨rfl, rfl, rfl, rfl, rfl, trivial⟩⟩
  · -- else
    refine AW.exit ?_
    refine ex_and (ex_and (ex_blk ?_))
    refine nrm_and ?_
    refine AW.rs ?_
    refine AL.val rfl (.inl rfl) (HV.mv rfl) ?_
    refine AL.val rfl (.inl rfl) (HV.as rfl) ?_
    refine AL.nx ?_
    refine AW.ret ?_
    refine post_one rfl rfl ?_ (.inr rfl)
    exact ⟨k, congrArg (Value.int .i64) (by omega), hk, fun j hj => he j (by omega), hB, hoL⟩

set_option maxRecDepth 100000 in
theorem heldSh_ok {v : Value} {l : List (Int × Int)} {ok : Nat → Prop} (q : Int) (hr : RdK (kP kI kI) W H ok v l) (hq : 0 ≤ q ∧ q + 2 * l.length ≤ 1000000000000000) (hl : (∀ j : Nat, j < l.length → l.getD j (0, 0) = (q + 2 * (j : Int), q + 2 * (j : Int) + 1))) : ACalls Try.prog W 32 #[v, .int .i64 q] H (fun r H' => r = .int .i64 (q + 2 * (l.length : Int)) ∧ Ext H H') := by
  refine ACalls.of (args := [v, .int .i64 q]) Try.func32 rfl rfl ?_
  have X0 := Ext.refl H
  have hm1 := hr.max
  refine AW.rs ?_
  refine AL.val rfl (.inl rfl) (HV.as rfl) ?_
  refine AL.nx ?_
  refine AW.seq ?_
  refine AW.rs ?_
  refine AL.val rfl (.inl rfl) (HV.as rfl) ?_
  refine AL.nx ?_
  refine AW.block ?_
  refine AW.loop (σ := Nat × Int) (fun ⟨i, p⟩ => [(0, v), (1, .int .i64 p), (5, .int .i64 (i : Int))]) (fun ⟨i, p⟩ H' => Ext H H' ∧ i ≤ l.length ∧ p = q + 2 * i ∧ True) (fun ⟨i, p⟩ => l.length - i) (0, q) ⟨X0, Nat.zero_le _, by omega, trivial⟩ ⟨rfl, rfl, rfl, trivial⟩ ?_
  rintro ⟨i, p⟩ H2 ⟨X3, hi, hp, _⟩
  refine AW.seq ?_
  refine AW.rs ?_
  refine AL.val rfl (.inl rfl) (HV.mv rfl) ?_
  refine AL.val rfl (.inl rfl) (HV.mv rfl) ?_
  refine AL.val rfl (.inl rfl) (HV.len Try.underlying27 rfl hr.isSl) ?_
  refine AL.val rfl (.inl rfl) (HV.lti rfl rfl) ?_
  refine AL.nx ?_
  refine AW.ifd rfl (fun c4 => ?_) (fun c4 => ?_)
  · -- then
    refine AW.skip ?_
    refine nrm_and ?_
    refine AW.seq ?_
    refine AW.block ?_
    refine AW.seq ?_
    refine AW.rs ?_
    refine AL.val rfl (.inl rfl) (HV.mv rfl) ?_
    refine AL.val rfl (.inl rfl) (HV.mv rfl) ?_
    obtain ⟨p5, z6, cs7, hz8, hK9, hC10, hP11⟩ := RdK.ix (q := (i : Int)) hr sl27 (by omega) (by omega)
    obtain ⟨cs12, cs13, rfl, hK14, hK15⟩ := hK9
    obtain rfl : cs12 = [.int .i64 z6.1] := hK14
    obtain rfl : cs13 = [.int .i64 z6.2] := hK15
    refine AL.val rfl (.inl rfl) (hP11 rfl rfl) ?_
    refine AL.val rfl (.inl rfl) (HV.fa fl68_0 rfl) ?_
    refine AL.val rfl (.inl rfl) (HV.ld rfl va2 (cells_first (hC10.ext X3) rfl)) ?_
    refine AL.val rfl (.inl rfl) (HV.mv rfl) ?_
    refine AL.val rfl (.inl rfl) (HV.nei rfl rfl) ?_
    refine AL.nx ?_
    refine AW.ifd rfl (fun c16 => ?_) (fun c16 => ?_)
    · -- then
      refine AW.rs ?_
      refine AL.val rfl (.inl rfl) (HV.as rfl) ?_
      refine AL.nx ?_
      refine AW.ret ?_
      refine ret_and (ret_blk (ret_and (ret_and (ret_blk (ret_and ?_)))))
      refine post_one rfl rfl ?_ (.inr rfl)
      exact absurd (by have := congrArg Prod.fst ((gd hz8 rfl).symm.trans (hl i (by omega))); simp only at this; omega) c16
    · -- else
      refine AW.skip ?_
      refine nrm_and ?_
      refine AW.rs ?_
      refine AL.val rfl (.inl rfl) (HV.mv rfl) ?_
      refine AL.val rfl (.inl rfl) (HV.add rfl rfl (by omega)) ?_
      refine AL.val rfl (.inl rfl) (HV.as rfl) ?_
      refine AL.nx ?_
      refine AW.seq ?_
      refine AW.rs ?_
      refine AL.val rfl (.inl rfl) (HV.mv rfl) ?_
      refine AL.val rfl (.inl rfl) (HV.mv rfl) ?_
      obtain ⟨p17, z18, cs19, hz20, hK21, hC22, hP23⟩ := RdK.ix (q := (i : Int)) hr sl27 (by omega) (by omega)
      obtain ⟨cs24, cs25, rfl, hK26, hK27⟩ := hK21
      obtain rfl : cs24 = [.int .i64 z18.1] := hK26
      obtain rfl : cs25 = [.int .i64 z18.2] := hK27
      refine AL.val rfl (.inl rfl) (hP23 rfl rfl) ?_
      refine AL.val rfl (.inl rfl) (HV.fa fl68_1 rfl) ?_
      refine AL.val rfl (.inl rfl) (HV.ld rfl va2 (cells_at (hC22.ext X3) rfl)) ?_
      refine AL.val rfl (.inl rfl) (HV.mv rfl) ?_
      refine AL.val rfl (.inl rfl) (HV.nei rfl rfl) ?_
      refine AL.nx ?_
      refine AW.ifd rfl (fun c28 => ?_) (fun c28 => ?_)
      · -- then
        refine AW.rs ?_
        refine AL.val rfl (.inl rfl) (HV.as rfl) ?_
        refine AL.nx ?_
        refine AW.ret ?_
        refine ret_and (ret_blk (ret_and (ret_and (ret_blk (ret_and ?_)))))
        refine post_one rfl rfl ?_ (.inr rfl)
        exact absurd (by have := congrArg Prod.snd ((gd hz20 rfl).symm.trans (hl i (by omega))); simp only at this; omega) c28
      · -- else
        refine AW.skip ?_
        refine nrm_and ?_
        refine AW.reg ?_
        refine AL.val rfl (.inl rfl) (HV.mv rfl) ?_
        refine AL.val rfl (.inl rfl) (HV.add rfl rfl (by omega)) ?_
        refine AL.val rfl (.inl rfl) (HV.as rfl) ?_
        refine AL.nil ?_
        refine nrm_blk (nrm_and ?_)
        refine AW.reg ?_
        refine AL.val rfl (.inl rfl) (HV.mv rfl) ?_
        refine AL.val rfl (.inl rfl) (HV.add rfl rfl (by omega)) ?_
        refine AL.val rfl (.inl rfl) (HV.as rfl) ?_
        refine AL.nil ?_
        refine nrm_and ?_
        exact ⟨(i + 1, (p + 1) + 1), ⟨X3, by omega, by omega, trivial⟩, by first | omega | (dsimp only; omega), ⟨rfl, rfl, rfl, trivial⟩⟩
  · -- else
    refine AW.exit ?_
    refine ex_and (ex_and (ex_blk ?_))
    refine nrm_and ?_
    refine AW.rs ?_
    refine AL.val rfl (.inl rfl) (HV.mv rfl) ?_
    refine AL.val rfl (.inl rfl) (HV.as rfl) ?_
    refine AL.nx ?_
    refine AW.ret ?_
    refine post_one rfl rfl ?_ (.inr rfl)
    exact ⟨congrArg (Value.int .i64) (by omega), X3⟩

set_option maxRecDepth 100000 in
theorem isPrime_ok (p : Int) : ACalls Try.prog W 104 #[.int .i64 p] H (fun r H' => r = .bool (decide (primeI p)) ∧ Ext H H') := by
  refine ACalls.of (args := [.int .i64 p]) Try.func104 rfl rfl ?_
  have X0 := Ext.refl H
  refine AW.rs ?_
  refine AL.val rfl (.inl rfl) (HV.as rfl) ?_
  refine AL.nx ?_
  refine AW.seq ?_
  refine AW.rs ?_
  refine AL.val rfl (.inl rfl) (HV.as rfl) ?_
  refine AL.nx ?_
  refine AW.block ?_
  refine AW.loop (σ := Int) (fun d => [(0, .int .i64 p), (3, .int .i64 d)]) (fun d H' => Ext H H' ∧ 2 ≤ d ∧ d ≤ 6 ∧ (∀ e : Int, 2 ≤ e → e < d → p % e ≠ 0) ∧ True) (fun d => (7 - d).toNat) 2 ⟨X0, by decide, by decide, fun e h1 h2 => by omega, trivial⟩ ⟨rfl, rfl, trivial⟩ ?_
  rintro d H1 ⟨X2, hd, hd6, he, _⟩
  refine AW.seq ?_
  refine AW.rs ?_
  refine AL.val rfl (.inl rfl) (HV.mv rfl) ?_
  refine AL.val rfl (.inl rfl) (HV.mv rfl) ?_
  refine AL.val rfl (.inl rfl) (HV.mul rfl rfl (by have := sq6 hd hd6; omega)) ?_
  refine AL.val rfl (.inl rfl) (HV.mv rfl) ?_
  refine AL.val rfl (.inl rfl) (HV.lei rfl rfl) ?_
  refine AL.val rfl (.inl rfl) (HV.mv rfl) ?_
  by_cases c3 : (d * d) ≤ p
  · -- true
    have c3_ : decide ((d * d) ≤ p) = true := decide_eq_true c3
    rw [c3_]
    refine AL.val rfl (.inr ⟨_, _, _, rfl, rfl, rfl⟩) (HV.mv rfl) ?_
    refine AL.val rfl (.inr ⟨_, _, _, rfl, rfl, rfl⟩) (HV.lei rfl rfl) ?_
    refine AL.val rfl (.inl rfl) (HV.pickT rfl rfl) ?_
    refine AL.nx ?_
    refine AW.ifd rfl (fun c4 => ?_) (fun c4 => ?_)
    · -- then
      refine AW.skip ?_
      refine nrm_and ?_
      refine AW.seq ?_
      refine AW.block ?_
      refine AW.rs ?_
      refine AL.val rfl (.inl rfl) (HV.mv rfl) ?_
      refine AL.val rfl (.inl rfl) (HV.mv rfl) ?_
      refine AL.val rfl (.inl rfl) (HV.rem rfl rfl (by have := sq6 hd hd6; omega)) ?_
      refine AL.val rfl (.inl rfl) (HV.eqi rfl rfl) ?_
      refine AL.nx ?_
      refine AW.ifd rfl (fun c5 => ?_) (fun c5 => ?_)
      · -- then
        refine AW.rs ?_
        refine AL.val rfl (.inl rfl) (HV.as rfl) ?_
        refine AL.nx ?_
        refine AW.ret ?_
        refine ret_blk (ret_and (ret_and (ret_blk (ret_and ?_))))
        refine post_one rfl rfl ?_ (.inr rfl)
        exact ⟨dec_f (fun h => h.2 d hd (by omega) c5), X2⟩
      · -- else
        refine AW.skip ?_
        refine nrm_blk (nrm_and ?_)
        refine AW.reg ?_
        refine AL.val rfl (.inl rfl) (HV.mv rfl) ?_
        refine AL.val rfl (.inl rfl) (HV.add rfl rfl (by have := sq6 hd hd6; omega)) ?_
        refine AL.val rfl (.inl rfl) (HV.as rfl) ?_
        refine AL.nil ?_
        refine nrm_and ?_
        exact ⟨d + 1, ⟨X2, by omega, by have := sq6 hd hd6; omega, fun e h1 h2 => by by_cases e' : e = d; (subst e'; exact c5); (exact he e h1 (by omega)), trivial⟩, by first | omega | (dsimp only; omega), ⟨rfl, rfl, trivial⟩⟩
    · -- else
      refine AW.exit ?_
      refine ex_and (ex_and (ex_blk ?_))
      refine nrm_and ?_
      refine AW.rs ?_
      refine AL.val rfl (.inl rfl) (HV.mv rfl) ?_
      refine AL.w rfl (.inl rfl) (WV.call fn73 rfl (within_ok (W := W) p 2 31)) ?_
      rintro _ H6 ⟨rfl, hx7⟩
      have X8 := Ext.trans X2 hx7
      refine AL.val rfl (.inl rfl) (HV.as rfl) ?_
      refine AL.nx ?_
      refine AW.ret ?_
      refine post_one rfl rfl ?_ (.inr rfl)
      exact ⟨congrArg Value.bool (decide_eq_decide.2 ⟨fun h => ⟨h, by omega⟩, fun h => h.1⟩), X8⟩
  · -- false
    have c3_ : decide ((d * d) ≤ p) = false := decide_eq_false c3
    rw [c3_]
    refine AL.off rfl rfl (by decide) rfl ?_
    refine AL.off rfl rfl (by decide) rfl ?_
    refine AL.val rfl (.inl rfl) (HV.pickF rfl rfl) ?_
    refine AL.nx ?_
    refine AW.cond rfl (fun h => by cases h) (fun _ => ?_)
    refine AW.exit ?_
    refine ex_and (ex_and (ex_blk ?_))
    refine nrm_and ?_
    refine AW.rs ?_
    refine AL.val rfl (.inl rfl) (HV.mv rfl) ?_
    refine AL.w rfl (.inl rfl) (WV.call fn73 rfl (within_ok (W := W) p 2 31)) ?_
    rintro _ H10 ⟨rfl, hx11⟩
    have X12 := Ext.trans X2 hx11
    refine AL.val rfl (.inl rfl) (HV.as rfl) ?_
    refine AL.nx ?_
    refine AW.ret ?_
    refine post_one rfl rfl ?_ (.inr rfl)
    exact ⟨congrArg Value.bool (decide_eq_decide.2 ⟨fun h => ⟨h, fun e h1 h2 => he e h1 (sq_lt (by omega) (by omega) (by omega))⟩, fun h => h.1⟩), X12⟩

set_option maxRecDepth 100000 in
theorem l05Prime_ok (p : Int) : ACalls Try.prog W 105 #[.int .i64 p] H (fun r H' => r = .bool (decide (primeI p)) ∧ Ext H H') := by
  refine ACalls.of (args := [.int .i64 p]) Try.func105 rfl rfl ?_
  have X0 := Ext.refl H
  refine AW.rs ?_
  refine AL.val rfl (.inl rfl) (HV.as rfl) ?_
  refine AL.nx ?_
  refine AW.seq ?_
  refine AW.rs ?_
  refine AL.val rfl (.inl rfl) (HV.mv rfl) ?_
  refine AL.w rfl (.inl rfl) (WV.call fn68 rfl (l00In_ok (W := W) p 2 31)) ?_
  rintro _ H1 ⟨rfl, hx2⟩
  have X3 := Ext.trans X0 hx2
  refine AL.val rfl (.inl rfl) (HV.not rfl) ?_
  refine AL.nx ?_
  refine AW.ifn rfl (fun c4 => ?_) (fun c4 => ?_)
  · -- then
    refine AW.rs ?_
    refine AL.val rfl (.inl rfl) (HV.as rfl) ?_
    refine AL.nx ?_
    refine AW.ret ?_
    refine ret_and ?_
    refine post_one rfl rfl ?_ (.inr rfl)
    exact ⟨dec_f (fun h => c4 h.1), X3⟩
  · -- else
    refine AW.skip ?_
    refine nrm_and ?_
    refine AW.seq ?_
    refine AW.rs ?_
    refine AL.val rfl (.inl rfl) (HV.as rfl) ?_
    refine AL.nx ?_
    refine AW.block ?_
    have X5 := Ext.refl H1
    refine AW.loop (σ := Int) (fun d => [(0, .int .i64 p), (3, .int .i64 d)]) (fun d H' => Ext H H' ∧ Ext H1 H' ∧ 2 ≤ d ∧ d ≤ 6 ∧ (∀ e : Int, 2 ≤ e → e < d → p % e ≠ 0) ∧ True) (fun d => (7 - d).toNat) 2 ⟨X3, X5, by decide, by decide, fun e h1 h2 => by omega, trivial⟩ ⟨rfl, rfl, trivial⟩ ?_
    rintro d H6 ⟨X7, X8, hd, hd6, he, _⟩
    refine AW.seq ?_
    refine AW.rs ?_
    refine AL.val rfl (.inl rfl) (HV.mv rfl) ?_
    refine AL.val rfl (.inl rfl) (HV.mv rfl) ?_
    refine AL.val rfl (.inl rfl) (HV.mul rfl rfl (by have := sq6 hd hd6; omega)) ?_
    refine AL.val rfl (.inl rfl) (HV.mv rfl) ?_
    refine AL.val rfl (.inl rfl) (HV.lei rfl rfl) ?_
    refine AL.nx ?_
    refine AW.ifd rfl (fun c9 => ?_) (fun c9 => ?_)
    · -- then
      refine AW.skip ?_
      refine nrm_and ?_
      refine AW.seq ?_
      refine AW.block ?_
      refine AW.rs ?_
      refine AL.val rfl (.inl rfl) (HV.mv rfl) ?_
      refine AL.val rfl (.inl rfl) (HV.mv rfl) ?_
      refine AL.val rfl (.inl rfl) (HV.rem rfl rfl (by have := sq6 hd hd6; omega)) ?_
      refine AL.val rfl (.inl rfl) (HV.eqi rfl rfl) ?_
      refine AL.nx ?_
      refine AW.ifd rfl (fun c10 => ?_) (fun c10 => ?_)
      · -- then
        refine AW.rs ?_
        refine AL.val rfl (.inl rfl) (HV.as rfl) ?_
        refine AL.nx ?_
        refine AW.ret ?_
        refine ret_blk (ret_and (ret_and (ret_blk (ret_and ?_))))
        refine post_one rfl rfl ?_ (.inr rfl)
        exact ⟨dec_f (fun h => h.2 d hd (by omega) c10), X7⟩
      · -- else
        refine AW.skip ?_
        refine nrm_blk (nrm_and ?_)
        refine AW.reg ?_
        refine AL.val rfl (.inl rfl) (HV.mv rfl) ?_
        refine AL.val rfl (.inl rfl) (HV.add rfl rfl (by have := sq6 hd hd6; omega)) ?_
        refine AL.val rfl (.inl rfl) (HV.as rfl) ?_
        refine AL.nil ?_
        refine nrm_and ?_
        exact ⟨d + 1, ⟨X7, X8, by omega, by have := sq6 hd hd6; omega, fun e h1 h2 => by by_cases e' : e = d; (subst e'; exact c10); (exact he e h1 (by omega)), trivial⟩, by first | omega | (dsimp only; omega), ⟨rfl, rfl, trivial⟩⟩
    · -- else
      refine AW.exit ?_
      refine ex_and (ex_and (ex_blk ?_))
      refine nrm_and ?_
      refine AW.rs ?_
      refine AL.val rfl (.inl rfl) (HV.as rfl) ?_
      refine AL.nx ?_
      refine AW.ret ?_
      refine post_one rfl rfl ?_ (.inr rfl)
      exact ⟨dec_t ⟨by assumption, fun e h1 h2 => he e h1 (sq_lt (by omega) (by omega) (by omega))⟩, X7⟩

set_option maxRecDepth 100000 in
theorem el1_ok {b : Nat} {p : Int} (a : Int) (hp : 2 ≤ p ∧ p ≤ 31) (hb : At W H b ⟨2, [.int .i64 p], 1⟩) : ACalls Try.prog W 123 #[.int .i64 a, .pointer (some ⟨b, 0, none⟩)] H (fun r H' => r = .bool (!decide (0 ≤ a ∧ a ≤ p - 1)) ∧ Ext H H') := by
  refine ACalls.of (args := [.int .i64 a, .pointer (some ⟨b, 0, none⟩)]) Try.func123 rfl rfl ?_
  have X0 := Ext.refl H
  refine AW.rs ?_
  refine AL.val rfl (.inl rfl) (HV.as rfl) ?_
  refine AL.nx ?_
  refine AW.rs ?_
  refine AL.val rfl (.inl rfl) (HV.mv rfl) ?_
  refine AL.val rfl (.inl rfl) (HV.ld rfl va2 (at_cell hb rfl)) ?_
  refine AL.val rfl (.inl rfl) (HV.sub rfl rfl (by omega)) ?_
  refine AL.w rfl (.inl rfl) (WV.call fn73 rfl (within_ok (W := W) a 0 (p - 1))) ?_
  rintro _ H1 ⟨rfl, hx2⟩
  have X3 := Ext.trans X0 hx2
  have hb4 := hb.ext hx2
  refine AL.val rfl (.inl rfl) (HV.not rfl) ?_
  refine AL.val rfl (.inl rfl) (HV.as rfl) ?_
  refine AL.nx ?_
  refine AW.ret ?_
  refine post_one rfl rfl ?_ (.inr rfl)
  exact ⟨rfl, X3⟩

set_option maxRecDepth 100000 in
theorem ixEl_ok {v : Value} {l : List Int} {ok : Nat → Prop} {b : Nat} {p : Int} (hr : RdK kI W H ok v l) (hp : 2 ≤ p ∧ p ≤ 31) (hb : At W H b ⟨2, [.int .i64 p], 1⟩) : ACalls Try.prog W 129 #[v, (.func (.func 123) #[] #[.pointer (some ⟨b, 0, none⟩)])] H (fun r H' => (∃ i : Int, r = .int .i64 i ∧ (0 ≤ i ↔ ¬ elems p l)) ∧ Ext H H') := by
  refine ACalls.of (args := [v, (.func (.func 123) #[] #[.pointer (some ⟨b, 0, none⟩)])]) Try.func129 rfl rfl ?_
  have X0 := Ext.refl H
  have hm1 := hr.max
  refine AW.rs ?_
  refine AL.val rfl (.inl rfl) (HV.as rfl) ?_
  refine AL.nx ?_
  refine AW.seq ?_
  refine AW.rs ?_
  refine AL.val rfl (.inl rfl) (HV.mv rfl) ?_
  refine AL.val rfl (.inl rfl) (HV.len Try.underlying24 rfl hr.isSl) ?_
  refine AL.val rfl (.inl rfl) (HV.mv rfl) ?_
  refine AL.nx ?_
  refine AW.block ?_
  refine AW.loop (σ := Nat) (fun i => [(0, v), (1, (.func (.func 123) #[] #[.pointer (some ⟨b, 0, none⟩)])), (7, .int .i64 (l.length : Int)), (8, .int .i64 (i : Int))]) (fun i H' => Ext H H' ∧ At W H' b ⟨2, [.int .i64 p], 1⟩ ∧ i ≤ l.length ∧ (∀ j, j < i → 0 ≤ l.getD j 0 ∧ l.getD j 0 ≤ p - 1) ∧ True) (fun i => l.length - i) 0 ⟨X0, hb, Nat.zero_le _, fun j hj => absurd hj (Nat.not_lt_zero _), trivial⟩ ⟨rfl, rfl, rfl, rfl, trivial⟩ ?_
  rintro i H2 ⟨X3, hb4, hi, he, _⟩
  refine AW.rs ?_
  refine AL.val rfl (.inl rfl) (HV.lti rfl rfl) ?_
  refine AL.nx ?_
  refine AW.seq ?_
  refine AW.ifd rfl (fun c5 => ?_) (fun c5 => ?_)
  · -- then
    refine AW.skip ?_
    refine nrm_and ?_
    refine AW.seq ?_
    refine AW.block ?_
    refine AW.rs ?_
    refine AL.val rfl (.inl rfl) (HV.mv rfl) ?_
    refine AL.val rfl (.inl rfl) (HV.as rfl) ?_
    refine AL.nx ?_
    refine AW.rs ?_
    refine AL.val rfl (.inl rfl) (HV.mv rfl) ?_
    refine AL.val rfl (.inl rfl) (HV.mv rfl) ?_
    refine AL.val rfl (.inl rfl) (HV.mv rfl) ?_
    obtain ⟨p6, z7, cs8, hz9, hK10, hC11, hP12⟩ := RdK.ix (q := (i : Int)) hr sl24 (by omega) (by omega)
    obtain rfl : cs8 = [.int .i64 z7] := hK10
    refine AL.val rfl (.inl rfl) (hP12 rfl rfl) ?_
    refine AL.val rfl (.inl rfl) (HV.ld rfl va2 (cells_first (hC11.ext X3) rfl)) ?_
    refine AL.w rfl (.inl rfl) (WV.callv fn123 rfl rfl (el1_ok z7 hp hb4)) ?_
    rintro _ H13 ⟨rfl, hx14⟩
    have X15 := Ext.trans X3 hx14
    have hb16 := hb4.ext hx14
    refine AL.nx ?_
    refine AW.ifn rfl (fun c17 => ?_) (fun c17 => ?_)
    · -- then
      refine AW.rs ?_
      refine AL.val rfl (.inl rfl) (HV.mv rfl) ?_
      refine AL.val rfl (.inl rfl) (HV.as rfl) ?_
      refine AL.nx ?_
      refine AW.ret ?_
      refine ret_blk (ret_and (ret_and (ret_blk (ret_and ?_))))
      refine post_one rfl rfl ?_ (.inr rfl)
      exact ⟨⟨_, rfl, fun _ h => by have q := h i (by omega); have g15 : l.getD i 0 = z7 := gd hz9 (by omega); rw [g15] at q; exact c17 q, fun _ => by omega⟩, X15⟩
    · -- else
      refine AW.skip ?_
      refine nrm_blk (nrm_and ?_)
      refine AW.reg ?_
      refine AL.val rfl (.inl rfl) (HV.add rfl rfl (by omega)) ?_
      refine AL.val rfl (.inl rfl) (HV.mv rfl) ?_
      refine AL.nil ?_
      refine nrm_and ?_
      exact ⟨i + 1, ⟨X15, hb16, by omega, fun j hj => by
      rcases Nat.lt_or_ge j i with h1 | h1
      · exact he j h1
      · obtain rfl : j = i := by omega
        have g15 : l.getD j 0 = z7 := gd hz9 (by omega); rw [g15]; exact c17, trivial⟩, by first | omega | (dsimp only; omega), ⟨rfl, rfl, rfl, rfl, trivial⟩⟩
  · -- else
    refine AW.exit ?_
    refine ex_and (ex_and (ex_blk ?_))
    refine nrm_and ?_
    refine AW.rs ?_
    refine AL.val rfl (.inl rfl) (HV.as rfl) ?_
    refine AL.nx ?_
    refine AW.ret ?_
    refine post_one rfl rfl ?_ (.inr rfl)
    exact ⟨⟨_, rfl, fun h => absurd h (by decide), fun h => absurd (fun j hj => he j (by omega)) h⟩, X3⟩

set_option maxRecDepth 100000 in
theorem coEl_ok {v : Value} {l : List Int} {ok : Nat → Prop} {b : Nat} {p : Int} (hr : RdK kI W H ok v l) (hp : 2 ≤ p ∧ p ≤ 31) (hb : At W H b ⟨2, [.int .i64 p], 1⟩) : ACalls Try.prog W 122 #[v, (.func (.func 123) #[] #[.pointer (some ⟨b, 0, none⟩)])] H (fun r H' => r = .bool (decide (¬ elems p l)) ∧ Ext H H') := by
  refine ACalls.of (args := [v, (.func (.func 123) #[] #[.pointer (some ⟨b, 0, none⟩)])]) Try.func122 rfl rfl ?_
  have X0 := Ext.refl H
  have hm1 := hr.max
  refine AW.rs ?_
  refine AL.val rfl (.inl rfl) (HV.as rfl) ?_
  refine AL.nx ?_
  refine AW.rs ?_
  refine AL.val rfl (.inl rfl) (HV.mv rfl) ?_
  refine AL.val rfl (.inl rfl) (HV.mv rfl) ?_
  refine AL.w rfl (.inl rfl) (WV.call fn129 rfl (ixEl_ok hr hp hb)) ?_
  rintro _ H2 ⟨⟨q4, rfl, he5⟩, hx3⟩
  have X6 := Ext.trans X0 hx3
  have hb7 := hb.ext hx3
  refine AL.val rfl (.inl rfl) (HV.gei rfl rfl) ?_
  refine AL.val rfl (.inl rfl) (HV.as rfl) ?_
  refine AL.nx ?_
  refine AW.ret ?_
  refine post_one rfl rfl ?_ (.inr rfl)
  exact ⟨congrArg Value.bool (decide_eq_decide.2 he5), X6⟩

set_option maxRecDepth 100000 in
theorem areEl_ok {v : Value} {l : List Int} {ok : Nat → Prop} (p : Int) (hr : RdK kI W H ok v l) : ACalls Try.prog W 90 #[.int .i64 p, v] H (fun r H' => r = .bool (decide (primeI p ∧ elems p l)) ∧ Ext H H') := by
  refine ACalls.of (args := [.int .i64 p, v]) Try.func90 rfl rfl ?_
  have X0 := Ext.refl H
  have hm1 := hr.max
  refine AW.rs ?_
  refine AL.w rfl (.inl rfl) (WV.bx rfl rfl) ?_
  rintro _ H3 ⟨b2, rfl, hx4, hn5, hb6⟩
  have o7 := Nat.le_trans X0.bd hn5
  have X8 := Ext.trans X0 hx4
  have X9 := Ext.refl H3
  refine AL.val rfl (.inl rfl) (HV.as rfl) ?_
  refine AL.nx ?_
  refine AW.rs ?_
  refine AL.val rfl (.inl rfl) (HV.ld rfl va2 (at_cell hb6 rfl)) ?_
  refine AL.w rfl (.inl rfl) (WV.call fn104 rfl (isPrime_ok (W := W) p)) ?_
  rintro _ H10 ⟨rfl, hx11⟩
  have X12 := Ext.trans X8 hx11
  have X13 := Ext.trans X9 hx11
  have hb14 := hb6.ext hx11
  refine AL.val rfl (.inl rfl) (HV.mv rfl) ?_
  by_cases c15 : primeI p
  · -- true
    have c15_ : decide (primeI p) = true := decide_eq_true c15
    rw [c15_]
    refine AL.val rfl (.inr ⟨_, _, _, rfl, rfl, rfl⟩) (HV.mv rfl) ?_
    refine AL.val rfl (.inr ⟨_, _, _, rfl, rfl, rfl⟩) (HV.fn rfl rfl) ?_
    refine AL.w rfl (.inr ⟨_, _, _, rfl, rfl, rfl⟩) (WV.call fn122 rfl (coEl_ok (hr.ext X12) (by assumption : primeI p).1 hb14)) ?_
    rintro _ H16 ⟨rfl, hx17⟩
    have X18 := Ext.trans X12 hx17
    have X19 := Ext.trans X13 hx17
    have hb20 := hb14.ext hx17
    refine AL.val rfl (.inr ⟨_, _, _, rfl, rfl, rfl⟩) (HV.not rfl) ?_
    refine AL.val rfl (.inl rfl) (HV.pickT rfl rfl) ?_
    refine AL.val rfl (.inl rfl) (HV.as rfl) ?_
    refine AL.nx ?_
    refine AW.ret ?_
    refine post_one rfl rfl ?_ (.inr rfl)
    exact ⟨congrArg Value.bool (by by_cases hE : elems p l <;> simp [hE, (by assumption : primeI p)]), X18⟩
  · -- false
    have c15_ : decide (primeI p) = false := decide_eq_false c15
    rw [c15_]
    refine AL.off rfl rfl (by decide) rfl ?_
    refine AL.off rfl rfl (by decide) rfl ?_
    refine AL.off rfl rfl (by decide) rfl ?_
    refine AL.off rfl rfl (by decide) rfl ?_
    refine AL.val rfl (.inl rfl) (HV.pickF rfl rfl) ?_
    refine AL.val rfl (.inl rfl) (HV.as rfl) ?_
    refine AL.nx ?_
    refine AW.ret ?_
    refine post_one rfl rfl ?_ (.inr rfl)
    exact ⟨dec_f (fun h => c15 h.1), X12⟩

set_option maxRecDepth 100000 in
theorem resid_ok {v : Value} {l : List Int} {ok : Nat → Prop} {p : Int} (hr : RdK kI W H ok v l) (hp : 2 ≤ p ∧ p ≤ 31) : ACalls Try.prog W 86 #[.int .i64 p, v] H (fun r H' => r = .bool (decide (elems p l)) ∧ Ext H H') := by
  refine ACalls.of (args := [.int .i64 p, v]) Try.func86 rfl rfl ?_
  have X0 := Ext.refl H
  have hm1 := hr.max
  refine AW.rs ?_
  refine AL.val rfl (.inl rfl) (HV.as rfl) ?_
  refine AL.nx ?_
  refine AW.seq ?_
  refine AW.rs ?_
  refine AL.val rfl (.inl rfl) (HV.as rfl) ?_
  refine AL.nx ?_
  refine AW.block ?_
  refine AW.loop (σ := Nat) (fun i => [(0, .int .i64 p), (1, v), (5, .int .i64 (i : Int))]) (fun i H' => Ext H H' ∧ i ≤ l.length ∧ (∀ j, j < i → 0 ≤ l.getD j 0 ∧ l.getD j 0 ≤ p - 1) ∧ True) (fun i => l.length - i) 0 ⟨X0, Nat.zero_le _, fun j hj => absurd hj (Nat.not_lt_zero _), trivial⟩ ⟨rfl, rfl, rfl, trivial⟩ ?_
  rintro i H2 ⟨X3, hi, he, _⟩
  refine AW.seq ?_
  refine AW.rs ?_
  refine AL.val rfl (.inl rfl) (HV.mv rfl) ?_
  refine AL.val rfl (.inl rfl) (HV.mv rfl) ?_
  refine AL.val rfl (.inl rfl) (HV.len Try.underlying24 rfl hr.isSl) ?_
  refine AL.val rfl (.inl rfl) (HV.lti rfl rfl) ?_
  refine AL.nx ?_
  refine AW.ifd rfl (fun c4 => ?_) (fun c4 => ?_)
  · -- then
    refine AW.skip ?_
    refine nrm_and ?_
    refine AW.seq ?_
    refine AW.block ?_
    refine AW.rs ?_
    refine AL.val rfl (.inl rfl) (HV.mv rfl) ?_
    refine AL.val rfl (.inl rfl) (HV.mv rfl) ?_
    obtain ⟨p5, z6, cs7, hz8, hK9, hC10, hP11⟩ := RdK.ix (q := (i : Int)) hr sl24 (by omega) (by omega)
    obtain rfl : cs7 = [.int .i64 z6] := hK9
    refine AL.val rfl (.inl rfl) (hP11 rfl rfl) ?_
    refine AL.val rfl (.inl rfl) (HV.ld rfl va2 (cells_first (hC10.ext X3) rfl)) ?_
    refine AL.val rfl (.inl rfl) (HV.mv rfl) ?_
    refine AL.val rfl (.inl rfl) (HV.sub rfl rfl (by omega)) ?_
    refine AL.w rfl (.inl rfl) (WV.call fn68 rfl (l00In_ok (W := W) z6 0 (p - 1))) ?_
    rintro _ H12 ⟨rfl, hx13⟩
    have X14 := Ext.trans X3 hx13
    refine AL.val rfl (.inl rfl) (HV.not rfl) ?_
    refine AL.nx ?_
    refine AW.ifn rfl (fun c15 => ?_) (fun c15 => ?_)
    · -- then
      refine AW.rs ?_
      refine AL.val rfl (.inl rfl) (HV.as rfl) ?_
      refine AL.nx ?_
      refine AW.ret ?_
      refine ret_blk (ret_and (ret_and (ret_blk (ret_and ?_))))
      refine post_one rfl rfl ?_ (.inr rfl)
      exact ⟨dec_f (fun h => by have q := h i (by omega); have g15 : l.getD i 0 = z6 := gd hz8 (by omega); rw [g15] at q; exact c15 q), X14⟩
    · -- else
      refine AW.skip ?_
      refine nrm_blk (nrm_and ?_)
      refine AW.reg ?_
      refine AL.val rfl (.inl rfl) (HV.mv rfl) ?_
      refine AL.val rfl (.inl rfl) (HV.add rfl rfl (by omega)) ?_
      refine AL.val rfl (.inl rfl) (HV.as rfl) ?_
      refine AL.nil ?_
      refine nrm_and ?_
      exact ⟨i + 1, ⟨X14, by omega, fun j hj => by
      rcases Nat.lt_or_ge j i with h1 | h1
      · exact he j h1
      · obtain rfl : j = i := by omega
        have g15 : l.getD j 0 = z6 := gd hz8 (by omega); rw [g15]; exact c15, trivial⟩, by first | omega | (dsimp only; omega), ⟨rfl, rfl, rfl, trivial⟩⟩
  · -- else
    refine AW.exit ?_
    refine ex_and (ex_and (ex_blk ?_))
    refine nrm_and ?_
    refine AW.rs ?_
    refine AL.val rfl (.inl rfl) (HV.as rfl) ?_
    refine AL.nx ?_
    refine AW.ret ?_
    refine post_one rfl rfl ?_ (.inr rfl)
    exact ⟨dec_t (fun j hj => he j (by omega)), X3⟩

set_option maxRecDepth 100000 in
theorem arePts_ok {v : Value} {l : List Int} {ok : Nat → Prop} {p : Int} (hr : RdK kI W H ok v l) (hp : 2 ≤ p ∧ p ≤ 31) : ACalls Try.prog W 97 #[.int .i64 p, v] H (fun r H' => r = .bool (decide (ptsI p l)) ∧ Ext H H') := by
  refine ACalls.of (args := [.int .i64 p, v]) Try.func97 rfl rfl ?_
  have X0 := Ext.refl H
  have hm1 := hr.max
  refine AW.rs ?_
  refine AL.val rfl (.inl rfl) (HV.as rfl) ?_
  refine AL.nx ?_
  refine AW.seq ?_
  refine AW.rs ?_
  refine AL.val rfl (.inl rfl) (HV.mv rfl) ?_
  refine AL.val rfl (.inl rfl) (HV.len Try.underlying24 rfl hr.isSl) ?_
  refine AL.val rfl (.inl rfl) (HV.mv rfl) ?_
  refine AL.nx ?_
  refine AW.block ?_
  refine AW.loop (σ := Nat) (fun i => [(0, .int .i64 p), (1, v), (7, v), (8, .int .i64 (l.length : Int)), (9, .int .i64 (i : Int))]) (fun i H' => Ext H H' ∧ i ≤ l.length ∧ (∀ j, j < i → RisAt 1 (p - 1) l j) ∧ True) (fun i => l.length - i) 0 ⟨X0, Nat.zero_le _, fun j hj => absurd hj (Nat.not_lt_zero _), trivial⟩ ⟨rfl, rfl, rfl, rfl, rfl, trivial⟩ ?_
  rintro i H2 ⟨X3, hi, hi2, _⟩
  refine AW.rs ?_
  refine AL.val rfl (.inl rfl) (HV.lti rfl rfl) ?_
  refine AL.nx ?_
  refine AW.seq ?_
  refine AW.ifd rfl (fun c4 => ?_) (fun c4 => ?_)
  · -- then
    refine AW.skip ?_
    refine nrm_and ?_
    refine AW.seq ?_
    refine AW.block ?_
    refine AW.rs ?_
    refine AL.val rfl (.inl rfl) (HV.mv rfl) ?_
    obtain ⟨p5, z6, cs7, hz8, hK9, hC10, hP11⟩ := RdK.ix (q := (i : Int)) hr sl24 (by omega) (by omega)
    obtain rfl : cs7 = [.int .i64 z6] := hK9
    refine AL.val rfl (.inl rfl) (hP11 rfl rfl) ?_
    refine AL.val rfl (.inl rfl) (HV.ld rfl va2 (cells_first (hC10.ext X3) rfl)) ?_
    refine AL.val rfl (.inl rfl) (HV.as rfl) ?_
    refine AL.val rfl (.inl rfl) (HV.as rfl) ?_
    refine AL.nx ?_
    refine AW.rs ?_
    refine AL.val rfl (.inl rfl) (HV.mv rfl) ?_
    refine AL.val rfl (.inl rfl) (HV.mv rfl) ?_
    refine AL.val rfl (.inl rfl) (HV.sub rfl rfl (by omega)) ?_
    refine AL.w rfl (.inl rfl) (WV.call fn73 rfl (within_ok (W := W) z6 1 (p - 1))) ?_
    rintro _ H12 ⟨rfl, hx13⟩
    have X14 := Ext.trans X3 hx13
    refine AL.val rfl (.inl rfl) (HV.not rfl) ?_
    refine AL.val rfl (.inl rfl) (HV.mv rfl) ?_
    by_cases c15 : 1 ≤ z6 ∧ z6 ≤ (p - 1)
    · -- false
      have c15_ : (!decide (1 ≤ z6 ∧ z6 ≤ (p - 1))) = false := by rw [decide_eq_true c15]; rfl
      rw [c15_]
      refine AL.val rfl (.inr ⟨_, _, _, rfl, rfl, rfl⟩) (HV.mv rfl) ?_
      refine AL.val rfl (.inr ⟨_, _, _, rfl, rfl, rfl⟩) (HV.gti rfl rfl) ?_
      refine AL.val rfl (.inr ⟨_, _, _, rfl, rfl, rfl⟩) (HV.mv rfl) ?_
      by_cases c16 : (i : Int) > 0
      · -- true
        have c16_ : decide ((i : Int) > 0) = true := decide_eq_true c16
        rw [c16_]
        refine AL.val rfl (.inr ⟨_, _, _, rfl, rfl, rfl⟩) (HV.mv rfl) ?_
        refine AL.val rfl (.inr ⟨_, _, _, rfl, rfl, rfl⟩) (HV.mv rfl) ?_
        refine AL.val rfl (.inr ⟨_, _, _, rfl, rfl, rfl⟩) (HV.mv rfl) ?_
        refine AL.val rfl (.inr ⟨_, _, _, rfl, rfl, rfl⟩) (HV.sub rfl rfl (by omega)) ?_
        obtain ⟨p17, z18, cs19, hz20, hK21, hC22, hP23⟩ := RdK.ix (q := (i : Int) - 1) hr sl24 (by omega) (by omega)
        obtain rfl : cs19 = [.int .i64 z18] := hK21
        refine AL.val rfl (.inr ⟨_, _, _, rfl, rfl, rfl⟩) (hP23 rfl rfl) ?_
        refine AL.val rfl (.inr ⟨_, _, _, rfl, rfl, rfl⟩) (HV.ld rfl va2 (cells_first (hC22.ext X14) rfl)) ?_
        refine AL.val rfl (.inr ⟨_, _, _, rfl, rfl, rfl⟩) (HV.lei rfl rfl) ?_
        refine AL.val rfl (.inr ⟨_, _, _, rfl, rfl, rfl⟩) (HV.pickT rfl rfl) ?_
        refine AL.val rfl (.inl rfl) (HV.pickF rfl rfl) ?_
        refine AL.nx ?_
        refine AW.ifd rfl (fun c24 => ?_) (fun c24 => ?_)
        · -- then
          refine AW.rs ?_
          refine AL.val rfl (.inl rfl) (HV.as rfl) ?_
          refine AL.nx ?_
          refine AW.ret ?_
          refine ret_blk (ret_and (ret_and (ret_blk (ret_and ?_))))
          refine post_one rfl rfl ?_ (.inr rfl)
          exact ⟨dec_f fun hR => by have q := hR.2 i (by omega); unfold RisAt at q; have g13 : l.getD i 0 = z6 := gd hz8 (by omega); have g28 : l.getD (i - 1) 0 = z18 := gd hz20 (by omega); omega, X14⟩
        · -- else
          refine AW.skip ?_
          refine nrm_blk (nrm_and ?_)
          refine AW.reg ?_
          refine AL.val rfl (.inl rfl) (HV.add rfl rfl (by omega)) ?_
          refine AL.val rfl (.inl rfl) (HV.mv rfl) ?_
          refine AL.nil ?_
          refine nrm_and ?_
          exact ⟨i + 1, ⟨X14, by omega, fun j hj => by
      rcases Nat.lt_or_ge j i with h1 | h1
      · exact hi2 j h1
      · obtain rfl : j = i := by omega
        unfold RisAt; have g13 : l.getD j 0 = z6 := gd hz8 (by omega); have g28 : l.getD (j - 1) 0 = z18 := gd hz20 (by omega); exact ⟨by omega, by omega, fun h0 => by omega⟩, trivial⟩, by first | omega | (dsimp only; omega), ⟨rfl, rfl, rfl, rfl, rfl, trivial⟩⟩
      · -- false
        have c16_ : decide ((i : Int) > 0) = false := decide_eq_false c16
        rw [c16_]
        refine AL.off rfl rfl (by decide) rfl ?_
        refine AL.off rfl rfl (by decide) rfl ?_
        refine AL.off rfl rfl (by decide) rfl ?_
        refine AL.off rfl rfl (by decide) rfl ?_
        refine AL.off rfl rfl (by decide) rfl ?_
        refine AL.off rfl rfl (by decide) rfl ?_
        refine AL.off rfl rfl (by decide) rfl ?_
        refine AL.val rfl (.inr ⟨_, _, _, rfl, rfl, rfl⟩) (HV.pickF rfl rfl) ?_
        refine AL.val rfl (.inl rfl) (HV.pickF rfl rfl) ?_
        refine AL.nx ?_
        refine AW.cond rfl (fun h => by cases h) (fun _ => ?_)
        refine AW.skip ?_
        refine nrm_blk (nrm_and ?_)
        refine AW.reg ?_
        refine AL.val rfl (.inl rfl) (HV.add rfl rfl (by omega)) ?_
        refine AL.val rfl (.inl rfl) (HV.mv rfl) ?_
        refine AL.nil ?_
        refine nrm_and ?_
        exact ⟨i + 1, ⟨X14, by omega, fun j hj => by
      rcases Nat.lt_or_ge j i with h1 | h1
      · exact hi2 j h1
      · obtain rfl : j = i := by omega
        unfold RisAt; have g13 : l.getD j 0 = z6 := gd hz8 (by omega); exact ⟨by omega, by omega, fun h0 => by omega⟩, trivial⟩, by first | omega | (dsimp only; omega), ⟨rfl, rfl, rfl, rfl, rfl, trivial⟩⟩
    · -- true
      have c15_ : (!decide (1 ≤ z6 ∧ z6 ≤ (p - 1))) = true := by rw [decide_eq_false c15]; rfl
      rw [c15_]
      refine AL.off rfl rfl (by decide) rfl ?_
      refine AL.off rfl rfl (by decide) rfl ?_
      refine AL.off rfl rfl (by decide) rfl ?_
      refine AL.offu rfl rfl rfl ?_
      refine AL.offu rfl rfl rfl ?_
      refine AL.offu rfl rfl rfl ?_
      refine AL.offu rfl rfl rfl ?_
      refine AL.offu rfl rfl rfl ?_
      refine AL.offu rfl rfl rfl ?_
      refine AL.offu rfl rfl rfl ?_
      refine AL.off rfl rfl (by decide) rfl ?_
      refine AL.val rfl (.inl rfl) (HV.pickT rfl rfl) ?_
      refine AL.nx ?_
      refine AW.cond rfl (fun _ => ?_) (fun h => by cases h)
      refine AW.rs ?_
      refine AL.val rfl (.inl rfl) (HV.as rfl) ?_
      refine AL.nx ?_
      refine AW.ret ?_
      refine ret_blk (ret_and (ret_and (ret_blk (ret_and ?_))))
      refine post_one rfl rfl ?_ (.inr rfl)
      exact ⟨dec_f fun hR => by have q := hR.2 i (by omega); unfold RisAt at q; have g13 : l.getD i 0 = z6 := gd hz8 (by omega); omega, X14⟩
  · -- else
    refine AW.exit ?_
    refine ex_and (ex_and (ex_blk ?_))
    refine nrm_and ?_
    refine AW.rs ?_
    refine AL.val rfl (.inl rfl) (HV.mv rfl) ?_
    refine AL.val rfl (.inl rfl) (HV.len Try.underlying24 rfl hr.isSl) ?_
    refine AL.val rfl (.inl rfl) (HV.lei rfl rfl) ?_
    refine AL.val rfl (.inl rfl) (HV.as rfl) ?_
    refine AL.nx ?_
    refine AW.ret ?_
    refine post_one rfl rfl ?_ (.inr rfl)
    exact ⟨congrArg Value.bool (decide_eq_decide.2 ⟨fun h => ⟨h, fun j hj => hi2 j (by omega)⟩, fun h => h.1⟩), X3⟩

set_option maxRecDepth 100000 in
theorem l05Pts_ok {v : Value} {l : List Int} {ok : Nat → Prop} {p : Int} (hr : RdK kI W H ok v l) (hp : 2 ≤ p ∧ p ≤ 31) : ACalls Try.prog W 96 #[.int .i64 p, v] H (fun r H' => r = .bool (decide (ptsI p l)) ∧ Ext H H') := by
  refine ACalls.of (args := [.int .i64 p, v]) Try.func96 rfl rfl ?_
  have X0 := Ext.refl H
  have hm1 := hr.max
  refine AW.rs ?_
  refine AL.val rfl (.inl rfl) (HV.as rfl) ?_
  refine AL.nx ?_
  refine AW.rs ?_
  refine AL.val rfl (.inl rfl) (HV.mv rfl) ?_
  refine AL.val rfl (.inl rfl) (HV.len Try.underlying24 rfl hr.isSl) ?_
  refine AL.val rfl (.inl rfl) (HV.lei rfl rfl) ?_
  refine AL.val rfl (.inl rfl) (HV.mv rfl) ?_
  by_cases c2 : (l.length : Int) ≤ 10
  · -- true
    have c2_ : decide ((l.length : Int) ≤ 10) = true := decide_eq_true c2
    rw [c2_]
    refine AL.val rfl (.inr ⟨_, _, _, rfl, rfl, rfl⟩) (HV.mv rfl) ?_
    refine AL.val rfl (.inr ⟨_, _, _, rfl, rfl, rfl⟩) (HV.mv rfl) ?_
    refine AL.val rfl (.inr ⟨_, _, _, rfl, rfl, rfl⟩) (HV.sub rfl rfl (by omega)) ?_
    refine AL.w rfl (.inr ⟨_, _, _, rfl, rfl, rfl⟩) (WV.call fn125 rfl (l00Rises_ok 1 (p - 1) hr)) ?_
    rintro _ H3 ⟨rfl, hx4⟩
    have X5 := Ext.trans X0 hx4
    refine AL.val rfl (.inl rfl) (HV.pickT rfl rfl) ?_
    refine AL.val rfl (.inl rfl) (HV.as rfl) ?_
    refine AL.nx ?_
    refine AW.ret ?_
    refine post_one rfl rfl ?_ (.inr rfl)
    exact ⟨congrArg Value.bool (decide_eq_decide.2 ⟨fun h => ⟨by assumption, h⟩, fun h => h.2⟩), X5⟩
  · -- false
    have c2_ : decide ((l.length : Int) ≤ 10) = false := decide_eq_false c2
    rw [c2_]
    refine AL.off rfl rfl (by decide) rfl ?_
    refine AL.off rfl rfl (by decide) rfl ?_
    refine AL.off rfl rfl (by decide) rfl ?_
    refine AL.off rfl rfl (by decide) rfl ?_
    refine AL.val rfl (.inl rfl) (HV.pickF rfl rfl) ?_
    refine AL.val rfl (.inl rfl) (HV.as rfl) ?_
    refine AL.nx ?_
    refine AW.ret ?_
    refine post_one rfl rfl ?_ (.inr rfl)
    exact ⟨dec_f (fun h => c2 h.1), X0⟩

set_option maxRecDepth 100000 in
theorem places_ok {v : Value} {l : List (Int × Int)} {ok : Nat → Prop} (hr : RdK (kP kI kI) W H ok v l) (hl : l.length ≤ 1048576) : ACalls Try.prog W 70 #[v] H (fun r H' => Ext H H' ∧ OwnK kI 2 W H' (fun b => H.bd ≤ b) r (l.map Prod.fst)) := by
  refine ACalls.of (args := [v]) Try.func70 rfl rfl ?_
  have X0 := Ext.refl H
  have hm1 := hr.max
  refine AW.rs ?_
  refine AL.val rfl (.inl rfl) (HV.as rfl) ?_
  refine AL.nx ?_
  refine AW.rs ?_
  have o2 := X0.bd
  refine AL.w rfl (.inl rfl) (WV.bsK (K := kI) (l := ([] : List Int)) (css := []) sl24 rfl rfl (by first | rfl | (simp [Instr.fill, Value.cells, kI, kB, kU, kS, Kd.sc]; done) | (simp [Instr.fill, Value.cells, kI, kB, kU, kS, Kd.sc, rng1, rng2, rng3, rng4, kP])) rfl segs_nil) ?_
  rintro v3 H4 ⟨hx5, ho6⟩
  have X7 := Ext.trans X0 hx5
  refine AL.val rfl (.inl rfl) (HV.as rfl) ?_
  refine AL.nx ?_
  refine AW.seq ?_
  refine AW.rs ?_
  refine AL.val rfl (.inl rfl) (HV.as rfl) ?_
  refine AL.nx ?_
  refine AW.block ?_
  refine AW.loop (σ := Nat × Value × List Int) (fun ⟨i, vv, k⟩ => [(0, v), (2, (.slice none 0 0)), (3, vv), (4, .int .i64 (i : Int))]) (fun ⟨i, vv, k⟩ H' => Ext H H' ∧ i ≤ l.length ∧ k = (l.take i).map Prod.fst ∧ k.length = i ∧ OwnK kI 2 W H' (fun b => H.bd ≤ b) vv k ∧ True) (fun ⟨i, vv, k⟩ => l.length - i) (0, v3, (([] : List Int) : List Int)) ⟨X7, Nat.zero_le _, rfl, rfl, ho6, trivial⟩ ⟨rfl, rfl, rfl, rfl, trivial⟩ ?_
  rintro ⟨i, vv, k⟩ H9 ⟨X10, hi, hk, hk2, hoL, _⟩
  refine AW.seq ?_
  refine AW.rs ?_
  refine AL.val rfl (.inl rfl) (HV.mv rfl) ?_
  refine AL.val rfl (.inl rfl) (HV.mv rfl) ?_
  refine AL.val rfl (.inl rfl) (HV.len Try.underlying27 rfl hr.isSl) ?_
  refine AL.val rfl (.inl rfl) (HV.lti rfl rfl) ?_
  refine AL.nx ?_
  refine AW.ifd rfl (fun c11 => ?_) (fun c11 => ?_)
  · -- then
    refine AW.skip ?_
    refine nrm_and ?_
    refine AW.seq ?_
    refine AW.block ?_
    refine AW.reg ?_
    refine AL.val rfl (.inl rfl) (HV.mv rfl) ?_
    refine AL.val rfl (.inl rfl) (HV.mv rfl) ?_
    refine AL.val rfl (.inl rfl) (HV.mv rfl) ?_
    obtain ⟨p12, z13, cs14, hz15, hK16, hC17, hP18⟩ := RdK.ix (q := (i : Int)) hr sl27 (by omega) (by omega)
    obtain ⟨cs19, cs20, rfl, hK21, hK22⟩ := hK16
    obtain rfl : cs19 = [.int .i64 z13.1] := hK21
    obtain rfl : cs20 = [.int .i64 z13.2] := hK22
    refine AL.val rfl (.inl rfl) (hP18 rfl rfl) ?_
    refine AL.val rfl (.inl rfl) (HV.fa fl68_0 rfl) ?_
    refine AL.val rfl (.inl rfl) (HV.ld rfl va2 (cells_first (hC17.ext X10) rfl)) ?_
    have X23 := Ext.refl H9
    have o24 := X10.bd
    have o25 := X23.bd
    have a26 := hoL.ltb
    refine AL.w rfl (.inl rfl) (WV.bsK (K := kI) (l := ([z13.1] : List Int)) (css := [[.int .i64 z13.1]]) sl24 rfl rfl (by first | rfl | (simp [Instr.fill, Value.cells, kI, kB, kU, kS, Kd.sc]; done) | (simp [Instr.fill, Value.cells, kI, kB, kU, kS, Kd.sc, rng1, rng2, rng3, rng4, kP])) rfl (segs_cons rfl segs_nil)) ?_
    rintro v27 H28 ⟨hx29, ho30⟩
    have X31 := Ext.trans X10 hx29
    have X32 := Ext.trans X23 hx29
    have ho33 := hoL.ext hx29
    have X35 := Ext.refl H28
    refine AL.w rfl (.inl rfl) (WV.apk sl24 rfl rfl ho33 ho30.rd (by simp; omega) (by simp; omega) (fun b hb _ e => Nat.lt_irrefl _ (Nat.lt_of_lt_of_le (a26 b e) hb))) ?_
    rintro v36 H37 ⟨hx38, ho39, hb40⟩
    have ho41 := ho39.narrow (ok' := fun b => H.bd ≤ b) kI_flat (fun b q => (hb40 b q).elim (fun e => (ho33.blk b e).1) (fun e => Nat.le_trans X31.bd e))
    have X42 := Ext.thru X31 hx38 (fun b hb => Nat.le_trans o2 (ho33.blk b hb).1)
    refine AL.val rfl (.inl rfl) (HV.as rfl) ?_
    refine AL.nil ?_
    refine nrm_blk (nrm_and ?_)
    refine AW.reg ?_
    refine AL.val rfl (.inl rfl) (HV.mv rfl) ?_
    refine AL.val rfl (.inl rfl) (HV.add rfl rfl (by omega)) ?_
    refine AL.val rfl (.inl rfl) (HV.as rfl) ?_
    refine AL.nil ?_
    refine nrm_and ?_
    exact ⟨(i + 1, v36, (k ++ (([z13.1] : List Int) : List Int))), ⟨X42, by omega, by rw [map_snoc (f := Prod.fst) hz15, hk], by simp [hk2], ho41, trivial⟩, by first | omega | (dsimp only; omega), ⟨rfl, rfl, rfl, rfl, trivial⟩⟩
  · -- else
    refine AW.exit ?_
    refine ex_and (ex_and (ex_blk ?_))
    refine nrm_and ?_
    refine AW.rs ?_
    refine AL.val rfl (.inl rfl) (HV.mv rfl) ?_
    refine AL.val rfl (.inl rfl) (HV.as rfl) ?_
    refine AL.nx ?_
    refine AW.ret ?_
    refine post_one rfl rfl ?_ (.inr rfl)
    exact ⟨X10, by obtain rfl : i = l.length := (by omega); subst hk; rw [List.take_length] at *; exact hoL.okk (fun b hb _ => Nat.le_trans o2 hb)⟩

set_option maxRecDepth 100000 in
theorem values_ok {v : Value} {l : List (Int × Int)} {ok : Nat → Prop} (hr : RdK (kP kI kI) W H ok v l) (hl : l.length ≤ 1048576) : ACalls Try.prog W 71 #[v] H (fun r H' => Ext H H' ∧ OwnK kI 2 W H' (fun b => H.bd ≤ b) r (l.map Prod.snd)) := by
  refine ACalls.of (args := [v]) Try.func71 rfl rfl ?_
  have X0 := Ext.refl H
  have hm1 := hr.max
  refine AW.rs ?_
  refine AL.val rfl (.inl rfl) (HV.as rfl) ?_
  refine AL.nx ?_
  refine AW.rs ?_
  have o2 := X0.bd
  refine AL.w rfl (.inl rfl) (WV.bsK (K := kI) (l := ([] : List Int)) (css := []) sl24 rfl rfl (by first | rfl | (simp [Instr.fill, Value.cells, kI, kB, kU, kS, Kd.sc]; done) | (simp [Instr.fill, Value.cells, kI, kB, kU, kS, Kd.sc, rng1, rng2, rng3, rng4, kP])) rfl segs_nil) ?_
  rintro v3 H4 ⟨hx5, ho6⟩
  have X7 := Ext.trans X0 hx5
  refine AL.val rfl (.inl rfl) (HV.as rfl) ?_
  refine AL.nx ?_
  refine AW.seq ?_
  refine AW.rs ?_
  refine AL.val rfl (.inl rfl) (HV.as rfl) ?_
  refine AL.nx ?_
  refine AW.block ?_
  refine AW.loop (σ := Nat × Value × List Int) (fun ⟨i, vv, k⟩ => [(0, v), (2, (.slice none 0 0)), (3, vv), (4, .int .i64 (i : Int))]) (fun ⟨i, vv, k⟩ H' => Ext H H' ∧ i ≤ l.length ∧ k = (l.take i).map Prod.snd ∧ k.length = i ∧ OwnK kI 2 W H' (fun b => H.bd ≤ b) vv k ∧ True) (fun ⟨i, vv, k⟩ => l.length - i) (0, v3, (([] : List Int) : List Int)) ⟨X7, Nat.zero_le _, rfl, rfl, ho6, trivial⟩ ⟨rfl, rfl, rfl, rfl, trivial⟩ ?_
  rintro ⟨i, vv, k⟩ H9 ⟨X10, hi, hk, hk2, hoL, _⟩
  refine AW.seq ?_
  refine AW.rs ?_
  refine AL.val rfl (.inl rfl) (HV.mv rfl) ?_
  refine AL.val rfl (.inl rfl) (HV.mv rfl) ?_
  refine AL.val rfl (.inl rfl) (HV.len Try.underlying27 rfl hr.isSl) ?_
  refine AL.val rfl (.inl rfl) (HV.lti rfl rfl) ?_
  refine AL.nx ?_
  refine AW.ifd rfl (fun c11 => ?_) (fun c11 => ?_)
  · -- then
    refine AW.skip ?_
    refine nrm_and ?_
    refine AW.seq ?_
    refine AW.block ?_
    refine AW.reg ?_
    refine AL.val rfl (.inl rfl) (HV.mv rfl) ?_
    refine AL.val rfl (.inl rfl) (HV.mv rfl) ?_
    refine AL.val rfl (.inl rfl) (HV.mv rfl) ?_
    obtain ⟨p12, z13, cs14, hz15, hK16, hC17, hP18⟩ := RdK.ix (q := (i : Int)) hr sl27 (by omega) (by omega)
    obtain ⟨cs19, cs20, rfl, hK21, hK22⟩ := hK16
    obtain rfl : cs19 = [.int .i64 z13.1] := hK21
    obtain rfl : cs20 = [.int .i64 z13.2] := hK22
    refine AL.val rfl (.inl rfl) (hP18 rfl rfl) ?_
    refine AL.val rfl (.inl rfl) (HV.fa fl68_1 rfl) ?_
    refine AL.val rfl (.inl rfl) (HV.ld rfl va2 (cells_at (hC17.ext X10) rfl)) ?_
    have X23 := Ext.refl H9
    have o24 := X10.bd
    have o25 := X23.bd
    have a26 := hoL.ltb
    refine AL.w rfl (.inl rfl) (WV.bsK (K := kI) (l := ([z13.2] : List Int)) (css := [[.int .i64 z13.2]]) sl24 rfl rfl (by first | rfl | (simp [Instr.fill, Value.cells, kI, kB, kU, kS, Kd.sc]; done) | (simp [Instr.fill, Value.cells, kI, kB, kU, kS, Kd.sc, rng1, rng2, rng3, rng4, kP])) rfl (segs_cons rfl segs_nil)) ?_
    rintro v27 H28 ⟨hx29, ho30⟩
    have X31 := Ext.trans X10 hx29
    have X32 := Ext.trans X23 hx29
    have ho33 := hoL.ext hx29
    have X35 := Ext.refl H28
    refine AL.w rfl (.inl rfl) (WV.apk sl24 rfl rfl ho33 ho30.rd (by simp; omega) (by simp; omega) (fun b hb _ e => Nat.lt_irrefl _ (Nat.lt_of_lt_of_le (a26 b e) hb))) ?_
    rintro v36 H37 ⟨hx38, ho39, hb40⟩
    have ho41 := ho39.narrow (ok' := fun b => H.bd ≤ b) kI_flat (fun b q => (hb40 b q).elim (fun e => (ho33.blk b e).1) (fun e => Nat.le_trans X31.bd e))
    have X42 := Ext.thru X31 hx38 (fun b hb => Nat.le_trans o2 (ho33.blk b hb).1)
    refine AL.val rfl (.inl rfl) (HV.as rfl) ?_
    refine AL.nil ?_
    refine nrm_blk (nrm_and ?_)
    refine AW.reg ?_
    refine AL.val rfl (.inl rfl) (HV.mv rfl) ?_
    refine AL.val rfl (.inl rfl) (HV.add rfl rfl (by omega)) ?_
    refine AL.val rfl (.inl rfl) (HV.as rfl) ?_
    refine AL.nil ?_
    refine nrm_and ?_
    exact ⟨(i + 1, v36, (k ++ (([z13.2] : List Int) : List Int))), ⟨X42, by omega, by rw [map_snoc (f := Prod.snd) hz15, hk], by simp [hk2], ho41, trivial⟩, by first | omega | (dsimp only; omega), ⟨rfl, rfl, rfl, rfl, trivial⟩⟩
  · -- else
    refine AW.exit ?_
    refine ex_and (ex_and (ex_blk ?_))
    refine nrm_and ?_
    refine AW.rs ?_
    refine AL.val rfl (.inl rfl) (HV.mv rfl) ?_
    refine AL.val rfl (.inl rfl) (HV.as rfl) ?_
    refine AL.nx ?_
    refine AW.ret ?_
    refine post_one rfl rfl ?_ (.inr rfl)
    exact ⟨X10, by obtain rfl : i = l.length := (by omega); subst hk; rw [List.take_length] at *; exact hoL.okk (fun b hb _ => Nat.le_trans o2 hb)⟩

set_option maxRecDepth 100000 in
theorem ptsOf_ok {v : Value} {l : List (Int × Int)} {ok : Nat → Prop} (hr : RdK (kP kI kI) W H ok v l) (hl : l.length ≤ 1048576) : ACalls Try.prog W 93 #[v] H (fun r H' => (∃ u v, r = .tuple #[u, v] ∧ RdK kI W H' (fun _ => True) u (l.map Prod.fst) ∧ RdK kI W H' (fun _ => True) v (l.map Prod.snd)) ∧ Ext H H') := by
  refine ACalls.of (args := [v]) Try.func93 rfl rfl ?_
  have X0 := Ext.refl H
  have hm1 := hr.max
  refine AW.rs ?_
  refine AL.val rfl (.inl rfl) (HV.as rfl) ?_
  refine AL.val rfl (.inl rfl) (HV.as rfl) ?_
  refine AL.nx ?_
  refine AW.rs ?_
  have o2 := X0.bd
  refine AL.w rfl (.inl rfl) (WV.bsK (K := kI) (l := ([] : List Int)) (css := []) sl24 rfl rfl (by first | rfl | (simp [Instr.fill, Value.cells, kI, kB, kU, kS, Kd.sc]; done) | (simp [Instr.fill, Value.cells, kI, kB, kU, kS, Kd.sc, rng1, rng2, rng3, rng4, kP])) rfl segs_nil) ?_
  rintro v3 H4 ⟨hx5, ho6⟩
  have X7 := Ext.trans X0 hx5
  have X9 := Ext.refl H4
  have o10 := X7.bd
  have o11 := X9.bd
  have a12 := ho6.ltb
  refine AL.w rfl (.inl rfl) (WV.bsK (K := kI) (l := ([] : List Int)) (css := []) sl24 rfl rfl (by first | rfl | (simp [Instr.fill, Value.cells, kI, kB, kU, kS, Kd.sc]; done) | (simp [Instr.fill, Value.cells, kI, kB, kU, kS, Kd.sc, rng1, rng2, rng3, rng4, kP])) rfl segs_nil) ?_
  rintro v13 H14 ⟨hx15, ho16⟩
  have X17 := Ext.trans X7 hx15
  have X18 := Ext.trans X9 hx15
  have ho19 := ho6.ext hx15
  refine AL.val rfl (.inl rfl) (HV.as rfl) ?_
  refine AL.val rfl (.inl rfl) (HV.as rfl) ?_
  refine AL.nx ?_
  refine AW.seq ?_
  refine AW.rs ?_
  refine AL.val rfl (.inl rfl) (HV.mv rfl) ?_
  refine AL.val rfl (.inl rfl) (HV.len Try.underlying27 rfl hr.isSl) ?_
  refine AL.val rfl (.inl rfl) (HV.mv rfl) ?_
  refine AL.nx ?_
  refine AW.block ?_
  have ho21 := ho19.narrow (ok' := fun b => H.bd ≤ b ∧ some b = v3.ownBlock) kI_flat (fun b q => ⟨(ho19.blk b q).1, q⟩)
  have ho22 := ho16.narrow (ok' := fun b => H.bd ≤ b ∧ some b = v13.ownBlock) kI_flat (fun b q => ⟨Nat.le_trans o10 (ho16.blk b q).1, q⟩)
  have d23 : ∀ b, some b = v3.ownBlock → some b = v13.ownBlock → False := fun b h1 h2 => by have x1 := a12 b h1; have x2 : H4.bd ≤ b := (ho16.blk b h2).1; omega
  refine AW.loop (σ := Nat × Value × List Int × Value × List Int) (fun ⟨i, va, ka, vb, kb⟩ => [(2, (.slice none 0 0)), (3, (.slice none 0 0)), (10, v), (11, .int .i64 (l.length : Int)), (4, va), (5, vb), (12, .int .i64 (i : Int))]) (fun ⟨i, va, ka, vb, kb⟩ H' => Ext H H' ∧ i ≤ l.length ∧ ka = (l.take i).map Prod.fst ∧ kb = (l.take i).map Prod.snd ∧ ka.length = i ∧ kb.length = i ∧ (∀ b, some b = va.ownBlock → some b = vb.ownBlock → False) ∧ OwnK kI 2 W H' (fun b => H.bd ≤ b ∧ some b = va.ownBlock) va ka ∧ OwnK kI 2 W H' (fun b => H.bd ≤ b ∧ some b = vb.ownBlock) vb kb ∧ True) (fun ⟨i, va, ka, vb, kb⟩ => l.length - i) (0, v3, (([] : List Int) : List Int), v13, (([] : List Int) : List Int)) ⟨X17, Nat.zero_le _, rfl, rfl, rfl, rfl, d23, ho21, ho22, trivial⟩ ⟨rfl, rfl, rfl, rfl, rfl, rfl, rfl, trivial⟩ ?_
  rintro ⟨i, va, ka, vb, kb⟩ H24 ⟨X25, hi, hka, hkb, hla, hlb, hdis, hoA, hoB, _⟩
  refine AW.rs ?_
  refine AL.val rfl (.inl rfl) (HV.lti rfl rfl) ?_
  refine AL.nx ?_
  refine AW.seq ?_
  refine AW.ifd rfl (fun c26 => ?_) (fun c26 => ?_)
  · -- then
    refine AW.skip ?_
    refine nrm_and ?_
    refine AW.seq ?_
    refine AW.block ?_
    refine AW.rs ?_
    obtain ⟨p27, z28, cs29, hz30, hK31, hC32, hP33⟩ := RdK.ix (q := (i : Int)) hr sl27 (by omega) (by omega)
    obtain ⟨cs34, cs35, rfl, hK36, hK37⟩ := hK31
    obtain rfl : cs34 = [.int .i64 z28.1] := hK36
    obtain rfl : cs35 = [.int .i64 z28.2] := hK37
    refine AL.val rfl (.inl rfl) (hP33 rfl rfl) ?_
    refine AL.val rfl (.inl rfl) (HV.lda (cs := [.int .i64 z28.1, .int .i64 z28.2]) rfl va68 (hC32.ext X25)) ?_
    have a43 := hoA.ltb
    have a44 := hoB.ltb
    refine AL.w rfl (.inl rfl) (WV.al ze68 rfl) ?_
    rintro _ H39 ⟨b38, rfl, hx40, hn41, hb42⟩
    have o45 := Nat.le_trans X25.bd hn41
    have a46 : ∀ b', some b' = va.ownBlock → b' = b38 → False := fun b' h1 h2 => by have x1 := a43 b' h1; have x2 := hn41; omega
    have a47 : ∀ b', some b' = vb.ownBlock → b' = b38 → False := fun b' h1 h2 => by have x1 := a44 b' h1; have x2 := hn41; omega
    have X48 := Ext.trans X25 hx40
    have ho49 := hoA.ext hx40
    have ho50 := hoB.ext hx40
    have X51 := Ext.refl H39
    refine AL.w0 (.inl rfl) (WV.st rfl rfl va68 rfl hb42 (Nat.le_of_ble_eq_true rfl) (one_cons rfl (one_cons rfl one_nil))) ?_
    rintro _ H52 ⟨hx53, hb54⟩
    have X55 := Ext.thru X48 hx53 (fun z_ hz_ => by rw [hz_]; exact o45)
    have ho57 := ho49.but hx53 (fun b hb _ e => a46 b hb.2 e) (fun z_ hz_ => by rw [hz_]; exact hb42.w)
    have ho58 := ho50.but hx53 (fun b hb _ e => a47 b hb.2 e) (fun z_ hz_ => by rw [hz_]; exact hb42.w)
    have hb59 : At W H52 b38 ⟨68, [.int .i64 z28.1, .int .i64 z28.2], 2⟩ := hb54
    refine AL.nx ?_
    refine AW.draw' [0, 0, 2, 6, 15, 0, 0, 64, 192, 511, 1023, 2047] mixed (by rfl) ?_
    refine Dr.read 0 _ 16 _ rfl rfl rfl rfl rfl (RV.of (by intro _ _ h; cases h) (.inl rfl) (fun _ xd => HV.mv rfl)) ?_
    refine Dr.read 1 _ 17 _ rfl rfl rfl rfl rfl (RV.of (by intro _ _ h; cases h) (.inl rfl) (fun _ xd => HV.fa fl68_0 rfl)) ?_
    refine Dr.read 2 _ 18 _ rfl rfl rfl rfl rfl (RV.of (by intro _ _ h; cases h) (.inl rfl) (fun _ xd => HV.ld rfl va2 (rdc_ext xd (at_cell hb59 rfl)))) ?_
    refine Dr.read 5 _ 21 _ rfl rfl rfl rfl rfl (RV.of (by intro _ _ h; cases h) (.inl rfl) (fun _ xd => HV.mv rfl)) ?_
    refine Dr.read 6 _ 22 _ rfl rfl rfl rfl rfl (RV.of (by intro _ _ h; cases h) (.inl rfl) (fun _ xd => HV.fa fl68_1 rfl)) ?_
    refine Dr.read 7 _ 23 _ rfl rfl rfl rfl rfl (RV.of (by intro _ _ h; cases h) (.inl rfl) (fun _ xd => HV.ld rfl va2 (rdc_ext xd (at_cell_add hb59 rfl)))) ?_
    have X60 := Ext.refl H52
    have y61 := hb59.lt
    have o62 := X55.bd
    have o63 := X60.bd
    have a64 := ho57.ltb
    have a65 := ho58.ltb
    have X70 := Ext.refl H52
    have y71 := hb59.lt
    have o72 := X55.bd
    have o73 := X70.bd
    have a74 := ho57.ltb
    have a75 := ho58.ltb
    refine Dr.eff2 3 8 _ _ _ _ rfl rfl (by intro d h; cases h; exact ⟨rfl, rfl⟩) (by intro d h; cases h; exact ⟨rfl, rfl⟩) rfl rfl rfl rfl rfl (EC.of (by intro _ _ h; cases h) (.inl rfl) (WV.bsK (K := kI) (l := ([z28.1] : List Int)) (css := [[.int .i64 z28.1]]) sl24 rfl rfl (by first | rfl | (simp [Instr.fill, Value.cells, kI, kB, kU, kS, Kd.sc]; done) | (simp [Instr.fill, Value.cells, kI, kB, kU, kS, Kd.sc, rng1, rng2, rng3, rng4, kP])) rfl (segs_cons rfl segs_nil))) (EC.of (by intro _ _ h; cases h) (.inl rfl) (WV.bsK (K := kI) (l := ([z28.2] : List Int)) (css := [[.int .i64 z28.2]]) sl24 rfl rfl (by first | rfl | (simp [Instr.fill, Value.cells, kI, kB, kU, kS, Kd.sc]; done) | (simp [Instr.fill, Value.cells, kI, kB, kU, kS, Kd.sc, rng1, rng2, rng3, rng4, kP])) rfl (segs_cons rfl segs_nil))) (fun v H' h => .inl (h.1)) (fun v H' h => .inl (h.1)) ?_ ?_
    · -- 3 first
      have X80 := Ext.refl H52
      have y81 := hb59.lt
      have o82 := X55.bd
      have o83 := X80.bd
      have a84 := ho57.ltb
      have a85 := ho58.ltb
      rintro v86 H87 ⟨hx88, ho89⟩
      have X90 := Ext.trans X55 hx88
      have X91 := Ext.trans X80 hx88
      have ho92 := ho57.ext hx88
      have ho93 := ho58.ext hx88
      have hb94 := hb59.ext hx88
      have X96 := Ext.refl H87
      have X103 := Ext.refl H87
      have y104 := hb94.lt
      have o105 := X90.bd
      have o106 := X91.bd
      have o107 := X103.bd
      have a108 := ho92.ltb
      have a109 := ho93.ltb
      have a110 := ho89.ltb
      refine Dr.eff2 4 8 _ _ _ _ rfl rfl (by intro d h; cases h; exact ⟨rfl, rfl⟩) (by intro d h; cases h; exact ⟨rfl, rfl⟩) rfl rfl rfl rfl rfl (EC.of (by intro _ _ h; cases h) (.inl rfl) (WV.apk sl24 rfl rfl ho92 ho89.rd (by simp; omega) (by simp; omega) (fun b hb _ e => Nat.lt_irrefl _ (Nat.lt_of_lt_of_le (a84 b e) hb)))) (EC.of (by intro _ _ h; cases h) (.inl rfl) (WV.bsK (K := kI) (l := ([z28.2] : List Int)) (css := [[.int .i64 z28.2]]) sl24 rfl rfl (by first | rfl | (simp [Instr.fill, Value.cells, kI, kB, kU, kS, Kd.sc]; done) | (simp [Instr.fill, Value.cells, kI, kB, kU, kS, Kd.sc, rng1, rng2, rng3, rng4, kP])) rfl (segs_cons rfl segs_nil))) ?_ (fun v H' h => .inl (h.1)) ?_ ?_
      · -- kept
        rintro v97 H98 ⟨hx99, ho100, hb101⟩
        have ho102 := ho100.narrow (ok' := fun b => H.bd ≤ b ∧ some b = v97.ownBlock) kI_flat (fun b q => ⟨(hb101 b q).elim (fun e => (ho92.blk b e).1.1) (fun e => Nat.le_trans X90.bd e), q⟩)
        have d115 : ∀ b, some b = vb.ownBlock → some b = v97.ownBlock → False := fun b h1 h2 => (hb101 b h2).elim (fun e => (fun b h1 h2 => hdis b h2 h1) b h1 e) (fun e => by have := (ho93.blk b h1).2.1; omega)
        have a116 : ∀ b', some b' = v97.ownBlock → b' = b38 → False := fun b' h1 h2 => (hb101 b' h1).elim (fun e => a46 b' e h2) (fun e => by have := hb94.lt; omega)
        have X117 := Ext.thru X90 hx99 (fun b hb => Nat.le_trans o2 (ho92.blk b hb).1.1)
        have ho119 := ho93.but hx99 (fun b h1 _ h2 => hdis b h2 h1.2) (fun b hb => (ho92.blk b hb).2.2)
        have ho120 := ho89.but hx99 (fun b hb _ e => Nat.lt_irrefl _ (Nat.lt_of_lt_of_le (a84 b e) hb)) (fun b hb => (ho92.blk b hb).2.2)
        have hb121 := hb94.but hx99 (fun e => a46 _ e rfl)
        refine .inr (.inr ?_)
        exact (kept_cons (.inr ⟨_, _, _, rfl, rfl, rfl, (RV.of (by intro _ _ h; cases h) (.inl rfl) (fun _ xd => HV.ld rfl va2 (rdc_ext xd (at_cell_add hb121 rfl))))⟩) (kept_cons (.inr ⟨_, _, _, rfl, rfl, rfl, (RV.of (by intro _ _ h; cases h) (.inl rfl) (fun _ xd => HV.fa fl68_1 rfl))⟩) (kept_cons (.inr ⟨_, _, _, rfl, rfl, rfl, (RV.of (by intro _ _ h; cases h) (.inl rfl) (fun _ xd => HV.mv rfl))⟩) (kept_cons (.inl rfl) (kept_cons (.inl rfl) (kept_cons (.inl rfl) kept_nil))))))
      · -- 4 first
        have X122 := Ext.refl H87
        rintro v123 H124 ⟨hx125, ho126, hb127⟩
        have ho128 := ho126.narrow (ok' := fun b => H.bd ≤ b ∧ some b = v123.ownBlock) kI_flat (fun b q => ⟨(hb127 b q).elim (fun e => (ho92.blk b e).1.1) (fun e => Nat.le_trans X90.bd e), q⟩)
        have d129 : ∀ b, some b = vb.ownBlock → some b = v123.ownBlock → False := fun b h1 h2 => (hb127 b h2).elim (fun e => (fun b h1 h2 => hdis b h2 h1) b h1 e) (fun e => by have := (ho93.blk b h1).2.1; omega)
        have a130 : ∀ b', some b' = v123.ownBlock → b' = b38 → False := fun b' h1 h2 => (hb127 b' h1).elim (fun e => a46 b' e h2) (fun e => by have := hb94.lt; omega)
        have X131 := Ext.thru X90 hx125 (fun b hb => Nat.le_trans o2 (ho92.blk b hb).1.1)
        have ho134 := ho93.but hx125 (fun b h1 _ h2 => hdis b h2 h1.2) (fun b hb => (ho92.blk b hb).2.2)
        have ho135 := ho89.but hx125 (fun b hb _ e => Nat.lt_irrefl _ (Nat.lt_of_lt_of_le (a84 b e) hb)) (fun b hb => (ho92.blk b hb).2.2)
        have hb136 := hb94.but hx125 (fun e => a46 _ e rfl)
        have X137 := Ext.refl H124
        have y138 := hb136.lt
        have o139 := X131.bd
        have o140 := X137.bd
        have a141 := ho128.ltb
        have a142 := ho134.ltb
        have a143 := ho135.ltb
        refine Dr.eff 8 _ _ rfl (by intro d h; cases h; exact ⟨rfl, rfl⟩) rfl rfl rfl (EC.of (by intro _ _ h; cases h) (.inl rfl) (WV.bsK (K := kI) (l := ([z28.2] : List Int)) (css := [[.int .i64 z28.2]]) sl24 rfl rfl (by first | rfl | (simp [Instr.fill, Value.cells, kI, kB, kU, kS, Kd.sc]; done) | (simp [Instr.fill, Value.cells, kI, kB, kU, kS, Kd.sc, rng1, rng2, rng3, rng4, kP])) rfl (segs_cons rfl segs_nil))) (fun v H' h => .inl (h.1)) ?_
        rintro v144 H145 ⟨hx146, ho147⟩
        have X148 := Ext.trans X131 hx146
        have X149 := Ext.trans X137 hx146
        have ho150 := ho128.ext hx146
        have ho151 := ho134.ext hx146
        have ho152 := ho135.ext hx146
        have hb153 := hb136.ext hx146
        have X155 := Ext.refl H145
        refine Dr.eff 9 _ _ rfl (by intro d h; cases h; exact ⟨rfl, rfl⟩) rfl rfl rfl (EC.of (by intro _ _ h; cases h) (.inl rfl) (WV.apk sl24 rfl rfl ho151 ho147.rd (by simp; omega) (by simp; omega) (fun b hb _ e => Nat.lt_irrefl _ (Nat.lt_of_lt_of_le (a142 b e) hb)))) (fun v H' h => .inr (.inl rfl)) ?_
        rintro v156 H157 ⟨hx158, ho159, hb160⟩
        have ho161 := ho159.narrow (ok' := fun b => H.bd ≤ b ∧ some b = v156.ownBlock) kI_flat (fun b q => ⟨(hb160 b q).elim (fun e => (ho151.blk b e).1.1) (fun e => Nat.le_trans X148.bd e), q⟩)
        have d162 : ∀ b, some b = v123.ownBlock → some b = v156.ownBlock → False := fun b h1 h2 => (hb160 b h2).elim (fun e => (fun b h1 h2 => d129 b h2 h1) b h1 e) (fun e => by have := (ho150.blk b h1).2.1; omega)
        have a163 : ∀ b', some b' = v156.ownBlock → b' = b38 → False := fun b' h1 h2 => (hb160 b' h1).elim (fun e => a47 b' e h2) (fun e => by have := hb153.lt; omega)
        have X164 := Ext.thru X148 hx158 (fun b hb => Nat.le_trans o2 (ho151.blk b hb).1.1)
        have ho167 := ho150.but hx158 (fun b h1 _ h2 => (fun b h1 h2 => d129 b h2 h1) b h1.2 h2) (fun b hb => (ho151.blk b hb).2.2)
        have ho168 := ho152.but hx158 (fun b hb _ e => Nat.lt_irrefl _ (Nat.lt_of_lt_of_le (a85 b e) hb)) (fun b hb => (ho151.blk b hb).2.2)
        have ho169 := ho147.but hx158 (fun b hb _ e => Nat.lt_irrefl _ (Nat.lt_of_lt_of_le (a142 b e) hb)) (fun b hb => (ho151.blk b hb).2.2)
        have hb170 := hb153.but hx158 (fun e => a47 _ e rfl)
        refine Dr.eff 10 _ _ rfl (by intro d h; cases h; exact ⟨rfl, rfl⟩) rfl rfl rfl (EC.of (by intro _ _ h; cases h) (.inl rfl) (WV.ofHV (HV.as rfl))) (fun v H' h => .inl (h.2 ▸ Ext.refl _)) ?_
        rintro u_ h_ ⟨e1_, e2_⟩
        rw [e1_, e2_]
        clear e1_ e2_ u_ h_
        refine Dr.eff 11 _ _ rfl (by intro d h; cases h; exact ⟨rfl, rfl⟩) rfl rfl rfl (EC.of (by intro _ _ h; cases h) (.inl rfl) (WV.ofHV (HV.as rfl))) (fun v H' h => .inl (h.2 ▸ Ext.refl _)) ?_
        rintro u_ h_ ⟨e1_, e2_⟩
        rw [e1_, e2_]
        clear e1_ e2_ u_ h_
        refine Dr.fin rfl ?_
        refine nrm_blk (nrm_and ?_)
        refine AW.reg ?_
        refine AL.val rfl (.inl rfl) (HV.add rfl rfl (by omega)) ?_
        refine AL.val rfl (.inl rfl) (HV.mv rfl) ?_
        refine AL.nil ?_
        refine nrm_and ?_
        exact ⟨(i + 1, v123, (ka ++ (([z28.1] : List Int) : List Int)), v156, (kb ++ (([z28.2] : List Int) : List Int))), ⟨X164, by omega, by rw [map_snoc (f := Prod.fst) hz30, hka], by rw [map_snoc (f := Prod.snd) hz30, hkb], by simp [hla], by simp [hlb], d162, ho167, ho161, trivial⟩, by first | omega | (dsimp only; omega), ⟨rfl, rfl, rfl, rfl, rfl, rfl, rfl, trivial⟩⟩
      · -- 8 first
        have X171 := Ext.refl H87
        have y172 := hb94.lt
        have o173 := X90.bd
        have o174 := X91.bd
        have o175 := X171.bd
        have a176 := ho92.ltb
        have a177 := ho93.ltb
        have a178 := ho89.ltb
        rintro v179 H180 ⟨hx181, ho182⟩
        have X183 := Ext.trans X90 hx181
        have X184 := Ext.trans X91 hx181
        have X185 := Ext.trans X171 hx181
        have ho186 := ho92.ext hx181
        have ho187 := ho93.ext hx181
        have ho188 := ho89.ext hx181
        have hb189 := hb94.ext hx181
        have X191 := Ext.refl H180
        refine Dr.eff 4 _ _ rfl (by intro d h; cases h; exact ⟨rfl, rfl⟩) rfl rfl rfl (EC.of (by intro _ _ h; cases h) (.inl rfl) (WV.apk sl24 rfl rfl ho186 ho188.rd (by simp; omega) (by simp; omega) (fun b hb _ e => Nat.lt_irrefl _ (Nat.lt_of_lt_of_le (a84 b e) hb)))) ?_ ?_
        · -- kept
          rintro v192 H193 ⟨hx194, ho195, hb196⟩
          have ho197 := ho195.narrow (ok' := fun b => H.bd ≤ b ∧ some b = v192.ownBlock) kI_flat (fun b q => ⟨(hb196 b q).elim (fun e => (ho186.blk b e).1.1) (fun e => Nat.le_trans X183.bd e), q⟩)
          have d198 : ∀ b, some b = vb.ownBlock → some b = v192.ownBlock → False := fun b h1 h2 => (hb196 b h2).elim (fun e => (fun b h1 h2 => hdis b h2 h1) b h1 e) (fun e => by have := (ho187.blk b h1).2.1; omega)
          have a199 : ∀ b', some b' = v192.ownBlock → b' = b38 → False := fun b' h1 h2 => (hb196 b' h1).elim (fun e => a46 b' e h2) (fun e => by have := hb189.lt; omega)
          have X200 := Ext.thru X183 hx194 (fun b hb => Nat.le_trans o2 (ho186.blk b hb).1.1)
          have ho204 := ho187.but hx194 (fun b h1 _ h2 => hdis b h2 h1.2) (fun b hb => (ho186.blk b hb).2.2)
          have ho205 := ho188.but hx194 (fun b hb _ e => Nat.lt_irrefl _ (Nat.lt_of_lt_of_le (a84 b e) hb)) (fun b hb => (ho186.blk b hb).2.2)
          have ho206 := ho182.but hx194 (fun b hb _ e => Nat.lt_irrefl _ (Nat.lt_of_lt_of_le (a176 b e) hb)) (fun b hb => (ho186.blk b hb).2.2)
          have hb207 := hb189.but hx194 (fun e => a46 _ e rfl)
          refine .inr (.inr ?_)
          exact (kept_cons (.inr ⟨_, _, _, rfl, rfl, rfl, (RV.of (by intro _ _ h; cases h) (.inl rfl) (fun _ xd => HV.ld rfl va2 (rdc_ext xd (at_cell_add hb207 rfl))))⟩) (kept_cons (.inr ⟨_, _, _, rfl, rfl, rfl, (RV.of (by intro _ _ h; cases h) (.inl rfl) (fun _ xd => HV.fa fl68_1 rfl))⟩) (kept_cons (.inr ⟨_, _, _, rfl, rfl, rfl, (RV.of (by intro _ _ h; cases h) (.inl rfl) (fun _ xd => HV.mv rfl))⟩) (kept_cons (.inl rfl) (kept_cons (.inl rfl) (kept_cons (.inl rfl) kept_nil))))))
        rintro v192 H193 ⟨hx194, ho195, hb196⟩
        have ho197 := ho195.narrow (ok' := fun b => H.bd ≤ b ∧ some b = v192.ownBlock) kI_flat (fun b q => ⟨(hb196 b q).elim (fun e => (ho186.blk b e).1.1) (fun e => Nat.le_trans X183.bd e), q⟩)
        have d208 : ∀ b, some b = vb.ownBlock → some b = v192.ownBlock → False := fun b h1 h2 => (hb196 b h2).elim (fun e => (fun b h1 h2 => hdis b h2 h1) b h1 e) (fun e => by have := (ho187.blk b h1).2.1; omega)
        have a209 : ∀ b', some b' = v192.ownBlock → b' = b38 → False := fun b' h1 h2 => (hb196 b' h1).elim (fun e => a46 b' e h2) (fun e => by have := hb189.lt; omega)
        have X210 := Ext.thru X183 hx194 (fun b hb => Nat.le_trans o2 (ho186.blk b hb).1.1)
        have ho214 := ho187.but hx194 (fun b h1 _ h2 => hdis b h2 h1.2) (fun b hb => (ho186.blk b hb).2.2)
        have ho215 := ho188.but hx194 (fun b hb _ e => Nat.lt_irrefl _ (Nat.lt_of_lt_of_le (a84 b e) hb)) (fun b hb => (ho186.blk b hb).2.2)
        have ho216 := ho182.but hx194 (fun b hb _ e => Nat.lt_irrefl _ (Nat.lt_of_lt_of_le (a176 b e) hb)) (fun b hb => (ho186.blk b hb).2.2)
        have hb217 := hb189.but hx194 (fun e => a46 _ e rfl)
        have X218 := Ext.refl H193
        refine Dr.eff 9 _ _ rfl (by intro d h; cases h; exact ⟨rfl, rfl⟩) rfl rfl rfl (EC.of (by intro _ _ h; cases h) (.inl rfl) (WV.apk sl24 rfl rfl ho214 ho216.rd (by simp; omega) (by simp; omega) (fun b hb _ e => Nat.lt_irrefl _ (Nat.lt_of_lt_of_le (a177 b e) hb)))) (fun v H' h => .inr (.inl rfl)) ?_
        rintro v219 H220 ⟨hx221, ho222, hb223⟩
        have ho224 := ho222.narrow (ok' := fun b => H.bd ≤ b ∧ some b = v219.ownBlock) kI_flat (fun b q => ⟨(hb223 b q).elim (fun e => (ho214.blk b e).1.1) (fun e => Nat.le_trans X210.bd e), q⟩)
        have d225 : ∀ b, some b = v192.ownBlock → some b = v219.ownBlock → False := fun b h1 h2 => (hb223 b h2).elim (fun e => (fun b h1 h2 => d208 b h2 h1) b h1 e) (fun e => by have := (ho197.blk b h1).2.1; omega)
        have a226 : ∀ b', some b' = v219.ownBlock → b' = b38 → False := fun b' h1 h2 => (hb223 b' h1).elim (fun e => a47 b' e h2) (fun e => by have := hb217.lt; omega)
        have X227 := Ext.thru X210 hx221 (fun b hb => Nat.le_trans o2 (ho214.blk b hb).1.1)
        have ho229 := ho197.but hx221 (fun b h1 _ h2 => (fun b h1 h2 => d208 b h2 h1) b h1.2 h2) (fun b hb => (ho214.blk b hb).2.2)
        have ho230 := ho215.but hx221 (fun b hb _ e => Nat.lt_irrefl _ (Nat.lt_of_lt_of_le (a85 b e) hb)) (fun b hb => (ho214.blk b hb).2.2)
        have ho231 := ho216.but hx221 (fun b hb _ e => Nat.lt_irrefl _ (Nat.lt_of_lt_of_le (a177 b e) hb)) (fun b hb => (ho214.blk b hb).2.2)
        have hb232 := hb217.but hx221 (fun e => a47 _ e rfl)
        refine Dr.eff 10 _ _ rfl (by intro d h; cases h; exact ⟨rfl, rfl⟩) rfl rfl rfl (EC.of (by intro _ _ h; cases h) (.inl rfl) (WV.ofHV (HV.as rfl))) (fun v H' h => .inl (h.2 ▸ Ext.refl _)) ?_
        rintro u_ h_ ⟨e1_, e2_⟩
        rw [e1_, e2_]
        clear e1_ e2_ u_ h_
        refine Dr.eff 11 _ _ rfl (by intro d h; cases h; exact ⟨rfl, rfl⟩) rfl rfl rfl (EC.of (by intro _ _ h; cases h) (.inl rfl) (WV.ofHV (HV.as rfl))) (fun v H' h => .inl (h.2 ▸ Ext.refl _)) ?_
        rintro u_ h_ ⟨e1_, e2_⟩
        rw [e1_, e2_]
        clear e1_ e2_ u_ h_
        refine Dr.fin rfl ?_
        refine nrm_blk (nrm_and ?_)
        refine AW.reg ?_
        refine AL.val rfl (.inl rfl) (HV.add rfl rfl (by omega)) ?_
        refine AL.val rfl (.inl rfl) (HV.mv rfl) ?_
        refine AL.nil ?_
        refine nrm_and ?_
        exact ⟨(i + 1, v192, (ka ++ (([z28.1] : List Int) : List Int)), v219, (kb ++ (([z28.2] : List Int) : List Int))), ⟨X227, by omega, by rw [map_snoc (f := Prod.fst) hz30, hka], by rw [map_snoc (f := Prod.snd) hz30, hkb], by simp [hla], by simp [hlb], d225, ho229, ho224, trivial⟩, by first | omega | (dsimp only; omega), ⟨rfl, rfl, rfl, rfl, rfl, rfl, rfl, trivial⟩⟩
    · -- 8 first
      have X233 := Ext.refl H52
      have y234 := hb59.lt
      have o235 := X55.bd
      have o236 := X233.bd
      have a237 := ho57.ltb
      have a238 := ho58.ltb
      rintro v239 H240 ⟨hx241, ho242⟩
      have X243 := Ext.trans X55 hx241
      have X244 := Ext.trans X233 hx241
      have ho245 := ho57.ext hx241
      have ho246 := ho58.ext hx241
      have hb247 := hb59.ext hx241
      have X249 := Ext.refl H240
      have y250 := hb247.lt
      have o251 := X243.bd
      have o252 := X244.bd
      have o253 := X249.bd
      have a254 := ho245.ltb
      have a255 := ho246.ltb
      have a256 := ho242.ltb
      refine Dr.eff 3 _ _ rfl (by intro d h; cases h; exact ⟨rfl, rfl⟩) rfl rfl rfl (EC.of (by intro _ _ h; cases h) (.inl rfl) (WV.bsK (K := kI) (l := ([z28.1] : List Int)) (css := [[.int .i64 z28.1]]) sl24 rfl rfl (by first | rfl | (simp [Instr.fill, Value.cells, kI, kB, kU, kS, Kd.sc]; done) | (simp [Instr.fill, Value.cells, kI, kB, kU, kS, Kd.sc, rng1, rng2, rng3, rng4, kP])) rfl (segs_cons rfl segs_nil))) (fun v H' h => .inl (h.1)) ?_
      rintro v257 H258 ⟨hx259, ho260⟩
      have X261 := Ext.trans X243 hx259
      have X262 := Ext.trans X244 hx259
      have X263 := Ext.trans X249 hx259
      have ho264 := ho245.ext hx259
      have ho265 := ho246.ext hx259
      have ho266 := ho242.ext hx259
      have hb267 := hb247.ext hx259
      have X269 := Ext.refl H258
      refine Dr.eff 4 _ _ rfl (by intro d h; cases h; exact ⟨rfl, rfl⟩) rfl rfl rfl (EC.of (by intro _ _ h; cases h) (.inl rfl) (WV.apk sl24 rfl rfl ho264 ho260.rd (by simp; omega) (by simp; omega) (fun b hb _ e => Nat.lt_irrefl _ (Nat.lt_of_lt_of_le (a254 b e) hb)))) ?_ ?_
      · -- kept
        rintro v270 H271 ⟨hx272, ho273, hb274⟩
        have ho275 := ho273.narrow (ok' := fun b => H.bd ≤ b ∧ some b = v270.ownBlock) kI_flat (fun b q => ⟨(hb274 b q).elim (fun e => (ho264.blk b e).1.1) (fun e => Nat.le_trans X261.bd e), q⟩)
        have d276 : ∀ b, some b = vb.ownBlock → some b = v270.ownBlock → False := fun b h1 h2 => (hb274 b h2).elim (fun e => (fun b h1 h2 => hdis b h2 h1) b h1 e) (fun e => by have := (ho265.blk b h1).2.1; omega)
        have a277 : ∀ b', some b' = v270.ownBlock → b' = b38 → False := fun b' h1 h2 => (hb274 b' h1).elim (fun e => a46 b' e h2) (fun e => by have := hb267.lt; omega)
        have X278 := Ext.thru X261 hx272 (fun b hb => Nat.le_trans o2 (ho264.blk b hb).1.1)
        have ho282 := ho265.but hx272 (fun b h1 _ h2 => hdis b h2 h1.2) (fun b hb => (ho264.blk b hb).2.2)
        have ho283 := ho266.but hx272 (fun b hb _ e => Nat.lt_irrefl _ (Nat.lt_of_lt_of_le (a237 b e) hb)) (fun b hb => (ho264.blk b hb).2.2)
        have ho284 := ho260.but hx272 (fun b hb _ e => Nat.lt_irrefl _ (Nat.lt_of_lt_of_le (a254 b e) hb)) (fun b hb => (ho264.blk b hb).2.2)
        have hb285 := hb267.but hx272 (fun e => a46 _ e rfl)
        refine .inr (.inr ?_)
        exact (kept_cons (.inr ⟨_, _, _, rfl, rfl, rfl, (RV.of (by intro _ _ h; cases h) (.inl rfl) (fun _ xd => HV.ld rfl va2 (rdc_ext xd (at_cell_add hb285 rfl))))⟩) (kept_cons (.inr ⟨_, _, _, rfl, rfl, rfl, (RV.of (by intro _ _ h; cases h) (.inl rfl) (fun _ xd => HV.fa fl68_1 rfl))⟩) (kept_cons (.inr ⟨_, _, _, rfl, rfl, rfl, (RV.of (by intro _ _ h; cases h) (.inl rfl) (fun _ xd => HV.mv rfl))⟩) (kept_cons (.inl rfl) (kept_cons (.inl rfl) (kept_cons (.inl rfl) kept_nil))))))
      rintro v270 H271 ⟨hx272, ho273, hb274⟩
      have ho275 := ho273.narrow (ok' := fun b => H.bd ≤ b ∧ some b = v270.ownBlock) kI_flat (fun b q => ⟨(hb274 b q).elim (fun e => (ho264.blk b e).1.1) (fun e => Nat.le_trans X261.bd e), q⟩)
      have d286 : ∀ b, some b = vb.ownBlock → some b = v270.ownBlock → False := fun b h1 h2 => (hb274 b h2).elim (fun e => (fun b h1 h2 => hdis b h2 h1) b h1 e) (fun e => by have := (ho265.blk b h1).2.1; omega)
      have a287 : ∀ b', some b' = v270.ownBlock → b' = b38 → False := fun b' h1 h2 => (hb274 b' h1).elim (fun e => a46 b' e h2) (fun e => by have := hb267.lt; omega)
      have X288 := Ext.thru X261 hx272 (fun b hb => Nat.le_trans o2 (ho264.blk b hb).1.1)
      have ho292 := ho265.but hx272 (fun b h1 _ h2 => hdis b h2 h1.2) (fun b hb => (ho264.blk b hb).2.2)
      have ho293 := ho266.but hx272 (fun b hb _ e => Nat.lt_irrefl _ (Nat.lt_of_lt_of_le (a237 b e) hb)) (fun b hb => (ho264.blk b hb).2.2)
      have ho294 := ho260.but hx272 (fun b hb _ e => Nat.lt_irrefl _ (Nat.lt_of_lt_of_le (a254 b e) hb)) (fun b hb => (ho264.blk b hb).2.2)
      have hb295 := hb267.but hx272 (fun e => a46 _ e rfl)
      have X296 := Ext.refl H271
      refine Dr.eff 9 _ _ rfl (by intro d h; cases h; exact ⟨rfl, rfl⟩) rfl rfl rfl (EC.of (by intro _ _ h; cases h) (.inl rfl) (WV.apk sl24 rfl rfl ho292 ho293.rd (by simp; omega) (by simp; omega) (fun b hb _ e => Nat.lt_irrefl _ (Nat.lt_of_lt_of_le (a238 b e) hb)))) (fun v H' h => .inr (.inl rfl)) ?_
      rintro v297 H298 ⟨hx299, ho300, hb301⟩
      have ho302 := ho300.narrow (ok' := fun b => H.bd ≤ b ∧ some b = v297.ownBlock) kI_flat (fun b q => ⟨(hb301 b q).elim (fun e => (ho292.blk b e).1.1) (fun e => Nat.le_trans X288.bd e), q⟩)
      have d303 : ∀ b, some b = v270.ownBlock → some b = v297.ownBlock → False := fun b h1 h2 => (hb301 b h2).elim (fun e => (fun b h1 h2 => d286 b h2 h1) b h1 e) (fun e => by have := (ho275.blk b h1).2.1; omega)
      have a304 : ∀ b', some b' = v297.ownBlock → b' = b38 → False := fun b' h1 h2 => (hb301 b' h1).elim (fun e => a47 b' e h2) (fun e => by have := hb295.lt; omega)
      have X305 := Ext.thru X288 hx299 (fun b hb => Nat.le_trans o2 (ho292.blk b hb).1.1)
      have ho307 := ho275.but hx299 (fun b h1 _ h2 => (fun b h1 h2 => d286 b h2 h1) b h1.2 h2) (fun b hb => (ho292.blk b hb).2.2)
      have ho308 := ho293.but hx299 (fun b hb _ e => Nat.lt_irrefl _ (Nat.lt_of_lt_of_le (a238 b e) hb)) (fun b hb => (ho292.blk b hb).2.2)
      have ho309 := ho294.but hx299 (fun b hb _ e => Nat.lt_irrefl _ (Nat.lt_of_lt_of_le (a255 b e) hb)) (fun b hb => (ho292.blk b hb).2.2)
      have hb310 := hb295.but hx299 (fun e => a47 _ e rfl)
      refine Dr.eff 10 _ _ rfl (by intro d h; cases h; exact ⟨rfl, rfl⟩) rfl rfl rfl (EC.of (by intro _ _ h; cases h) (.inl rfl) (WV.ofHV (HV.as rfl))) (fun v H' h => .inl (h.2 ▸ Ext.refl _)) ?_
      rintro u_ h_ ⟨e1_, e2_⟩
      rw [e1_, e2_]
      clear e1_ e2_ u_ h_
      refine Dr.eff 11 _ _ rfl (by intro d h; cases h; exact ⟨rfl, rfl⟩) rfl rfl rfl (EC.of (by intro _ _ h; cases h) (.inl rfl) (WV.ofHV (HV.as rfl))) (fun v H' h => .inl (h.2 ▸ Ext.refl _)) ?_
      rintro u_ h_ ⟨e1_, e2_⟩
      rw [e1_, e2_]
      clear e1_ e2_ u_ h_
      refine Dr.fin rfl ?_
      refine nrm_blk (nrm_and ?_)
      refine AW.reg ?_
      refine AL.val rfl (.inl rfl) (HV.add rfl rfl (by omega)) ?_
      refine AL.val rfl (.inl rfl) (HV.mv rfl) ?_
      refine AL.nil ?_
      refine nrm_and ?_
      exact ⟨(i + 1, v270, (ka ++ (([z28.1] : List Int) : List Int)), v297, (kb ++ (([z28.2] : List Int) : List Int))), ⟨X305, by omega, by rw [map_snoc (f := Prod.fst) hz30, hka], by rw [map_snoc (f := Prod.snd) hz30, hkb], by simp [hla], by simp [hlb], d303, ho307, ho302, trivial⟩, by first | omega | (dsimp only; omega), ⟨rfl, rfl, rfl, rfl, rfl, rfl, rfl, trivial⟩⟩
  · -- else
    refine AW.exit ?_
    refine ex_and (ex_and (ex_blk ?_))
    refine nrm_and ?_
    refine AW.rs ?_
    refine AL.val rfl (.inl rfl) (HV.mv rfl) ?_
    refine AL.val rfl (.inl rfl) (HV.mv rfl) ?_
    refine AL.val rfl (.inl rfl) (HV.as rfl) ?_
    refine AL.val rfl (.inl rfl) (HV.as rfl) ?_
    refine AL.nx ?_
    refine AW.ret ?_
    refine post_two rfl rfl rfl ?_ (.inr rfl)
    exact ⟨⟨_, _, rfl, by obtain rfl : i = l.length := (by omega); subst hka; rw [List.take_length] at *; exact hoA.rd.okk (fun _ _ _ => trivial), by obtain rfl : i = l.length := (by omega); subst hkb; rw [List.take_length] at *; exact hoB.rd.okk (fun _ _ _ => trivial)⟩, X25⟩

set_option maxRecDepth 100000 in
theorem implVS_ok {v : Value} {l : List (Int × Int)} {ok : Nat → Prop} (hr : RdK (kP kI kI) W H ok v l) (p : Int) (hl : l.length ≤ 1048576) : ACalls Try.prog W 62 #[.int .i64 p, v] H (fun r H' => r = .bool (decide (vS p l)) ∧ Ext H H') := by
  refine ACalls.of (args := [.int .i64 p, v]) Try.func62 rfl rfl ?_
  have X0 := Ext.refl H
  have hm1 := hr.max
  refine AW.rs ?_
  refine AL.val rfl (.inl rfl) (HV.as rfl) ?_
  refine AL.nx ?_
  refine AW.rs ?_
  refine AL.val rfl (.inl rfl) (HV.mv rfl) ?_
  refine AL.w rfl (.inl rfl) (WV.call fn93 rfl (ptsOf_ok hr (by omega))) ?_
  rintro _ H4 ⟨⟨u2, v3, rfl, hr6, hr7⟩, hx5⟩
  have X8 := Ext.trans X0 hx5
  have X9 := Ext.refl H4
  refine AL.val rfl (.inl rfl) (HV.mv rfl) ?_
  refine AL.val rfl (.inl rfl) (HV.ex rfl rfl) ?_
  refine AL.val rfl (.inl rfl) (HV.ex rfl rfl) ?_
  refine AL.val rfl (.inl rfl) (HV.as rfl) ?_
  refine AL.val rfl (.inl rfl) (HV.as rfl) ?_
  refine AL.nx ?_
  refine AW.rs ?_
  refine AL.val rfl (.inl rfl) (HV.mv rfl) ?_
  refine AL.val rfl (.inl rfl) (HV.mv rfl) ?_
  refine AL.w rfl (.inl rfl) (WV.call fn90 rfl (areEl_ok p hr7)) ?_
  rintro _ H10 ⟨rfl, hx11⟩
  have X12 := Ext.trans X8 hx11
  have X13 := Ext.trans X9 hx11
  refine AL.val rfl (.inl rfl) (HV.mv rfl) ?_
  by_cases c14 : primeI p ∧ elems p (l.map Prod.snd)
  · -- true
    have c14_ : decide (primeI p ∧ elems p (l.map Prod.snd)) = true := decide_eq_true c14
    rw [c14_]
    refine AL.val rfl (.inr ⟨_, _, _, rfl, rfl, rfl⟩) (HV.mv rfl) ?_
    refine AL.val rfl (.inr ⟨_, _, _, rfl, rfl, rfl⟩) (HV.mv rfl) ?_
    refine AL.w rfl (.inr ⟨_, _, _, rfl, rfl, rfl⟩) (WV.call fn97 rfl (arePts_ok (hr6.ext X13) (by assumption : primeI p ∧ elems p _).1.1)) ?_
    rintro _ H15 ⟨rfl, hx16⟩
    have X17 := Ext.trans X12 hx16
    have X18 := Ext.trans X13 hx16
    refine AL.val rfl (.inl rfl) (HV.pickT rfl rfl) ?_
    refine AL.val rfl (.inl rfl) (HV.as rfl) ?_
    refine AL.nx ?_
    refine AW.ret ?_
    refine post_one rfl rfl ?_ (.inr rfl)
    have hc := (by assumption : primeI p ∧ elems p _); exact ⟨congrArg Value.bool (decide_eq_decide.2 ⟨fun h => ⟨hc.1, hc.2, h⟩, fun h => h.2.2⟩), X17⟩
  · -- false
    have c14_ : decide (primeI p ∧ elems p (l.map Prod.snd)) = false := decide_eq_false c14
    rw [c14_]
    refine AL.off rfl rfl (by decide) rfl ?_
    refine AL.off rfl rfl (by decide) rfl ?_
    refine AL.off rfl rfl (by decide) rfl ?_
    refine AL.val rfl (.inl rfl) (HV.pickF rfl rfl) ?_
    refine AL.val rfl (.inl rfl) (HV.as rfl) ?_
    refine AL.nx ?_
    refine AW.ret ?_
    refine post_one rfl rfl ?_ (.inr rfl)
    exact ⟨dec_f (fun h => c14 ⟨h.1, h.2.1⟩), X12⟩

set_option maxRecDepth 100000 in
theorem specVS_ok {v : Value} {l : List (Int × Int)} {ok : Nat → Prop} (hr : RdK (kP kI kI) W H ok v l) (p : Int) (hl : l.length ≤ 1048576) : ACalls Try.prog W 67 #[.int .i64 p, v] H (fun r H' => r = .bool (decide (vS p l)) ∧ Ext H H') := by
  refine ACalls.of (args := [.int .i64 p, v]) Try.func67 rfl rfl ?_
  have X0 := Ext.refl H
  have hm1 := hr.max
  refine AW.rs ?_
  refine AL.val rfl (.inl rfl) (HV.as rfl) ?_
  refine AL.nx ?_
  refine AW.rs ?_
  refine AL.val rfl (.inl rfl) (HV.mv rfl) ?_
  refine AL.w rfl (.inl rfl) (WV.call fn105 rfl (l05Prime_ok (W := W) p)) ?_
  rintro _ H2 ⟨rfl, hx3⟩
  have X4 := Ext.trans X0 hx3
  refine AL.val rfl (.inl rfl) (HV.mv rfl) ?_
  by_cases c5 : primeI p
  · -- true
    have c5_ : decide (primeI p) = true := decide_eq_true c5
    rw [c5_]
    refine AL.val rfl (.inr ⟨_, _, _, rfl, rfl, rfl⟩) (HV.mv rfl) ?_
    refine AL.val rfl (.inr ⟨_, _, _, rfl, rfl, rfl⟩) (HV.mv rfl) ?_
    refine AL.w rfl (.inr ⟨_, _, _, rfl, rfl, rfl⟩) (WV.call fn70 rfl (places_ok (hr.ext X4) (by omega))) ?_
    rintro v6 H7 ⟨hx8, ho9⟩
    have X11 := Ext.trans X4 hx8
    have X12 := Ext.refl H7
    have hr10 : RdK kI W H7 _ v6 (l.map Prod.fst) := ho9.rd
    refine AL.w rfl (.inr ⟨_, _, _, rfl, rfl, rfl⟩) (WV.call fn96 rfl (l05Pts_ok hr10 (by assumption : primeI p).1)) ?_
    rintro _ H13 ⟨rfl, hx14⟩
    have X15 := Ext.trans X11 hx14
    have X16 := Ext.trans X12 hx14
    refine AL.val rfl (.inl rfl) (HV.pickT rfl rfl) ?_
    refine AL.val rfl (.inl rfl) (HV.mv rfl) ?_
    by_cases c17 : ptsI p (l.map Prod.fst)
    · -- true
      have c17_ : decide (ptsI p (l.map Prod.fst)) = true := decide_eq_true c17
      rw [c17_]
      refine AL.val rfl (.inr ⟨_, _, _, rfl, rfl, rfl⟩) (HV.mv rfl) ?_
      refine AL.val rfl (.inr ⟨_, _, _, rfl, rfl, rfl⟩) (HV.mv rfl) ?_
      refine AL.w rfl (.inr ⟨_, _, _, rfl, rfl, rfl⟩) (WV.call fn71 rfl (values_ok (hr.ext X15) (by omega))) ?_
      rintro v18 H19 ⟨hx20, ho21⟩
      have X23 := Ext.trans X15 hx20
      have X24 := Ext.trans X16 hx20
      have X25 := Ext.refl H19
      have hr22 : RdK kI W H19 _ v18 (l.map Prod.snd) := ho21.rd
      refine AL.w rfl (.inr ⟨_, _, _, rfl, rfl, rfl⟩) (WV.call fn86 rfl (resid_ok hr22 (by assumption : primeI p).1)) ?_
      rintro _ H26 ⟨rfl, hx27⟩
      have X28 := Ext.trans X23 hx27
      have X29 := Ext.trans X24 hx27
      have X30 := Ext.trans X25 hx27
      refine AL.val rfl (.inl rfl) (HV.pickT rfl rfl) ?_
      refine AL.val rfl (.inl rfl) (HV.as rfl) ?_
      refine AL.nx ?_
      refine AW.ret ?_
      refine post_one rfl rfl ?_ (.inr rfl)
      exact ⟨congrArg Value.bool (decide_eq_decide.2 ⟨fun h => ⟨by assumption, h, by assumption⟩, fun h => h.2.1⟩), X28⟩
    · -- false
      have c17_ : decide (ptsI p (l.map Prod.fst)) = false := decide_eq_false c17
      rw [c17_]
      refine AL.off rfl rfl (by decide) rfl ?_
      refine AL.off rfl rfl (by decide) rfl ?_
      refine AL.off rfl rfl (by decide) rfl ?_
      refine AL.off rfl rfl (by decide) rfl ?_
      refine AL.val rfl (.inl rfl) (HV.pickF rfl rfl) ?_
      refine AL.val rfl (.inl rfl) (HV.as rfl) ?_
      refine AL.nx ?_
      refine AW.ret ?_
      refine post_one rfl rfl ?_ (.inr rfl)
      exact ⟨dec_f (fun h => by first | exact c17 h.1 | exact c17 h.2.2), X15⟩
  · -- false
    have c5_ : decide (primeI p) = false := decide_eq_false c5
    rw [c5_]
    refine AL.off rfl rfl (by decide) rfl ?_
    refine AL.off rfl rfl (by decide) rfl ?_
    refine AL.off rfl rfl (by decide) rfl ?_
    refine AL.off rfl rfl (by decide) rfl ?_
    refine AL.val rfl (.inl rfl) (HV.pickF rfl rfl) ?_
    refine AL.val rfl (.inl rfl) (HV.mv rfl) ?_
    refine AL.off rfl rfl (by decide) rfl ?_
    refine AL.off rfl rfl (by decide) rfl ?_
    refine AL.off rfl rfl (by decide) rfl ?_
    refine AL.off rfl rfl (by decide) rfl ?_
    refine AL.val rfl (.inl rfl) (HV.pickF rfl rfl) ?_
    refine AL.val rfl (.inl rfl) (HV.as rfl) ?_
    refine AL.nx ?_
    refine AW.ret ?_
    refine post_one rfl rfl ?_ (.inr rfl)
    exact ⟨dec_f (fun h => by first | exact c5 h.1 | exact c5 h.2.2), X4⟩

set_option maxRecDepth 100000 in
theorem validCu_ok {v : Value} {l : List Int} {ok : Nat → Prop} {p : Int} (hr : RdK kI W H ok v l) : ACalls Try.prog W 59 #[.int .i64 p, v] H (fun r H' => r = .bool (decide (primeI p ∧ curveI p l)) ∧ Ext H H') := by
  refine ACalls.of (args := [.int .i64 p, v]) Try.func59 rfl rfl ?_
  have X0 := Ext.refl H
  have hm1 := hr.max
  refine AW.rs ?_
  refine AL.val rfl (.inl rfl) (HV.as rfl) ?_
  refine AL.nx ?_
  refine AW.rs ?_
  refine AL.val rfl (.inl rfl) (HV.mv rfl) ?_
  refine AL.val rfl (.inl rfl) (HV.mv rfl) ?_
  refine AL.w rfl (.inl rfl) (WV.call fn90 rfl (areEl_ok p hr)) ?_
  rintro _ H2 ⟨rfl, hx3⟩
  have X4 := Ext.trans X0 hx3
  refine AL.val rfl (.inl rfl) (HV.mv rfl) ?_
  by_cases c5 : primeI p ∧ elems p l
  · -- true
    have c5_ : decide (primeI p ∧ elems p l) = true := decide_eq_true c5
    rw [c5_]
    refine AL.val rfl (.inr ⟨_, _, _, rfl, rfl, rfl⟩) (HV.mv rfl) ?_
    refine AL.val rfl (.inr ⟨_, _, _, rfl, rfl, rfl⟩) (HV.len Try.underlying24 rfl hr.isSl) ?_
    refine AL.val rfl (.inr ⟨_, _, _, rfl, rfl, rfl⟩) (HV.lei rfl rfl) ?_
    refine AL.val rfl (.inl rfl) (HV.pickT rfl rfl) ?_
    refine AL.val rfl (.inl rfl) (HV.mv rfl) ?_
    by_cases c6 : (l.length : Int) ≤ 7
    · -- true
      have c6_ : decide ((l.length : Int) ≤ 7) = true := decide_eq_true c6
      rw [c6_]
      refine AL.val rfl (.inr ⟨_, _, _, rfl, rfl, rfl⟩) (HV.mv rfl) ?_
      refine AL.val rfl (.inr ⟨_, _, _, rfl, rfl, rfl⟩) (HV.len Try.underlying24 rfl hr.isSl) ?_
      refine AL.val rfl (.inr ⟨_, _, _, rfl, rfl, rfl⟩) (HV.eqi rfl rfl) ?_
      refine AL.val rfl (.inr ⟨_, _, _, rfl, rfl, rfl⟩) (HV.mv rfl) ?_
      by_cases c7 : (l.length : Int) = 0
      · -- true
        have c7_ : decide ((l.length : Int) = 0) = true := decide_eq_true c7
        rw [c7_]
        refine AL.off rfl rfl (by decide) rfl ?_
        refine AL.off rfl rfl (by decide) rfl ?_
        refine AL.off rfl rfl (by decide) rfl ?_
        refine AL.off rfl rfl (by decide) rfl ?_
        refine AL.off rfl rfl (by decide) rfl ?_
        refine AL.off rfl rfl (by decide) rfl ?_
        refine AL.off rfl rfl (by decide) rfl ?_
        refine AL.val rfl (.inr ⟨_, _, _, rfl, rfl, rfl⟩) (HV.pickT rfl rfl) ?_
        refine AL.val rfl (.inl rfl) (HV.pickT rfl rfl) ?_
        refine AL.val rfl (.inl rfl) (HV.as rfl) ?_
        refine AL.nx ?_
        refine AW.ret ?_
        refine post_one rfl rfl ?_ (.inr rfl)
        have hE := (by assumption : primeI p ∧ elems p l); exact ⟨dec_t ⟨hE.1, by assumption, hE.2, .inl (by assumption)⟩, X4⟩
      · -- false
        have c7_ : decide ((l.length : Int) = 0) = false := decide_eq_false c7
        rw [c7_]
        refine AL.val rfl (.inr ⟨_, _, _, rfl, rfl, rfl⟩) (HV.mv rfl) ?_
        refine AL.val rfl (.inr ⟨_, _, _, rfl, rfl, rfl⟩) (HV.mv rfl) ?_
        refine AL.val rfl (.inr ⟨_, _, _, rfl, rfl, rfl⟩) (HV.len Try.underlying24 rfl hr.isSl) ?_
        refine AL.val rfl (.inr ⟨_, _, _, rfl, rfl, rfl⟩) (HV.sub rfl rfl (by omega)) ?_
        obtain ⟨p8, z9, cs10, hz11, hK12, hC13, hP14⟩ := RdK.ix (q := (l.length : Int) - 1) hr sl24 (by omega) (by omega)
        obtain rfl : cs10 = [.int .i64 z9] := hK12
        refine AL.val rfl (.inr ⟨_, _, _, rfl, rfl, rfl⟩) (hP14 rfl rfl) ?_
        refine AL.val rfl (.inr ⟨_, _, _, rfl, rfl, rfl⟩) (HV.ld rfl va2 (cells_first (hC13.ext X4) rfl)) ?_
        refine AL.val rfl (.inr ⟨_, _, _, rfl, rfl, rfl⟩) (HV.nei rfl rfl) ?_
        refine AL.val rfl (.inr ⟨_, _, _, rfl, rfl, rfl⟩) (HV.pickF rfl rfl) ?_
        refine AL.val rfl (.inl rfl) (HV.pickT rfl rfl) ?_
        refine AL.val rfl (.inl rfl) (HV.as rfl) ?_
        refine AL.nx ?_
        refine AW.ret ?_
        refine post_one rfl rfl ?_ (.inr rfl)
        have hE := (by assumption : primeI p ∧ elems p l); have g22 : l.getD (l.length - 1) 0 = z9 := gd hz11 (by omega); exact ⟨congrArg Value.bool (decide_eq_decide.2 ⟨fun h => ⟨hE.1, by assumption, hE.2, .inr (by rw [g22]; exact h)⟩, fun h => by have q := h.2.2.2.resolve_left c7; rwa [g22] at q⟩), X4⟩
    · -- false
      have c6_ : decide ((l.length : Int) ≤ 7) = false := decide_eq_false c6
      rw [c6_]
      refine AL.off rfl rfl (by decide) rfl ?_
      refine AL.off rfl rfl (by decide) rfl ?_
      refine AL.off rfl rfl (by decide) rfl ?_
      refine AL.off rfl rfl (by decide) rfl ?_
      refine AL.offu rfl rfl rfl ?_
      refine AL.offu rfl rfl rfl ?_
      refine AL.offu rfl rfl rfl ?_
      refine AL.offu rfl rfl rfl ?_
      refine AL.offu rfl rfl rfl ?_
      refine AL.offu rfl rfl rfl ?_
      refine AL.offu rfl rfl rfl ?_
      refine AL.off rfl rfl (by decide) rfl ?_
      refine AL.val rfl (.inl rfl) (HV.pickF rfl rfl) ?_
      refine AL.val rfl (.inl rfl) (HV.as rfl) ?_
      refine AL.nx ?_
      refine AW.ret ?_
      refine post_one rfl rfl ?_ (.inr rfl)
      exact ⟨dec_f (fun h => by first | exact c6 h.2.1 | exact c6 h.2.2.1 | exact c6 ⟨h.1, h.2.2.1⟩), X4⟩
  · -- false
    have c5_ : decide (primeI p ∧ elems p l) = false := decide_eq_false c5
    rw [c5_]
    refine AL.off rfl rfl (by decide) rfl ?_
    refine AL.off rfl rfl (by decide) rfl ?_
    refine AL.off rfl rfl (by decide) rfl ?_
    refine AL.val rfl (.inl rfl) (HV.pickF rfl rfl) ?_
    refine AL.val rfl (.inl rfl) (HV.mv rfl) ?_
    refine AL.off rfl rfl (by decide) rfl ?_
    refine AL.off rfl rfl (by decide) rfl ?_
    refine AL.off rfl rfl (by decide) rfl ?_
    refine AL.off rfl rfl (by decide) rfl ?_
    refine AL.offu rfl rfl rfl ?_
    refine AL.offu rfl rfl rfl ?_
    refine AL.offu rfl rfl rfl ?_
    refine AL.offu rfl rfl rfl ?_
    refine AL.offu rfl rfl rfl ?_
    refine AL.offu rfl rfl rfl ?_
    refine AL.offu rfl rfl rfl ?_
    refine AL.off rfl rfl (by decide) rfl ?_
    refine AL.val rfl (.inl rfl) (HV.pickF rfl rfl) ?_
    refine AL.val rfl (.inl rfl) (HV.as rfl) ?_
    refine AL.nx ?_
    refine AW.ret ?_
    refine post_one rfl rfl ?_ (.inr rfl)
    exact ⟨dec_f (fun h => by first | exact c5 h.2.1 | exact c5 h.2.2.1 | exact c5 ⟨h.1, h.2.2.1⟩), X4⟩

set_option maxRecDepth 100000 in
theorem l05Cu_ok {v : Value} {l : List Int} {ok : Nat → Prop} {p : Int} (hr : RdK kI W H ok v l) (hp : 2 ≤ p ∧ p ≤ 31) : ACalls Try.prog W 120 #[.int .i64 p, v] H (fun r H' => r = .bool (decide (curveI p l)) ∧ Ext H H') := by
  refine ACalls.of (args := [.int .i64 p, v]) Try.func120 rfl rfl ?_
  have X0 := Ext.refl H
  have hm1 := hr.max
  refine AW.rs ?_
  refine AL.val rfl (.inl rfl) (HV.as rfl) ?_
  refine AL.nx ?_
  refine AW.rs ?_
  refine AL.val rfl (.inl rfl) (HV.mv rfl) ?_
  refine AL.val rfl (.inl rfl) (HV.len Try.underlying24 rfl hr.isSl) ?_
  refine AL.val rfl (.inl rfl) (HV.lei rfl rfl) ?_
  refine AL.val rfl (.inl rfl) (HV.mv rfl) ?_
  by_cases c2 : (l.length : Int) ≤ 7
  · -- true
    have c2_ : decide ((l.length : Int) ≤ 7) = true := decide_eq_true c2
    rw [c2_]
    refine AL.val rfl (.inr ⟨_, _, _, rfl, rfl, rfl⟩) (HV.mv rfl) ?_
    refine AL.val rfl (.inr ⟨_, _, _, rfl, rfl, rfl⟩) (HV.mv rfl) ?_
    refine AL.w rfl (.inr ⟨_, _, _, rfl, rfl, rfl⟩) (WV.call fn86 rfl (resid_ok hr hp)) ?_
    rintro _ H3 ⟨rfl, hx4⟩
    have X5 := Ext.trans X0 hx4
    refine AL.val rfl (.inl rfl) (HV.pickT rfl rfl) ?_
    refine AL.val rfl (.inl rfl) (HV.mv rfl) ?_
    by_cases c6 : elems p l
    · -- true
      have c6_ : decide (elems p l) = true := decide_eq_true c6
      rw [c6_]
      refine AL.val rfl (.inr ⟨_, _, _, rfl, rfl, rfl⟩) (HV.mv rfl) ?_
      refine AL.val rfl (.inr ⟨_, _, _, rfl, rfl, rfl⟩) (HV.len Try.underlying24 rfl hr.isSl) ?_
      refine AL.val rfl (.inr ⟨_, _, _, rfl, rfl, rfl⟩) (HV.eqi rfl rfl) ?_
      refine AL.val rfl (.inr ⟨_, _, _, rfl, rfl, rfl⟩) (HV.mv rfl) ?_
      by_cases c7 : (l.length : Int) = 0
      · -- true
        have c7_ : decide ((l.length : Int) = 0) = true := decide_eq_true c7
        rw [c7_]
        refine AL.off rfl rfl (by decide) rfl ?_
        refine AL.off rfl rfl (by decide) rfl ?_
        refine AL.off rfl rfl (by decide) rfl ?_
        refine AL.off rfl rfl (by decide) rfl ?_
        refine AL.off rfl rfl (by decide) rfl ?_
        refine AL.off rfl rfl (by decide) rfl ?_
        refine AL.off rfl rfl (by decide) rfl ?_
        refine AL.val rfl (.inr ⟨_, _, _, rfl, rfl, rfl⟩) (HV.pickT rfl rfl) ?_
        refine AL.val rfl (.inl rfl) (HV.pickT rfl rfl) ?_
        refine AL.val rfl (.inl rfl) (HV.as rfl) ?_
        refine AL.nx ?_
        refine AW.ret ?_
        refine post_one rfl rfl ?_ (.inr rfl)
        have hE := (by assumption : elems p l); exact ⟨dec_t ⟨by assumption, hE, .inl (by assumption)⟩, X5⟩
      · -- false
        have c7_ : decide ((l.length : Int) = 0) = false := decide_eq_false c7
        rw [c7_]
        refine AL.val rfl (.inr ⟨_, _, _, rfl, rfl, rfl⟩) (HV.mv rfl) ?_
        refine AL.val rfl (.inr ⟨_, _, _, rfl, rfl, rfl⟩) (HV.mv rfl) ?_
        refine AL.val rfl (.inr ⟨_, _, _, rfl, rfl, rfl⟩) (HV.len Try.underlying24 rfl hr.isSl) ?_
        refine AL.val rfl (.inr ⟨_, _, _, rfl, rfl, rfl⟩) (HV.sub rfl rfl (by omega)) ?_
        obtain ⟨p8, z9, cs10, hz11, hK12, hC13, hP14⟩ := RdK.ix (q := (l.length : Int) - 1) hr sl24 (by omega) (by omega)
        obtain rfl : cs10 = [.int .i64 z9] := hK12
        refine AL.val rfl (.inr ⟨_, _, _, rfl, rfl, rfl⟩) (hP14 rfl rfl) ?_
        refine AL.val rfl (.inr ⟨_, _, _, rfl, rfl, rfl⟩) (HV.ld rfl va2 (cells_first (hC13.ext X5) rfl)) ?_
        refine AL.val rfl (.inr ⟨_, _, _, rfl, rfl, rfl⟩) (HV.nei rfl rfl) ?_
        refine AL.val rfl (.inr ⟨_, _, _, rfl, rfl, rfl⟩) (HV.pickF rfl rfl) ?_
        refine AL.val rfl (.inl rfl) (HV.pickT rfl rfl) ?_
        refine AL.val rfl (.inl rfl) (HV.as rfl) ?_
        refine AL.nx ?_
        refine AW.ret ?_
        refine post_one rfl rfl ?_ (.inr rfl)
        have hE := (by assumption : elems p l); have g22 : l.getD (l.length - 1) 0 = z9 := gd hz11 (by omega); exact ⟨congrArg Value.bool (decide_eq_decide.2 ⟨fun h => ⟨by assumption, hE, .inr (by rw [g22]; exact h)⟩, fun h => by have q := h.2.2.resolve_left c7; rwa [g22] at q⟩), X5⟩
    · -- false
      have c6_ : decide (elems p l) = false := decide_eq_false c6
      rw [c6_]
      refine AL.off rfl rfl (by decide) rfl ?_
      refine AL.off rfl rfl (by decide) rfl ?_
      refine AL.off rfl rfl (by decide) rfl ?_
      refine AL.off rfl rfl (by decide) rfl ?_
      refine AL.offu rfl rfl rfl ?_
      refine AL.offu rfl rfl rfl ?_
      refine AL.offu rfl rfl rfl ?_
      refine AL.offu rfl rfl rfl ?_
      refine AL.offu rfl rfl rfl ?_
      refine AL.offu rfl rfl rfl ?_
      refine AL.offu rfl rfl rfl ?_
      refine AL.off rfl rfl (by decide) rfl ?_
      refine AL.val rfl (.inl rfl) (HV.pickF rfl rfl) ?_
      refine AL.val rfl (.inl rfl) (HV.as rfl) ?_
      refine AL.nx ?_
      refine AW.ret ?_
      refine post_one rfl rfl ?_ (.inr rfl)
      exact ⟨dec_f (fun h => by first | exact c6 h.1 | exact c6 h.2.1), X5⟩
  · -- false
    have c2_ : decide ((l.length : Int) ≤ 7) = false := decide_eq_false c2
    rw [c2_]
    refine AL.off rfl rfl (by decide) rfl ?_
    refine AL.off rfl rfl (by decide) rfl ?_
    refine AL.off rfl rfl (by decide) rfl ?_
    refine AL.val rfl (.inl rfl) (HV.pickF rfl rfl) ?_
    refine AL.val rfl (.inl rfl) (HV.mv rfl) ?_
    refine AL.off rfl rfl (by decide) rfl ?_
    refine AL.off rfl rfl (by decide) rfl ?_
    refine AL.off rfl rfl (by decide) rfl ?_
    refine AL.off rfl rfl (by decide) rfl ?_
    refine AL.offu rfl rfl rfl ?_
    refine AL.offu rfl rfl rfl ?_
    refine AL.offu rfl rfl rfl ?_
    refine AL.offu rfl rfl rfl ?_
    refine AL.offu rfl rfl rfl ?_
    refine AL.offu rfl rfl rfl ?_
    refine AL.offu rfl rfl rfl ?_
    refine AL.off rfl rfl (by decide) rfl ?_
    refine AL.val rfl (.inl rfl) (HV.pickF rfl rfl) ?_
    refine AL.val rfl (.inl rfl) (HV.as rfl) ?_
    refine AL.nx ?_
    refine AW.ret ?_
    refine post_one rfl rfl ?_ (.inr rfl)
    exact ⟨dec_f (fun h => by first | exact c2 h.1 | exact c2 h.2.1), X0⟩

set_option maxRecDepth 100000 in
theorem l05All_ok {v : Value} {l : List (List Int)} {ok : Nat → Prop} {p : Int} (hr : RdK (kR kI) W H ok v l) (hp : 2 ≤ p ∧ p ≤ 31) : ACalls Try.prog W 79 #[.int .i64 p, v] H (fun r H' => r = .bool (decide (allC p l)) ∧ Ext H H') := by
  refine ACalls.of (args := [.int .i64 p, v]) Try.func79 rfl rfl ?_
  have X0 := Ext.refl H
  have hm1 := hr.max
  refine AW.rs ?_
  refine AL.val rfl (.inl rfl) (HV.as rfl) ?_
  refine AL.nx ?_
  refine AW.seq ?_
  refine AW.rs ?_
  refine AL.val rfl (.inl rfl) (HV.as rfl) ?_
  refine AL.nx ?_
  refine AW.block ?_
  refine AW.loop (σ := Nat) (fun i => [(0, .int .i64 p), (1, v), (5, .int .i64 (i : Int))]) (fun i H' => Ext H H' ∧ i ≤ l.length ∧ (∀ j, j < i → curveI p (l.getD j [])) ∧ True) (fun i => l.length - i) 0 ⟨X0, Nat.zero_le _, fun j hj => absurd hj (Nat.not_lt_zero _), trivial⟩ ⟨rfl, rfl, rfl, trivial⟩ ?_
  rintro i H2 ⟨X3, hi, he, _⟩
  refine AW.seq ?_
  refine AW.rs ?_
  refine AL.val rfl (.inl rfl) (HV.mv rfl) ?_
  refine AL.val rfl (.inl rfl) (HV.mv rfl) ?_
  refine AL.val rfl (.inl rfl) (HV.len Try.underlying36 rfl hr.isSl) ?_
  refine AL.val rfl (.inl rfl) (HV.lti rfl rfl) ?_
  refine AL.nx ?_
  refine AW.ifd rfl (fun c4 => ?_) (fun c4 => ?_)
  · -- then
    refine AW.skip ?_
    refine nrm_and ?_
    refine AW.seq ?_
    refine AW.block ?_
    refine AW.rs ?_
    refine AL.val rfl (.inl rfl) (HV.mv rfl) ?_
    refine AL.val rfl (.inl rfl) (HV.mv rfl) ?_
    refine AL.val rfl (.inl rfl) (HV.mv rfl) ?_
    obtain ⟨p5, z6, cs7, hz8, hK9, hC10, hP11⟩ := RdK.ix (q := (i : Int)) hr sl36 (by omega) (by omega)
    obtain ⟨v12, rfl, hr13⟩ := hK9
    have hm14 := hr13.max
    refine AL.val rfl (.inl rfl) (hP11 rfl rfl) ?_
    refine AL.val rfl (.inl rfl) (HV.ld rfl va24 (cells_first (hC10.ext X3) rfl)) ?_
    refine AL.w rfl (.inl rfl) (WV.call fn120 rfl (l05Cu_ok (hr13.ext X3) hp)) ?_
    rintro _ H15 ⟨rfl, hx16⟩
    have X17 := Ext.trans X3 hx16
    refine AL.val rfl (.inl rfl) (HV.not rfl) ?_
    refine AL.nx ?_
    refine AW.ifn rfl (fun c18 => ?_) (fun c18 => ?_)
    · -- then
      refine AW.rs ?_
      refine AL.val rfl (.inl rfl) (HV.as rfl) ?_
      refine AL.nx ?_
      refine AW.ret ?_
      refine ret_blk (ret_and (ret_and (ret_blk (ret_and ?_))))
      refine post_one rfl rfl ?_ (.inr rfl)
      exact ⟨dec_f (fun h => by have q := h i (by omega); have g16 : l.getD i [] = z6 := gd hz8 (by omega); rw [g16] at q; exact c18 q), X17⟩
    · -- else
      refine AW.skip ?_
      refine nrm_blk (nrm_and ?_)
      refine AW.reg ?_
      refine AL.val rfl (.inl rfl) (HV.mv rfl) ?_
      refine AL.val rfl (.inl rfl) (HV.add rfl rfl (by omega)) ?_
      refine AL.val rfl (.inl rfl) (HV.as rfl) ?_
      refine AL.nil ?_
      refine nrm_and ?_
      exact ⟨i + 1, ⟨X17, by omega, fun j hj => by
      rcases Nat.lt_or_ge j i with h1 | h1
      · exact he j h1
      · obtain rfl : j = i := by omega
        have g16 : l.getD j [] = z6 := gd hz8 (by omega); rw [g16]; exact c18, trivial⟩, by first | omega | (dsimp only; omega), ⟨rfl, rfl, rfl, trivial⟩⟩
  · -- else
    refine AW.exit ?_
    refine ex_and (ex_and (ex_blk ?_))
    refine nrm_and ?_
    refine AW.rs ?_
    refine AL.val rfl (.inl rfl) (HV.as rfl) ?_
    refine AL.nx ?_
    refine AW.ret ?_
    refine post_one rfl rfl ?_ (.inr rfl)
    exact ⟨dec_t (fun j hj => he j (by omega)), X3⟩

set_option maxRecDepth 100000 in
theorem ac1_ok {v : Value} {l : List Int} {ok : Nat → Prop} {b : Nat} {p : Int} (hr : RdK kI W H ok v l) (hb : At W H b ⟨2, [.int .i64 p], 1⟩) : ACalls Try.prog W 121 #[v, .pointer (some ⟨b, 0, none⟩)] H (fun r H' => r = .bool (!decide (primeI p ∧ curveI p l)) ∧ Ext H H') := by
  refine ACalls.of (args := [v, .pointer (some ⟨b, 0, none⟩)]) Try.func121 rfl rfl ?_
  have X0 := Ext.refl H
  have hm1 := hr.max
  refine AW.rs ?_
  refine AL.val rfl (.inl rfl) (HV.as rfl) ?_
  refine AL.nx ?_
  refine AW.rs ?_
  refine AL.val rfl (.inl rfl) (HV.ld rfl va2 (at_cell hb rfl)) ?_
  refine AL.val rfl (.inl rfl) (HV.mv rfl) ?_
  refine AL.w rfl (.inl rfl) (WV.call fn59 rfl (validCu_ok (p := p) hr)) ?_
  rintro _ H2 ⟨rfl, hx3⟩
  have X4 := Ext.trans X0 hx3
  have hb5 := hb.ext hx3
  refine AL.val rfl (.inl rfl) (HV.not rfl) ?_
  refine AL.val rfl (.inl rfl) (HV.as rfl) ?_
  refine AL.nx ?_
  refine AW.ret ?_
  refine post_one rfl rfl ?_ (.inr rfl)
  exact ⟨rfl, X4⟩

set_option maxRecDepth 100000 in
theorem ixCu_ok {v : Value} {l : List (List Int)} {ok : Nat → Prop} {b : Nat} {p : Int} (hr : RdK (kR kI) W H ok v l) (hb : At W H b ⟨2, [.int .i64 p], 1⟩) : ACalls Try.prog W 124 #[v, (.func (.func 121) #[] #[.pointer (some ⟨b, 0, none⟩)])] H (fun r H' => (∃ i : Int, r = .int .i64 i ∧ (0 ≤ i ↔ ¬ allV p l)) ∧ Ext H H') := by
  refine ACalls.of (args := [v, (.func (.func 121) #[] #[.pointer (some ⟨b, 0, none⟩)])]) Try.func124 rfl rfl ?_
  have X0 := Ext.refl H
  have hm1 := hr.max
  refine AW.rs ?_
  refine AL.val rfl (.inl rfl) (HV.as rfl) ?_
  refine AL.nx ?_
  refine AW.seq ?_
  refine AW.rs ?_
  refine AL.val rfl (.inl rfl) (HV.mv rfl) ?_
  refine AL.val rfl (.inl rfl) (HV.len Try.underlying36 rfl hr.isSl) ?_
  refine AL.val rfl (.inl rfl) (HV.mv rfl) ?_
  refine AL.nx ?_
  refine AW.block ?_
  refine AW.loop (σ := Nat) (fun i => [(0, v), (1, (.func (.func 121) #[] #[.pointer (some ⟨b, 0, none⟩)])), (7, .int .i64 (l.length : Int)), (8, .int .i64 (i : Int))]) (fun i H' => Ext H H' ∧ At W H' b ⟨2, [.int .i64 p], 1⟩ ∧ i ≤ l.length ∧ (∀ j, j < i → primeI p ∧ curveI p (l.getD j [])) ∧ True) (fun i => l.length - i) 0 ⟨X0, hb, Nat.zero_le _, fun j hj => absurd hj (Nat.not_lt_zero _), trivial⟩ ⟨rfl, rfl, rfl, rfl, trivial⟩ ?_
  rintro i H2 ⟨X3, hb4, hi, he, _⟩
  refine AW.rs ?_
  refine AL.val rfl (.inl rfl) (HV.lti rfl rfl) ?_
  refine AL.nx ?_
  refine AW.seq ?_
  refine AW.ifd rfl (fun c5 => ?_) (fun c5 => ?_)
  · -- then
    refine AW.skip ?_
    refine nrm_and ?_
    refine AW.seq ?_
    refine AW.block ?_
    refine AW.rs ?_
    refine AL.val rfl (.inl rfl) (HV.mv rfl) ?_
    refine AL.val rfl (.inl rfl) (HV.as rfl) ?_
    refine AL.nx ?_
    refine AW.rs ?_
    refine AL.val rfl (.inl rfl) (HV.mv rfl) ?_
    refine AL.val rfl (.inl rfl) (HV.mv rfl) ?_
    refine AL.val rfl (.inl rfl) (HV.mv rfl) ?_
    obtain ⟨p6, z7, cs8, hz9, hK10, hC11, hP12⟩ := RdK.ix (q := (i : Int)) hr sl36 (by omega) (by omega)
    obtain ⟨v13, rfl, hr14⟩ := hK10
    have hm15 := hr14.max
    refine AL.val rfl (.inl rfl) (hP12 rfl rfl) ?_
    refine AL.val rfl (.inl rfl) (HV.ld rfl va24 (cells_first (hC11.ext X3) rfl)) ?_
    refine AL.w rfl (.inl rfl) (WV.callv fn121 rfl rfl (ac1_ok (hr14.ext X3) hb4)) ?_
    rintro _ H16 ⟨rfl, hx17⟩
    have X18 := Ext.trans X3 hx17
    have hb19 := hb4.ext hx17
    refine AL.nx ?_
    refine AW.ifn rfl (fun c20 => ?_) (fun c20 => ?_)
    · -- then
      refine AW.rs ?_
      refine AL.val rfl (.inl rfl) (HV.mv rfl) ?_
      refine AL.val rfl (.inl rfl) (HV.as rfl) ?_
      refine AL.nx ?_
      refine AW.ret ?_
      refine ret_blk (ret_and (ret_and (ret_blk (ret_and ?_))))
      refine post_one rfl rfl ?_ (.inr rfl)
      exact ⟨⟨_, rfl, fun _ h => by have q := h i (by omega); have g15 : l.getD i [] = z7 := gd hz9 (by omega); rw [g15] at q; exact c20 q, fun _ => by omega⟩, X18⟩
    · -- else
      refine AW.skip ?_
      refine nrm_blk (nrm_and ?_)
      refine AW.reg ?_
      refine AL.val rfl (.inl rfl) (HV.add rfl rfl (by omega)) ?_
      refine AL.val rfl (.inl rfl) (HV.mv rfl) ?_
      refine AL.nil ?_
      refine nrm_and ?_
      exact ⟨i + 1, ⟨X18, hb19, by omega, fun j hj => by
      rcases Nat.lt_or_ge j i with h1 | h1
      · exact he j h1
      · obtain rfl : j = i := by omega
        have g15 : l.getD j [] = z7 := gd hz9 (by omega); rw [g15]; exact c20, trivial⟩, by first | omega | (dsimp only; omega), ⟨rfl, rfl, rfl, rfl, trivial⟩⟩
  · -- else
    refine AW.exit ?_
    refine ex_and (ex_and (ex_blk ?_))
    refine nrm_and ?_
    refine AW.rs ?_
    refine AL.val rfl (.inl rfl) (HV.as rfl) ?_
    refine AL.nx ?_
    refine AW.ret ?_
    refine post_one rfl rfl ?_ (.inr rfl)
    exact ⟨⟨_, rfl, fun h => absurd h (by decide), fun h => absurd (fun j hj => he j (by omega)) h⟩, X3⟩

set_option maxRecDepth 100000 in
theorem coCu_ok {v : Value} {l : List (List Int)} {ok : Nat → Prop} {b : Nat} {p : Int} (hr : RdK (kR kI) W H ok v l) (hb : At W H b ⟨2, [.int .i64 p], 1⟩) : ACalls Try.prog W 91 #[v, (.func (.func 121) #[] #[.pointer (some ⟨b, 0, none⟩)])] H (fun r H' => r = .bool (decide (¬ allV p l)) ∧ Ext H H') := by
  refine ACalls.of (args := [v, (.func (.func 121) #[] #[.pointer (some ⟨b, 0, none⟩)])]) Try.func91 rfl rfl ?_
  have X0 := Ext.refl H
  have hm1 := hr.max
  refine AW.rs ?_
  refine AL.val rfl (.inl rfl) (HV.as rfl) ?_
  refine AL.nx ?_
  refine AW.rs ?_
  refine AL.val rfl (.inl rfl) (HV.mv rfl) ?_
  refine AL.val rfl (.inl rfl) (HV.mv rfl) ?_
  refine AL.w rfl (.inl rfl) (WV.call fn124 rfl (ixCu_ok hr hb)) ?_
  rintro _ H2 ⟨⟨q4, rfl, he5⟩, hx3⟩
  have X6 := Ext.trans X0 hx3
  have hb7 := hb.ext hx3
  refine AL.val rfl (.inl rfl) (HV.gei rfl rfl) ?_
  refine AL.val rfl (.inl rfl) (HV.as rfl) ?_
  refine AL.nx ?_
  refine AW.ret ?_
  refine post_one rfl rfl ?_ (.inr rfl)
  exact ⟨congrArg Value.bool (decide_eq_decide.2 he5), X6⟩

set_option maxRecDepth 100000 in
theorem areCu_ok {v : Value} {l : List (List Int)} {ok : Nat → Prop} {p : Int} (hr : RdK (kR kI) W H ok v l) : ACalls Try.prog W 81 #[.int .i64 p, v] H (fun r H' => r = .bool (decide (allV p l)) ∧ Ext H H') := by
  refine ACalls.of (args := [.int .i64 p, v]) Try.func81 rfl rfl ?_
  have X0 := Ext.refl H
  have hm1 := hr.max
  refine AW.rs ?_
  refine AL.w rfl (.inl rfl) (WV.bx rfl rfl) ?_
  rintro _ H3 ⟨b2, rfl, hx4, hn5, hb6⟩
  have o7 := Nat.le_trans X0.bd hn5
  have X8 := Ext.trans X0 hx4
  have X9 := Ext.refl H3
  refine AL.val rfl (.inl rfl) (HV.as rfl) ?_
  refine AL.nx ?_
  refine AW.rs ?_
  refine AL.val rfl (.inl rfl) (HV.mv rfl) ?_
  refine AL.val rfl (.inl rfl) (HV.fn rfl rfl) ?_
  refine AL.w rfl (.inl rfl) (WV.call fn91 rfl (coCu_ok (hr.ext X8) hb6)) ?_
  rintro _ H10 ⟨rfl, hx11⟩
  have X12 := Ext.trans X8 hx11
  have X13 := Ext.trans X9 hx11
  have hb14 := hb6.ext hx11
  refine AL.val rfl (.inl rfl) (HV.not rfl) ?_
  refine AL.val rfl (.inl rfl) (HV.as rfl) ?_
  refine AL.nx ?_
  refine AW.ret ?_
  refine post_one rfl rfl ?_ (.inr rfl)
  exact ⟨congrArg Value.bool (by by_cases hE : allV p l <;> simp [hE]), X12⟩

set_option maxRecDepth 100000 in
theorem curveAt_ok {v : Value} {l : List Int} {ok : Nat → Prop} {p : Int} (hr : RdK kI W H ok v l) (x : Int) (hp : 2 ≤ p ∧ p ≤ 31) (hx : 0 ≤ x ∧ x ≤ p - 1) (hc : elems p l) : ACalls Try.prog W 83 #[.int .i64 p, v, .int .i64 x] H (fun r H' => r = .int .i64 (val p l x) ∧ Ext H H') := by
  refine ACalls.of (args := [.int .i64 p, v, .int .i64 x]) Try.func83 rfl rfl ?_
  have X0 := Ext.refl H
  have hm1 := hr.max
  refine AW.rs ?_
  refine AL.val rfl (.inl rfl) (HV.as rfl) ?_
  refine AL.nx ?_
  refine AW.rs ?_
  refine AL.val rfl (.inl rfl) (HV.as rfl) ?_
  refine AL.nx ?_
  refine AW.seq ?_
  refine AW.rs ?_
  refine AL.val rfl (.inl rfl) (HV.mv rfl) ?_
  refine AL.val rfl (.inl rfl) (HV.len Try.underlying24 rfl hr.isSl) ?_
  refine AL.val rfl (.inl rfl) (HV.sub rfl rfl (by omega)) ?_
  refine AL.val rfl (.inl rfl) (HV.as rfl) ?_
  refine AL.nx ?_
  refine AW.block ?_
  refine AW.loop (σ := Nat × Int × Int) (fun ⟨i, j, a⟩ => [(0, .int .i64 p), (1, v), (2, .int .i64 x), (6, .int .i64 0), (7, .int .i64 a), (8, .int .i64 j)]) (fun ⟨i, j, a⟩ H' => Ext H H' ∧ i ≤ l.length ∧ j = (i : Int) - 1 ∧ a = val p (l.drop i) x ∧ True) (fun ⟨i, j, a⟩ => i) (l.length, ((l.length : Int) - 1), 0) ⟨X0, Nat.le_refl _, rfl, by rw [List.drop_length]; rfl, trivial⟩ ⟨rfl, rfl, rfl, rfl, rfl, rfl, trivial⟩ ?_
  rintro ⟨i, j, a⟩ H2 ⟨X3, hi, hj, ha, _⟩
  refine AW.seq ?_
  refine AW.rs ?_
  refine AL.val rfl (.inl rfl) (HV.mv rfl) ?_
  refine AL.val rfl (.inl rfl) (HV.gei rfl rfl) ?_
  refine AL.nx ?_
  refine AW.ifd rfl (fun c4 => ?_) (fun c4 => ?_)
  · -- then
    refine AW.skip ?_
    refine nrm_and ?_
    refine AW.seq ?_
    refine AW.block ?_
    refine AW.reg ?_
    refine AL.val rfl (.inl rfl) (HV.mv rfl) ?_
    refine AL.val rfl (.inl rfl) (HV.mv rfl) ?_
    refine AL.val rfl (.inl rfl) (HV.mul rfl rfl (by have h1 := val_in (show 0 < p by omega) (l.drop i) x; rw [← ha] at h1; have h2 := mul31 (a := a) (b := x) (by omega) (by omega) (by omega) (by omega); omega)) ?_
    refine AL.val rfl (.inl rfl) (HV.mv rfl) ?_
    refine AL.val rfl (.inl rfl) (HV.mv rfl) ?_
    obtain ⟨p5, z6, cs7, hz8, hK9, hC10, hP11⟩ := RdK.ix (q := j) hr sl24 (by omega) (by omega)
    obtain rfl : cs7 = [.int .i64 z6] := hK9
    refine AL.val rfl (.inl rfl) (hP11 rfl rfl) ?_
    refine AL.val rfl (.inl rfl) (HV.ld rfl va2 (cells_first (hC10.ext X3) rfl)) ?_
    refine AL.val rfl (.inl rfl) (HV.add rfl rfl (by have h1 := val_in (show 0 < p by omega) (l.drop i) x; rw [← ha] at h1; have h2 := mul31 (a := a) (b := x) (by omega) (by omega) (by omega) (by omega); have h3 := elem_at hc hz8; omega)) ?_
    refine AL.val rfl (.inl rfl) (HV.mv rfl) ?_
    refine AL.val rfl (.inl rfl) (HV.rem rfl rfl (by have h1 := val_in (show 0 < p by omega) (l.drop i) x; rw [← ha] at h1; have h2 := mul31 (a := a) (b := x) (by omega) (by omega) (by omega) (by omega); have h3 := elem_at hc hz8; omega)) ?_
    refine AL.val rfl (.inl rfl) (HV.as rfl) ?_
    refine AL.nil ?_
    refine nrm_blk (nrm_and ?_)
    refine AW.reg ?_
    refine AL.val rfl (.inl rfl) (HV.mv rfl) ?_
    refine AL.val rfl (.inl rfl) (HV.sub rfl rfl (by omega)) ?_
    refine AL.val rfl (.inl rfl) (HV.as rfl) ?_
    refine AL.nil ?_
    refine nrm_and ?_
    exact ⟨(i - 1, j - 1, ((a * x) + z6) % p), ⟨X3, by omega, by omega, by have e : i - 1 + 1 = i := (by omega); rw [val_step (i := i - 1) (getq hz8 (by omega)), e, ← ha], trivial⟩, by first | omega | (dsimp only; omega), ⟨rfl, rfl, rfl, rfl, rfl, rfl, trivial⟩⟩
  · -- else
    refine AW.exit ?_
    refine ex_and (ex_and (ex_blk ?_))
    refine nrm_and ?_
    refine AW.rs ?_
    refine AL.val rfl (.inl rfl) (HV.mv rfl) ?_
    refine AL.val rfl (.inl rfl) (HV.as rfl) ?_
    refine AL.nx ?_
    refine AW.ret ?_
    refine post_one rfl rfl ?_ (.inr rfl)
    exact ⟨by obtain rfl : i = 0 := (by omega); rw [ha]; rfl, X3⟩

set_option maxRecDepth 100000 in
theorem l05Val_ok {v : Value} {l : List Int} {ok : Nat → Prop} {p : Int} (hr : RdK kI W H ok v l) (x : Int) (hp : 2 ≤ p ∧ p ≤ 31) (hx : 0 ≤ x ∧ x ≤ p - 1) (hc : elems p l) : ACalls Try.prog W 80 #[.int .i64 p, v, .int .i64 x] H (fun r H' => r = .int .i64 (val p l x) ∧ Ext H H') := by
  refine ACalls.of (args := [.int .i64 p, v, .int .i64 x]) Try.func80 rfl rfl ?_
  have X0 := Ext.refl H
  have hm1 := hr.max
  refine AW.rs ?_
  refine AL.val rfl (.inl rfl) (HV.as rfl) ?_
  refine AL.nx ?_
  refine AW.rs ?_
  refine AL.val rfl (.inl rfl) (HV.as rfl) ?_
  refine AL.nx ?_
  refine AW.seq ?_
  refine AW.rs ?_
  refine AL.val rfl (.inl rfl) (HV.mv rfl) ?_
  refine AL.val rfl (.inl rfl) (HV.len Try.underlying24 rfl hr.isSl) ?_
  refine AL.val rfl (.inl rfl) (HV.sub rfl rfl (by omega)) ?_
  refine AL.val rfl (.inl rfl) (HV.as rfl) ?_
  refine AL.nx ?_
  refine AW.block ?_
  refine AW.loop (σ := Nat × Int × Int) (fun ⟨i, j, a⟩ => [(0, .int .i64 p), (1, v), (2, .int .i64 x), (6, .int .i64 0), (7, .int .i64 a), (8, .int .i64 j)]) (fun ⟨i, j, a⟩ H' => Ext H H' ∧ i ≤ l.length ∧ j = (i : Int) - 1 ∧ a = val p (l.drop i) x ∧ True) (fun ⟨i, j, a⟩ => i) (l.length, ((l.length : Int) - 1), 0) ⟨X0, Nat.le_refl _, rfl, by rw [List.drop_length]; rfl, trivial⟩ ⟨rfl, rfl, rfl, rfl, rfl, rfl, trivial⟩ ?_
  rintro ⟨i, j, a⟩ H2 ⟨X3, hi, hj, ha, _⟩
  refine AW.seq ?_
  refine AW.rs ?_
  refine AL.val rfl (.inl rfl) (HV.mv rfl) ?_
  refine AL.val rfl (.inl rfl) (HV.gei rfl rfl) ?_
  refine AL.nx ?_
  refine AW.ifd rfl (fun c4 => ?_) (fun c4 => ?_)
  · -- then
    refine AW.skip ?_
    refine nrm_and ?_
    refine AW.seq ?_
    refine AW.block ?_
    refine AW.reg ?_
    refine AL.val rfl (.inl rfl) (HV.mv rfl) ?_
    refine AL.val rfl (.inl rfl) (HV.mv rfl) ?_
    refine AL.val rfl (.inl rfl) (HV.mul rfl rfl (by have h1 := val_in (show 0 < p by omega) (l.drop i) x; rw [← ha] at h1; have h2 := mul31 (a := a) (b := x) (by omega) (by omega) (by omega) (by omega); omega)) ?_
    refine AL.val rfl (.inl rfl) (HV.mv rfl) ?_
    refine AL.val rfl (.inl rfl) (HV.mv rfl) ?_
    obtain ⟨p5, z6, cs7, hz8, hK9, hC10, hP11⟩ := RdK.ix (q := j) hr sl24 (by omega) (by omega)
    obtain rfl : cs7 = [.int .i64 z6] := hK9
    refine AL.val rfl (.inl rfl) (hP11 rfl rfl) ?_
    refine AL.val rfl (.inl rfl) (HV.ld rfl va2 (cells_first (hC10.ext X3) rfl)) ?_
    refine AL.val rfl (.inl rfl) (HV.add rfl rfl (by have h1 := val_in (show 0 < p by omega) (l.drop i) x; rw [← ha] at h1; have h2 := mul31 (a := a) (b := x) (by omega) (by omega) (by omega) (by omega); have h3 := elem_at hc hz8; omega)) ?_
    refine AL.val rfl (.inl rfl) (HV.mv rfl) ?_
    refine AL.val rfl (.inl rfl) (HV.rem rfl rfl (by have h1 := val_in (show 0 < p by omega) (l.drop i) x; rw [← ha] at h1; have h2 := mul31 (a := a) (b := x) (by omega) (by omega) (by omega) (by omega); have h3 := elem_at hc hz8; omega)) ?_
    refine AL.val rfl (.inl rfl) (HV.as rfl) ?_
    refine AL.nil ?_
    refine nrm_blk (nrm_and ?_)
    refine AW.reg ?_
    refine AL.val rfl (.inl rfl) (HV.mv rfl) ?_
    refine AL.val rfl (.inl rfl) (HV.sub rfl rfl (by omega)) ?_
    refine AL.val rfl (.inl rfl) (HV.as rfl) ?_
    refine AL.nil ?_
    refine nrm_and ?_
    exact ⟨(i - 1, j - 1, ((a * x) + z6) % p), ⟨X3, by omega, by omega, by have e : i - 1 + 1 = i := (by omega); rw [val_step (i := i - 1) (getq hz8 (by omega)), e, ← ha], trivial⟩, by first | omega | (dsimp only; omega), ⟨rfl, rfl, rfl, rfl, rfl, rfl, trivial⟩⟩
  · -- else
    refine AW.exit ?_
    refine ex_and (ex_and (ex_blk ?_))
    refine nrm_and ?_
    refine AW.rs ?_
    refine AL.val rfl (.inl rfl) (HV.mv rfl) ?_
    refine AL.val rfl (.inl rfl) (HV.as rfl) ?_
    refine AL.nx ?_
    refine AW.ret ?_
    refine post_one rfl rfl ?_ (.inr rfl)
    exact ⟨by obtain rfl : i = 0 := (by omega); rw [ha]; rfl, X3⟩

set_option maxRecDepth 100000 in
theorem cloneSh_ok {v : Value} {l : List (Int × Int)} {ok : Nat → Prop} (hr : RdK (kP kI kI) W H ok v l) (hl : l.length ≤ 1048576) : ACalls Try.prog W 82 #[v] H (fun r H' => Ext H H' ∧ OwnK (kP kI kI) 68 W H' (fun b => H.bd ≤ b) r l) := by
  refine ACalls.of (args := [v]) Try.func82 rfl rfl ?_
  have X0 := Ext.refl H
  have hm1 := hr.max
  refine AW.rs ?_
  refine AL.val rfl (.inl rfl) (HV.as rfl) ?_
  refine AL.nx ?_
  refine AW.seq ?_
  refine AW.rs ?_
  refine AL.val rfl (.inl rfl) (HV.mv rfl) ?_
  refine AL.val rfl (.inl rfl) (HV.nne Try.underlying27 hr.isSl rfl rfl) ?_
  refine AL.nx ?_
  refine AW.cond rfl (fun c2 => ?_) (fun c2 => ?_)
  · -- then
    refine AW.rs ?_
    refine AL.val rfl (.inl rfl) (HV.as rfl) ?_
    refine AL.nx ?_
    refine AW.ret ?_
    refine ret_and ?_
    refine post_one rfl rfl ?_ (.inr rfl)
    exact ⟨X0, by rw [nn_nil hr (by assumption)]; exact OwnK.nil _⟩
  · -- else
    refine AW.skip ?_
    refine nrm_and ?_
    refine AW.rs ?_
    have o3 := X0.bd
    refine AL.w rfl (.inl rfl) (WV.bsK (K := (kP kI kI)) (l := ([] : List (Int × Int))) (css := []) sl27 rfl rfl (by first | rfl | (simp [Instr.fill, Value.cells, kI, kB, kU, kS, Kd.sc]; done) | (simp [Instr.fill, Value.cells, kI, kB, kU, kS, Kd.sc, rng1, rng2, rng3, rng4, kP])) rfl segs_nil) ?_
    rintro v4 H5 ⟨hx6, ho7⟩
    have X8 := Ext.trans X0 hx6
    refine AL.val rfl (.inl rfl) (HV.mv rfl) ?_
    have X10 := Ext.refl H5
    refine AL.w rfl (.inl rfl) (WV.apk sl27 rfl rfl ho7 (hr.lo.ext X8) (by simp; omega) (by simp; omega) (fun b hb _ e => by have h1 : H.bd ≤ b := (ho7.blk b e).1; have h2 : b < H.bd := hb; have h3 := o3; omega)) ?_
    rintro v11 H12 ⟨hx13, ho14, hb15⟩
    have ho16 := ho14.narrow (ok' := fun b => H.bd ≤ b) (kP_flat kI_flat kI_flat) (fun b q => (hb15 b q).elim (fun e => (ho7.blk b e).1) (fun e => Nat.le_trans X8.bd e))
    have X17 := Ext.thru X8 hx13 (fun b hb => Nat.le_trans o3 (ho7.blk b hb).1)
    refine AL.val rfl (.inl rfl) (HV.as rfl) ?_
    refine AL.nx ?_
    refine AW.ret ?_
    refine post_one rfl rfl ?_ (.inr rfl)
    exact ⟨X17, ho16.okk (fun b hb _ => Nat.le_trans o3 hb)⟩

set_option maxRecDepth 100000 in
theorem specRf_ok {v vm : Value} {l : List (Int × Int)} {m : List (List Int)} {ok ok2 : Nat → Prop} (p : Int) (hr : RdK (kP kI kI) W H ok v l) (hr2 : RdK (kR kI) W H ok2 vm m) (hl : l.length ≤ 1048576) : ACalls Try.prog W 27 #[.int .i64 p, v, vm] H (fun r H' => (∃ v k, r = .tuple #[v, .int .i64 (rfCode p l m)] ∧ k = rfRow p l m ∧ OwnK (kP kI kI) 68 W H' (fun b => H.bd ≤ b) v k) ∧ Ext H H') := by
  refine ACalls.of (args := [.int .i64 p, v, vm]) Try.func27 rfl rfl ?_
  have X0 := Ext.refl H
  have hm1 := hr.max
  have hm2 := hr2.max
  refine AW.rs ?_
  refine AL.val rfl (.inl rfl) (HV.as rfl) ?_
  refine AL.val rfl (.inl rfl) (HV.as rfl) ?_
  refine AL.nx ?_
  refine AW.seq ?_
  refine AW.rs ?_
  refine AL.val rfl (.inl rfl) (HV.mv rfl) ?_
  refine AL.val rfl (.inl rfl) (HV.mv rfl) ?_
  refine AL.w rfl (.inl rfl) (WV.call fn67 rfl (specVS_ok hr p hl)) ?_
  rintro _ H3 ⟨rfl, hx4⟩
  have X5 := Ext.trans X0 hx4
  refine AL.val rfl (.inl rfl) (HV.not rfl) ?_
  refine AL.val rfl (.inl rfl) (HV.mv rfl) ?_
  by_cases c6 : vS p l
  · -- false
    have c6_ : (!decide (vS p l)) = false := by rw [decide_eq_true c6]; rfl
    rw [c6_]
    refine AL.val rfl (.inr ⟨_, _, _, rfl, rfl, rfl⟩) (HV.mv rfl) ?_
    refine AL.val rfl (.inr ⟨_, _, _, rfl, rfl, rfl⟩) (HV.mv rfl) ?_
    refine AL.w rfl (.inr ⟨_, _, _, rfl, rfl, rfl⟩) (WV.call fn79 rfl (l05All_ok (hr2.ext X5) (by assumption : vS p _).1.1)) ?_
    rintro _ H7 ⟨rfl, hx8⟩
    have X9 := Ext.trans X5 hx8
    refine AL.val rfl (.inr ⟨_, _, _, rfl, rfl, rfl⟩) (HV.not rfl) ?_
    refine AL.val rfl (.inl rfl) (HV.pickF rfl rfl) ?_
    refine AL.nx ?_
    refine AW.ifn rfl (fun c10 => ?_) (fun c10 => ?_)
    · -- then
      refine AW.rs ?_
      have X11 := Ext.refl H7
      have o12 := X9.bd
      have o13 := X11.bd
      refine AL.w rfl (.inl rfl) (WV.bsK (K := (kP kI kI)) (l := ([] : List (Int × Int))) (css := []) sl27 rfl rfl (by first | rfl | (simp [Instr.fill, Value.cells, kI, kB, kU, kS, Kd.sc]; done) | (simp [Instr.fill, Value.cells, kI, kB, kU, kS, Kd.sc, rng1, rng2, rng3, rng4, kP])) rfl segs_nil) ?_
      rintro v14 H15 ⟨hx16, ho17⟩
      have X18 := Ext.trans X9 hx16
      have X19 := Ext.trans X11 hx16
      refine AL.val rfl (.inl rfl) (HV.as rfl) ?_
      refine AL.val rfl (.inl rfl) (HV.as rfl) ?_
      refine AL.nx ?_
      refine AW.ret ?_
      refine ret_and ?_
      refine post_two rfl rfl rfl ?_ (.inr rfl)
      have hq := rf_bad (p := p) (l := l) (L := m) (fun h => by first | exact c10 h.1 | exact c10 h.2 | exact c10 (fun j hj => ⟨h.1.1, h.2 j hj⟩)); exact ⟨⟨_, [], by rw [hq.1], hq.2.symm, ho17.okk (fun b hb _ => Nat.le_trans o12 hb)⟩, X18⟩
    · -- else
      refine AW.skip ?_
      refine nrm_and ?_
      refine AW.seq ?_
      refine AW.rs ?_
      refine AL.val rfl (.inl rfl) (HV.as rfl) ?_
      refine AL.nx ?_
      refine AW.block ?_
      have hv : vS p l ∧ allC p m := ⟨by assumption, by assumption⟩
      have hp := hv.1.1.1
      have X21 := Ext.refl H7
      refine AW.loop (σ := Nat) (fun i => [(0, .int .i64 p), (1, v), (2, vm), (8, .int .i64 (i : Int))]) (fun i H' => Ext H H' ∧ Ext H7 H' ∧ i ≤ m.length ∧ (∀ j, j < i → (m.getD j []).getD 0 0 = 0) ∧ True) (fun i => m.length - i) 0 ⟨X9, X21, Nat.zero_le _, fun j hj => absurd hj (Nat.not_lt_zero _), trivial⟩ ⟨rfl, rfl, rfl, rfl, trivial⟩ ?_
      rintro i H22 ⟨X23, X24, hi, hz0, _⟩
      refine AW.seq ?_
      refine AW.rs ?_
      refine AL.val rfl (.inl rfl) (HV.mv rfl) ?_
      refine AL.val rfl (.inl rfl) (HV.mv rfl) ?_
      refine AL.val rfl (.inl rfl) (HV.len Try.underlying36 rfl hr2.isSl) ?_
      refine AL.val rfl (.inl rfl) (HV.lti rfl rfl) ?_
      refine AL.nx ?_
      refine AW.ifd rfl (fun c25 => ?_) (fun c25 => ?_)
      · -- then
        refine AW.skip ?_
        refine nrm_and ?_
        refine AW.seq ?_
        refine AW.block ?_
        refine AW.rs ?_
        refine AL.val rfl (.inl rfl) (HV.mv rfl) ?_
        refine AL.val rfl (.inl rfl) (HV.mv rfl) ?_
        obtain ⟨p26, z27, cs28, hz29, hK30, hC31, hP32⟩ := RdK.ix (q := (i : Int)) hr2 sl36 (by omega) (by omega)
        obtain ⟨v33, rfl, hr34⟩ := hK30
        have hm35 := hr34.max
        refine AL.val rfl (.inl rfl) (hP32 rfl rfl) ?_
        refine AL.val rfl (.inl rfl) (HV.ld rfl va24 (cells_first (hC31.ext X23) rfl)) ?_
        refine AL.val rfl (.inl rfl) (HV.len Try.underlying24 rfl hr34.isSl) ?_
        refine AL.val rfl (.inl rfl) (HV.gti rfl rfl) ?_
        refine AL.val rfl (.inl rfl) (HV.mv rfl) ?_
        by_cases c36 : (z27.length : Int) > 0
        · -- true
          have c36_ : decide ((z27.length : Int) > 0) = true := decide_eq_true c36
          rw [c36_]
          refine AL.val rfl (.inr ⟨_, _, _, rfl, rfl, rfl⟩) (HV.mv rfl) ?_
          refine AL.val rfl (.inr ⟨_, _, _, rfl, rfl, rfl⟩) (HV.mv rfl) ?_
          obtain ⟨p37, z38, cs39, hz40, hK41, hC42, hP43⟩ := RdK.ix (q := (i : Int)) hr2 sl36 (by omega) (by omega)
          obtain ⟨v44, rfl, hr45⟩ := hK41
          have hm46 := hr45.max
          refine AL.val rfl (.inr ⟨_, _, _, rfl, rfl, rfl⟩) (hP43 rfl rfl) ?_
          refine AL.val rfl (.inr ⟨_, _, _, rfl, rfl, rfl⟩) (HV.ld rfl va24 (cells_first (hC42.ext X23) rfl)) ?_
          obtain ⟨p47, z48, cs49, hz50, hK51, hC52, hP53⟩ := RdK.ix (q := 0) hr45 sl24 (by omega) (by have e : z27 = z38 := same_at hz40 hz29; rw [← e]; omega)
          obtain rfl : cs49 = [.int .i64 z48] := hK51
          refine AL.val rfl (.inr ⟨_, _, _, rfl, rfl, rfl⟩) (hP53 rfl rfl) ?_
          refine AL.val rfl (.inr ⟨_, _, _, rfl, rfl, rfl⟩) (HV.ld rfl va2 (cells_first (hC52.ext X23) rfl)) ?_
          refine AL.val rfl (.inr ⟨_, _, _, rfl, rfl, rfl⟩) (HV.nei rfl rfl) ?_
          refine AL.val rfl (.inl rfl) (HV.pickT rfl rfl) ?_
          refine AL.nx ?_
          refine AW.ifd rfl (fun c54 => ?_) (fun c54 => ?_)
          · -- then
            refine AW.rs ?_
            have X55 := Ext.refl H22
            have o56 := X23.bd
            have o57 := X24.bd
            have o58 := X55.bd
            refine AL.w rfl (.inl rfl) (WV.bsK (K := (kP kI kI)) (l := ([] : List (Int × Int))) (css := []) sl27 rfl rfl (by first | rfl | (simp [Instr.fill, Value.cells, kI, kB, kU, kS, Kd.sc]; done) | (simp [Instr.fill, Value.cells, kI, kB, kU, kS, Kd.sc, rng1, rng2, rng3, rng4, kP])) rfl segs_nil) ?_
            rintro v59 H60 ⟨hx61, ho62⟩
            have X63 := Ext.trans X23 hx61
            have X64 := Ext.trans X24 hx61
            have X65 := Ext.trans X55 hx61
            refine AL.val rfl (.inl rfl) (HV.as rfl) ?_
            refine AL.val rfl (.inl rfl) (HV.as rfl) ?_
            refine AL.nx ?_
            refine AW.ret ?_
            refine ret_blk (ret_and (ret_and (ret_blk (ret_and ?_))))
            refine post_two rfl rfl rfl ?_ (.inr rfl)
            have hq := rf_state hv (fun h => by have q := h i (by omega); have g31 : m.getD i [] = z27 := gd hz29 (by omega); have g38 : m.getD i [] = z38 := gd hz40 (by omega); rw [g31, show z27 = z38 from g31.symm.trans g38, gd hz50 rfl] at q; omega); exact ⟨⟨_, [], by rw [hq.1], hq.2.symm, ho62.okk (fun b hb _ => Nat.le_trans o56 hb)⟩, X63⟩
          · -- else
            refine AW.skip ?_
            refine nrm_blk (nrm_and ?_)
            refine AW.reg ?_
            refine AL.val rfl (.inl rfl) (HV.mv rfl) ?_
            refine AL.val rfl (.inl rfl) (HV.add rfl rfl (by omega)) ?_
            refine AL.val rfl (.inl rfl) (HV.as rfl) ?_
            refine AL.nil ?_
            refine nrm_and ?_
            exact ⟨i + 1, ⟨X23, X24, by omega, fun j hj => by
      rcases Nat.lt_or_ge j i with h1 | h1
      · exact hz0 j h1
      · obtain rfl : j = i := by omega
        have g31 : m.getD j [] = z27 := gd hz29 (by omega); have g38 : m.getD j [] = z38 := gd hz40 (by omega); have e : z27 = z38 := g31.symm.trans g38; rw [g31, e, gd hz50 rfl]; omega, trivial⟩, by first | omega | (dsimp only; omega), ⟨rfl, rfl, rfl, rfl, trivial⟩⟩
        · -- false
          have c36_ : decide ((z27.length : Int) > 0) = false := decide_eq_false c36
          rw [c36_]
          refine AL.off rfl rfl (by decide) rfl ?_
          refine AL.off rfl rfl (by decide) rfl ?_
          refine AL.off rfl rfl (by decide) rfl ?_
          refine AL.off rfl rfl (by decide) rfl ?_
          refine AL.off rfl rfl (by decide) rfl ?_
          refine AL.off rfl rfl (by decide) rfl ?_
          refine AL.off rfl rfl (by decide) rfl ?_
          refine AL.val rfl (.inl rfl) (HV.pickF rfl rfl) ?_
          refine AL.nx ?_
          refine AW.cond rfl (fun h => by cases h) (fun _ => ?_)
          refine AW.skip ?_
          refine nrm_blk (nrm_and ?_)
          refine AW.reg ?_
          refine AL.val rfl (.inl rfl) (HV.mv rfl) ?_
          refine AL.val rfl (.inl rfl) (HV.add rfl rfl (by omega)) ?_
          refine AL.val rfl (.inl rfl) (HV.as rfl) ?_
          refine AL.nil ?_
          refine nrm_and ?_
          exact ⟨i + 1, ⟨X23, X24, by omega, fun j hj => by
      rcases Nat.lt_or_ge j i with h1 | h1
      · exact hz0 j h1
      · obtain rfl : j = i := by omega
        have g31 : m.getD j [] = z27 := gd hz29 (by omega); rw [g31]; rw [show z27 = [] from List.eq_nil_of_length_eq_zero (by omega)]; rfl, trivial⟩, by first | omega | (dsimp only; omega), ⟨rfl, rfl, rfl, rfl, trivial⟩⟩
      · -- else
        refine AW.exit ?_
        refine ex_and (ex_and (ex_blk ?_))
        refine nrm_and ?_
        refine AW.rs ?_
        have X68 := Ext.refl H22
        have o69 := X23.bd
        have o70 := X24.bd
        have o71 := X68.bd
        refine AL.w rfl (.inl rfl) (WV.bsK (K := (kP kI kI)) (l := ([] : List (Int × Int))) (css := []) sl27 rfl rfl (by first | rfl | (simp [Instr.fill, Value.cells, kI, kB, kU, kS, Kd.sc]; done) | (simp [Instr.fill, Value.cells, kI, kB, kU, kS, Kd.sc, rng1, rng2, rng3, rng4, kP])) rfl segs_nil) ?_
        rintro v72 H73 ⟨hx74, ho75⟩
        have X76 := Ext.trans X23 hx74
        have X77 := Ext.trans X24 hx74
        have X78 := Ext.trans X68 hx74
        refine AL.val rfl (.inl rfl) (HV.mv rfl) ?_
        have X80 := Ext.refl H73
        refine AL.w rfl (.inl rfl) (WV.apk sl27 rfl rfl ho75 (hr.lo.ext X76) (by simp; omega) (by simp; omega) (fun b hb _ e => by have h1 : H22.bd ≤ b := (ho75.blk b e).1; have h2 : b < H.bd := hb; have h3 := o69; omega)) ?_
        rintro v81 H82 ⟨hx83, ho84, hb85⟩
        have ho86 := ho84.narrow (ok' := fun b => H22.bd ≤ b) (kP_flat kI_flat kI_flat) (fun b q => (hb85 b q).elim (fun e => (ho75.blk b e).1) (fun e => Nat.le_trans X78.bd e))
        have X87 := Ext.thru X76 hx83 (fun b hb => Nat.le_trans o69 (ho75.blk b hb).1)
        have X88 := Ext.thru X77 hx83 (fun b hb => Nat.le_trans o70 (ho75.blk b hb).1)
        have X89 := Ext.thru X78 hx83 (fun b hb => Nat.le_trans o71 (ho75.blk b hb).1)
        refine AL.val rfl (.inl rfl) (HV.as rfl) ?_
        refine AL.nx ?_
        refine AW.seq ?_
        refine AW.rs ?_
        refine AL.val rfl (.inl rfl) (HV.as rfl) ?_
        refine AL.nx ?_
        refine AW.block ?_
        have hz : (∀ j, j < m.length → (m.getD j []).getD 0 0 = 0) := fun j hj => hz0 j (by omega)
        clear hi hz0
        refine AW.loop (σ := Nat) (fun i => [(0, .int .i64 p), (2, vm), (9, v81), (10, .int .i64 (i : Int))]) (fun i H' => Ext H H' ∧ Ext H7 H' ∧ Ext H22 H' ∧ i ≤ m.length ∧ OwnK (kP kI kI) 68 W H' (fun b => H22.bd ≤ b) v81 (refr p (m.take i) l) ∧ True) (fun i => m.length - i) 0 ⟨X87, X88, X89, Nat.zero_le _, ho86, trivial⟩ ⟨rfl, rfl, rfl, rfl, trivial⟩ ?_
        rintro i H91 ⟨X92, X93, X94, hi, hoL, _⟩
        refine AW.seq ?_
        refine AW.rs ?_
        refine AL.val rfl (.inl rfl) (HV.mv rfl) ?_
        refine AL.val rfl (.inl rfl) (HV.mv rfl) ?_
        refine AL.val rfl (.inl rfl) (HV.len Try.underlying36 rfl hr2.isSl) ?_
        refine AL.val rfl (.inl rfl) (HV.lti rfl rfl) ?_
        refine AL.nx ?_
        refine AW.ifd rfl (fun c95 => ?_) (fun c95 => ?_)
        · -- then
          refine AW.skip ?_
          refine nrm_and ?_
          refine AW.seq ?_
          refine AW.block ?_
          refine AW.rs ?_
          refine AL.val rfl (.inl rfl) (HV.as rfl) ?_
          refine AL.nx ?_
          refine AW.block ?_
          refine AW.loop (σ := Nat) (fun j => [(0, .int .i64 p), (2, vm), (9, v81), (10, .int .i64 (i : Int)), (48, .int .i64 (i : Int)), (49, vm), (50, .int .i64 (m.length : Int)), (51, .bool (decide ((i : Int) < (m.length : Int)))), (11, .int .i64 (j : Int))]) (fun j H' => Ext H H' ∧ Ext H7 H' ∧ Ext H22 H' ∧ j ≤ l.length ∧ OwnK (kP kI kI) 68 W H' (fun b => H22.bd ≤ b) v81 (updS (addS p (m.getD i [])) (refr p (m.take i) l) j) ∧ True) (fun j => l.length - j) 0 ⟨X92, X93, X94, Nat.zero_le _, hoL, trivial⟩ ⟨rfl, rfl, rfl, rfl, rfl, rfl, rfl, rfl, rfl, trivial⟩ ?_
          rintro j H96 ⟨X97, X98, X99, hj, hoL2, _⟩
          have hL : ((updS (addS p (m.getD i [])) (refr p (m.take i) l) j)).length = l.length := by rw [updS_len, refr_len]
          refine AW.seq ?_
          refine AW.rs ?_
          refine AL.val rfl (.inl rfl) (HV.mv rfl) ?_
          refine AL.val rfl (.inl rfl) (HV.mv rfl) ?_
          refine AL.val rfl (.inl rfl) (HV.len Try.underlying27 rfl hoL2.rd.isSl) ?_
          refine AL.val rfl (.inl rfl) (HV.lti rfl rfl) ?_
          refine AL.nx ?_
          refine AW.ifd rfl (fun c100 => ?_) (fun c100 => ?_)
          · -- then
            refine AW.skip ?_
            refine nrm_and ?_
            refine AW.seq ?_
            refine AW.block ?_
            refine AW.draw' [0, 0, 0, 0, 12, 28, 60, 0, 0, 0, 768, 1792, 0, 0, 12288, 28672, 61440, 130944, 262140, 0, 1048572, 2097151, 4194303, 8388607] mixed (by rfl) ?_
            refine Dr.read 0 _ 60 _ rfl rfl rfl rfl rfl (RV.of (by intro _ _ h; cases h) (.inl rfl) (fun _ xd => HV.mv rfl)) ?_
            refine Dr.read 1 _ 61 _ rfl rfl rfl rfl rfl (RV.of (by intro _ _ h; cases h) (.inl rfl) (fun _ xd => HV.mv rfl)) ?_
            refine Dr.read 2 _ 62 _ rfl rfl rfl rfl rfl (RV.of (by intro _ _ h; cases h) (.inl rfl) (fun _ xd => HV.mv rfl)) ?_
            refine Dr.read 3 _ 63 _ rfl rfl rfl rfl rfl (RV.of (by intro _ _ h; cases h) (.inl rfl) (fun _ xd => HV.mv rfl)) ?_
            obtain ⟨g101, z102, cs103, hz104, hK105, hC106, hg107, hP108⟩ := OwnK.ix (q := (j : Int)) hoL2 sl27 (by omega) (by omega)
            have X109 := Ext.refl H96
            obtain ⟨cs110, cs111, rfl, hK112, hK113⟩ := hK105
            obtain rfl : cs110 = [.int .i64 z102.1] := hK112
            obtain rfl : cs111 = [.int .i64 z102.2] := hK113
            refine Dr.read 4 _ 64 _ rfl rfl rfl rfl rfl (RV.of (by intro _ _ h; cases h) (.inl rfl) (fun _ xd => hP108 rfl rfl)) ?_
            refine Dr.read 5 _ 65 _ rfl rfl rfl rfl rfl (RV.of (by intro _ _ h; cases h) (.inl rfl) (fun _ xd => HV.fa fl68_1 rfl)) ?_
            refine Dr.read 6 _ 66 _ rfl rfl rfl rfl rfl (RV.of (by intro _ _ h; cases h) (.inl rfl) (fun _ xd => HV.ld rfl va2 (rdc_ext xd (cells_at hC106 rfl)))) ?_
            refine Dr.read 7 _ 67 _ rfl rfl rfl rfl rfl (RV.of (by intro _ _ h; cases h) (.inl rfl) (fun _ xd => HV.mv rfl)) ?_
            refine Dr.read 8 _ 68 _ rfl rfl rfl rfl rfl (RV.of (by intro _ _ h; cases h) (.inl rfl) (fun _ xd => HV.mv rfl)) ?_
            refine Dr.read 9 _ 69 _ rfl rfl rfl rfl rfl (RV.of (by intro _ _ h; cases h) (.inl rfl) (fun _ xd => HV.mv rfl)) ?_
            obtain ⟨p114, z115, cs116, hz117, hK118, hC119, hP120⟩ := RdK.ix (q := (i : Int)) hr2 sl36 (by omega) (by omega)
            obtain ⟨v121, rfl, hr122⟩ := hK118
            have hm123 := hr122.max
            refine Dr.read 10 _ 70 _ rfl rfl rfl rfl rfl (RV.of (by intro _ _ h; cases h) (.inl rfl) (fun _ xd => hP120 rfl rfl)) ?_
            refine Dr.read 11 _ 71 _ rfl rfl rfl rfl rfl (RV.of (by intro _ _ h; cases h) (.inl rfl) (fun _ xd => HV.ld rfl va24 (rdc_ext xd (cells_first (hC119.ext X97) rfl)))) ?_
            refine Dr.read 12 _ 72 _ rfl rfl rfl rfl rfl (RV.of (by intro _ _ h; cases h) (.inl rfl) (fun _ xd => HV.mv rfl)) ?_
            refine Dr.read 13 _ 73 _ rfl rfl rfl rfl rfl (RV.of (by intro _ _ h; cases h) (.inl rfl) (fun _ xd => HV.mv rfl)) ?_
            obtain ⟨g124, z125, cs126, hz127, hK128, hC129, hg130, hP131⟩ := OwnK.ix (q := (j : Int)) hoL2 sl27 (by omega) (by omega)
            obtain ⟨cs132, cs133, rfl, hK134, hK135⟩ := hK128
            obtain rfl : cs132 = [.int .i64 z125.1] := hK134
            obtain rfl : cs133 = [.int .i64 z125.2] := hK135
            refine Dr.read 14 _ 74 _ rfl rfl rfl rfl rfl (RV.of (by intro _ _ h; cases h) (.inl rfl) (fun _ xd => hP131 rfl rfl)) ?_
            refine Dr.read 15 _ 75 _ rfl rfl rfl rfl rfl (RV.of (by intro _ _ h; cases h) (.inl rfl) (fun _ xd => HV.fa fl68_0 rfl)) ?_
            refine Dr.read 16 _ 76 _ rfl rfl rfl rfl rfl (RV.of (by intro _ _ h; cases h) (.inl rfl) (fun _ xd => HV.ld rfl va2 (rdc_ext xd (cells_first hC129 rfl)))) ?_
            refine Dr.read 19 _ 79 _ rfl rfl rfl rfl rfl (RV.of (by intro _ _ h; cases h) (.inl rfl) (fun _ xd => HV.mv rfl)) ?_
            refine Dr.eff 17 _ _ rfl (by intro d h; cases h; exact ⟨rfl, rfl⟩) rfl rfl rfl (EC.of (by intro _ _ h; cases h) (.inl rfl) (WV.call fn80 rfl (l05Val_ok (hr122.ext X97) z125.1 hp (by have q := refr_in hv.1 hz127; omega) (by have q := (hv.2 i (by omega)).2.1; rw [(gd hz117 rfl : m.getD i [] = z115)] at q; exact q)))) (fun v H' h => .inl (h.2)) ?_
            rintro _ H136 ⟨rfl, hx137⟩
            have X138 := Ext.trans X97 hx137
            have X139 := Ext.trans X98 hx137
            have X140 := Ext.trans X99 hx137
            have X141 := Ext.trans X109 hx137
            have ho142 := hoL2.ext hx137
            refine Dr.read 18 _ 78 _ rfl rfl rfl rfl rfl (RV.of (by intro _ _ h; cases h) (.inl rfl) (fun _ xd => HV.add rfl rfl (by have q := refr_in hv.1 hz104; have q2 := val_in (show 0 < p by omega) z115 z125.1; omega))) ?_
            refine Dr.read 20 _ 80 _ rfl rfl rfl rfl rfl (RV.of (by intro _ _ h; cases h) (.inl rfl) (fun _ xd => HV.rem rfl rfl (by have q := refr_in hv.1 hz104; have q2 := val_in (show 0 < p by omega) z115 z125.1; omega))) ?_
            obtain ⟨g143, z144, cs145, hz146, hK147, hC148, hg149, hP150⟩ := OwnK.ix (q := (j : Int)) ho142 sl27 (by omega) (by omega)
            have X151 := Ext.refl H136
            obtain ⟨cs152, cs153, rfl, hK154, hK155⟩ := hK147
            obtain rfl : cs152 = [.int .i64 z144.1] := hK154
            obtain rfl : cs153 = [.int .i64 z144.2] := hK155
            refine Dr.read 21 _ 81 _ rfl rfl rfl rfl rfl (RV.of (by intro _ _ h; cases h) (.inl rfl) (fun _ xd => hP150 rfl rfl)) ?_
            refine Dr.read 22 _ 82 _ rfl rfl rfl rfl rfl (RV.of (by intro _ _ h; cases h) (.inl rfl) (fun _ xd => HV.fa fl68_1 rfl)) ?_
            refine Dr.eff 23 _ _ rfl (by intro d h; cases h) rfl rfl rfl (EC.of (by intro _ _ h; cases h) (.inl rfl) (WV.stF (x' := (z144.1, (z102.2 + (val p z115 z125.1)) % p)) (off := 1) (kP_flat kI_flat kI_flat) ho142 hg149 rfl rfl va2 rfl hz146 (by decide) (one_cons rfl one_nil) (fun cs hc => by obtain ⟨_, _, rfl, rfl, rfl⟩ := hc; exact ⟨[.int .i64 z144.1], [.int .i64 ((z102.2 + (val p z115 z125.1)) % p)], rfl, rfl, rfl⟩))) (fun v H' h => .inr (.inl rfl)) ?_
            rintro _ H156 ⟨hx157, ho158⟩
            have X160 := Ext.thru X138 hx157 (fun b hb => Nat.le_trans o69 (ho142.blk b hb).1)
            have X161 := Ext.thru X139 hx157 (fun b hb => Nat.le_trans o70 (ho142.blk b hb).1)
            have X162 := Ext.thru X140 hx157 (fun b hb => Nat.le_trans o71 (ho142.blk b hb).1)
            refine Dr.fin rfl ?_
            refine nrm_blk (nrm_and ?_)
            refine AW.reg ?_
            refine AL.val rfl (.inl rfl) (HV.mv rfl) ?_
            refine AL.val rfl (.inl rfl) (HV.add rfl rfl (by omega)) ?_
            refine AL.val rfl (.inl rfl) (HV.as rfl) ?_
            refine AL.nil ?_
            refine nrm_and ?_
            have e0_ : z125 = z102 := same_at hz104 hz127
            have e1_ : z144 = z102 := same_at hz104 hz146
            have hset := ho158
            exact ⟨j + 1, ⟨X160, X161, X162, by omega, by rw [updS_step (z := z102) hz104 (by rw [refr_len]; omega) (by show _ = addS p (m.getD i []) z102; rw [(gd hz117 rfl : m.getD i [] = z115)]; simp only [e0_, e1_]; rfl)] at hset; exact hset, trivial⟩, by first | omega | (dsimp only; omega), ⟨rfl, rfl, rfl, rfl, rfl, rfl, rfl, rfl, rfl, trivial⟩⟩
          · -- else
            refine AW.exit ?_
            refine ex_and (ex_and (ex_blk ?_))
            refine nrm_blk (nrm_and ?_)
            refine AW.reg ?_
            refine AL.val rfl (.inl rfl) (HV.mv rfl) ?_
            refine AL.val rfl (.inl rfl) (HV.add rfl rfl (by omega)) ?_
            refine AL.val rfl (.inl rfl) (HV.as rfl) ?_
            refine AL.nil ?_
            refine nrm_and ?_
            exact ⟨i + 1, ⟨X97, X98, X99, by omega, by have hj2 : j = ((refr p (m.take i) l)).length := (by rw [refr_len]; omega); subst hj2; rw [refr_snoc (get_getD (d := []) (by omega)), ← updS_all]; exact hoL2, trivial⟩, by first | omega | (dsimp only; omega), ⟨rfl, rfl, rfl, rfl, trivial⟩⟩
        · -- else
          refine AW.exit ?_
          refine ex_and (ex_and (ex_blk ?_))
          refine nrm_and ?_
          refine AW.rs ?_
          refine AL.val rfl (.inl rfl) (HV.mv rfl) ?_
          refine AL.val rfl (.inl rfl) (HV.as rfl) ?_
          refine AL.val rfl (.inl rfl) (HV.as rfl) ?_
          refine AL.nx ?_
          refine AW.ret ?_
          refine post_two rfl rfl rfl ?_ (.inr rfl)
          have hq := rf_ok hv (fun j hj => hz j (by omega)); exact ⟨⟨_, _, by rw [hq.1], hq.2.symm, by have e : m.take i = m := List.take_of_length_le (by omega); have q := hoL.okk (fun b hb _ => Nat.le_trans o69 hb); rw [e] at q; exact q⟩, X92⟩
  · -- true
    have c6_ : (!decide (vS p l)) = true := by rw [decide_eq_false c6]; rfl
    rw [c6_]
    refine AL.off rfl rfl (by decide) rfl ?_
    refine AL.off rfl rfl (by decide) rfl ?_
    refine AL.off rfl rfl (by decide) rfl ?_
    refine AL.off rfl rfl (by decide) rfl ?_
    refine AL.val rfl (.inl rfl) (HV.pickT rfl rfl) ?_
    refine AL.nx ?_
    refine AW.cond rfl (fun _ => ?_) (fun h => by cases h)
    refine AW.rs ?_
    have X166 := Ext.refl H3
    have o167 := X5.bd
    have o168 := X166.bd
    refine AL.w rfl (.inl rfl) (WV.bsK (K := (kP kI kI)) (l := ([] : List (Int × Int))) (css := []) sl27 rfl rfl (by first | rfl | (simp [Instr.fill, Value.cells, kI, kB, kU, kS, Kd.sc]; done) | (simp [Instr.fill, Value.cells, kI, kB, kU, kS, Kd.sc, rng1, rng2, rng3, rng4, kP])) rfl segs_nil) ?_
    rintro v169 H170 ⟨hx171, ho172⟩
    have X173 := Ext.trans X5 hx171
    have X174 := Ext.trans X166 hx171
    refine AL.val rfl (.inl rfl) (HV.as rfl) ?_
    refine AL.val rfl (.inl rfl) (HV.as rfl) ?_
    refine AL.nx ?_
    refine AW.ret ?_
    refine ret_and ?_
    refine post_two rfl rfl rfl ?_ (.inr rfl)
    have hq := rf_bad (p := p) (l := l) (L := m) (fun h => by first | exact c6 h.1 | exact c6 h.2 | exact c6 (fun j hj => ⟨h.1.1, h.2 j hj⟩)); exact ⟨⟨_, [], by rw [hq.1], hq.2.symm, ho172.okk (fun b hb _ => Nat.le_trans o167 hb)⟩, X173⟩

set_option maxRecDepth 100000 in
theorem implRf_ok {v vm : Value} {l : List (Int × Int)} {m : List (List Int)} {ok ok2 : Nat → Prop} (p : Int) (hr : RdK (kP kI kI) W H ok v l) (hr2 : RdK (kR kI) W H ok2 vm m) (hl : l.length ≤ 1048576) : ACalls Try.prog W 29 #[.int .i64 p, v, vm] H (fun r H' => (∃ v k, r = .tuple #[v, .int .i64 (rfCode p l m)] ∧ k = rfRow p l m ∧ OwnK (kP kI kI) 68 W H' (fun b => H.bd ≤ b) v k) ∧ Ext H H') := by
  refine ACalls.of (args := [.int .i64 p, v, vm]) Try.func29 rfl rfl ?_
  have X0 := Ext.refl H
  have hm1 := hr.max
  have hm2 := hr2.max
  refine AW.rs ?_
  refine AL.val rfl (.inl rfl) (HV.as rfl) ?_
  refine AL.val rfl (.inl rfl) (HV.as rfl) ?_
  refine AL.nx ?_
  refine AW.seq ?_
  refine AW.rs ?_
  refine AL.val rfl (.inl rfl) (HV.mv rfl) ?_
  refine AL.val rfl (.inl rfl) (HV.mv rfl) ?_
  refine AL.w rfl (.inl rfl) (WV.call fn62 rfl (implVS_ok hr p hl)) ?_
  rintro _ H3 ⟨rfl, hx4⟩
  have X5 := Ext.trans X0 hx4
  refine AL.val rfl (.inl rfl) (HV.not rfl) ?_
  refine AL.val rfl (.inl rfl) (HV.mv rfl) ?_
  by_cases c6 : vS p l
  · -- false
    have c6_ : (!decide (vS p l)) = false := by rw [decide_eq_true c6]; rfl
    rw [c6_]
    refine AL.val rfl (.inr ⟨_, _, _, rfl, rfl, rfl⟩) (HV.mv rfl) ?_
    refine AL.val rfl (.inr ⟨_, _, _, rfl, rfl, rfl⟩) (HV.mv rfl) ?_
    refine AL.w rfl (.inr ⟨_, _, _, rfl, rfl, rfl⟩) (WV.call fn81 rfl (areCu_ok (p := p) (hr2.ext X5))) ?_
    rintro _ H7 ⟨rfl, hx8⟩
    have X9 := Ext.trans X5 hx8
    refine AL.val rfl (.inr ⟨_, _, _, rfl, rfl, rfl⟩) (HV.not rfl) ?_
    refine AL.val rfl (.inl rfl) (HV.pickF rfl rfl) ?_
    refine AL.nx ?_
    refine AW.ifn rfl (fun c10 => ?_) (fun c10 => ?_)
    · -- then
      refine AW.rs ?_
      refine AL.val rfl (.inl rfl) (HV.as rfl) ?_
      refine AL.val rfl (.inl rfl) (HV.as rfl) ?_
      refine AL.nx ?_
      refine AW.ret ?_
      refine ret_and ?_
      refine post_two rfl rfl rfl ?_ (.inr rfl)
      have hq := rf_bad (p := p) (l := l) (L := m) (fun h => by first | exact c10 h.1 | exact c10 h.2 | exact c10 (fun j hj => ⟨h.1.1, h.2 j hj⟩)); exact ⟨⟨_, [], by rw [hq.1], hq.2.symm, OwnK.nil _⟩, X9⟩
    · -- else
      refine AW.skip ?_
      refine nrm_and ?_
      refine AW.rs ?_
      refine AL.val rfl (.inl rfl) (HV.mv rfl) ?_
      have X11 := Ext.refl H7
      have o12 := X9.bd
      have o13 := X11.bd
      refine AL.w rfl (.inl rfl) (WV.call fn82 rfl (cloneSh_ok (hr.ext X9) hl)) ?_
      rintro v14 H15 ⟨hx16, ho17⟩
      have X18 := Ext.trans X9 hx16
      have X19 := Ext.trans X11 hx16
      refine AL.val rfl (.inl rfl) (HV.as rfl) ?_
      refine AL.nx ?_
      refine AW.seq ?_
      refine AW.rs ?_
      refine AL.val rfl (.inl rfl) (HV.mv rfl) ?_
      refine AL.val rfl (.inl rfl) (HV.len Try.underlying36 rfl hr2.isSl) ?_
      refine AL.val rfl (.inl rfl) (HV.mv rfl) ?_
      refine AL.nx ?_
      refine AW.block ?_
      have hv : vS p l ∧ allC p m := ⟨by assumption, fun j hj => ((by assumption : allV p m) j hj).2⟩
      have hp := hv.1.1.1
      have ho21 := ho17.narrow (ok' := fun b => H7.bd ≤ b ∧ some b = v14.ownBlock) (kP_flat kI_flat kI_flat) (fun b q => ⟨(ho17.blk b q).1, q⟩)
      refine AW.loop (σ := Nat) (fun i => [(0, .int .i64 p), (8, v14), (25, vm), (26, .int .i64 (m.length : Int)), (27, .int .i64 (i : Int))]) (fun i H' => Ext H H' ∧ Ext H7 H' ∧ i ≤ m.length ∧ (∀ j, j < i → (m.getD j []).getD 0 0 = 0) ∧ OwnK (kP kI kI) 68 W H' (fun b => H7.bd ≤ b ∧ some b = v14.ownBlock) v14 (refr p (m.take i) l) ∧ True) (fun i => m.length - i) 0 ⟨X18, X19, Nat.zero_le _, fun j hj => absurd hj (Nat.not_lt_zero _), ho21, trivial⟩ ⟨rfl, rfl, rfl, rfl, rfl, trivial⟩ ?_
      rintro i H22 ⟨X23, X24, hi, hz, hoL, _⟩
      have hL0 : ((refr p (m.take i) l)).length = l.length := refr_len _ _ _
      refine AW.rs ?_
      refine AL.val rfl (.inl rfl) (HV.lti rfl rfl) ?_
      refine AL.nx ?_
      refine AW.seq ?_
      refine AW.ifd rfl (fun c25 => ?_) (fun c25 => ?_)
      · -- then
        refine AW.skip ?_
        refine nrm_and ?_
        refine AW.seq ?_
        refine AW.block ?_
        refine AW.rs ?_
        obtain ⟨p26, z27, cs28, hz29, hK30, hC31, hP32⟩ := RdK.ix (q := (i : Int)) hr2 sl36 (by omega) (by omega)
        obtain ⟨v33, rfl, hr34⟩ := hK30
        have hm35 := hr34.max
        refine AL.val rfl (.inl rfl) (hP32 rfl rfl) ?_
        refine AL.val rfl (.inl rfl) (HV.ld rfl va24 (cells_first (hC31.ext X23) rfl)) ?_
        refine AL.val rfl (.inl rfl) (HV.as rfl) ?_
        refine AL.nx ?_
        refine AW.seq ?_
        refine AW.rs ?_
        refine AL.val rfl (.inl rfl) (HV.mv rfl) ?_
        refine AL.val rfl (.inl rfl) (HV.mv rfl) ?_
        refine AL.w rfl (.inl rfl) (WV.call fn83 rfl (curveAt_ok (hr34.ext X23) 0 hp (by omega) (by have q := (hv.2 i (by omega)).2.1; rw [(gd hz29 rfl : m.getD i [] = z27)] at q; exact q))) ?_
        rintro _ H36 ⟨rfl, hx37⟩
        have X38 := Ext.trans X23 hx37
        have X39 := Ext.trans X24 hx37
        have ho40 := hoL.ext hx37
        refine AL.val rfl (.inl rfl) (HV.nei rfl rfl) ?_
        refine AL.nx ?_
        refine AW.ifd rfl (fun c41 => ?_) (fun c41 => ?_)
        · -- then
          refine AW.rs ?_
          refine AL.val rfl (.inl rfl) (HV.as rfl) ?_
          refine AL.val rfl (.inl rfl) (HV.as rfl) ?_
          refine AL.nx ?_
          refine AW.ret ?_
          refine ret_and (ret_blk (ret_and (ret_and (ret_blk (ret_and ?_)))))
          refine post_two rfl rfl rfl ?_ (.inr rfl)
          have hq := rf_state hv (fun h => by have q := h i (by omega); rw [(gd hz29 rfl : m.getD i [] = z27)] at q; exact c41 (by rw [val_zero (by have q := (hv.2 i (by omega)).2.1; rw [(gd hz29 rfl : m.getD i [] = z27)] at q; exact q) (by omega)]; exact q)); exact ⟨⟨_, [], by rw [hq.1], hq.2.symm, OwnK.nil _⟩, X38⟩
        · -- else
          refine AW.skip ?_
          refine nrm_and ?_
          refine AW.rs ?_
          refine AL.val rfl (.inl rfl) (HV.mv rfl) ?_
          refine AL.val rfl (.inl rfl) (HV.len Try.underlying27 rfl ho40.rd.isSl) ?_
          refine AL.val rfl (.inl rfl) (HV.mv rfl) ?_
          refine AL.nx ?_
          refine AW.block ?_
          refine AW.loop (σ := Nat) (fun j => [(0, .int .i64 p), (8, v14), (10, v33), (25, vm), (26, .int .i64 (m.length : Int)), (27, .int .i64 (i : Int)), (28, .bool (decide ((i : Int) < (m.length : Int)))), (29, .pointer (some p26)), (30, v33), (31, .int .i64 p), (32, v33), (33, .int .i64 (val p z27 0)), (34, .bool (decide ((val p z27 0) ≠ 0))), (35, v14), (36, .int .i64 ((refr p (m.take i) l).length : Int)), (37, .int .i64 (j : Int))]) (fun j H' => Ext H H' ∧ Ext H7 H' ∧ j ≤ l.length ∧ OwnK (kP kI kI) 68 W H' (fun b => H7.bd ≤ b ∧ some b = v14.ownBlock) v14 (updS (addS p (m.getD i [])) (refr p (m.take i) l) j) ∧ True) (fun j => l.length - j) 0 ⟨X38, X39, Nat.zero_le _, ho40, trivial⟩ ⟨rfl, rfl, rfl, rfl, rfl, rfl, rfl, rfl, rfl, rfl, rfl, rfl, rfl, rfl, rfl, rfl, trivial⟩ ?_
          rintro j H42 ⟨X43, X44, hj, hoL2, _⟩
          have hL : ((updS (addS p (m.getD i [])) (refr p (m.take i) l) j)).length = l.length := by rw [updS_len, refr_len]
          refine AW.rs ?_
          refine AL.val rfl (.inl rfl) (HV.lti rfl rfl) ?_
          refine AL.nx ?_
          refine AW.seq ?_
          refine AW.ifd rfl (fun c45 => ?_) (fun c45 => ?_)
          · -- then
            refine AW.skip ?_
            refine nrm_and ?_
            refine AW.seq ?_
            refine AW.block ?_
            refine AW.rs ?_
            refine AL.val rfl (.inl rfl) (HV.mv rfl) ?_
            obtain ⟨g46, z47, cs48, hz49, hK50, hC51, hg52, hP53⟩ := OwnK.ix (q := (j : Int)) hoL2 sl27 (by omega) (by omega)
            have X54 := Ext.refl H42
            obtain ⟨cs55, cs56, rfl, hK57, hK58⟩ := hK50
            obtain rfl : cs55 = [.int .i64 z47.1] := hK57
            obtain rfl : cs56 = [.int .i64 z47.2] := hK58
            refine AL.val rfl (.inl rfl) (hP53 rfl rfl) ?_
            refine AL.val rfl (.inl rfl) (HV.lda (cs := [.int .i64 z47.1, .int .i64 z47.2]) rfl va68 hC51) ?_
            have a64 := hoL2.ltb
            refine AL.w rfl (.inl rfl) (WV.al ze68 rfl) ?_
            rintro _ H60 ⟨b59, rfl, hx61, hn62, hb63⟩
            have o65 := Nat.le_trans X43.bd hn62
            have o66 := Nat.le_trans X44.bd hn62
            have o67 := Nat.le_trans X54.bd hn62
            have a68 : ∀ b', some b' = v14.ownBlock → b' = b59 → False := fun b' h1 h2 => by have x1 := a64 b' h1; have x2 := hn62; omega
            have X69 := Ext.trans X43 hx61
            have X70 := Ext.trans X44 hx61
            have X71 := Ext.trans X54 hx61
            have ho72 := hoL2.ext hx61
            have X73 := Ext.refl H60
            refine AL.val rfl (.inl rfl) (HV.as rfl) ?_
            refine AL.w0 (.inl rfl) (WV.st rfl rfl va68 rfl hb63 (Nat.le_of_ble_eq_true rfl) (one_cons rfl (one_cons rfl one_nil))) ?_
            rintro _ H74 ⟨hx75, hb76⟩
            have X77 := Ext.thru X69 hx75 (fun z_ hz_ => by rw [hz_]; exact o65)
            have X78 := Ext.thru X70 hx75 (fun z_ hz_ => by rw [hz_]; exact o66)
            have X79 := Ext.thru X71 hx75 (fun z_ hz_ => by rw [hz_]; exact o67)
            have ho81 := ho72.but hx75 (fun b hb _ e => a68 b hb.2 e) (fun z_ hz_ => by rw [hz_]; exact hb63.w)
            have hb82 : At W H74 b59 ⟨68, [.int .i64 z47.1, .int .i64 z47.2], 2⟩ := hb76
            refine AL.nx ?_
            refine AW.draw' [0, 0, 0, 4, 0, 0, 0, 64, 240, 508, 0, 2044, 4095, 8191, 16383] mixed (by rfl) ?_
            refine Dr.read 0 _ 42 _ rfl rfl rfl rfl rfl (RV.of (by intro _ _ h; cases h) (.inl rfl) (fun _ xd => HV.mv rfl)) ?_
            refine Dr.read 1 _ 43 _ rfl rfl rfl rfl rfl (RV.of (by intro _ _ h; cases h) (.inl rfl) (fun _ xd => HV.mv rfl)) ?_
            refine Dr.read 2 _ 44 _ rfl rfl rfl rfl rfl (RV.of (by intro _ _ h; cases h) (.inl rfl) (fun _ xd => HV.fa fl68_1 rfl)) ?_
            refine Dr.read 3 _ 45 _ rfl rfl rfl rfl rfl (RV.of (by intro _ _ h; cases h) (.inl rfl) (fun _ xd => HV.ld rfl va2 (rdc_ext xd (at_cell_add hb82 rfl)))) ?_
            refine Dr.read 4 _ 46 _ rfl rfl rfl rfl rfl (RV.of (by intro _ _ h; cases h) (.inl rfl) (fun _ xd => HV.mv rfl)) ?_
            refine Dr.read 5 _ 47 _ rfl rfl rfl rfl rfl (RV.of (by intro _ _ h; cases h) (.inl rfl) (fun _ xd => HV.mv rfl)) ?_
            refine Dr.read 6 _ 48 _ rfl rfl rfl rfl rfl (RV.of (by intro _ _ h; cases h) (.inl rfl) (fun _ xd => HV.fa fl68_0 rfl)) ?_
            refine Dr.read 7 _ 49 _ rfl rfl rfl rfl rfl (RV.of (by intro _ _ h; cases h) (.inl rfl) (fun _ xd => HV.ld rfl va2 (rdc_ext xd (at_cell hb82 rfl)))) ?_
            refine Dr.read 10 _ 52 _ rfl rfl rfl rfl rfl (RV.of (by intro _ _ h; cases h) (.inl rfl) (fun _ xd => HV.mv rfl)) ?_
            refine Dr.eff 8 _ _ rfl (by intro d h; cases h; exact ⟨rfl, rfl⟩) rfl rfl rfl (EC.of (by intro _ _ h; cases h) (.inl rfl) (WV.call fn83 rfl (curveAt_ok (hr34.ext X77) z47.1 hp (by have q := refr_in hv.1 hz49; omega) (by have q := (hv.2 i (by omega)).2.1; rw [(gd hz29 rfl : m.getD i [] = z27)] at q; exact q)))) (fun v H' h => .inl (h.2)) ?_
            rintro _ H83 ⟨rfl, hx84⟩
            have X85 := Ext.trans X77 hx84
            have X86 := Ext.trans X78 hx84
            have X87 := Ext.trans X79 hx84
            have ho88 := ho81.ext hx84
            have hb89 := hb82.ext hx84
            refine Dr.read 9 _ 51 _ rfl rfl rfl rfl rfl (RV.of (by intro _ _ h; cases h) (.inl rfl) (fun _ xd => HV.add rfl rfl (by have q := refr_in hv.1 hz49; have q2 := val_in (show 0 < p by omega) z27 z47.1; omega))) ?_
            refine Dr.read 11 _ 53 _ rfl rfl rfl rfl rfl (RV.of (by intro _ _ h; cases h) (.inl rfl) (fun _ xd => HV.rem rfl rfl (by have q := refr_in hv.1 hz49; have q2 := val_in (show 0 < p by omega) z27 z47.1; omega))) ?_
            obtain ⟨g90, z91, cs92, hz93, hK94, hC95, hg96, hP97⟩ := OwnK.ix (q := (j : Int)) ho88 sl27 (by omega) (by omega)
            have X98 := Ext.refl H83
            obtain ⟨cs99, cs100, rfl, hK101, hK102⟩ := hK94
            obtain rfl : cs99 = [.int .i64 z91.1] := hK101
            obtain rfl : cs100 = [.int .i64 z91.2] := hK102
            refine Dr.read 12 _ 54 _ rfl rfl rfl rfl rfl (RV.of (by intro _ _ h; cases h) (.inl rfl) (fun _ xd => hP97 rfl rfl)) ?_
            refine Dr.read 13 _ 55 _ rfl rfl rfl rfl rfl (RV.of (by intro _ _ h; cases h) (.inl rfl) (fun _ xd => HV.fa fl68_1 rfl)) ?_
            refine Dr.eff 14 _ _ rfl (by intro d h; cases h) rfl rfl rfl (EC.of (by intro _ _ h; cases h) (.inl rfl) (WV.stF (x' := (z91.1, (z47.2 + (val p z27 z47.1)) % p)) (off := 1) (kP_flat kI_flat kI_flat) ho88 hg96 rfl rfl va2 rfl hz93 (by decide) (one_cons rfl one_nil) (fun cs hc => by obtain ⟨_, _, rfl, rfl, rfl⟩ := hc; exact ⟨[.int .i64 z91.1], [.int .i64 ((z47.2 + (val p z27 z47.1)) % p)], rfl, rfl, rfl⟩))) (fun v H' h => .inr (.inl rfl)) ?_
            rintro _ H103 ⟨hx104, ho105⟩
            have X107 := Ext.thru X85 hx104 (fun b hb => Nat.le_trans o12 (ho88.blk b hb).1.1)
            have X108 := Ext.thru X86 hx104 (fun b hb => Nat.le_trans o13 (ho88.blk b hb).1.1)
            have hb111 := hb89.but hx104 (fun e => a68 _ e rfl)
            refine Dr.fin rfl ?_
            refine nrm_blk (nrm_and ?_)
            refine AW.reg ?_
            refine AL.val rfl (.inl rfl) (HV.add rfl rfl (by omega)) ?_
            refine AL.val rfl (.inl rfl) (HV.mv rfl) ?_
            refine AL.nil ?_
            refine nrm_and ?_
            have e0_ : z91 = z47 := same_at hz49 hz93
            have hset := ho105
            exact ⟨j + 1, ⟨X107, X108, by omega, by rw [updS_step (z := z47) hz49 (by rw [refr_len]; omega) (by show _ = addS p (m.getD i []) z47; rw [(gd hz29 rfl : m.getD i [] = z27)]; simp only [e0_]; rfl)] at hset; exact hset, trivial⟩, by first | omega | (dsimp only; omega), ⟨rfl, rfl, rfl, rfl, rfl, rfl, rfl, rfl, rfl, rfl, rfl, rfl, rfl, rfl, rfl, rfl, trivial⟩⟩
          · -- else
            refine AW.exit ?_
            refine ex_and (ex_and (ex_blk ?_))
            refine nrm_blk (nrm_and ?_)
            refine AW.reg ?_
            refine AL.val rfl (.inl rfl) (HV.add rfl rfl (by omega)) ?_
            refine AL.val rfl (.inl rfl) (HV.mv rfl) ?_
            refine AL.nil ?_
            refine nrm_and ?_
            exact ⟨i + 1, ⟨X43, X44, by omega, fun k hk => by
      rcases Nat.lt_or_ge k i with h1 | h1
      · exact hz k h1
      · obtain rfl : k = i := by omega
        rw [(gd hz29 rfl : m.getD k [] = z27), ← val_zero (p := p) (by have q := (hv.2 k (by omega)).2.1; rw [(gd hz29 rfl : m.getD k [] = z27)] at q; exact q) (by omega)]; omega, by have hj2 : j = ((refr p (m.take i) l)).length := (by rw [refr_len]; omega); subst hj2; rw [refr_snoc (get_getD (d := []) (by omega)), ← updS_all]; exact hoL2, trivial⟩, by first | omega | (dsimp only; omega), ⟨rfl, rfl, rfl, rfl, rfl, trivial⟩⟩
      · -- else
        refine AW.exit ?_
        refine ex_and (ex_and (ex_blk ?_))
        refine nrm_and ?_
        refine AW.rs ?_
        refine AL.val rfl (.inl rfl) (HV.mv rfl) ?_
        refine AL.val rfl (.inl rfl) (HV.as rfl) ?_
        refine AL.val rfl (.inl rfl) (HV.as rfl) ?_
        refine AL.nx ?_
        refine AW.ret ?_
        refine post_two rfl rfl rfl ?_ (.inr rfl)
        have hq := rf_ok hv (fun j hj => hz j (by omega)); exact ⟨⟨_, _, by rw [hq.1], hq.2.symm, by have e : m.take i = m := List.take_of_length_le (by omega); have q := hoL.okk (fun b hb _ => Nat.le_trans o12 hb.1); rw [e] at q; exact q⟩, X23⟩
  · -- true
    have c6_ : (!decide (vS p l)) = true := by rw [decide_eq_false c6]; rfl
    rw [c6_]
    refine AL.off rfl rfl (by decide) rfl ?_
    refine AL.off rfl rfl (by decide) rfl ?_
    refine AL.off rfl rfl (by decide) rfl ?_
    refine AL.off rfl rfl (by decide) rfl ?_
    refine AL.val rfl (.inl rfl) (HV.pickT rfl rfl) ?_
    refine AL.nx ?_
    refine AW.cond rfl (fun _ => ?_) (fun h => by cases h)
    refine AW.rs ?_
    refine AL.val rfl (.inl rfl) (HV.as rfl) ?_
    refine AL.val rfl (.inl rfl) (HV.as rfl) ?_
    refine AL.nx ?_
    refine AW.ret ?_
    refine ret_and ?_
    refine post_two rfl rfl rfl ?_ (.inr rfl)
    have hq := rf_bad (p := p) (l := l) (L := m) (fun h => by first | exact c6 h.1 | exact c6 h.2 | exact c6 (fun j hj => ⟨h.1.1, h.2 j hj⟩)); exact ⟨⟨_, [], by rw [hq.1], hq.2.symm, OwnK.nil _⟩, X5⟩

set_option maxRecDepth 100000 in
theorem law_RefreshShares {v vm : Value} {l : List (Int × Int)} {m : List (List Int)} {ok ok2 : Nat → Prop} (p : Int) (hr : RdK (kP kI kI) W H ok v l) (hr2 : RdK (kR kI) W H ok2 vm m) (hW : W.heap.size ≤ H.bd) : ACalls Try.prog W 5 #[.int .i64 p, v, vm] H (fun r H' => r = .bool true ∧ Ext H H') := by
  refine ACalls.of (args := [.int .i64 p, v, vm]) Try.func5 rfl rfl ?_
  have X0 := Ext.refl H
  have hm1 := hr.max
  have hm2 := hr2.max
  refine AW.rs ?_
  refine AL.val rfl (.inl rfl) (HV.as rfl) ?_
  refine AL.nx ?_
  refine AW.rs ?_
  refine AL.val rfl (.inl rfl) (HV.as rfl) ?_
  refine AL.nx ?_
  refine AW.rs ?_
  refine AL.val rfl (.inl rfl) (HV.mv rfl) ?_
  refine AL.val rfl (.inl rfl) (HV.mv rfl) ?_
  refine AL.w rfl (.inl rfl) (WV.call fn15 rfl (szSh_ok hr 1048576 (by omega))) ?_
  rintro _ H3 ⟨⟨q5, rfl, ha6, hb7, he8⟩, hx4⟩
  have X9 := Ext.trans X0 hx4
  refine AL.val rfl (.inl rfl) (HV.as rfl) ?_
  refine AL.nx ?_
  refine AW.seq ?_
  refine AW.rs ?_
  refine AL.val rfl (.inl rfl) (HV.mv rfl) ?_
  refine AL.val rfl (.inl rfl) (HV.lti rfl rfl) ?_
  refine AL.nx ?_
  refine AW.ifd rfl (fun c10 => ?_) (fun c10 => ?_)
  · -- then
    refine AW.rs ?_
    refine AL.val rfl (.inl rfl) (HV.as rfl) ?_
    refine AL.nx ?_
    refine AW.ret ?_
    refine ret_and ?_
    refine post_one rfl rfl ?_ (.inr rfl)
    exact ⟨rfl, X9⟩
  · -- else
    refine AW.skip ?_
    refine nrm_and ?_
    refine AW.rs ?_
    refine AL.val rfl (.inl rfl) (HV.mv rfl) ?_
    refine AL.val rfl (.inl rfl) (HV.mv rfl) ?_
    refine AL.w rfl (.inl rfl) (WV.call fn26 rfl (szInt64SS_ok (q := q5) (hr2.ext X9) (by omega))) ?_
    rintro _ H11 ⟨⟨q13, rfl, ha14, hb15, he16⟩, hx12⟩
    have X17 := Ext.trans X9 hx12
    refine AL.val rfl (.inl rfl) (HV.as rfl) ?_
    refine AL.nx ?_
    refine AW.seq ?_
    refine AW.rs ?_
    refine AL.val rfl (.inl rfl) (HV.mv rfl) ?_
    refine AL.val rfl (.inl rfl) (HV.lti rfl rfl) ?_
    refine AL.nx ?_
    refine AW.ifd rfl (fun c18 => ?_) (fun c18 => ?_)
    · -- then
      refine AW.rs ?_
      refine AL.val rfl (.inl rfl) (HV.as rfl) ?_
      refine AL.nx ?_
      refine AW.ret ?_
      refine ret_and ?_
      refine post_one rfl rfl ?_ (.inr rfl)
      exact ⟨rfl, X17⟩
    · -- else
      refine AW.skip ?_
      refine nrm_and ?_
      refine AW.rs ?_
      refine AL.val rfl (.inl rfl) (HV.mv rfl) ?_
      refine AL.val rfl (.inl rfl) (HV.mv rfl) ?_
      refine AL.w rfl (.inl rfl) (WV.call fn17 rfl (toShS_ok (hr.ext X17) (he8 (by omega)))) ?_
      rintro v19 H20 ⟨hx21, ho22⟩
      have X24 := Ext.trans X17 hx21
      have X25 := Ext.refl H20
      have hr23 : RdK (kP kI kI) W H20 _ v19 l := ho22.rd
      refine AL.val rfl (.inl rfl) (HV.mv rfl) ?_
      refine AL.w rfl (.inl rfl) (WV.call fn28 rfl (toSS_ok (hr2.ext X24) (he16 (by omega)).1 (he16 (by omega)).2)) ?_
      rintro v26 H27 ⟨hx28, ho29⟩
      have X31 := Ext.trans X24 hx28
      have X32 := Ext.trans X25 hx28
      have X33 := Ext.refl H27
      have hr30 : RdK (kR kI) W H27 _ v26 m := ho29.rd.le (le_OR (Le.refl _))
      have o34 := X31.bd
      have o35 := X32.bd
      have o36 := X33.bd
      refine AL.w rfl (.inl rfl) (WV.call fn27 rfl (specRf_ok p (hr23.ext X32) hr30 (he8 (by omega)))) ?_
      rintro _ H40 ⟨⟨v37, k38, rfl, hk39, ho42⟩, hx41⟩
      have X44 := Ext.trans X31 hx41
      have X45 := Ext.trans X32 hx41
      have X46 := Ext.trans X33 hx41
      have X47 := Ext.refl H40
      have hr43 := ho42.rd
      refine AL.val rfl (.inl rfl) (HV.mv rfl) ?_
      refine AL.val rfl (.inl rfl) (HV.ex rfl rfl) ?_
      refine AL.val rfl (.inl rfl) (HV.ex rfl rfl) ?_
      refine AL.val rfl (.inl rfl) (HV.as rfl) ?_
      refine AL.val rfl (.inl rfl) (HV.as rfl) ?_
      refine AL.nx ?_
      refine AW.rs ?_
      refine AL.val rfl (.inl rfl) (HV.mv rfl) ?_
      have o48 := X44.bd
      have o49 := X45.bd
      have o50 := X46.bd
      have o51 := X47.bd
      refine AL.w rfl (.inl rfl) (WV.call fn17 rfl (toShS_ok (hr.ext X44) (he8 (by omega)))) ?_
      rintro v52 H53 ⟨hx54, ho55⟩
      have X57 := Ext.trans X44 hx54
      have X58 := Ext.trans X45 hx54
      have X59 := Ext.trans X46 hx54
      have X60 := Ext.trans X47 hx54
      have X61 := Ext.refl H53
      have ho56 := ho55.okk (ok' := fun b => H40.bd ≤ b ∧ b < H53.bd) (fun b hb hlt => ⟨hb, hlt⟩)
      refine AL.val rfl (.inl rfl) (HV.as rfl) ?_
      refine AL.nx ?_
      refine AW.rs ?_
      refine AL.val rfl (.inl rfl) (HV.mv rfl) ?_
      have o63 := X57.bd
      have o64 := X58.bd
      have o65 := X59.bd
      have o66 := X60.bd
      have o67 := X61.bd
      have a68 := ho56.ltb
      refine AL.w rfl (.inl rfl) (WV.call fn28 rfl (toSS_ok (hr2.ext X57) (he16 (by omega)).1 (he16 (by omega)).2)) ?_
      rintro v69 H70 ⟨hx71, ho72⟩
      have X74 := Ext.trans X57 hx71
      have X75 := Ext.trans X58 hx71
      have X76 := Ext.trans X59 hx71
      have X77 := Ext.trans X60 hx71
      have X78 := Ext.trans X61 hx71
      have ho79 := ho56.ext hx71
      have X80 := Ext.refl H70
      have ho73 := ho72.okk (ok' := fun b => H53.bd ≤ b ∧ b < H70.bd) (fun b hb hlt => ⟨hb, hlt⟩)
      refine AL.val rfl (.inl rfl) (HV.as rfl) ?_
      refine AL.nx ?_
      refine AW.rs ?_
      refine AL.val rfl (.inl rfl) (HV.mv rfl) ?_
      refine AL.val rfl (.inl rfl) (HV.mv rfl) ?_
      refine AL.val rfl (.inl rfl) (HV.mv rfl) ?_
      have o82 := X74.bd
      have o83 := X75.bd
      have o84 := X76.bd
      have o85 := X77.bd
      have o86 := X78.bd
      have o87 := X80.bd
      have a88 := ho79.ltb
      have a89 := ho73.ltb
      have s90 := ho73.lo
      refine AL.w rfl (.inl rfl) (WV.call fn29 rfl (implRf_ok p ho79.rd (rd_ofO ho73.rd) (he8 (by omega)))) ?_
      rintro _ H94 ⟨⟨v91, k92, rfl, hk93, ho96⟩, hx95⟩
      have X98 := Ext.trans X74 hx95
      have X99 := Ext.trans X75 hx95
      have X100 := Ext.trans X76 hx95
      have X101 := Ext.trans X77 hx95
      have X102 := Ext.trans X78 hx95
      have X103 := Ext.trans X80 hx95
      have ho104 := ho79.ext hx95
      have s106 := s90.ext hx95
      have ho105 := ho73.ext hx95
      have X107 := Ext.refl H94
      have hlen_ := rf_len (p := p) (L := m) (he8 (by omega))
      rw [← hk93] at hlen_
      refine AL.val rfl (.inl rfl) (HV.mv rfl) ?_
      refine AL.val rfl (.inl rfl) (HV.ex rfl rfl) ?_
      refine AL.val rfl (.inl rfl) (HV.ex rfl rfl) ?_
      refine AL.val rfl (.inl rfl) (HV.as rfl) ?_
      refine AL.val rfl (.inl rfl) (HV.as rfl) ?_
      refine AL.nx ?_
      refine AW.seq ?_
      refine AW.rs ?_
      refine AL.val rfl (.inl rfl) (HV.mv rfl) ?_
      refine AL.val rfl (.inl rfl) (HV.mv rfl) ?_
      refine AL.w rfl (.inl rfl) (WV.call fn20 rfl (eqShS_ok ho96.rd (hr43.ext X101))) ?_
      rintro _ H109 ⟨rfl, hx110⟩
      have X111 := Ext.trans X98 hx110
      have X112 := Ext.trans X99 hx110
      have X113 := Ext.trans X100 hx110
      have X114 := Ext.trans X101 hx110
      have X115 := Ext.trans X102 hx110
      have X116 := Ext.trans X103 hx110
      have X117 := Ext.trans X107 hx110
      have ho118 := ho104.ext hx110
      have s120 := s106.ext hx110
      have ho119 := ho105.ext hx110
      have ho121 := ho96.ext hx110
      refine AL.val rfl (.inl rfl) (HV.not rfl) ?_
      refine AL.val rfl (.inl rfl) (HV.mv rfl) ?_
      by_cases c122 : k92 = k38
      · -- false
        have c122_ : (!decide (k92 = k38)) = false := by rw [decide_eq_true c122]; rfl
        rw [c122_]
        refine AL.val rfl (.inr ⟨_, _, _, rfl, rfl, rfl⟩) (HV.mv rfl) ?_
        refine AL.val rfl (.inr ⟨_, _, _, rfl, rfl, rfl⟩) (HV.mv rfl) ?_
        refine AL.val rfl (.inr ⟨_, _, _, rfl, rfl, rfl⟩) (HV.nei rfl rfl) ?_
        refine AL.val rfl (.inl rfl) (HV.pickF rfl rfl) ?_
        refine AL.nx ?_
        refine AW.ifd rfl (fun c123 => ?_) (fun c123 => ?_)
        · -- then
          refine AW.rs ?_
          refine AL.val rfl (.inl rfl) (HV.as rfl) ?_
          refine AL.nx ?_
          refine AW.ret ?_
          refine ret_and ?_
          refine post_one rfl rfl ?_ (.inr rfl)
          exfalso; first | omega | exact absurd (hk93.trans hk39.symm) c123 | (simp at c123; done) | exact absurd c123 (by simp)
        · -- else
          refine AW.skip ?_
          refine nrm_and ?_
          refine AW.seq ?_
          refine AW.rs ?_
          refine AL.val rfl (.inl rfl) (HV.mv rfl) ?_
          refine AL.val rfl (.inl rfl) (HV.mv rfl) ?_
          refine AL.w rfl (.inl rfl) (WV.call fn17 rfl (toShS_ok (hr.ext X111) (he8 (by omega)))) ?_
          rintro v124 H125 ⟨hx126, ho127⟩
          have X129 := Ext.trans X111 hx126
          have X130 := Ext.trans X112 hx126
          have X131 := Ext.trans X113 hx126
          have X132 := Ext.trans X114 hx126
          have X133 := Ext.trans X115 hx126
          have X134 := Ext.trans X116 hx126
          have X135 := Ext.trans X117 hx126
          have ho136 := ho118.ext hx126
          have s138 := s120.ext hx126
          have ho137 := ho119.ext hx126
          have ho139 := ho121.ext hx126
          have X140 := Ext.refl H125
          have hr128 : RdK (kP kI kI) W H125 _ v124 l := ho127.rd
          refine AL.w rfl (.inl rfl) (WV.call fn20 rfl (eqShS_ok ho136.rd hr128)) ?_
          rintro _ H141 ⟨rfl, hx142⟩
          have X143 := Ext.trans X129 hx142
          have X144 := Ext.trans X130 hx142
          have X145 := Ext.trans X131 hx142
          have X146 := Ext.trans X132 hx142
          have X147 := Ext.trans X133 hx142
          have X148 := Ext.trans X134 hx142
          have X149 := Ext.trans X135 hx142
          have X150 := Ext.trans X140 hx142
          have ho151 := ho136.ext hx142
          have s153 := s138.ext hx142
          have ho152 := ho137.ext hx142
          have ho154 := ho139.ext hx142
          refine AL.val rfl (.inl rfl) (HV.not rfl) ?_
          refine AL.nx ?_
          refine AW.ifn rfl (fun c155 => ?_) (fun c155 => ?_)
          · -- then
            refine AW.rs ?_
            refine AL.val rfl (.inl rfl) (HV.as rfl) ?_
            refine AL.nx ?_
            refine AW.ret ?_
            refine ret_and ?_
            refine post_one rfl rfl ?_ (.inr rfl)
            exfalso; first | omega | exact absurd (hk93.trans hk39.symm) c155 | (simp at c155; done) | exact absurd c155 (by simp)
          · -- else
            refine AW.skip ?_
            refine nrm_and ?_
            refine AW.seq ?_
            refine AW.rs ?_
            refine AL.val rfl (.inl rfl) (HV.mv rfl) ?_
            refine AL.val rfl (.inl rfl) (HV.mv rfl) ?_
            refine AL.w rfl (.inl rfl) (WV.call fn28 rfl (toSS_ok (hr2.ext X143) (he16 (by omega)).1 (he16 (by omega)).2)) ?_
            rintro v156 H157 ⟨hx158, ho159⟩
            have X161 := Ext.trans X143 hx158
            have X162 := Ext.trans X144 hx158
            have X163 := Ext.trans X145 hx158
            have X164 := Ext.trans X146 hx158
            have X165 := Ext.trans X147 hx158
            have X166 := Ext.trans X148 hx158
            have X167 := Ext.trans X149 hx158
            have X168 := Ext.trans X150 hx158
            have ho169 := ho151.ext hx158
            have s171 := s153.ext hx158
            have ho170 := ho152.ext hx158
            have ho172 := ho154.ext hx158
            have X173 := Ext.refl H157
            have hr160 : RdK (kR kI) W H157 _ v156 m := ho159.rd.le (le_OR (Le.refl _))
            refine AL.w rfl (.inl rfl) (WV.call fn30 rfl (eqSS_ok (rd_ofO ho170.rd) hr160)) ?_
            rintro _ H174 ⟨rfl, hx175⟩
            have X176 := Ext.trans X161 hx175
            have X177 := Ext.trans X162 hx175
            have X178 := Ext.trans X163 hx175
            have X179 := Ext.trans X164 hx175
            have X180 := Ext.trans X165 hx175
            have X181 := Ext.trans X166 hx175
            have X182 := Ext.trans X167 hx175
            have X183 := Ext.trans X168 hx175
            have X184 := Ext.trans X173 hx175
            have ho185 := ho169.ext hx175
            have s187 := s171.ext hx175
            have ho186 := ho170.ext hx175
            have ho188 := ho172.ext hx175
            refine AL.val rfl (.inl rfl) (HV.not rfl) ?_
            refine AL.nx ?_
            refine AW.ifn rfl (fun c189 => ?_) (fun c189 => ?_)
            · -- then
              refine AW.rs ?_
              refine AL.val rfl (.inl rfl) (HV.as rfl) ?_
              refine AL.nx ?_
              refine AW.ret ?_
              refine ret_and ?_
              refine post_one rfl rfl ?_ (.inr rfl)
              exfalso; first | omega | exact absurd (hk93.trans hk39.symm) c189 | (simp at c189; done) | exact absurd c189 (by simp)
            · -- else
              refine AW.skip ?_
              refine nrm_and ?_
              refine AW.rs ?_
              refine AL.val rfl (.inl rfl) (HV.as rfl) ?_
              refine AL.nx ?_
              refine AW.rs ?_
              refine AL.val rfl (.inl rfl) (HV.mv rfl) ?_
              refine AL.val rfl (.inl rfl) (HV.mv rfl) ?_
              refine AL.w rfl (.inl rfl) (WV.call fn21 rfl (markSh_ok 1 ho185 (by omega))) ?_
              rintro _ H190 ⟨k191, rfl, hk192, hh193, hx194, ho195⟩
              have X196 := Ext.thru X176 hx194 (fun b hb => Nat.le_trans o48 (ho185.blk b hb).1.1)
              have X197 := Ext.thru X177 hx194 (fun b hb => Nat.le_trans o49 (ho185.blk b hb).1.1)
              have X198 := Ext.thru X178 hx194 (fun b hb => Nat.le_trans o50 (ho185.blk b hb).1.1)
              have X199 := Ext.thru X179 hx194 (fun b hb => Nat.le_trans o51 (ho185.blk b hb).1.1)
              have ho205 := ho186.but hx194 (fun b hb _ e => by have h1 : H53.bd ≤ b ∧ b < H70.bd := hb; have h2 : H40.bd ≤ b ∧ b < H53.bd := (ho185.blk b e).1; omega) (fun b hb => (ho185.blk b hb).2.2)
              have ho206 := ho188.but hx194 (fun b hb _ e => by have h1 : H70.bd ≤ b := hb; have h2 : H40.bd ≤ b ∧ b < H53.bd := (ho185.blk b e).1; omega) (fun b hb => (ho185.blk b hb).2.2)
              refine AL.val rfl (.inl rfl) (HV.as rfl) ?_
              refine AL.nx ?_
              refine AW.rs ?_
              refine AL.val rfl (.inl rfl) (HV.mv rfl) ?_
              refine AL.val rfl (.inl rfl) (HV.mv rfl) ?_
              refine AL.w rfl (.inl rfl) (WV.call fn31 rfl (markSS_ok ho205 (he16 (by omega)) (1 + 2 * (l.length : Int)) (by omega))) ?_
              rintro _ H207 ⟨⟨q208, rfl, ha209⟩, hx210⟩
              have X211 := Ext.thru X196 hx210 (fun b hb => Nat.le_trans o63 hb.1)
              have X212 := Ext.thru X197 hx210 (fun b hb => Nat.le_trans o64 hb.1)
              have X213 := Ext.thru X198 hx210 (fun b hb => Nat.le_trans o65 hb.1)
              have X214 := Ext.thru X199 hx210 (fun b hb => Nat.le_trans o66 hb.1)
              have ho215 := ho206.but hx210 (fun b hb _ e => by have h1 : H70.bd ≤ b := hb; have h2 : H53.bd ≤ b ∧ b < H70.bd := e; omega) (fun b hb => by have h2 : H53.bd ≤ b ∧ b < H70.bd := hb; omega)
              refine AL.val rfl (.inl rfl) (HV.as rfl) ?_
              refine AL.nx ?_
              refine AW.seq ?_
              refine AW.rs ?_
              refine AL.val rfl (.inl rfl) (HV.mv rfl) ?_
              refine AL.val rfl (.inl rfl) (HV.lti rfl rfl) ?_
              refine AL.val rfl (.inl rfl) (HV.mv rfl) ?_
              by_cases c216 : q208 < 0
              · -- true
                have c216_ : decide (q208 < 0) = true := decide_eq_true c216
                rw [c216_]
                refine AL.off rfl rfl (by decide) rfl ?_
                refine AL.off rfl rfl (by decide) rfl ?_
                refine AL.off rfl rfl (by decide) rfl ?_
                refine AL.off rfl rfl (by decide) rfl ?_
                refine AL.val rfl (.inl rfl) (HV.pickT rfl rfl) ?_
                refine AL.val rfl (.inl rfl) (HV.mv rfl) ?_
                refine AL.off rfl rfl (by decide) rfl ?_
                refine AL.off rfl rfl (by decide) rfl ?_
                refine AL.off rfl rfl (by decide) rfl ?_
                refine AL.val rfl (.inl rfl) (HV.pickT rfl rfl) ?_
                refine AL.nx ?_
                refine AW.cond rfl (fun _ => ?_) (fun h => by cases h)
                refine AW.rs ?_
                refine AL.val rfl (.inl rfl) (HV.as rfl) ?_
                refine AL.nx ?_
                refine AW.ret ?_
                refine ret_and ?_
                refine post_one rfl rfl ?_ (.inr rfl)
                exfalso; first | omega | exact absurd (hk93.trans hk39.symm) c216 | (simp at c216; done) | exact absurd c216 (by simp)
              · -- false
                have c216_ : decide (q208 < 0) = false := decide_eq_false c216
                rw [c216_]
                refine AL.val rfl (.inr ⟨_, _, _, rfl, rfl, rfl⟩) (HV.mv rfl) ?_
                refine AL.val rfl (.inr ⟨_, _, _, rfl, rfl, rfl⟩) (HV.mv rfl) ?_
                refine AL.w rfl (.inr ⟨_, _, _, rfl, rfl, rfl⟩) (WV.call fn20 rfl (eqShS_ok ho215.rd (hr43.ext X214))) ?_
                rintro _ H218 ⟨rfl, hx219⟩
                have X220 := Ext.trans X211 hx219
                have X221 := Ext.trans X212 hx219
                have X222 := Ext.trans X213 hx219
                have X223 := Ext.trans X214 hx219
                have ho224 := ho215.ext hx219
                refine AL.val rfl (.inr ⟨_, _, _, rfl, rfl, rfl⟩) (HV.not rfl) ?_
                refine AL.val rfl (.inl rfl) (HV.pickF rfl rfl) ?_
                refine AL.val rfl (.inl rfl) (HV.mv rfl) ?_
                by_cases c225 : k92 = k38
                · -- false
                  have c225_ : (!decide (k92 = k38)) = false := by rw [decide_eq_true c225]; rfl
                  rw [c225_]
                  refine AL.val rfl (.inr ⟨_, _, _, rfl, rfl, rfl⟩) (HV.mv rfl) ?_
                  refine AL.val rfl (.inr ⟨_, _, _, rfl, rfl, rfl⟩) (HV.mv rfl) ?_
                  refine AL.val rfl (.inr ⟨_, _, _, rfl, rfl, rfl⟩) (HV.nei rfl rfl) ?_
                  refine AL.val rfl (.inl rfl) (HV.pickF rfl rfl) ?_
                  refine AL.nx ?_
                  refine AW.ifd rfl (fun c226 => ?_) (fun c226 => ?_)
                  · -- then
                    refine AW.rs ?_
                    refine AL.val rfl (.inl rfl) (HV.as rfl) ?_
                    refine AL.nx ?_
                    refine AW.ret ?_
                    refine ret_and ?_
                    refine post_one rfl rfl ?_ (.inr rfl)
                    exfalso; first | omega | exact absurd (hk93.trans hk39.symm) c226 | (simp at c226; done) | exact absurd c226 (by simp)
                  · -- else
                    refine AW.skip ?_
                    refine nrm_and ?_
                    refine AW.rs ?_
                    refine AL.val rfl (.inl rfl) (HV.as rfl) ?_
                    refine AL.nx ?_
                    refine AW.rs ?_
                    refine AL.val rfl (.inl rfl) (HV.mv rfl) ?_
                    refine AL.val rfl (.inl rfl) (HV.mv rfl) ?_
                    refine AL.w rfl (.inl rfl) (WV.call fn21 rfl (markSh_ok 1 ho224 (by omega))) ?_
                    rintro _ H227 ⟨k228, rfl, hk229, hh230, hx231, ho232⟩
                    have X233 := Ext.thru X220 hx231 (fun b hb => Nat.le_trans o82 (ho224.blk b hb).1)
                    have X234 := Ext.thru X221 hx231 (fun b hb => Nat.le_trans o83 (ho224.blk b hb).1)
                    have X235 := Ext.thru X222 hx231 (fun b hb => Nat.le_trans o84 (ho224.blk b hb).1)
                    have X236 := Ext.thru X223 hx231 (fun b hb => Nat.le_trans o85 (ho224.blk b hb).1)
                    refine AL.val rfl (.inl rfl) (HV.as rfl) ?_
                    refine AL.nx ?_
                    refine AW.rs ?_
                    refine AL.val rfl (.inl rfl) (HV.as rfl) ?_
                    refine AL.nx ?_
                    refine AW.rs ?_
                    refine AL.val rfl (.inl rfl) (HV.mv rfl) ?_
                    refine AL.val rfl (.inl rfl) (HV.mv rfl) ?_
                    refine AL.w rfl (.inl rfl) (WV.call fn32 rfl (heldSh_ok 1 ho232.rd (by omega) hh230)) ?_
                    rintro _ H237 ⟨rfl, hx238⟩
                    have X239 := Ext.trans X233 hx238
                    have X240 := Ext.trans X234 hx238
                    have X241 := Ext.trans X235 hx238
                    have X242 := Ext.trans X236 hx238
                    have ho243 := ho232.ext hx238
                    refine AL.val rfl (.inl rfl) (HV.as rfl) ?_
                    refine AL.nx ?_
                    refine AW.seq ?_
                    refine AW.rs ?_
                    refine AL.val rfl (.inl rfl) (HV.mv rfl) ?_
                    refine AL.val rfl (.inl rfl) (HV.lti rfl rfl) ?_
                    refine AL.nx ?_
                    refine AW.ifd rfl (fun c244 => ?_) (fun c244 => ?_)
                    · -- then
                      refine AW.rs ?_
                      refine AL.val rfl (.inl rfl) (HV.as rfl) ?_
                      refine AL.nx ?_
                      refine AW.ret ?_
                      refine ret_and ?_
                      refine post_one rfl rfl ?_ (.inr rfl)
                      exfalso; first | omega | exact absurd (hk93.trans hk39.symm) c244 | (simp at c244; done) | exact absurd c244 (by simp)
                    · -- else
                      refine AW.skip ?_
                      refine nrm_and ?_
                      refine AW.seq ?_
                      refine AW.rs ?_
                      refine AL.val rfl (.inl rfl) (HV.mv rfl) ?_
                      refine AL.val rfl (.inl rfl) (HV.mv rfl) ?_
                      refine AL.val rfl (.inl rfl) (HV.nei rfl rfl) ?_
                      refine AL.nx ?_
                      refine AW.ifd rfl (fun c245 => ?_) (fun c245 => ?_)
                      · -- then
                        refine AW.rs ?_
                        refine AL.val rfl (.inl rfl) (HV.as rfl) ?_
                        refine AL.nx ?_
                        refine AW.ret ?_
                        refine ret_and ?_
                        refine post_one rfl rfl ?_ (.inr rfl)
                        exfalso; first | omega | exact absurd (hk93.trans hk39.symm) c245 | (simp at c245; done) | exact absurd c245 (by simp)
                      · -- else
                        refine AW.skip ?_
                        refine nrm_and ?_
                        refine AW.rs ?_
                        refine AL.val rfl (.inl rfl) (HV.mv rfl) ?_
                        refine AL.val rfl (.inl rfl) (HV.mv rfl) ?_
                        refine AL.w rfl (.inl rfl) (WV.call fn17 rfl (toShS_ok (hr.ext X239) (he8 (by omega)))) ?_
                        rintro v246 H247 ⟨hx248, ho249⟩
                        have X251 := Ext.trans X239 hx248
                        have X252 := Ext.trans X240 hx248
                        have X253 := Ext.trans X241 hx248
                        have X254 := Ext.trans X242 hx248
                        have ho255 := ho243.ext hx248
                        have X256 := Ext.refl H247
                        have hr250 : RdK (kP kI kI) W H247 _ v246 l := ho249.rd
                        refine AL.val rfl (.inl rfl) (HV.mv rfl) ?_
                        refine AL.w rfl (.inl rfl) (WV.call fn28 rfl (toSS_ok (hr2.ext X251) (he16 (by omega)).1 (he16 (by omega)).2)) ?_
                        rintro v257 H258 ⟨hx259, ho260⟩
                        have X262 := Ext.trans X251 hx259
                        have X263 := Ext.trans X252 hx259
                        have X264 := Ext.trans X253 hx259
                        have X265 := Ext.trans X254 hx259
                        have X266 := Ext.trans X256 hx259
                        have ho267 := ho255.ext hx259
                        have X268 := Ext.refl H258
                        have hr261 : RdK (kR kI) W H258 _ v257 m := ho260.rd.le (le_OR (Le.refl _))
                        have o269 := X262.bd
                        have o270 := X263.bd
                        have o271 := X264.bd
                        have o272 := X265.bd
                        have o273 := X266.bd
                        have o274 := X268.bd
                        have a275 := ho267.ltb
                        refine AL.w rfl (.inl rfl) (WV.call fn29 rfl (implRf_ok p (hr250.ext X266) hr261 (he8 (by omega)))) ?_
                        rintro _ H279 ⟨⟨v276, k277, rfl, hk278, ho281⟩, hx280⟩
                        have X283 := Ext.trans X262 hx280
                        have X284 := Ext.trans X263 hx280
                        have X285 := Ext.trans X264 hx280
                        have X286 := Ext.trans X265 hx280
                        have X287 := Ext.trans X266 hx280
                        have X288 := Ext.trans X268 hx280
                        have ho289 := ho267.ext hx280
                        have X290 := Ext.refl H279
                        have hr282 := ho281.rd
                        refine AL.val rfl (.inl rfl) (HV.mv rfl) ?_
                        refine AL.val rfl (.inl rfl) (HV.ex rfl rfl) ?_
                        refine AL.val rfl (.inl rfl) (HV.ex rfl rfl) ?_
                        refine AL.val rfl (.inl rfl) (HV.as rfl) ?_
                        refine AL.val rfl (.inl rfl) (HV.as rfl) ?_
                        refine AL.nx ?_
                        refine AW.seq ?_
                        refine AW.rs ?_
                        refine AL.val rfl (.inl rfl) (HV.mv rfl) ?_
                        refine AL.val rfl (.inl rfl) (HV.mv rfl) ?_
                        refine AL.w rfl (.inl rfl) (WV.call fn20 rfl (eqShS_ok hr282 (hr43.ext X286))) ?_
                        rintro _ H291 ⟨rfl, hx292⟩
                        have X293 := Ext.trans X283 hx292
                        have X294 := Ext.trans X284 hx292
                        have X295 := Ext.trans X285 hx292
                        have X296 := Ext.trans X286 hx292
                        have X297 := Ext.trans X287 hx292
                        have X298 := Ext.trans X288 hx292
                        have X299 := Ext.trans X290 hx292
                        have ho300 := ho289.ext hx292
                        refine AL.val rfl (.inl rfl) (HV.not rfl) ?_
                        refine AL.val rfl (.inl rfl) (HV.mv rfl) ?_
                        by_cases c301 : k277 = k38
                        · -- false
                          have c301_ : (!decide (k277 = k38)) = false := by rw [decide_eq_true c301]; rfl
                          rw [c301_]
                          refine AL.val rfl (.inr ⟨_, _, _, rfl, rfl, rfl⟩) (HV.mv rfl) ?_
                          refine AL.val rfl (.inr ⟨_, _, _, rfl, rfl, rfl⟩) (HV.mv rfl) ?_
                          refine AL.val rfl (.inr ⟨_, _, _, rfl, rfl, rfl⟩) (HV.nei rfl rfl) ?_
                          refine AL.val rfl (.inl rfl) (HV.pickF rfl rfl) ?_
                          refine AL.nx ?_
                          refine AW.ifd rfl (fun c302 => ?_) (fun c302 => ?_)
                          · -- then
                            refine AW.rs ?_
                            refine AL.val rfl (.inl rfl) (HV.as rfl) ?_
                            refine AL.nx ?_
                            refine AW.ret ?_
                            refine ret_and ?_
                            refine post_one rfl rfl ?_ (.inr rfl)
                            exfalso; first | omega | exact absurd (hk93.trans hk39.symm) c302 | exact absurd (hk278.trans hk39.symm) c302 | (simp at c302; done) | exact absurd c302 (by simp)
                          · -- else
                            refine AW.skip ?_
                            refine nrm_and ?_
                            refine AW.rs ?_
                            refine AL.val rfl (.inl rfl) (HV.as rfl) ?_
                            refine AL.nx ?_
                            refine AW.rs ?_
                            refine AL.val rfl (.inl rfl) (HV.mv rfl) ?_
                            refine AL.val rfl (.inl rfl) (HV.mv rfl) ?_
                            refine AL.w rfl (.inl rfl) (WV.call fn32 rfl (heldSh_ok 1 ho300.rd (by omega) hh230)) ?_
                            rintro _ H303 ⟨rfl, hx304⟩
                            have X305 := Ext.trans X293 hx304
                            have X306 := Ext.trans X294 hx304
                            have X307 := Ext.trans X295 hx304
                            have X308 := Ext.trans X296 hx304
                            have X309 := Ext.trans X297 hx304
                            have X310 := Ext.trans X298 hx304
                            have X311 := Ext.trans X299 hx304
                            have ho312 := ho300.ext hx304
                            refine AL.val rfl (.inl rfl) (HV.as rfl) ?_
                            refine AL.nx ?_
                            refine AW.seq ?_
                            refine AW.rs ?_
                            refine AL.val rfl (.inl rfl) (HV.mv rfl) ?_
                            refine AL.val rfl (.inl rfl) (HV.lti rfl rfl) ?_
                            refine AL.nx ?_
                            refine AW.ifd rfl (fun c313 => ?_) (fun c313 => ?_)
                            · -- then
                              refine AW.rs ?_
                              refine AL.val rfl (.inl rfl) (HV.as rfl) ?_
                              refine AL.nx ?_
                              refine AW.ret ?_
                              refine ret_and ?_
                              refine post_one rfl rfl ?_ (.inr rfl)
                              exfalso; first | omega | exact absurd (hk93.trans hk39.symm) c313 | exact absurd (hk278.trans hk39.symm) c313 | (simp at c313; done) | exact absurd c313 (by simp)
                            · -- else
                              refine AW.skip ?_
                              refine nrm_and ?_
                              refine AW.seq ?_
                              refine AW.rs ?_
                              refine AL.val rfl (.inl rfl) (HV.mv rfl) ?_
                              refine AL.val rfl (.inl rfl) (HV.mv rfl) ?_
                              refine AL.val rfl (.inl rfl) (HV.nei rfl rfl) ?_
                              refine AL.nx ?_
                              refine AW.ifd rfl (fun c314 => ?_) (fun c314 => ?_)
                              · -- then
                                refine AW.rs ?_
                                refine AL.val rfl (.inl rfl) (HV.as rfl) ?_
                                refine AL.nx ?_
                                refine AW.ret ?_
                                refine ret_and ?_
                                refine post_one rfl rfl ?_ (.inr rfl)
                                exfalso; first | omega | exact absurd (hk93.trans hk39.symm) c314 | exact absurd (hk278.trans hk39.symm) c314 | (simp at c314; done) | exact absurd c314 (by simp)
                              · -- else
                                refine AW.skip ?_
                                refine nrm_and ?_
                                refine AW.rs ?_
                                refine AL.val rfl (.inl rfl) (HV.as rfl) ?_
                                refine AL.nx ?_
                                refine AW.ret ?_
                                refine post_one rfl rfl ?_ (.inr rfl)
                                exact ⟨rfl, X305⟩
                        · -- true
                          have c301_ : (!decide (k277 = k38)) = true := by rw [decide_eq_false c301]; rfl
                          rw [c301_]
                          refine AL.off rfl rfl (by decide) rfl ?_
                          refine AL.off rfl rfl (by decide) rfl ?_
                          refine AL.off rfl rfl (by decide) rfl ?_
                          refine AL.val rfl (.inl rfl) (HV.pickT rfl rfl) ?_
                          refine AL.nx ?_
                          refine AW.cond rfl (fun _ => ?_) (fun h => by cases h)
                          refine AW.rs ?_
                          refine AL.val rfl (.inl rfl) (HV.as rfl) ?_
                          refine AL.nx ?_
                          refine AW.ret ?_
                          refine ret_and ?_
                          refine post_one rfl rfl ?_ (.inr rfl)
                          exfalso; first | omega | exact absurd (hk93.trans hk39.symm) c301 | exact absurd (hk278.trans hk39.symm) c301 | (simp at c301; done) | exact absurd c301 (by simp)
                · -- true
                  have c225_ : (!decide (k92 = k38)) = true := by rw [decide_eq_false c225]; rfl
                  rw [c225_]
                  refine AL.off rfl rfl (by decide) rfl ?_
                  refine AL.off rfl rfl (by decide) rfl ?_
                  refine AL.off rfl rfl (by decide) rfl ?_
                  refine AL.val rfl (.inl rfl) (HV.pickT rfl rfl) ?_
                  refine AL.nx ?_
                  refine AW.cond rfl (fun _ => ?_) (fun h => by cases h)
                  refine AW.rs ?_
                  refine AL.val rfl (.inl rfl) (HV.as rfl) ?_
                  refine AL.nx ?_
                  refine AW.ret ?_
                  refine ret_and ?_
                  refine post_one rfl rfl ?_ (.inr rfl)
                  exfalso; first | omega | exact absurd (hk93.trans hk39.symm) c225 | exact absurd (hk278.trans hk39.symm) c225 | (simp at c225; done) | exact absurd c225 (by simp)
      · -- true
        have c122_ : (!decide (k92 = k38)) = true := by rw [decide_eq_false c122]; rfl
        rw [c122_]
        refine AL.off rfl rfl (by decide) rfl ?_
        refine AL.off rfl rfl (by decide) rfl ?_
        refine AL.off rfl rfl (by decide) rfl ?_
        refine AL.val rfl (.inl rfl) (HV.pickT rfl rfl) ?_
        refine AL.nx ?_
        refine AW.cond rfl (fun _ => ?_) (fun h => by cases h)
        refine AW.rs ?_
        refine AL.val rfl (.inl rfl) (HV.as rfl) ?_
        refine AL.nx ?_
        refine AW.ret ?_
        refine ret_and ?_
        refine post_one rfl rfl ?_ (.inr rfl)
        exfalso; first | omega | exact absurd (hk93.trans hk39.symm) c122 | exact absurd (hk278.trans hk39.symm) c122 | (simp at c122; done) | exact absurd c122 (by simp)
end Go.Proofs.Ytonpikcbmgmchaa.VC
