/- Walks. -/
import Derived.Test.YteajnanbfkcdcaaDoorVE
import Derived.Test.YteajnanbfkcdcaaDoorVS3
set_option linter.unusedVariables false
set_option linter.unusedSimpArgs false
namespace Go.Proofs.YteajnanbfkcdcaaDoor.VC
open Go Go.RowKit
variable {W : World} {H : Hp}
def cmpI (a b : Int) : Int := if a < b then -1 else if a > b then 1 else 0
/-- Lexicographic order, as a number. -/
def lexI : List Int → List Int → Int
  | [], [] => 0
  | [], _ :: _ => -1
  | _ :: _, [] => 1
  | a :: l, b :: m => if a < b then -1 else if a > b then 1 else lexI l m
theorem lexI_drop {l m : List Int} : ∀ {i : Nat}, (∀ j, j < i → l.getD j 0 = m.getD j 0) → i ≤ l.length → i ≤ m.length → lexI l m = lexI (l.drop i) (m.drop i)
  | 0, _, _, _ => rfl
  | i + 1, he, h1, h2 => by
    cases l with
    | nil => simp at h1
    | cons a l => cases m with
      | nil => simp at h2
      | cons b m =>
        have h0 := he 0 (by omega)
        simp only [List.getD_cons_zero] at h0
        subst h0
        simp only [lexI, Int.lt_irrefl, gt_iff_lt, if_false, List.drop_succ_cons]
        exact lexI_drop (fun j hj => by have := he (j + 1) (by omega); simpa only [List.getD_cons_succ] using this) (by simpa using h1) (by simpa using h2)
theorem lexI_at {l m : List Int} {i : Nat} (he : ∀ j, j < i → l.getD j 0 = m.getD j 0) (h1 : i < l.length) (h2 : i < m.length) (hn : l.getD i 0 ≠ m.getD i 0) : lexI l m = cmpI (l.getD i 0) (m.getD i 0) := by
  rw [lexI_drop he (by omega) (by omega)]
  rw [List.drop_eq_getElem_cons h1, List.drop_eq_getElem_cons h2]
  have e1 : l.getD i 0 = l[i] := by simp [h1]
  have e2 : m.getD i 0 = m[i] := by simp [h2]
  rw [e1, e2] at hn ⊢
  simp only [lexI, cmpI]
  by_cases c1 : l[i] < m[i]
  · simp [c1]
  · by_cases c2 : l[i] > m[i]
    · simp [c1, c2]
    · omega
theorem lexI_end {l m : List Int} {i : Nat} (he : ∀ j, j < i → l.getD j 0 = m.getD j 0) (h1 : i ≤ l.length) (h2 : i ≤ m.length) (h : i = l.length ∨ i = m.length) : lexI l m = if l.length < m.length then -1 else if l.length > m.length then 1 else 0 := by
  rw [lexI_drop he h1 h2]
  rcases h with rfl | rfl
  · rw [List.drop_length]
    rcases Nat.lt_or_ge l.length m.length with h | h
    · rw [List.drop_eq_getElem_cons h, if_pos h]; rfl
    · have : m.drop l.length = [] := List.drop_of_length_le h
      rw [this, if_neg (by omega), if_neg (by omega)]; rfl
  · rw [List.drop_length]
    rcases Nat.lt_or_ge m.length l.length with h | h
    · rw [List.drop_eq_getElem_cons h, if_neg (by omega), if_pos h]; rfl
    · have : l.drop m.length = [] := List.drop_of_length_le h
      rw [this, if_neg (by omega), if_neg (by omega)]; rfl
theorem list_eq {α : Type} [Inhabited α] {l m : List α} {d : α} (hl : l.length = m.length) (h : ∀ j, j < l.length → l.getD j d = m.getD j d) : l = m := by
  apply List.ext_getElem hl
  intro j h1 h2
  have := h j h1
  simpa [h1, h2] using this
theorem set_step {α : Type} {k l : List α} {d z : α} {i : Nat} (he : ∀ j, j < i → k.getD j d = l.getD j d) (hk : k.length = l.length) (hz : l[i]? = some z) : ∀ j, j < i + 1 → (k.set (i : Int).toNat z).getD j d = l.getD j d := fun j hj => by
  have hi := (List.getElem?_eq_some_iff.1 hz).1
  rw [Int.toNat_natCast]
  by_cases e : j = i
  · subst e
    have h2 := (List.getElem?_eq_some_iff.1 hz).2
    simp [hk, hi, h2]
  · have := he j (by omega)
    simp only [List.getD_eq_getElem?_getD] at this ⊢
    rw [List.getElem?_set_ne (fun e' => e e'.symm)]
    exact this
theorem cmpI_zero {a b : Int} : cmpI a b = 0 ↔ a = b := by unfold cmpI; split <;> (try split) <;> omega
def bitsI (l : List Int) : Int := l.foldl (fun a h => bt .or .i64 a (IntKind.i64.wrap (1 * 2 ^ min (IntKind.u64.wrap h).toNat IntKind.i64.bits))) 0
theorem foldl_snoc0 {α β : Type} (f : β → α → β) (b : β) {l : List α} {i : Nat} {z : α} (h : l[i]? = some z) : (l.take (i + 1)).foldl f b = f ((l.take i).foldl f b) z := by
  rw [List.take_succ_eq_append_getElem (List.getElem?_eq_some_iff.1 h).1, List.foldl_append, (List.getElem?_eq_some_iff.1 h).2]; rfl
theorem bitsI_snoc {l : List Int} {i : Nat} {z : Int} (h : l[(i : Int).toNat]? = some z) : bitsI (l.take (i + 1)) = bt .or .i64 (bitsI (l.take i)) (IntKind.i64.wrap (1 * 2 ^ min (IntKind.u64.wrap z).toNat IntKind.i64.bits)) := foldl_snoc0 _ _ h
theorem u64_nonneg (x : Int) : 0 ≤ IntKind.u64.wrap x := by
  simp only [IntKind.wrap, IntKind.signed, IntKind.bits, Bool.false_and, Bool.false_eq_true, if_false]
  exact Int.emod_nonneg _ (by decide)
def RisAt (lo hi : Int) (l : List Int) (j : Nat) : Prop := lo ≤ l.getD j 0 ∧ l.getD j 0 ≤ hi ∧ (0 < j → l.getD (j - 1) 0 < l.getD j 0)
instance (lo hi : Int) (l : List Int) (j : Nat) : Decidable (RisAt lo hi l j) := by unfold RisAt; infer_instance
def Ris (lo hi : Int) (l : List Int) : Prop := ∀ j, j < l.length → RisAt lo hi l j
instance (lo hi : Int) (l : List Int) : Decidable (Ris lo hi l) := by unfold Ris; infer_instance
def crowd (l : List Int) : Int := l.foldl (fun a h => bt .or .u64 a (IntKind.u64.wrap (1 * 2 ^ min h.toNat IntKind.u64.bits))) 0
theorem foldl_snoc {α β : Type} (f : β → α → β) (b : β) {l : List α} {i : Nat} {z : α} (h : l[i]? = some z) : (l.take (i + 1)).foldl f b = f ((l.take i).foldl f b) z := by
  rw [List.take_succ_eq_append_getElem (List.getElem?_eq_some_iff.1 h).1, List.foldl_append, (List.getElem?_eq_some_iff.1 h).2]; rfl
theorem crowd_snoc {l : List Int} {i : Nat} {z : Int} (h : l[(i : Int).toNat]? = some z) : crowd (l.take (i + 1)) = bt .or .u64 (crowd (l.take i)) (IntKind.u64.wrap (1 * 2 ^ min z.toNat IntKind.u64.bits)) := foldl_snoc _ _ h
theorem gdt {α : Type} {l : List α} {q p : Int} {j : Nat} {z d : α} (h : (l.take q.toNat)[p.toNat]? = some z) (e : (j : Int) = p) : l.getD j d = z := by
  subst e
  rw [Int.toNat_natCast, List.getElem?_take] at h
  split at h
  · simp [h]
  · cases h
theorem ris_low {n : Int} {l : List Int} (hn : 1 ≤ n ∧ n ≤ 7) (h : Ris 0 (n - 1) l) : ∀ x ∈ l, 0 ≤ x ∧ x < 64 := fun x hx => by
  obtain ⟨j, hj, rfl⟩ := List.getElem_of_mem hx
  have q := h j hj
  have e : l.getD j 0 = l[j] := by simp [hj]
  unfold RisAt at q
  rw [e] at q
  omega
/-- A holder's row lies in one of the rows. -/
def opC (q : Int) (l : List (List Int)) : Prop := ∃ x ∈ l, bt .and .u64 q (crowd x) = crowd x
noncomputable instance (q : Int) (l : List (List Int)) : Decidable (opC q l) := Classical.propDecidable _
theorem shl7 {n : Int} (hn : 1 ≤ n ∧ n ≤ 7) : ∃ N : Nat, IntKind.i64.wrap (1 * 2 ^ min (IntKind.u64.wrap n : Int).toNat IntKind.i64.bits) = N ∧ 2 ^ n.toNat = N ∧ (1 ≤ N ∧ N ≤ 128) := by
  have : n = 1 ∨ n = 2 ∨ n = 3 ∨ n = 4 ∨ n = 5 ∨ n = 6 ∨ n = 7 := by omega
  rcases this with rfl | rfl | rfl | rfl | rfl | rfl | rfl <;> exact ⟨_, rfl, rfl, by decide⟩
def RowAt (n : Int) (l : List (List Int)) (i : Nat) : Prop := Ris 0 (n - 1) (l.getD i []) ∧ (0 < i → lexI (l.getD (i - 1) []) (l.getD i []) < 0)
def inI (x y : List Int) : Prop := bt .and .i64 (bitsI x) (bitsI y) = bitsI x
def inC (x y : List Int) : Prop := bt .and .u64 (crowd x) (crowd y) = crowd y
def okI (n : Int) (l : List (List Int)) : Prop := (1 ≤ n ∧ n ≤ 7) ∧ (∀ i, i < l.length → RowAt n l i) ∧ ∀ i, i < l.length → ∀ j, j < l.length → i ≠ j → ¬ inI (l.getD i []) (l.getD j [])
def okC (n : Int) (l : List (List Int)) : Prop := (1 ≤ n ∧ n ≤ 7) ∧ ∀ i, i < l.length → RowAt n l i ∧ ∀ j, j < i → ¬ inC (l.getD j []) (l.getD i []) ∧ ¬ inC (l.getD i []) (l.getD j [])
noncomputable instance (n : Int) (l : List (List Int)) : Decidable (okI n l) := Classical.propDecidable _
noncomputable instance (n : Int) (l : List (List Int)) : Decidable (okC n l) := Classical.propDecidable _
/-- A holder's row lies in one of the rows, by the reference's bits. -/
def opI (s : Int) (l : List (List Int)) : Prop := ∃ x ∈ l, bt .and .i64 (bitsI x) s = bitsI x
noncomputable instance (q : Int) (l : List (List Int)) : Decidable (opI q l) := Classical.propDecidable _
noncomputable def tabI (n : Int) (l : List (List Int)) : List Bool := (List.range (2 ^ n.toNat)).map fun (s : Nat) => decide (opI (s : Int) l)
theorem tabI_length (n : Int) (l : List (List Int)) : (tabI n l).length = 2 ^ n.toNat := by simp [tabI]
theorem tabI_get {n : Int} {l : List (List Int)} {s : Nat} (h : s < 2 ^ n.toNat) : (tabI n l).getD s false = decide (opI s l) := by
  simp [tabI, List.getD_eq_getElem?_getD, h]
theorem set_ne {k : List Bool} {i s : Nat} {b : Bool} (h : s ≠ i) : (k.set (i : Int).toNat b).getD s false = k.getD s false := by
  simp only [List.getD_eq_getElem?_getD, Int.toNat_natCast]
  rw [List.getElem?_set_ne (fun e => h e.symm)]
theorem opI_snoc {s : Int} {l : List (List Int)} {j : Nat} {z : List Int} (hz : l[(j : Int).toNat]? = some z) : opI s (l.take (j + 1)) ↔ opI s (l.take j) ∨ bt .and .i64 (bitsI z) s = bitsI z := by
  rw [Int.toNat_natCast] at hz
  rw [List.take_add_one, hz]
  simp only [opI, List.mem_append, Option.toList_some, List.mem_singleton]
  constructor
  · rintro ⟨x, hx | rfl, h⟩
    · exact .inl ⟨x, hx, h⟩
    · exact .inr h
  · rintro (⟨x, hx, h⟩ | h)
    · exact ⟨x, .inl hx, h⟩
    · exact ⟨z, .inr rfl, h⟩
theorem tab_step {k : List Bool} {i j : Nat} {l : List (List Int)} {z : List Int} {t : Bool} (hi : i < k.length) (hm : k.getD i false = decide (opI i (l.take j))) (ht : k[(i : Int).toNat]? = some t) (hc : (!t) = true) (hz : l[(j : Int).toNat]? = some z) :
    (k.set (i : Int).toNat (decide (bt .and .i64 (bitsI z) (i : Int) = bitsI z))).getD i false = decide (opI i (l.take (j + 1))) := by
  have e0 : k.getD i false = t := gd ht rfl
  have e1 : t = false := by cases t <;> simp_all
  have e2 : ¬ opI i (l.take j) := of_decide_eq_false (by rw [← hm, e0, e1])
  rw [Bool.eq_iff_iff, decide_eq_true_iff, opI_snoc hz]
  simp [hi, e2]
theorem opI_take {s : Int} {l : List (List Int)} {j : Nat} (h : opI s (l.take j)) : opI s l := by
  obtain ⟨x, hx, h⟩ := h
  exact ⟨x, List.mem_of_mem_take hx, h⟩
theorem tab_t {k : List Bool} {i j : Nat} {l : List (List Int)} {t : Bool} (hm : k.getD i false = decide (opI i (l.take j))) (ht : k[(i : Int).toNat]? = some t) (hc : (!t) = false) : k.getD i false = decide (opI i l) := by
  have e0 : k.getD i false = t := gd ht rfl
  have e1 : t = true := by cases t <;> simp_all
  have e2 : opI i (l.take j) := of_decide_eq_true (by rw [← hm, e0, e1])
  rw [e0, e1]
  exact (decide_eq_true (opI_take e2)).symm
theorem mark_step {k : List Int} {q p : Int} {i : Nat} (he : ∀ j, j < i → k.getD j 0 = q + (j : Int)) (hi : i < k.length) (hp : p = q + i) : ∀ j, j < i + 1 → (k.set (i : Int).toNat p).getD j 0 = q + (j : Int) := fun j hj => by
  rw [Int.toNat_natCast]
  simp only [List.getD_eq_getElem?_getD] at he ⊢
  by_cases e : j = i
  · subst e; simp [hi, hp]
  · rw [List.getElem?_set_ne (fun e' => e e'.symm)]; exact he j (by omega)
theorem sq6 {d : Int} (h1 : 2 ≤ d) (h2 : d ≤ 6) : 4 ≤ d * d ∧ d * d ≤ 36 ∧ (d * d ≤ 31 → d ≤ 5) := by
  have : d = 2 ∨ d = 3 ∨ d = 4 ∨ d = 5 ∨ d = 6 := by omega
  rcases this with rfl | rfl | rfl | rfl | rfl <;> decide
theorem sq_lt {d e : Int} (h0 : 0 ≤ d) (h : e * e < d * d) (h1 : 0 ≤ e) : e < d := by
  rcases Int.lt_or_le e d with h2 | h2
  · exact h2
  · have := Int.mul_le_mul h2 h2 h0 h1; omega
def primeI (p : Int) : Prop := (2 ≤ p ∧ p ≤ 31) ∧ ∀ e : Int, 2 ≤ e → e * e ≤ p → p % e ≠ 0
def elems (p : Int) (l : List Int) : Prop := ∀ j, j < l.length → 0 ≤ l.getD j 0 ∧ l.getD j 0 ≤ p - 1
theorem mul31 {a b : Int} (h1 : 0 ≤ a) (h2 : a ≤ 31) (h3 : 0 ≤ b) (h4 : b ≤ 31) : 0 ≤ a * b ∧ a * b ≤ 961 := by
  have h5 := Int.mul_nonneg h1 h3
  have h6 := Int.mul_le_mul h2 h4 h3 (by decide)
  omega
theorem elem_at {p : Int} {l : List Int} {q z : Int} (h : elems p l) (hz : l[q.toNat]? = some z) : 0 ≤ z ∧ z ≤ p - 1 := by
  have hi := (List.getElem?_eq_some_iff.1 hz).1
  have := h q.toNat hi
  rwa [List.getD_eq_getElem?_getD, hz] at this
theorem map_snoc {α : Type} {f : α → Int} {l : List α} {i : Nat} {z : α} (hz : l[(i : Int).toNat]? = some z) : (l.take (i + 1)).map f = (l.take i).map f ++ [f z] := by
  rw [Int.toNat_natCast] at hz
  rw [List.take_add_one, hz]; simp
theorem nn_nil {α : Type} {K : Kd α} {ok : Nat → Prop} {v : Value} {l : List α} (h : RdK K W H ok v l) (hn : (!nn v) = true) : l = [] := by
  cases l with
  | nil => rfl
  | cons a l => rw [nn_pos h (by simp)] at hn; cases hn
theorem get_getD {α : Type} {l : List α} {i : Nat} {d : α} (h : i < l.length) : l[(i : Int).toNat]? = some (l.getD i d) := by
  rw [Int.toNat_natCast]; simp [h]
theorem same_at {α : Type} {l : List α} {q : Int} {z y : α} (h : l[q.toNat]? = some z) (k : l[q.toNat]? = some y) : y = z := Option.some.inj (k.symm.trans h)
def offs (l : List (List Int)) (i : Nat) : Int := (List.range i).foldl (fun s t => s + ((l.getD t []).length : Int)) 0
theorem offs_succ {l : List (List Int)} {i : Nat} (hi : i < l.length) : offs l (i + 1) = offs l i + (l.getD i []).length := by
  unfold offs
  rw [List.range_succ, List.foldl_append]; rfl
theorem offs_le {l : List (List Int)} {B : Nat} (h : ∀ x ∈ l, x.length ≤ B) : ∀ i : Nat, i ≤ l.length → 0 ≤ offs l i ∧ offs l i ≤ (i * B : Nat)
  | 0, _ => by simp [offs]
  | i + 1, hi => by
    have h1 := offs_le h i (by omega)
    have h2 := h l[i] (List.getElem_mem (by omega))
    have e : l.getD i [] = l[i] := by simp [show i < l.length by omega]
    rw [offs_succ (by omega), e, Nat.succ_mul]
    omega
def sameLen (k l : List (List Int)) : Prop := k.length = l.length ∧ ∀ t, (k.getD t []).length = (l.getD t []).length
theorem sameLen.refl (l : List (List Int)) : sameLen l l := ⟨rfl, fun _ => rfl⟩
theorem sameLen.trans {a b c : List (List Int)} (h : sameLen a b) (k : sameLen b c) : sameLen a c := ⟨h.1.trans k.1, fun t => (h.2 t).trans (k.2 t)⟩
theorem sameLen.set {k l : List (List Int)} (h : sameLen k l) {i : Nat} {z x : List Int} (hz : k[(i : Int).toNat]? = some z) (hx : x.length = z.length) : sameLen (k.set (i : Int).toNat x) l := by
  rw [Int.toNat_natCast] at hz ⊢
  refine ⟨by simp [h.1], fun t => ?_⟩
  rw [← h.2 t]
  have hi := (List.getElem?_eq_some_iff.1 hz).1
  simp only [List.getD_eq_getElem?_getD]
  by_cases e : t = i
  · subst e; simp [hi, hx, ← (List.getElem?_eq_some_iff.1 hz).2]
  · rw [List.getElem?_set_ne (fun e' => e e'.symm)]
def heldL (q : Int) (l k : List (List Int)) (n : Nat) : Prop := ∀ i, i < n → ∀ j : Nat, j < (k.getD i []).length → (k.getD i []).getD j 0 = q + offs l i + (j : Int)
theorem heldL.step {q p : Int} {l k : List (List Int)} {i : Nat} {z x : List Int} (h : heldL q l k i) (hz : k[(i : Int).toNat]? = some z) (hp : p = q + offs l i) (hx : ∀ j : Nat, j < x.length → x.getD j 0 = p + (j : Int)) : heldL q l (k.set (i : Int).toNat x) (i + 1) := by
  rw [Int.toNat_natCast] at hz ⊢
  have hi := (List.getElem?_eq_some_iff.1 hz).1
  intro t ht j hj
  by_cases e : t = i
  · subst e
    have e2 : (k.set t x).getD t [] = x := by simp [List.getD_eq_getElem?_getD, hi]
    rw [e2] at hj ⊢
    rw [hx j hj, hp]
  · have e2 : (k.set i x).getD t [] = k.getD t [] := by
      simp only [List.getD_eq_getElem?_getD]
      rw [List.getElem?_set_ne (fun e' => e e'.symm)]
    rw [e2] at hj ⊢
    exact h t (by omega) j hj
noncomputable instance (p : Int) : Decidable (primeI p) := Classical.propDecidable _
noncomputable instance (p : Int) (l : List Int) : Decidable (elems p l) := Classical.propDecidable _
theorem prime_all {p : Int} : primeI p ↔ (2 ≤ p ∧ p ≤ 31) ∧ ∀ e : Int, 2 ≤ e → e < p → p % e ≠ 0 := by
  constructor
  · rintro ⟨h1, h2⟩
    refine ⟨h1, fun e he hp h0 => ?_⟩
    have key := (by decide +kernel : ∀ p e : Fin 32, 2 ≤ e.val → e.val < p.val → p.val % e.val = 0 → ∃ d : Fin 32, 2 ≤ d.val ∧ d.val * d.val ≤ p.val ∧ p.val % d.val = 0) ⟨p.toNat, by omega⟩ ⟨e.toNat, by omega⟩ (by show 2 ≤ e.toNat; omega) (by show e.toNat < p.toNat; omega) (by show p.toNat % e.toNat = 0; obtain ⟨a, rfl⟩ := Int.eq_ofNat_of_zero_le (show 0 ≤ p by omega); obtain ⟨b, rfl⟩ := Int.eq_ofNat_of_zero_le (show 0 ≤ e by omega); simp only [Int.toNat_natCast]; exact_mod_cast h0)
    obtain ⟨d, k1, k2, k3⟩ := key
    have k2' : d.val * d.val ≤ p.toNat := k2
    have k3' : p.toNat % d.val = 0 := k3
    obtain ⟨a, rfl⟩ := Int.eq_ofNat_of_zero_le (show 0 ≤ p by omega)
    simp only [Int.toNat_natCast] at k2' k3'
    exact h2 (d.val : Int) (by omega) (by exact_mod_cast k2') (by exact_mod_cast k3')
  · rintro ⟨h1, h2⟩
    refine ⟨h1, fun e he hq => h2 e he ?_⟩
    rcases Int.lt_or_le e p with h | h
    · exact h
    · have : e * e ≥ 2 * e := Int.mul_le_mul_of_nonneg_right he (by omega)
      omega
/-- A matrix that counts. -/
def okMx (p k : Int) (l : List (List Int)) : Prop := primeI p ∧ (0 ≤ k ∧ k ≤ 12) ∧ l.length ≤ 20 ∧ ∀ x ∈ l, elems p x ∧ (x.length : Int) = k
noncomputable instance (p k : Int) (l : List (List Int)) : Decidable (okMx p k l) := Classical.propDecidable _
/-- A scheme that counts. -/
def okSc (n : Int) (o : List Int) (p k : Int) (l : List (List Int)) : Prop := (1 ≤ n ∧ n ≤ 7) ∧ okMx p k l ∧ 1 ≤ k ∧ o.length = l.length ∧ ∀ x ∈ o, 0 ≤ x ∧ x ≤ n - 1
noncomputable instance (n : Int) (o : List Int) (p k : Int) (l : List (List Int)) : Decidable (okSc n o p k l) := Classical.propDecidable _
theorem mem_getD {α : Type} {l : List α} {d x : α} (h : x ∈ l) : ∃ j, j < l.length ∧ l.getD j d = x := by
  obtain ⟨j, hj, rfl⟩ := List.getElem_of_mem h
  exact ⟨j, hj, by simp [hj]⟩
variable {W : World} {H : Hp}

end Go.Proofs.YteajnanbfkcdcaaDoor.VC
