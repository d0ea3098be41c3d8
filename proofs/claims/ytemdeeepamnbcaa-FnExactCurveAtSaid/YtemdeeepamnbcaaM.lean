/- Plain words for the pure statements: answers in enough rounds, lists, whole numbers of 64 bits, primes up to 31. -/
import Derived.Test.YtemdeeepamnbcaaWWords
import Derived.Test.YtemdeeepamnbcaaWMore
import Derived.RowKit
set_option linter.unusedVariables false
set_option linter.unusedSimpArgs false
namespace Go.Proofs.Ytemdeeepamnbcaa.M
open Go.RowKit Go.Proofs.YtemdeeepamnbcaaW.PrintWords

/-! ### enough rounds -/
theorem Ev.pos {α : Type} {c : Prop} [Decidable c] {f g : Nat → Option α} {r : α} (h : c) (hf : Ev f r) : Ev (fun k => if c then f k else g k) r := by
  simpa only [if_pos h] using hf
theorem Ev.neg {α : Type} {c : Prop} [Decidable c] {f g : Nat → Option α} {r : α} (h : ¬ c) (hg : Ev g r) : Ev (fun k => if c then f k else g k) r := by
  simpa only [if_neg h] using hg
theorem Ev.bindc {α β : Type} {x : Option α} {f : Nat → α → Option β} {a : α} {r : β} (h : x = some a) (k : Ev (fun n => f n a) r) : Ev (fun n => x.bind (f n)) r := by
  subst h; exact k
theorem Ev.eq {α : Type} {g : Nat → Option α} {r r' : α} (h : Ev g r) (e : r = r') : Ev g r' := e ▸ h
theorem Ev.succ {α : Type} {g : Nat → Option α} {r : α} (h : Ev (fun k => g (k + 1)) r) : Ev g r := Ev.step (fun _ => rfl) h
theorem Ev.const {α : Type} {x : Option α} {r : α} (h : x = some r) : Ev (fun _ => x) r := ⟨0, fun _ _ => h⟩

/-! ### whole numbers -/
theorem w64 {n : Int} (h0 : -9223372036854775808 ≤ n) (h1 : n ≤ 9223372036854775807) : wrap64 n = n := by unfold wrap64; omega
theorem wf64 {n : Int} (h : (Lit.int .i64 n).wf = true) : -9223372036854775808 ≤ n ∧ n ≤ 9223372036854775807 := by
  simp only [Lit.wf, IntKind.min, IntKind.max, IntKind.signed, IntKind.bits, Bool.and_eq_true, decide_eq_true_eq, if_true] at h
  omega
theorem w64_bd (n : Int) : -9223372036854775808 ≤ wrap64 n ∧ wrap64 n ≤ 9223372036854775807 := by unfold wrap64; omega
theorem tmod_of {a b : Int} (h : 0 ≤ a) : Int.tmod a b = a % b := Int.tmod_eq_emod_of_nonneg h
theorem tdiv_of {a b : Int} (h : 0 ≤ a) : Int.tdiv a b = a / b := Int.tdiv_eq_ediv_of_nonneg h
theorem rd_nat (l : List Int) (i : Nat) : rd l (i : Int) = l.getD i 0 := by simp [rd]
theorem rd_get (l : List Int) (i : Nat) (h : i < l.length) : rd l (i : Int) = l[i] := by simp [rd, h]

/-! ### primes -/
def isPr (p : Int) : Bool := decide (p ∈ ([2, 3, 5, 7, 11, 13, 17, 19, 23, 29, 31] : List Int))
theorem isPr_bd {p : Int} (h : isPr p = true) : 2 ≤ p ∧ p ≤ 31 := by
  simp only [isPr, decide_eq_true_eq, List.mem_cons, List.mem_nil_iff, or_false] at h
  omega
theorem isPr_small {p : Int} (h : p < 2) : isPr p = false := by
  cases e : isPr p with
  | false => rfl
  | true => have := isPr_bd e; omega
theorem isPr_big {p : Int} (h : 31 < p) : isPr p = false := by
  cases e : isPr p with
  | false => rfl
  | true => have := isPr_bd e; omega
def inR (p a : Int) : Bool := decide (0 ≤ a ∧ a ≤ p - 1)
def allR (p : Int) (l : List Int) : Bool := l.all (inR p)
theorem allR_mem {p : Int} {l : List Int} (h : allR p l = true) : ∀ x ∈ l, 0 ≤ x ∧ x < p := by
  intro x hx
  have := List.all_eq_true.1 h x hx
  simp only [inR, decide_eq_true_eq] at this
  omega
theorem allR_get {p : Int} {l : List Int} (h : allR p l = true) (i : Nat) (hi : i < l.length) : 0 ≤ l[i] ∧ l[i] < p := allR_mem h _ (List.getElem_mem hi)

/-! ### bounds of products of small numbers -/
theorem mul_bd {a b A B : Int} (ha0 : 0 ≤ a) (ha : a ≤ A) (hb0 : 0 ≤ b) (hb : b ≤ B) : 0 ≤ a * b ∧ a * b ≤ A * B :=
  ⟨Int.mul_nonneg ha0 hb0, Int.mul_le_mul ha hb hb0 (Int.le_trans ha0 ha)⟩
theorem emod_bd {p : Int} (hp : 0 < p) (a : Int) : 0 ≤ a % p ∧ a % p < p := ⟨Int.emod_nonneg _ (by omega), Int.emod_lt_of_pos _ hp⟩

/-! ### curves -/
def lastNZ (l : List Int) : Bool := l.isEmpty || l.getLast? != some 0
theorem lastNZ_rd {l : List Int} (h : l.length ≠ 0) : (rd l ((l.length : Int) - 1) != 0) = lastNZ l := by
  have e : ((l.length : Int) - 1) = ((l.length - 1 : Nat) : Int) := by omega
  rw [e, rd_get l (l.length - 1) (by omega)]
  unfold lastNZ
  have h2 : l.isEmpty = false := by cases l <;> simp_all
  rw [h2, List.getLast?_eq_getElem?, List.getElem?_eq_getElem (by omega)]
  simp
  rfl
def isCurve (p : Int) (l : List Int) : Bool := isPr p && (decide (l.length ≤ 7) && (allR p l && lastNZ l))
theorem isCurve_of {p : Int} {l : List Int} (h : isCurve p l = true) : isPr p = true ∧ l.length ≤ 7 ∧ allR p l = true ∧ lastNZ l = true := by
  simpa [isCurve, Bool.and_eq_true] using h
/-- The value of coefficients at x. -/
def cval (p : Int) (l : List Int) (x : Int) : Int := l.foldr (fun c acc => (acc * x + c) % p) 0
theorem cval_nil (p x : Int) : cval p [] x = 0 := rfl
theorem cval_cons (p c : Int) (l : List Int) (x : Int) : cval p (c :: l) x = (cval p l x * x + c) % p := rfl
theorem cval_bd {p : Int} (hp : 0 < p) (l : List Int) (x : Int) : 0 ≤ cval p l x ∧ cval p l x < p := by
  cases l with
  | nil => exact ⟨Int.le_refl _, hp⟩
  | cons c l => exact emod_bd hp _
/-- Horner's rule, begun with acc behind the first n coefficients. -/
def horner (p x : Int) (l : List Int) (acc : Int) : Int := l.foldr (fun c acc => (acc * x + c) % p) acc
theorem horner_take (p x : Int) (l : List Int) (n : Nat) (h : n < l.length) (acc : Int) : horner p x (l.take (n + 1)) acc = horner p x (l.take n) ((acc * x + l[n]) % p) := by
  unfold horner
  rw [List.take_succ_eq_append_getElem h, List.foldr_append]
  rfl

/-! ### points -/
def rises : List Int → Bool
  | [] => true
  | [_] => true
  | a :: b :: l => decide (a < b) && rises (b :: l)
def isPts (p : Int) (l : List Int) : Bool := decide (l.length ≤ 10) && (rises l && l.all (fun x => decide (1 ≤ x ∧ x ≤ p - 1)))
theorem rises_cons {a : Int} {l : List Int} (h : rises (a :: l) = true) : rises l = true := by
  cases l with
  | nil => rfl
  | cons b l => simp only [rises, Bool.and_eq_true] at h; exact h.2
theorem rises_lt : ∀ {l : List Int} {a : Int}, rises (a :: l) = true → ∀ x ∈ l, a < x
  | [], _, _, x, hx => by cases hx
  | b :: l, a, h, x, hx => by
    simp only [rises, Bool.and_eq_true, decide_eq_true_eq] at h
    rcases List.mem_cons.1 hx with rfl | hx
    · exact h.1
    · exact Int.lt_trans h.1 (rises_lt h.2 x hx)
theorem rises_pairwise : ∀ {l : List Int}, rises l = true → l.Pairwise (· < ·)
  | [], _ => List.Pairwise.nil
  | a :: l, h => List.Pairwise.cons (rises_lt h) (rises_pairwise (rises_cons h))
/-- A list told from the place i on: each element is in bounds and greater than the one before it. -/
def risesAt (lo hi : Int) (l : List Int) (i : Nat) : Bool := (l.drop i).all (fun x => decide (lo ≤ x ∧ x ≤ hi)) && rises (l.drop (i - 1))
theorem risesAt_end (lo hi : Int) (l : List Int) (i : Nat) (h : l.length ≤ i) : risesAt lo hi l i = true := by
  unfold risesAt
  rw [List.drop_of_length_le h]
  rcases (show i = 0 ∨ l.length ≤ i - 1 ∨ (i - 1 + 1 = l.length ∧ 0 < i) by omega) with h1 | h1 | ⟨h1, h2⟩
  · have : l = [] := List.length_eq_zero_iff.1 (by omega)
    subst this; simp [rises]
  · rw [List.drop_of_length_le h1]; rfl
  · have e : l.drop (i - 1) = [l[i - 1]'(by omega)] := by
      rw [List.drop_eq_getElem_cons (by omega), List.drop_of_length_le (by omega)]
    rw [e]; rfl
theorem risesAt_zero (lo hi : Int) (l : List Int) (h : 0 < l.length) : risesAt lo hi l 0 = (decide (lo ≤ l[0] ∧ l[0] ≤ hi) && risesAt lo hi l 1) := by
  unfold risesAt
  have e : l.drop 0 = l[0] :: l.drop 1 := List.drop_eq_getElem_cons h
  simp only [Nat.sub_self, Nat.zero_sub]
  rw [e, List.all_cons, Bool.and_assoc]
theorem risesAt_succ (lo hi : Int) (l : List Int) (i : Nat) (h : i + 1 < l.length) : risesAt lo hi l (i + 1) = (decide (lo ≤ l[i + 1] ∧ l[i + 1] ≤ hi) && (decide (l[i] < l[i + 1]) && risesAt lo hi l (i + 2))) := by
  unfold risesAt
  have e : l.drop (i + 1) = l[i + 1] :: l.drop (i + 2) := List.drop_eq_getElem_cons h
  have e2 : l.drop i = l[i] :: l.drop (i + 1) := List.drop_eq_getElem_cons (by omega)
  simp only [Nat.add_sub_cancel, show i + 2 - 1 = i + 1 by omega]
  rw [e2, e, List.all_cons]
  simp only [rises]
  cases decide (lo ≤ l[i + 1] ∧ l[i + 1] ≤ hi) <;> cases decide (l[i] < l[i + 1]) <;> simp
theorem risesAt_all (lo hi : Int) (l : List Int) : risesAt lo hi l 0 = (l.all (fun x => decide (lo ≤ x ∧ x ≤ hi)) && rises l) := by
  unfold risesAt; simp

/-! ### inverses -/
def invM (p a : Int) : Int := (((List.range 31).map (fun n : Nat => (n : Int))).find? (fun x => decide (a * x % p = 1 ∧ 0 < x ∧ x < p))).getD 0
theorem invM_small : ∀ p a : Fin 32, isPr (p.val : Int) = true → 1 ≤ a.val → a.val < p.val → ((a.val : Int) * invM p.val a.val) % p.val = 1 ∧ 1 ≤ invM p.val a.val ∧ invM (p.val : Int) a.val < p.val := by decide +kernel
theorem invM_spec {p a : Int} (hp : isPr p = true) (h1 : 1 ≤ a) (h2 : a < p) : (a * invM p a) % p = 1 ∧ 1 ≤ invM p a ∧ invM p a < p := by
  have hb := isPr_bd hp
  obtain ⟨p, rfl⟩ : ∃ n : Nat, p = n := ⟨p.toNat, by omega⟩
  obtain ⟨a, rfl⟩ : ∃ n : Nat, a = n := ⟨a.toNat, by omega⟩
  exact invM_small ⟨p, by omega⟩ ⟨a, by omega⟩ hp (by simp only; omega) (by simp only; omega)

/-! ### the first place that holds something -/
def idxFrom {α : Type} (f : α → Bool) : List α → Int → Int
  | [], _ => -1
  | x :: xs, i => if f x = true then i else idxFrom f xs (i + 1)
theorem idxFrom_any {α : Type} (f : α → Bool) : ∀ (l : List α) (i : Int), 0 ≤ i → decide (idxFrom f l i ≥ 0) = l.any f
  | [], i, h => rfl
  | x :: xs, i, h => by
    unfold idxFrom
    rw [List.any_cons]
    cases hx : f x with
    | true => rw [if_pos rfl, Bool.true_or]; exact decide_eq_true h
    | false => rw [if_neg Bool.false_ne_true, Bool.false_or]; exact idxFrom_any f xs (i + 1) (by omega)
theorem not_allR (p : Int) (l : List Int) : l.any (fun x => !inR p x) = !allR p l := by
  unfold allR
  induction l with
  | nil => rfl
  | cons x xs ih => rw [List.any_cons, List.all_cons, ih]; cases inR p x <;> rfl

/-! ### folds that leave one place out -/
def skipFold {α β : Type} (f : β → α → β) (i : Nat) : Nat → List α → β → β
  | _, [], b => b
  | k, y :: ys, b => skipFold f i (k + 1) ys (if k = i then b else f b y)
end Go.Proofs.Ytemdeeepamnbcaa.M
