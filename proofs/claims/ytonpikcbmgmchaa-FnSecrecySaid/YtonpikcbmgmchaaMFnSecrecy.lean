/- Plain words for the pure statements: answers in enough rounds, lists, whole numbers of 64 bits, primes up to 31. -/
import Derived.Test.YtonpikcbmgmchaaVFnSecrecy
import Derived.RowKit
set_option linter.unusedVariables false
set_option linter.unusedSimpArgs false
namespace Go.Proofs.Ytonpikcbmgmchaa.M
open Go.RowKit Go.Proofs.YtonpikcbmgmchaaW.PrintWords

/-! ### enough rounds -/
theorem Ev.pos {α : Type} {c : Prop} [Decidable c] {f g : Nat → Option α} {r : α} (h : c) (hf : Ev f r) : Ev (fun k => if c then f k else g k) r := by
  simpa only [if_pos h] using hf
theorem Ev.neg {α : Type} {c : Prop} [Decidable c] {f g : Nat → Option α} {r : α} (h : ¬ c) (hg : Ev g r) : Ev (fun k => if c then f k else g k) r := by
  simpa only [if_neg h] using hg
theorem Ev.bindc {α β : Type} {x : Option α} {f : Nat → α → Option β} {a : α} {r : β} (h : x = some a) (k : Ev (fun n => f n a) r) : Ev (fun n => x.bind (f n)) r := by
  subst h; exact k
theorem Ev.eq {α : Type} {g : Nat → Option α} {r r' : α} (h : Ev g r) (e : r = r') : Ev g r' := e ▸ h
theorem Ev.succ {α : Type} {g : Nat → Option α} {r : α} (h : Ev (fun k => g (k + 1)) r) : Ev g r := Ev.step (fun _ => rfl) h
theorem Ev.const {α : Type} {x : Option α} {r : α} (h : x = some r) : Ev (fun _ => x) r := ⟨0, fun _ _ => h⟩

/-! ### whole numbers -/
theorem w64 {n : Int} (h0 : -9223372036854775808 ≤ n) (h1 : n ≤ 9223372036854775807) : wrap64 n = n := by unfold wrap64; omega
theorem wf64 {n : Int} (h : (Lit.int .i64 n).wf = true) : -9223372036854775808 ≤ n ∧ n ≤ 9223372036854775807 := by
  simp only [Lit.wf, IntKind.min, IntKind.max, IntKind.signed, IntKind.bits, Bool.and_eq_true, decide_eq_true_eq, if_true] at h
  omega
theorem w64_bd (n : Int) : -9223372036854775808 ≤ wrap64 n ∧ wrap64 n ≤ 9223372036854775807 := by unfold wrap64; omega
theorem tmod_of {a b : Int} (h : 0 ≤ a) : Int.tmod a b = a % b := Int.tmod_eq_emod_of_nonneg h
theorem tdiv_of {a b : Int} (h : 0 ≤ a) : Int.tdiv a b = a / b := Int.tdiv_eq_ediv_of_nonneg h
theorem rd_nat (l : List Int) (i : Nat) : rd l (i : Int) = l.getD i 0 := by simp [rd]
theorem rd_get (l : List Int) (i : Nat) (h : i < l.length) : rd l (i : Int) = l[i] := by simp [rd, h]

/-! ### primes -/
def isPr (p : Int) : Bool := decide (p ∈ ([2, 3, 5, 7, 11, 13, 17, 19, 23, 29, 31] : List Int))
theorem isPr_bd {p : Int} (h : isPr p = true) : 2 ≤ p ∧ p ≤ 31 := by
  simp only [isPr, decide_eq_true_eq, List.mem_cons, List.mem_nil_iff, or_false] at h
  omega
theorem isPr_small {p : Int} (h : p < 2) : isPr p = false := by
  cases e : isPr p with
  | false => rfl
  | true => have := isPr_bd e; omega
theorem isPr_big {p : Int} (h : 31 < p) : isPr p = false := by
  cases e : isPr p with
  | false => rfl
  | true => have := isPr_bd e; omega
def inR (p a : Int) : Bool := decide (0 ≤ a ∧ a ≤ p - 1)
def allR (p : Int) (l : List Int) : Bool := l.all (inR p)
theorem allR_mem {p : Int} {l : List Int} (h : allR p l = true) : ∀ x ∈ l, 0 ≤ x ∧ x < p := by
  intro x hx
  have := List.all_eq_true.1 h x hx
  simp only [inR, decide_eq_true_eq] at this
  omega
theorem allR_get {p : Int} {l : List Int} (h : allR p l = true) (i : Nat) (hi : i < l.length) : 0 ≤ l[i] ∧ l[i] < p := allR_mem h _ (List.getElem_mem hi)

/-! ### bounds of products of small numbers -/
theorem mul_bd {a b A B : Int} (ha0 : 0 ≤ a) (ha : a ≤ A) (hb0 : 0 ≤ b) (hb : b ≤ B) : 0 ≤ a * b ∧ a * b ≤ A * B :=
  ⟨Int.mul_nonneg ha0 hb0, Int.mul_le_mul ha hb hb0 (Int.le_trans ha0 ha)⟩
theorem emod_bd {p : Int} (hp : 0 < p) (a : Int) : 0 ≤ a % p ∧ a % p < p := ⟨Int.emod_nonneg _ (by omega), Int.emod_lt_of_pos _ hp⟩

/-! ### curves -/
def lastNZ (l : List Int) : Bool := l.isEmpty || l.getLast? != some 0
theorem lastNZ_rd {l : List Int} (h : l.length ≠ 0) : (rd l ((l.length : Int) - 1) != 0) = lastNZ l := by
  have e : ((l.length : Int) - 1) = ((l.length - 1 : Nat) : Int) := by omega
  rw [e, rd_get l (l.length - 1) (by omega)]
  unfold lastNZ
  have h2 : l.isEmpty = false := by cases l <;> simp_all
  rw [h2, List.getLast?_eq_getElem?, List.getElem?_eq_getElem (by omega)]
  simp
  rfl
def isCurve (p : Int) (l : List Int) : Bool := isPr p && (decide (l.length ≤ 7) && (allR p l && lastNZ l))
theorem isCurve_of {p : Int} {l : List Int} (h : isCurve p l = true) : isPr p = true ∧ l.length ≤ 7 ∧ allR p l = true ∧ lastNZ l = true := by
  simpa [isCurve, Bool.and_eq_true] using h
/-- The value of coefficients at x. -/
def cval (p : Int) (l : List Int) (x : Int) : Int := l.foldr (fun c acc => (acc * x + c) % p) 0
theorem cval_nil (p x : Int) : cval p [] x = 0 := rfl
theorem cval_cons (p c : Int) (l : List Int) (x : Int) : cval p (c :: l) x = (cval p l x * x + c) % p := rfl
theorem cval_bd {p : Int} (hp : 0 < p) (l : List Int) (x : Int) : 0 ≤ cval p l x ∧ cval p l x < p := by
  cases l with
  | nil => exact ⟨Int.le_refl _, hp⟩
  | cons c l => exact emod_bd hp _
/-- Horner's rule, begun with acc behind the first n coefficients. -/
def horner (p x : Int) (l : List Int) (acc : Int) : Int := l.foldr (fun c acc => (acc * x + c) % p) acc
theorem horner_take (p x : Int) (l : List Int) (n : Nat) (h : n < l.length) (acc : Int) : horner p x (l.take (n + 1)) acc = horner p x (l.take n) ((acc * x + l[n]) % p) := by
  unfold horner
  rw [List.take_succ_eq_append_getElem h, List.foldr_append]
  rfl

/-! ### points -/
def rises : List Int → Bool
  | [] => true
  | [_] => true
  | a :: b :: l => decide (a < b) && rises (b :: l)
def isPts (p : Int) (l : List Int) : Bool := decide (l.length ≤ 10) && (rises l && l.all (fun x => decide (1 ≤ x ∧ x ≤ p - 1)))
theorem rises_cons {a : Int} {l : List Int} (h : rises (a :: l) = true) : rises l = true := by
  cases l with
  | nil => rfl
  | cons b l => simp only [rises, Bool.and_eq_true] at h; exact h.2
theorem rises_lt : ∀ {l : List Int} {a : Int}, rises (a :: l) = true → ∀ x ∈ l, a < x
  | [], _, _, x, hx => by cases hx
  | b :: l, a, h, x, hx => by
    simp only [rises, Bool.and_eq_true, decide_eq_true_eq] at h
    rcases List.mem_cons.1 hx with rfl | hx
    · exact h.1
    · exact Int.lt_trans h.1 (rises_lt h.2 x hx)
theorem rises_pairwise : ∀ {l : List Int}, rises l = true → l.Pairwise (· < ·)
  | [], _ => List.Pairwise.nil
  | a :: l, h => List.Pairwise.cons (rises_lt h) (rises_pairwise (rises_cons h))
/-- A list told from the place i on: each element is in bounds and greater than the one before it. -/
def risesAt (lo hi : Int) (l : List Int) (i : Nat) : Bool := (l.drop i).all (fun x => decide (lo ≤ x ∧ x ≤ hi)) && rises (l.drop (i - 1))
theorem risesAt_end (lo hi : Int) (l : List Int) (i : Nat) (h : l.length ≤ i) : risesAt lo hi l i = true := by
  unfold risesAt
  rw [List.drop_of_length_le h]
  rcases (show i = 0 ∨ l.length ≤ i - 1 ∨ (i - 1 + 1 = l.length ∧ 0 < i) by omega) with h1 | h1 | ⟨h1, h2⟩
  · have : l = [] := List.length_eq_zero_iff.1 (by omega)
    subst this; simp [rises]
  · rw [List.drop_of_length_le h1]; rfl
  · have e : l.drop (i - 1) = [l[i - 1]'(by omega)] := by
      rw [List.drop_eq_getElem_cons (by omega), List.drop_of_length_le (by omega)]
    rw [e]; rfl
theorem risesAt_zero (lo hi : Int) (l : List Int) (h : 0 < l.length) : risesAt lo hi l 0 = (decide (lo ≤ l[0] ∧ l[0] ≤ hi) && risesAt lo hi l 1) := by
  unfold risesAt
  have e : l.drop 0 = l[0] :: l.drop 1 := List.drop_eq_getElem_cons h
  simp only [Nat.sub_self, Nat.zero_sub]
  rw [e, List.all_cons, Bool.and_assoc]
theorem risesAt_succ (lo hi : Int) (l : List Int) (i : Nat) (h : i + 1 < l.length) : risesAt lo hi l (i + 1) = (decide (lo ≤ l[i + 1] ∧ l[i + 1] ≤ hi) && (decide (l[i] < l[i + 1]) && risesAt lo hi l (i + 2))) := by
  unfold risesAt
  have e : l.drop (i + 1) = l[i + 1] :: l.drop (i + 2) := List.drop_eq_getElem_cons h
  have e2 : l.drop i = l[i] :: l.drop (i + 1) := List.drop_eq_getElem_cons (by omega)
  simp only [Nat.add_sub_cancel, show i + 2 - 1 = i + 1 by omega]
  rw [e2, e, List.all_cons]
  simp only [rises]
  cases decide (lo ≤ l[i + 1] ∧ l[i + 1] ≤ hi) <;> cases decide (l[i] < l[i + 1]) <;> simp
theorem risesAt_all (lo hi : Int) (l : List Int) : risesAt lo hi l 0 = (l.all (fun x => decide (lo ≤ x ∧ x ≤ hi)) && rises l) := by
  unfold risesAt; simp

/-! ### inverses -/
def invM (p a : Int) : Int := (((List.range 31).map (fun n : Nat => (n : Int))).find? (fun x => decide (a * x % p = 1 ∧ 0 < x ∧ x < p))).getD 0
theorem invM_small : ∀ p a : Fin 32, isPr (p.val : Int) = true → 1 ≤ a.val → a.val < p.val → ((a.val : Int) * invM p.val a.val) % p.val = 1 ∧ 1 ≤ invM p.val a.val ∧ invM (p.val : Int) a.val < p.val := by decide +kernel
theorem invM_spec {p a : Int} (hp : isPr p = true) (h1 : 1 ≤ a) (h2 : a < p) : (a * invM p a) % p = 1 ∧ 1 ≤ invM p a ∧ invM p a < p := by
  have hb := isPr_bd hp
  obtain ⟨p, rfl⟩ : ∃ n : Nat, p = n := ⟨p.toNat, by omega⟩
  obtain ⟨a, rfl⟩ : ∃ n : Nat, a = n := ⟨a.toNat, by omega⟩
  exact invM_small ⟨p, by omega⟩ ⟨a, by omega⟩ hp (by simp only; omega) (by simp only; omega)

/-! ### the first place that holds something -/
def idxFrom {α : Type} (f : α → Bool) : List α → Int → Int
  | [], _ => -1
  | x :: xs, i => if f x = true then i else idxFrom f xs (i + 1)
theorem idxFrom_any {α : Type} (f : α → Bool) : ∀ (l : List α) (i : Int), 0 ≤ i → decide (idxFrom f l i ≥ 0) = l.any f
  | [], i, h => rfl
  | x :: xs, i, h => by
    unfold idxFrom
    rw [List.any_cons]
    cases hx : f x with
    | true => rw [if_pos rfl, Bool.true_or]; exact decide_eq_true h
    | false => rw [if_neg Bool.false_ne_true, Bool.false_or]; exact idxFrom_any f xs (i + 1) (by omega)
theorem not_allR (p : Int) (l : List Int) : l.any (fun x => !inR p x) = !allR p l := by
  unfold allR
  induction l with
  | nil => rfl
  | cons x xs ih => rw [List.any_cons, List.all_cons, ih]; cases inR p x <;> rfl

/-! ### lists told place by place -/
theorem take_set {α : Type} {m L : List α} {i : Nat} (hi : i < L.length) (hm : m.length = L.length) (ht : m.take i = L.take i) : (m.set i L[i]).take (i + 1) = L.take (i + 1) := by
  rw [List.take_succ_eq_append_getElem hi, List.take_succ_eq_append_getElem (by simpa [hm] using hi), ← ht]
  rw [List.take_set_of_le (by omega), List.getElem_set_self]
theorem take_all {α : Type} {m L : List α} {i : Nat} (hi : L.length ≤ i) (hm : m.length = L.length) (ht : m.take i = L.take i) : m = L := by
  rwa [List.take_of_length_le (by omega), List.take_of_length_le (by omega)] at ht
theorem drop_get {α : Type} {l : List α} {i : Nat} (h : i < l.length) : l.drop i = l[i] :: l.drop (i + 1) := List.drop_eq_getElem_cons h
theorem drop_end {α : Type} {l : List α} {i : Nat} (h : l.length ≤ i) : l.drop i = [] := List.drop_of_length_le h

/-! ### folds that leave one place out -/
def skipFold {α β : Type} (f : β → α → β) (i : Nat) : Nat → List α → β → β
  | _, [], b => b
  | k, y :: ys, b => skipFold f i (k + 1) ys (if k = i then b else f b y)

/-! ### alike modulo p -/
def Cg (p a b : Int) : Prop := ∃ k, a = b + p * k
theorem Cg.refl (p a : Int) : Cg p a a := ⟨0, by omega⟩
theorem Cg.of_eq {p a b : Int} (h : a = b) : Cg p a b := h ▸ Cg.refl p a
theorem Cg.symm {p a b : Int} (h : Cg p a b) : Cg p b a := by
  obtain ⟨k, h⟩ := h; exact ⟨-k, by grind⟩
theorem Cg.trans {p a b c : Int} (h : Cg p a b) (h' : Cg p b c) : Cg p a c := by
  obtain ⟨k, h⟩ := h; obtain ⟨k', h'⟩ := h'; exact ⟨k + k', by grind⟩
theorem Cg.add {p a b c d : Int} (h : Cg p a b) (h' : Cg p c d) : Cg p (a + c) (b + d) := by
  obtain ⟨k, h⟩ := h; obtain ⟨k', h'⟩ := h'; exact ⟨k + k', by grind⟩
theorem Cg.sub {p a b c d : Int} (h : Cg p a b) (h' : Cg p c d) : Cg p (a - c) (b - d) := by
  obtain ⟨k, h⟩ := h; obtain ⟨k', h'⟩ := h'; exact ⟨k - k', by grind⟩
theorem Cg.mul {p a b c d : Int} (h : Cg p a b) (h' : Cg p c d) : Cg p (a * c) (b * d) := by
  obtain ⟨k, h⟩ := h; obtain ⟨k', h'⟩ := h'; exact ⟨b * k' + k * d + p * k * k', by grind⟩
theorem Cg.mod (p a : Int) : Cg p (a % p) a := ⟨-(a / p), by have := Int.emod_def a p; grind⟩
theorem Cg.plus (p a : Int) : Cg p (a + p) a := ⟨1, by grind⟩
theorem Cg.emod_eq {p a b : Int} (h : Cg p a b) : a % p = b % p := by
  obtain ⟨k, h⟩ := h; rw [h, Int.add_mul_emod_self_left]
theorem Cg.eq {p a b : Int} (h : Cg p a b) (a0 : 0 ≤ a) (a1 : a < p) (b0 : 0 ≤ b) (b1 : b < p) : a = b := by
  have := h.emod_eq
  rwa [Int.emod_eq_of_lt a0 a1, Int.emod_eq_of_lt b0 b1] at this
theorem Cg.mod_l {p a b : Int} (h : Cg p a b) : Cg p (a % p) b := (Cg.mod p a).trans h
theorem Cg.of_emod {p a b : Int} (h : a % p = b % p) : Cg p a b := (Cg.mod p a).symm.trans ((Cg.of_eq h).trans (Cg.mod p b))
theorem tmod_Cg (p a : Int) : Cg p (Int.tmod a p) a := ⟨-(Int.tdiv a p), by have := Int.tmod_add_mul_tdiv a p; grind⟩
theorem inv_cg {p a : Int} (hp : isPr p = true) (h1 : 1 ≤ a) (h2 : a < p) : Cg p (a * invM p a) 1 := by
  have h := (invM_spec hp h1 h2).1
  have hb := isPr_bd hp
  exact (Cg.mod p _).symm.trans (Cg.of_eq h)
theorem mul_nz {p a b : Int} (hp : isPr p = true) (a1 : 1 ≤ a) (a2 : a < p) (b1 : 1 ≤ b) (b2 : b < p) : 1 ≤ (a * b) % p ∧ (a * b) % p < p := by
  have hb := isPr_bd hp
  have h := emod_bd (p := p) (by omega) (a * b)
  refine ⟨?_, h.2⟩
  rcases (show 0 < (a * b) % p ∨ (a * b) % p ≤ 0 by omega) with h0 | h0
  · omega
  · exfalso
    have e : (a * b) % p = 0 := by omega
    have z : Cg p (a * b) 0 := (Cg.mod p _).symm.trans (Cg.of_eq e)
    have one : Cg p 1 0 := by
      have h3 := (inv_cg hp a1 a2).mul (inv_cg hp b1 b2)
      have h4 := z.mul (Cg.refl p (invM p a * invM p b))
      have h5 : (a * invM p a) * (b * invM p b) = (a * b) * (invM p a * invM p b) := by grind
      rw [h5] at h3
      have h6 := h3.symm.trans h4
      simpa using h6
    have := one.eq (by omega) (by omega) (by omega) (by omega)
    omega

/-! ### weights and sums -/
def wS (p x xi w y : Int) : Int := ((w * ((x - y) % p)) % p * invM p ((xi - y) % p)) % p
def wAt (p : Int) (l : List Int) (x : Int) (i : Nat) : Int := skipFold (wS p x (l.getD i 0)) i 0 l 1
def wM (p : Int) (l : List Int) (x : Int) : List Int := (List.range l.length).map (wAt p l x)
theorem wM_length (p : Int) (l : List Int) (x : Int) : (wM p l x).length = l.length := by simp [wM]
theorem skipFold_cons {α β : Type} (f : β → α → β) (i k : Nat) (y : α) (ys : List α) (b : β) : skipFold f i k (y :: ys) b = skipFold f i (k + 1) ys (if k = i then b else f b y) := rfl
theorem wS_bd {p : Int} (hp : 0 < p) (x xi w y : Int) : 0 ≤ wS p x xi w y ∧ wS p x xi w y < p := emod_bd hp _
theorem skipFold_bd {p : Int} (hp : 0 < p) (x xi : Int) (i : Nat) : ∀ (l : List Int) (k : Nat) (w : Int), 0 ≤ w → w < p → 0 ≤ skipFold (wS p x xi) i k l w ∧ skipFold (wS p x xi) i k l w < p
  | [], _, _, h0, h1 => ⟨h0, h1⟩
  | y :: ys, k, w, h0, h1 => by
    rw [skipFold_cons]
    split
    · exact skipFold_bd hp x xi i ys (k + 1) w h0 h1
    · exact skipFold_bd hp x xi i ys (k + 1) _ (wS_bd hp x xi w y).1 (wS_bd hp x xi w y).2
theorem wAt_bd {p : Int} (hp : 2 ≤ p) (l : List Int) (x : Int) (i : Nat) : 0 ≤ wAt p l x i ∧ wAt p l x i < p := skipFold_bd (by omega) _ _ _ _ _ _ (by omega) (by omega)
theorem wM_all {p : Int} (hp : 2 ≤ p) (l : List Int) (x : Int) : allR p (wM p l x) = true := by
  unfold allR wM
  rw [List.all_eq_true]
  intro y hy
  obtain ⟨i, _, rfl⟩ := List.mem_map.1 hy
  have := wAt_bd hp l x i
  simp only [inR, decide_eq_true_eq]
  omega
theorem range_map_drop {α : Type} (f : Nat → α) (n i : Nat) (h : i < n) : ((List.range n).map f).drop i = f i :: ((List.range n).map f).drop (i + 1) := by
  rw [List.drop_eq_getElem_cons (by simpa using h)]; simp
/-- Above and below, in step with the weight. -/
theorem wS_step {p x xi w y a b : Int} (hp : isPr p = true) (hxi : 1 ≤ xi ∧ xi ≤ p - 1) (hy : 1 ≤ y ∧ y ≤ p - 1) (hne : y ≠ xi) (hb : 1 ≤ b ∧ b < p) (h : Cg p (w * b) a) :
    Cg p (wS p x xi w y * ((b * (xi - y + p)) % p)) ((a * (x - y + p)) % p) ∧ 1 ≤ (b * (xi - y + p)) % p ∧ (b * (xi - y + p)) % p < p := by
  have hpb := isPr_bd hp
  have hd : 1 ≤ (xi - y) % p ∧ (xi - y) % p < p := by
    have := emod_bd (p := p) (by omega) (xi - y)
    refine ⟨?_, this.2⟩
    rcases (show 0 < (xi - y) % p ∨ (xi - y) % p ≤ 0 by omega) with h0 | h0
    · omega
    · exfalso
      have e : (xi - y) % p = 0 := by omega
      have z : Cg p (xi - y) 0 := (Cg.mod p _).symm.trans (Cg.of_eq e)
      have := (z.add (Cg.refl p y)).eq (by omega) (by omega) (by omega) (by omega)
      omega
  have e1 : (b * (xi - y + p)) % p = (b * ((xi - y) % p)) % p := by
    apply Cg.emod_eq
    exact (Cg.refl p b).mul ((Cg.plus p _).trans (Cg.mod p _).symm)
  have hnz := mul_nz hp hb.1 hb.2 hd.1 hd.2
  rw [e1]
  refine ⟨?_, hnz⟩
  have i1 := inv_cg hp hd.1 hd.2
  have g1 : Cg p (wS p x xi w y) (w * ((x - y) % p) * invM p ((xi - y) % p)) := by
    unfold wS
    exact (Cg.mod p _).trans ((Cg.mod p _).mul (Cg.refl p _))
  have g2 : Cg p ((b * ((xi - y) % p)) % p) (b * ((xi - y) % p)) := Cg.mod p _
  have g3 := g1.mul g2
  have e2 : (w * ((x - y) % p) * invM p ((xi - y) % p)) * (b * ((xi - y) % p)) = (w * b) * ((x - y) % p) * ((xi - y) % p * invM p ((xi - y) % p)) := by grind
  rw [e2] at g3
  have g4 : Cg p ((w * b) * ((x - y) % p) * ((xi - y) % p * invM p ((xi - y) % p))) (a * (x - y + p) * 1) := ((h.mul ((Cg.mod p (x - y)).trans (Cg.plus p _).symm)).mul i1)
  exact (g3.trans g4).trans ((Cg.of_eq (by omega)).trans (Cg.mod p _).symm)
theorem wS_end {p w a b : Int} (hp : isPr p = true) (hb : 1 ≤ b ∧ b < p) (hw : 0 ≤ w ∧ w < p) (h : Cg p (w * b) a) : (a * invM p b) % p = w := by
  have hpb := isPr_bd hp
  have i1 := inv_cg hp hb.1 hb.2
  have g : Cg p (a * invM p b) w := by
    have := (h.symm.mul (Cg.refl p (invM p b)))
    have e : w * b * invM p b = w * (b * invM p b) := by grind
    rw [e] at this
    have := this.trans ((Cg.refl p w).mul i1)
    simpa using this
  have := emod_bd (p := p) (by omega) (a * invM p b)
  exact g.mod_l.eq this.1 this.2 hw.1 hw.2
def sumM : List Int → List Int → Int
  | a :: l, b :: m => a * b + sumM l m
  | _, _ => 0
def dotM (p : Int) (l m : List Int) : Int := sumM l m % p
theorem sumM_bd {p : Int} (hp : p ≤ 31) : ∀ (l m : List Int), allR p l = true → allR p m = true → 0 ≤ sumM l m ∧ sumM l m ≤ 900 * l.length
  | [], _, _, _ => by simp [sumM]
  | a :: l, [], _, _ => by simp [sumM]; omega
  | a :: l, b :: m, hl, hm => by
    have h1 := allR_mem hl a List.mem_cons_self
    have h2 := allR_mem hm b List.mem_cons_self
    simp only [allR, List.all_cons, Bool.and_eq_true] at hl hm
    have ih := sumM_bd hp l m hl.2 hm.2
    have hmul := mul_bd h1.1 (show a ≤ 30 by omega) h2.1 (show b ≤ 30 by omega)
    simp only [sumM, List.length_cons]
    omega
theorem allR_cons {p a : Int} {l : List Int} (h : allR p (a :: l) = true) : (0 ≤ a ∧ a < p) ∧ allR p l = true := by
  refine ⟨allR_mem h a List.mem_cons_self, ?_⟩
  simp only [allR, List.all_cons, Bool.and_eq_true] at h
  exact h.2
theorem allR_drop {p : Int} {l : List Int} (h : allR p l = true) (i : Nat) : allR p (l.drop i) = true := by
  unfold allR at h ⊢
  rw [List.all_eq_true] at h ⊢
  exact fun x hx => h x (List.mem_of_mem_drop hx)

/-! ### marks -/
def marks (v : Int) (n : Nat) : List Int := (List.range n).map (fun i : Nat => v + (i : Int))
theorem marks_length (v : Int) (n : Nat) : (marks v n).length = n := by simp [marks]
theorem marks_get (v : Int) (n i : Nat) (h : i < (marks v n).length) : (marks v n)[i] = v + (i : Int) := by simp [marks]
theorem rest_eq {p a : Int} (hp : 0 < p) (hp' : p ≤ 31) : Int.tmod (wrap64 ((Int.tmod a p) + p)) p = a % p := by
  have h1 := Int.tmod_lt_of_pos a hp
  have h2 := Int.lt_tmod_of_pos a hp
  rw [w64 (by omega) (by omega), tmod_of (by omega)]
  exact Cg.emod_eq ((Cg.plus p _).trans (tmod_Cg p a))

/-! ### sums of curves, trailing zeros -/
theorem rd_set (l : List Int) (i : Nat) (v : Int) (h : i < l.length) : rd (l.set (i : Int).toNat v) (i : Int) = v := by simp [rd, h]
theorem rd_set0 (l : List Int) (i : Nat) (v : Int) (h : i < l.length) : rd (l.set i v) (i : Int) = v := by simp [rd, h]
theorem getD_get {α : Type} (l : List α) (i : Nat) (z : α) (h : i < l.length) : l.getD i z = l[i] := by simp [h]
theorem getD_end {α : Type} (l : List α) (i : Nat) (z : α) (h : l.length ≤ i) : l.getD i z = z := by simp [h]
theorem lset_ne {α : Type} (l : List α) (i j : Nat) (v z : α) (h : i ≠ j) : (l.set i v).getD j z = l.getD j z := by
  simp [List.getD_eq_getElem?_getD, List.getElem?_set_ne h]
theorem lset_eq {α : Type} (l : List α) (i : Nat) (v z : α) (h : i < l.length) : (l.set i v).getD i z = v := by simp [h]
def cutTo (l : List Int) : Nat → List Int
  | 0 => []
  | n + 1 => if l.getD n 0 = 0 then cutTo l n else l.take (n + 1)
def stripM (l : List Int) : List Int := cutTo l l.length
theorem cutTo_le (l : List Int) : ∀ n, (cutTo l n).length ≤ n
  | 0 => Nat.le_refl _
  | n + 1 => by
    unfold cutTo
    split
    · exact Nat.le_succ_of_le (cutTo_le l n)
    · simp; omega
theorem stripM_le (l : List Int) : (stripM l).length ≤ l.length := cutTo_le l _
def addAt (p t : Int) (a b : List Int) (i : Nat) : Int := (a.getD i 0 + b.getD i 0 * t) % p
def addC (p t : Int) (a b : List Int) : List Int := (List.range (max a.length b.length)).map (addAt p t a b)
theorem addC_length (p t : Int) (a b : List Int) : (addC p t a b).length = max a.length b.length := by simp [addC]
theorem addC_get (p t : Int) (a b : List Int) (i : Nat) (h : i < (addC p t a b).length) : (addC p t a b)[i] = addAt p t a b i := by simp [addC]
theorem addC_all {p : Int} (hp : 0 < p) (t : Int) (a b : List Int) : allR p (addC p t a b) = true := by
  unfold allR addC
  rw [List.all_eq_true]
  intro y hy
  obtain ⟨i, _, rfl⟩ := List.mem_map.1 hy
  have := emod_bd hp (a.getD i 0 + b.getD i 0 * t)
  simp only [inR, decide_eq_true_eq]
  unfold addAt
  omega
theorem allR_getD {p : Int} (hp : 0 < p) {l : List Int} (h : allR p l = true) (i : Nat) : 0 ≤ l.getD i 0 ∧ l.getD i 0 < p := by
  rcases Nat.lt_or_ge i l.length with hi | hi
  · rw [getD_get l i 0 hi]; exact allR_get h i hi
  · rw [getD_end l i 0 hi]; omega

/-! ### points that differ -/
theorem isPts_of {p : Int} {l : List Int} (h : isPts p l = true) : l.length ≤ 10 ∧ rises l = true ∧ ∀ x ∈ l, 1 ≤ x ∧ x ≤ p - 1 := by
  simp only [isPts, Bool.and_eq_true, decide_eq_true_eq, List.all_eq_true] at h
  exact ⟨h.1, h.2.1, h.2.2⟩
theorem invM_bd {p a : Int} (hp : isPr p = true) (h0 : 0 ≤ a) (h1 : a < p) : 0 ≤ invM p a ∧ invM p a < p := by
  have hb := isPr_bd hp
  rcases (show a = 0 ∨ 1 ≤ a by omega) with rfl | h
  · have : invM p 0 = 0 := by
      have : ∀ p : Fin 32, invM (p.val : Int) 0 = 0 := by decide +kernel
      have := this ⟨p.toNat, by omega⟩
      simp only at this
      rwa [show ((p.toNat : Nat) : Int) = p by omega] at this
    omega
  · have := invM_spec hp h h1
    omega
theorem pts_ne {l : List Int} (h : rises l = true) {i j : Nat} (hi : i < l.length) (hj : j < l.length) (hne : j ≠ i) : l[j] ≠ l[i] := by
  have hp := rises_pairwise h
  rw [List.pairwise_iff_getElem] at hp
  rcases Nat.lt_or_gt_of_ne hne with h1 | h1
  · have := hp j i hj hi h1
    omega
  · have := hp i j hi hj h1
    omega
def Dst (p : Int) (l : List Int) : Prop := l.length ≤ 20 ∧ l.Pairwise (· ≠ ·) ∧ ∀ x ∈ l, 0 ≤ x ∧ x ≤ p - 1
theorem Dst.of_pts {p : Int} {l : List Int} (h : isPts p l = true) : Dst p l := by
  obtain ⟨h1, h2, h3⟩ := isPts_of h
  exact ⟨by omega, (rises_pairwise h2).imp (fun h => by omega), fun x hx => by have := h3 x hx; omega⟩
theorem Dst.ne {l : List Int} (h : l.Pairwise (· ≠ ·)) {i j : Nat} (hi : i < l.length) (hj : j < l.length) (hne : j ≠ i) : l[j] ≠ l[i] := by
  rw [List.pairwise_iff_getElem] at h
  rcases Nat.lt_or_gt_of_ne hne with h1 | h1
  · exact h j i hj hi h1
  · exact (h i j hi hj h1).symm

/-! ### the curve through points -/
theorem ext_getD {a b : List Int} (hl : a.length = b.length) (h : ∀ m, m < a.length → a.getD m 0 = b.getD m 0) : a = b := by
  apply List.ext_getElem hl
  intro j h1 h2
  have := h j h1
  rwa [getD_get a j 0 h1, getD_get b j 0 h2] at this
def mulAt (p x : Int) (c : List Int) (j : Nat) : Int := ((if j = 0 then 0 else c.getD (j - 1) 0) + c.getD j 0 * ((-x) % p)) % p
def mulLin (p : Int) (c : List Int) (x : Int) : List Int := (List.range (c.length + 1)).map (mulAt p x c)
theorem mulLin_length (p : Int) (c : List Int) (x : Int) : (mulLin p c x).length = c.length + 1 := by simp [mulLin]
theorem mulLin_getD (p : Int) (c : List Int) (x : Int) (m : Nat) (h : m < c.length + 1) : (mulLin p c x).getD m 0 = mulAt p x c m := by
  rw [getD_get _ _ _ (by rw [mulLin_length]; exact h)]; simp [mulLin]
theorem mulLin_all {p : Int} (hp : 0 < p) (c : List Int) (x : Int) : allR p (mulLin p c x) = true := by
  unfold allR mulLin
  rw [List.all_eq_true]
  intro y hy
  obtain ⟨i, _, rfl⟩ := List.mem_map.1 hy
  have := emod_bd hp ((if i = 0 then 0 else c.getD (i - 1) 0) + c.getD i 0 * ((-x) % p))
  simp only [inR, decide_eq_true_eq]
  unfold mulAt
  omega
def partAt (p : Int) (P : List Int) (i : Nat) : List Int := skipFold (mulLin p) i 0 P [1]
def byS (p xi b x : Int) : Int := (b * invM p ((xi - x) % p)) % p
def byAt (p : Int) (P V : List Int) (i : Nat) : Int := skipFold (byS p (P.getD i 0)) i 0 P (V.getD i 0)
def thrFrom (p : Int) (P V : List Int) : Nat → Nat → List Int → List Int
  | 0, _, o => o
  | d + 1, i, o => thrFrom p P V d (i + 1) (addC p (byAt p P V i) o (partAt p P i))
def throughM (p : Int) (P V : List Int) : List Int := stripM (thrFrom p P V P.length 0 [])
theorem part_len (p : Int) (i : Nat) : ∀ (l : List Int) (k : Nat) (c : List Int), (skipFold (mulLin p) i k l c).length ≤ c.length + l.length
  | [], _, c => by simp [skipFold]
  | y :: ys, k, c => by
    rw [skipFold_cons]
    split
    · have := part_len p i ys (k + 1) c
      simp only [List.length_cons]; omega
    · have := part_len p i ys (k + 1) (mulLin p c y)
      rw [mulLin_length] at this
      simp only [List.length_cons]; omega
theorem part_len2 (p : Int) (i : Nat) : ∀ (l : List Int) (k : Nat) (c : List Int), k ≤ i → i < k + l.length → (skipFold (mulLin p) i k l c).length + 1 = c.length + l.length
  | [], _, c, h, h' => by simp at h'; omega
  | y :: ys, k, c, h, h' => by
    rw [skipFold_cons]
    simp only [List.length_cons] at h' ⊢
    by_cases hk : k = i
    · rw [if_pos hk]
      have : ∀ (l : List Int) (k : Nat) (c : List Int), i < k → (skipFold (mulLin p) i k l c).length = c.length + l.length := by
        intro l
        induction l with
        | nil => intro k c _; rfl
        | cons z zs ih =>
          intro k c hk
          rw [skipFold_cons, if_neg (by omega), ih (k + 1) _ (by omega), mulLin_length]
          simp only [List.length_cons]; omega
      rw [this ys (k + 1) c (by omega)]
      omega
    · rw [if_neg hk]
      have := part_len2 p i ys (k + 1) (mulLin p c y) (by omega) (by omega)
      rw [mulLin_length] at this
      omega
theorem thr_len2 (p : Int) (P V : List Int) : ∀ (d i : Nat) (o : List Int), i + d = P.length → o.length ≤ P.length → (thrFrom p P V d i o).length ≤ P.length
  | 0, _, _, _, h => h
  | d + 1, i, o, hi, h => by
    unfold thrFrom
    refine thr_len2 p P V d (i + 1) _ (by omega) ?_
    rw [addC_length]
    have := part_len2 p i P 0 [1] (by omega) (by omega)
    unfold partAt
    simp only [List.length_singleton] at this
    omega
theorem through_len2 (p : Int) (P V : List Int) : (throughM p P V).length ≤ P.length :=
  Nat.le_trans (stripM_le _) (thr_len2 p P V _ _ _ (by omega) (by simp))
theorem thr_len (p : Int) (P V : List Int) : ∀ (d i : Nat) (o : List Int), o.length ≤ P.length + 1 → (thrFrom p P V d i o).length ≤ P.length + 1
  | 0, _, _, h => h
  | d + 1, i, o, h => by
    unfold thrFrom
    refine thr_len p P V d (i + 1) _ ?_
    rw [addC_length]
    have := part_len p i P 0 [1]
    unfold partAt
    simp only [List.length_singleton] at this
    omega
theorem through_len (p : Int) (P V : List Int) : (throughM p P V).length ≤ P.length + 1 :=
  Nat.le_trans (stripM_le _) (thr_len p P V _ _ _ (by simp))
theorem byS_step {p xi x v w b : Int} (hp : isPr p = true) (hxi : 0 ≤ xi ∧ xi ≤ p - 1) (hx : 0 ≤ x ∧ x ≤ p - 1) (hne : x ≠ xi) (hb : 1 ≤ b ∧ b < p) (h : Cg p (w * b) v) :
    Cg p (byS p xi w x * ((b * (xi - x + p)) % p)) v ∧ 1 ≤ (b * (xi - x + p)) % p ∧ (b * (xi - x + p)) % p < p := by
  have hpb := isPr_bd hp
  have hd : 1 ≤ (xi - x) % p ∧ (xi - x) % p < p := by
    have := emod_bd (p := p) (by omega) (xi - x)
    refine ⟨?_, this.2⟩
    rcases (show 0 < (xi - x) % p ∨ (xi - x) % p ≤ 0 by omega) with h0 | h0
    · omega
    · exfalso
      have e : (xi - x) % p = 0 := by omega
      have z : Cg p (xi - x) 0 := (Cg.mod p _).symm.trans (Cg.of_eq e)
      have := (z.add (Cg.refl p x)).eq (by omega) (by omega) (by omega) (by omega)
      omega
  have e1 : (b * (xi - x + p)) % p = (b * ((xi - x) % p)) % p := by
    apply Cg.emod_eq
    exact (Cg.refl p b).mul ((Cg.plus p _).trans (Cg.mod p _).symm)
  have hnz := mul_nz hp hb.1 hb.2 hd.1 hd.2
  rw [e1]
  refine ⟨?_, hnz⟩
  have i1 := inv_cg hp hd.1 hd.2
  have g3 : Cg p (byS p xi w x * ((b * ((xi - x) % p)) % p)) ((w * invM p ((xi - x) % p)) * (b * ((xi - x) % p))) := by
    unfold byS
    exact (Cg.mod p _).mul (Cg.mod p _)
  have e2 : (w * invM p ((xi - x) % p)) * (b * ((xi - x) % p)) = (w * b) * ((xi - x) % p * invM p ((xi - x) % p)) := by grind
  rw [e2] at g3
  exact g3.trans ((h.mul i1).trans (Cg.of_eq (by omega)))
theorem by_end {p w v b : Int} (hp : isPr p = true) (hb : 1 ≤ b ∧ b < p) (hw : 0 ≤ w ∧ w < p) (h : Cg p (w * b) v) : (invM p b * v) % p = w := by
  rw [Int.mul_comm]
  exact wS_end hp hb hw h
theorem add_scaled {p : Int} (hp : 0 < p) (t : Int) (o c : List Int) : addC p 1 o (addC p t [] c) = addC p t o c := by
  apply ext_getD
  · rw [addC_length, addC_length, addC_length]; simp
  · intro m hm
    have h1 : m < (addC p t o c).length := by rw [addC_length] at hm ⊢; rw [addC_length] at hm; simpa using hm
    rw [getD_get _ _ _ hm, getD_get _ _ _ h1, addC_get, addC_get]
    unfold addAt
    apply Cg.emod_eq
    refine (Cg.refl p _).add ?_
    rw [Int.mul_one]
    rcases Nat.lt_or_ge m (addC p t [] c).length with h | h
    · rw [getD_get _ _ _ h, addC_get]
      unfold addAt
      exact Cg.mod_l (Cg.of_eq (by simp))
    · rw [getD_end _ _ _ h]
      rw [addC_length] at h
      rw [getD_end c m 0 (by simp at h; exact h)]
      exact Cg.of_eq (by omega)
end Go.Proofs.Ytonpikcbmgmchaa.M
