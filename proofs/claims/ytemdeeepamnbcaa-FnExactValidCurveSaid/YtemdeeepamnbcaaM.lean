/- Plain words for the pure statements: answers in enough rounds, lists, whole numbers of 64 bits, primes up to 31. -/
import Derived.Test.YtemdeeepamnbcaaWWords
import Derived.Test.YtemdeeepamnbcaaWMore
import Derived.RowKit
set_option linter.unusedVariables false
set_option linter.unusedSimpArgs false
namespace Go.Proofs.Ytemdeeepamnbcaa.M
open Go.RowKit Go.Proofs.YtemdeeepamnbcaaW.PrintWords

/-! ### enough rounds -/
theorem Ev.pos {α : Type} {c : Prop} [Decidable c] {f g : Nat → Option α} {r : α} (h : c) (hf : Ev f r) : Ev (fun k => if c then f k else g k) r := by
  simpa only [if_pos h] using hf
theorem Ev.neg {α : Type} {c : Prop} [Decidable c] {f g : Nat → Option α} {r : α} (h : ¬ c) (hg : Ev g r) : Ev (fun k => if c then f k else g k) r := by
  simpa only [if_neg h] using hg
theorem Ev.bindc {α β : Type} {x : Option α} {f : Nat → α → Option β} {a : α} {r : β} (h : x = some a) (k : Ev (fun n => f n a) r) : Ev (fun n => x.bind (f n)) r := by
  subst h; exact k
theorem Ev.eq {α : Type} {g : Nat → Option α} {r r' : α} (h : Ev g r) (e : r = r') : Ev g r' := e ▸ h
theorem Ev.succ {α : Type} {g : Nat → Option α} {r : α} (h : Ev (fun k => g (k + 1)) r) : Ev g r := Ev.step (fun _ => rfl) h
theorem Ev.const {α : Type} {x : Option α} {r : α} (h : x = some r) : Ev (fun _ => x) r := ⟨0, fun _ _ => h⟩

/-! ### whole numbers -/
theorem w64 {n : Int} (h0 : -9223372036854775808 ≤ n) (h1 : n ≤ 9223372036854775807) : wrap64 n = n := by unfold wrap64; omega
theorem wf64 {n : Int} (h : (Lit.int .i64 n).wf = true) : -9223372036854775808 ≤ n ∧ n ≤ 9223372036854775807 := by
  simp only [Lit.wf, IntKind.min, IntKind.max, IntKind.signed, IntKind.bits, Bool.and_eq_true, decide_eq_true_eq, if_true] at h
  omega
theorem w64_bd (n : Int) : -9223372036854775808 ≤ wrap64 n ∧ wrap64 n ≤ 9223372036854775807 := by unfold wrap64; omega
theorem tmod_of {a b : Int} (h : 0 ≤ a) : Int.tmod a b = a % b := Int.tmod_eq_emod_of_nonneg h
theorem tdiv_of {a b : Int} (h : 0 ≤ a) : Int.tdiv a b = a / b := Int.tdiv_eq_ediv_of_nonneg h
theorem rd_nat (l : List Int) (i : Nat) : rd l (i : Int) = l.getD i 0 := by simp [rd]
theorem rd_get (l : List Int) (i : Nat) (h : i < l.length) : rd l (i : Int) = l[i] := by simp [rd, h]

/-! ### primes -/
def isPr (p : Int) : Bool := decide (p ∈ ([2, 3, 5, 7, 11, 13, 17, 19, 23, 29, 31] : List Int))
theorem isPr_bd {p : Int} (h : isPr p = true) : 2 ≤ p ∧ p ≤ 31 := by
  simp only [isPr, decide_eq_true_eq, List.mem_cons, List.mem_nil_iff, or_false] at h
  omega
theorem isPr_small {p : Int} (h : p < 2) : isPr p = false := by
  cases e : isPr p with
  | false => rfl
  | true => have := isPr_bd e; omega
theorem isPr_big {p : Int} (h : 31 < p) : isPr p = false := by
  cases e : isPr p with
  | false => rfl
  | true => have := isPr_bd e; omega
def inR (p a : Int) : Bool := decide (0 ≤ a ∧ a ≤ p - 1)
def allR (p : Int) (l : List Int) : Bool := l.all (inR p)
theorem allR_mem {p : Int} {l : List Int} (h : allR p l = true) : ∀ x ∈ l, 0 ≤ x ∧ x < p := by
  intro x hx
  have := List.all_eq_true.1 h x hx
  simp only [inR, decide_eq_true_eq] at this
  omega
end Go.Proofs.Ytemdeeepamnbcaa.M
