/- Walks. -/
import Derived.Test.YticobjbjejpomaaZF6
set_option linter.unusedVariables false
set_option linter.unusedSimpArgs false
namespace Go.Proofs.Yticobjbjejpomaa.VC
open Go Go.RowKit
/-! ### Curves and shares -/
noncomputable instance (p : Int) : Decidable (primeI p) := Classical.propDecidable _
noncomputable instance (p : Int) (l : List Int) : Decidable (elems p l) := Classical.propDecidable _
def ptsI (p : Int) (l : List Int) : Prop := (l.length : Int) ≤ 10 ∧ Ris 1 (p - 1) l
instance (p : Int) (l : List Int) : Decidable (ptsI p l) := by unfold ptsI; infer_instance
def curveI (p : Int) (c : List Int) : Prop := (c.length : Int) ≤ 7 ∧ elems p c ∧ ((c.length : Int) = 0 ∨ c.getD (c.length - 1) 0 ≠ 0)
noncomputable instance (p : Int) (c : List Int) : Decidable (curveI p c) := Classical.propDecidable _
def allC (p : Int) (L : List (List Int)) : Prop := ∀ j, j < L.length → curveI p (L.getD j [])
noncomputable instance (p : Int) (L : List (List Int)) : Decidable (allC p L) := Classical.propDecidable _
def allV (p : Int) (L : List (List Int)) : Prop := ∀ j, j < L.length → primeI p ∧ curveI p (L.getD j [])
noncomputable instance (p : Int) (L : List (List Int)) : Decidable (allV p L) := Classical.propDecidable _
def vS (p : Int) (l : List (Int × Int)) : Prop := primeI p ∧ elems p (l.map Prod.snd) ∧ ptsI p (l.map Prod.fst)
noncomputable instance (p : Int) (l : List (Int × Int)) : Decidable (vS p l) := Classical.propDecidable _
def val (p : Int) (c : List Int) (x : Int) : Int := c.foldr (fun a acc => (acc * x + a) % p) 0
theorem val_step {p x z : Int} {c : List Int} {i : Nat} (hz : c[i]? = some z) : val p (c.drop i) x = (val p (c.drop (i + 1)) x * x + z) % p := by
  have hi := (List.getElem?_eq_some_iff.1 hz).1
  unfold val
  rw [List.drop_eq_getElem_cons hi, List.foldr_cons, (List.getElem?_eq_some_iff.1 hz).2]
theorem val_in {p : Int} (hp : 0 < p) (c : List Int) (x : Int) : 0 ≤ val p c x ∧ val p c x ≤ p - 1 := by
  cases c with
  | nil => simp only [val, List.foldr_nil]; omega
  | cons a c =>
    have h1 := Int.emod_nonneg ((c.foldr (fun a acc => (acc * x + a) % p) 0) * x + a) (show p ≠ 0 by omega)
    have h2 := Int.emod_lt_of_pos ((c.foldr (fun a acc => (acc * x + a) % p) 0) * x + a) hp
    simp only [val, List.foldr_cons]; omega
theorem val_zero {p : Int} {c : List Int} (h : elems p c) (hp : 0 < p) : val p c 0 = c.getD 0 0 := by
  cases c with
  | nil => rfl
  | cons a c =>
    have := h 0 (by simp)
    simp only [List.getD_cons_zero] at this
    simp only [val, List.foldr_cons, Int.mul_zero, Int.zero_add, List.getD_cons_zero]
    exact Int.emod_eq_of_lt this.1 (by omega)
/-- A share to which a mask's value is added. -/
def addS (p : Int) (m : List Int) (s : Int × Int) : Int × Int := (s.1, (s.2 + val p m s.1) % p)
def refr (p : Int) (L : List (List Int)) (l : List (Int × Int)) : List (Int × Int) := L.foldl (fun out m => out.map (addS p m)) l
/-- The first are changed. -/
def updS (f : Int × Int → Int × Int) (l : List (Int × Int)) (j : Nat) : List (Int × Int) := (l.take j).map f ++ l.drop j
/-- Values and points that stay within. -/
def bnd (p : Int) (l : List (Int × Int)) : Prop := ∀ s ∈ l, (1 ≤ s.1 ∧ s.1 ≤ p - 1) ∧ 0 ≤ s.2 ∧ s.2 ≤ p - 1
/-- Masks that do not change the secret. -/
def zer (L : List (List Int)) : Prop := ∀ j, j < L.length → (L.getD j []).getD 0 0 = 0
noncomputable instance (L : List (List Int)) : Decidable (zer L) := Classical.propDecidable _
noncomputable def rfCode (p : Int) (l : List (Int × Int)) (L : List (List Int)) : Int := if vS p l ∧ allC p L then if zer L then 0 else 4 else 1
noncomputable def rfRow (p : Int) (l : List (Int × Int)) (L : List (List Int)) : List (Int × Int) := if vS p l ∧ allC p L then if zer L then refr p L l else [] else []
/-! ### Numbers modulo a prime -/
theorem mul_nz {p a b : Int} (hp : isPr p = true) (a1 : 1 ≤ a) (a2 : a < p) (b1 : 1 ≤ b) (b2 : b < p) : 1 ≤ (a * b) % p ∧ (a * b) % p < p := by
  have hb := isPr_bd hp
  have h := emod_bd (p := p) (by omega) (a * b)
  refine ⟨?_, h.2⟩
  rcases (show 0 < (a * b) % p ∨ (a * b) % p ≤ 0 by omega) with h0 | h0
  · omega
  · exfalso
    have e : (a * b) % p = 0 := by omega
    have z : Cg p (a * b) 0 := (Cg.mod p _).symm.trans (Cg.of_eq e)
    have one : Cg p 1 0 := by
      have h3 := (inv_cg hp a1 a2).mul (inv_cg hp b1 b2)
      have h4 := z.mul (Cg.refl p (invM p a * invM p b))
      have h5 : (a * invM p a) * (b * invM p b) = (a * b) * (invM p a * invM p b) := by grind
      rw [h5] at h3
      have h6 := h3.symm.trans h4
      simpa using h6
    have := one.eq (by omega) (by omega) (by omega) (by omega)
    omega

def wS (p x xi w y : Int) : Int := ((w * ((x - y) % p)) % p * invM p ((xi - y) % p)) % p
theorem wS_bd {p : Int} (hp : 0 < p) (x xi w y : Int) : 0 ≤ wS p x xi w y ∧ wS p x xi w y < p := emod_bd hp _
theorem wS_step {p x xi w y a b : Int} (hp : isPr p = true) (hxi : 1 ≤ xi ∧ xi ≤ p - 1) (hy : 1 ≤ y ∧ y ≤ p - 1) (hne : y ≠ xi) (hb : 1 ≤ b ∧ b < p) (h : Cg p (w * b) a) :
    Cg p (wS p x xi w y * ((b * (xi - y + p)) % p)) ((a * (x - y + p)) % p) ∧ 1 ≤ (b * (xi - y + p)) % p ∧ (b * (xi - y + p)) % p < p := by
  have hpb := isPr_bd hp
  have hd : 1 ≤ (xi - y) % p ∧ (xi - y) % p < p := by
    have := emod_bd (p := p) (by omega) (xi - y)
    refine ⟨?_, this.2⟩
    rcases (show 0 < (xi - y) % p ∨ (xi - y) % p ≤ 0 by omega) with h0 | h0
    · omega
    · exfalso
      have e : (xi - y) % p = 0 := by omega
      have z : Cg p (xi - y) 0 := (Cg.mod p _).symm.trans (Cg.of_eq e)
      have := (z.add (Cg.refl p y)).eq (by omega) (by omega) (by omega) (by omega)
      omega
  have e1 : (b * (xi - y + p)) % p = (b * ((xi - y) % p)) % p := by
    apply Cg.emod_eq
    exact (Cg.refl p b).mul ((Cg.plus p _).trans (Cg.mod p _).symm)
  have hnz := mul_nz hp hb.1 hb.2 hd.1 hd.2
  rw [e1]
  refine ⟨?_, hnz⟩
  have i1 := inv_cg hp hd.1 hd.2
  have g1 : Cg p (wS p x xi w y) (w * ((x - y) % p) * invM p ((xi - y) % p)) := by
    unfold wS
    exact (Cg.mod p _).trans ((Cg.mod p _).mul (Cg.refl p _))
  have g2 : Cg p ((b * ((xi - y) % p)) % p) (b * ((xi - y) % p)) := Cg.mod p _
  have g3 := g1.mul g2
  have e2 : (w * ((x - y) % p) * invM p ((xi - y) % p)) * (b * ((xi - y) % p)) = (w * b) * ((x - y) % p) * ((xi - y) % p * invM p ((xi - y) % p)) := by grind
  rw [e2] at g3
  have g4 : Cg p ((w * b) * ((x - y) % p) * ((xi - y) % p * invM p ((xi - y) % p))) (a * (x - y + p) * 1) := ((h.mul ((Cg.mod p (x - y)).trans (Cg.plus p _).symm)).mul i1)
  exact (g3.trans g4).trans ((Cg.of_eq (by omega)).trans (Cg.mod p _).symm)
theorem wS_end {p w a b : Int} (hp : isPr p = true) (hb : 1 ≤ b ∧ b < p) (hw : 0 ≤ w ∧ w < p) (h : Cg p (w * b) a) : (a * invM p b) % p = w := by
  have hpb := isPr_bd hp
  have i1 := inv_cg hp hb.1 hb.2
  have g : Cg p (a * invM p b) w := by
    have := (h.symm.mul (Cg.refl p (invM p b)))
    have e : w * b * invM p b = w * (b * invM p b) := by grind
    rw [e] at this
    have := this.trans ((Cg.refl p w).mul i1)
    simpa using this
  have := emod_bd (p := p) (by omega) (a * invM p b)
  exact g.mod_l.eq this.1 this.2 hw.1 hw.2
theorem inv_zero : ∀ p : Fin 32, isPr (p.val : Int) = true → invM (p.val : Int) 0 = 0 := by decide +kernel
theorem inv_in {p a : Int} (hp : isPr p = true) (h0 : 0 ≤ a) (h1 : a < p) : 0 ≤ invM p a ∧ invM p a < p := by
  have hb := isPr_bd hp
  rcases Int.lt_or_le 0 a with h2 | h2
  · have := invM_spec hp (show 1 ≤ a by omega) h1; omega
  · obtain rfl : a = 0 := by omega
    obtain ⟨p, rfl⟩ : ∃ n : Nat, p = n := ⟨p.toNat, by omega⟩
    have := inv_zero ⟨p, by omega⟩ hp
    simp only at this
    omega
/-! ### Weights -/
def wP (p : Int) (l : List Int) (x : Int) (i j : Nat) : Int := (List.range j).foldl (fun w k => if k = i then w else wS p x (l.getD i 0) w (l.getD k 0)) 1
theorem wP_succ (p : Int) (l : List Int) (x : Int) (i j : Nat) : wP p l x i (j + 1) = if j = i then wP p l x i j else wS p x (l.getD i 0) (wP p l x i j) (l.getD j 0) := by
  unfold wP
  rw [List.range_succ, List.foldl_append]; rfl
theorem wP_in {p : Int} (hp : 2 ≤ p) (l : List Int) (x : Int) (i : Nat) : ∀ j, 0 ≤ wP p l x i j ∧ wP p l x i j < p
  | 0 => by simp only [wP, List.range_zero, List.foldl_nil]; omega
  | j + 1 => by
    rw [wP_succ]
    split
    · exact wP_in hp l x i j
    · exact wS_bd (by omega) _ _ _ _
def wts (p : Int) (l : List Int) (x : Int) (n : Nat) : List Int := (List.range n).map (fun i => wP p l x i l.length)
theorem wts_succ (p : Int) (l : List Int) (x : Int) (n : Nat) : wts p l x (n + 1) = wts p l x n ++ [wP p l x n l.length] := by
  unfold wts
  rw [List.range_succ, List.map_append]; rfl
theorem wts_len (p : Int) (l : List Int) (x : Int) (n : Nat) : (wts p l x n).length = n := by simp [wts]
theorem ris_lt {lo hi : Int} {l : List Int} (h : Ris lo hi l) {i : Nat} : ∀ d, i + 1 + d < l.length → l.getD i 0 < l.getD (i + 1 + d) 0
  | 0, hd => by have := (h (i + 1) hd).2.2 (by omega); simpa using this
  | d + 1, hd => by
    have h1 := ris_lt h (i := i) d (by omega)
    have h2 := (h (i + 1 + (d + 1)) hd).2.2 (by omega)
    have e : i + 1 + (d + 1) - 1 = i + 1 + d := by omega
    rw [e] at h2
    omega
theorem ris_ne {lo hi : Int} {l : List Int} (h : Ris lo hi l) {i j : Nat} (hi' : i < l.length) (hj : j < l.length) (hne : j ≠ i) : l.getD j 0 ≠ l.getD i 0 := by
  rcases Nat.lt_trichotomy i j with g | g | g
  · obtain ⟨d, rfl⟩ : ∃ d, j = i + 1 + d := ⟨j - i - 1, by omega⟩
    have := ris_lt h (i := i) d hj; omega
  · exact absurd g.symm hne
  · obtain ⟨d, rfl⟩ : ∃ d, i = j + 1 + d := ⟨i - j - 1, by omega⟩
    have := ris_lt h (i := j) d hi'; omega
theorem ris_at {lo hi : Int} {l : List Int} {q z : Int} (h : Ris lo hi l) (hz : l[q.toNat]? = some z) : lo ≤ z ∧ z ≤ hi := by
  have hi := (List.getElem?_eq_some_iff.1 hz).1
  have := h q.toNat hi
  unfold RisAt at this
  rw [List.getD_eq_getElem?_getD, hz] at this
  exact ⟨this.1, this.2.1⟩
/-! ### Shares dealt anew -/
def sumC (p : Int) (w : List Int) (L : List (List Int)) (x : Int) (j : Nat) : Int := (List.range j).foldl (fun s i => s + w.getD i 0 * val p (L.getD i []) x) 0
def rsh (p : Int) (l : List (Int × Int)) (L : List (List Int)) (pts : List Int) : List (Int × Int) := pts.map (fun x => (x, sumC p (wts p (l.map Prod.fst) 0 l.length) L x L.length % p))
def fits (p : Int) (l : List (Int × Int)) (L : List (List Int)) : Prop := ∀ j, j < l.length → val p (L.getD j []) 0 = (l.getD j (0, 0)).2
noncomputable instance (p : Int) (l : List (Int × Int)) (L : List (List Int)) : Decidable (fits p l L) := Classical.propDecidable _
noncomputable def rs {α : Type} (p : Int) (l : List (Int × Int)) (L : List (List Int)) (pts : List Int) (a b c d : α) : α := if vS p l ∧ allC p L then if (L.length : Int) = l.length ∧ ptsI p pts then if fits p l L ∧ (l.length : Int) ≠ 0 then d else c else b else a
noncomputable def rsCode (p : Int) (l : List (Int × Int)) (L : List (List Int)) (pts : List Int) : Int := rs p l L pts 1 2 4 0
noncomputable def rsRow (p : Int) (l : List (Int × Int)) (L : List (List Int)) (pts : List Int) : List (Int × Int) := rs p l L pts [] [] [] (rsh p l L pts)
theorem mul62 {a b : Int} (h1 : 0 ≤ a) (h2 : a ≤ 31) (h3 : 0 ≤ b) (h4 : b ≤ 62) : 0 ≤ a * b ∧ a * b ≤ 1922 := by
  have h5 := Int.mul_nonneg h1 h3
  have h6 := Int.mul_le_mul h2 h4 h3 (by decide)
  omega

/-! ### Rows of rows, marked -/
/-! ### Enrolling -/
def lastE (p a : Int) (row : List Int) : Int := row.foldl (fun x m => (x - m) % p) a
def enrE (p : Int) (l : List (Int × Int)) (L : List (List Int)) (at_ : Int) (i : Nat) : List Int := L.getD i [] ++ [lastE p ((wts p (l.map Prod.fst) at_ (l.map Prod.fst).length).getD i 0 * (l.getD i (0, 0)).2 % p) (L.getD i [])]
def enrN (p : Int) (l : List (Int × Int)) (L : List (List Int)) (at_ : Int) (n : Nat) : List (List Int) := (List.range n).map (enrE p l L at_)
def rowOk (n p : Int) (x : List Int) : Prop := (x.length : Int) = n - 1 ∧ elems p x
noncomputable instance (n p : Int) (x : List Int) : Decidable (rowOk n p x) := Classical.propDecidable _
def rowsOk (n p : Int) (L : List (List Int)) : Prop := ∀ j, j < L.length → rowOk n p (L.getD j [])
noncomputable instance (n p : Int) (L : List (List Int)) : Decidable (rowsOk n p L) := Classical.propDecidable _
def gdE (p : Int) (l : List (Int × Int)) (L : List (List Int)) (at_ : Int) : Prop := ((0 ≤ at_ ∧ at_ ≤ p - 1) ∧ (L.length : Int) = l.length) ∧ rowsOk l.length p L
noncomputable instance (p : Int) (l : List (Int × Int)) (L : List (List Int)) (at_ : Int) : Decidable (gdE p l L at_) := Classical.propDecidable _
noncomputable def en {α : Type} (p : Int) (l : List (Int × Int)) (L : List (List Int)) (at_ : Int) (a b c d : α) : α := if vS p l then if gdE p l L at_ then if (l.length : Int) ≠ 0 then d else c else b else a
noncomputable def enCode (p : Int) (l : List (Int × Int)) (L : List (List Int)) (at_ : Int) : Int := en p l L at_ 1 2 4 0
noncomputable def enRow (p : Int) (l : List (Int × Int)) (L : List (List Int)) (at_ : Int) : List (List Int) := en p l L at_ [] [] [] (enrN p l L at_ l.length)
theorem elems_one {p a : Int} : elems p [a] ↔ 0 ≤ a ∧ a ≤ p - 1 := by
  constructor
  · intro h; simpa using h 0 (by simp)
  · intro h j hj
    obtain rfl : j = 0 := by simp at hj; exact hj
    simpa using h
/-! ### Choices out of bytes -/
def bytes (l : List Int) : Prop := ∀ x ∈ l, 0 ≤ x ∧ x ≤ 255
theorem i64_id {z : Int} (h : 0 ≤ z ∧ z ≤ 255) : IntKind.i64.wrap z = z := by
  have h1 : z % 18446744073709551616 = z := by omega
  simp [IntKind.wrap, IntKind.signed, IntKind.bits, h1]; omega
theorem bt_255 (x : Int) : 0 ≤ bt .and .u64 x 255 ∧ bt .and .u64 x 255 ≤ 255 := by
  have h1 : (BitVec.ofInt IntKind.u64.bits x &&& BitVec.ofInt IntKind.u64.bits 255).toNat ≤ 255 := by
    rw [BitVec.toNat_and]
    exact Nat.le_trans Nat.and_le_right (by decide)
  simp only [bt]
  generalize (BitVec.ofInt IntKind.u64.bits x &&& BitVec.ofInt IntKind.u64.bits 255).toNat = n at h1
  have h2 : (n : Int) % 18446744073709551616 = n := by omega
  have h3 : IntKind.u64.wrap (n : Int) = n := by simp [IntKind.wrap, IntKind.signed, IntKind.bits, h2]
  rw [h3]; omega
theorem elems_snoc {p q : Int} {k : List Int} (h : elems p k) (hq : 0 ≤ q ∧ q ≤ p - 1) : elems p (k ++ [q]) := fun j hj => by
  rcases Nat.lt_or_ge j k.length with h1 | h1
  · have := h j h1
    simp only [List.getD_eq_getElem?_getD] at this ⊢
    rwa [List.getElem?_append_left h1]
  · have e : j = k.length := by simp at hj; omega
    subst e
    simpa [List.getD_eq_getElem?_getD] using hq
theorem elems_take {p : Int} {k : List Int} (h : elems p k) (i : Nat) : elems p (k.take i) := fun j hj => by
  have hj' : j < i ∧ j < k.length := by simp at hj; omega
  have := h j hj'.2
  simp only [List.getD_eq_getElem?_getD, List.getElem?_take, if_pos hj'.1] at this ⊢
  exact this
theorem take_last {k : List Int} {i : Nat} (hi : i ≤ k.length) : (k.take i).getD ((k.take i).length - 1) 0 = if i = 0 then 0 else k.getD (i - 1) 0 := by
  rw [List.length_take, Nat.min_eq_left hi]
  split
  · rename_i h; subst h; simp
  · simp only [List.getD_eq_getElem?_getD, List.getElem?_take, if_pos (show i - 1 < i by omega)]
def ins (x : Int) : List Int → List Int
  | [] => [x]
  | y :: l => if y < x then y :: ins x l else if y = x then y :: l else x :: y :: l
theorem ris_iff {lo hi : Int} {l : List Int} : Ris lo hi l ↔ l.Pairwise (· < ·) ∧ ∀ x ∈ l, lo ≤ x ∧ x ≤ hi := by
  constructor
  · intro h
    refine ⟨List.pairwise_iff_getElem.2 fun i j hi' hj hij => ?_, fun x hx => ?_⟩
    · obtain ⟨d, rfl⟩ : ∃ d, j = i + 1 + d := ⟨j - i - 1, by omega⟩
      have := ris_lt h (i := i) d hj
      simpa [hi', hj] using this
    · obtain ⟨j, hj, rfl⟩ := List.getElem_of_mem hx
      have := h j hj
      unfold RisAt at this
      simp [hj] at this
      exact ⟨this.1, this.2.1⟩
  · rintro ⟨h1, h2⟩ j hj
    have := h2 l[j] (List.getElem_mem hj)
    unfold RisAt
    refine ⟨by simpa [hj] using this.1, by simpa [hj] using this.2, fun h0 => ?_⟩
    have := List.pairwise_iff_getElem.1 h1 (j - 1) j (by omega) hj (by omega)
    simpa [hj, show j - 1 < l.length by omega] using this
theorem mapS_snoc {f : Int → Int × Int} {l : List Int} {i : Nat} {z : Int} (hz : l[(i : Int).toNat]? = some z) : (l.take (i + 1)).map f = (l.take i).map f ++ [f z] := by
  rw [Int.toNat_natCast] at hz
  rw [List.take_add_one, hz]; simp
/-! ### Joining -/
def sumI (l : List Int) (j : Nat) : Int := (List.range j).foldl (fun s i => s + l.getD i 0) 0
def totI (L : List (List Int)) (i : Nat) : Int := (List.range i).foldl (fun s t => s + sumI (L.getD t []) (L.getD t []).length) 0
variable {W : World} {H : Hp}

set_option maxRecDepth 100000 in
theorem arePts_ok {v : Value} {l : List Int} {ok : Nat → Prop} {p : Int} (hr : RdK kI W H ok v l) (hp : 2 ≤ p ∧ p ≤ 31) : ACalls Try.prog W 124 #[.int .i64 p, v] H (fun r H' => r = .bool (decide (ptsI p l)) ∧ Ext H H') := by
  refine ACalls.of (args := [.int .i64 p, v]) Try.func124 rfl rfl ?_
  have X0 := Ext.refl H
  have hm1 := hr.max
  refine AW.rs ?_
  refine AL.val rfl (.inl rfl) (HV.as rfl) ?_
  refine AL.nx ?_
  refine AW.seq ?_
  refine AW.rs ?_
  refine AL.val rfl (.inl rfl) (HV.mv rfl) ?_
  refine AL.val rfl (.inl rfl) (HV.len Try.underlying22 rfl hr.isSl) ?_
  refine AL.val rfl (.inl rfl) (HV.mv rfl) ?_
  refine AL.nx ?_
  refine AW.block ?_
  refine AW.loop (σ := Nat) (fun i => [(0, .int .i64 p), (1, v), (7, v), (8, .int .i64 (l.length : Int)), (9, .int .i64 (i : Int))]) (fun i H' => Ext H H' ∧ i ≤ l.length ∧ (∀ j, j < i → RisAt 1 (p - 1) l j) ∧ True) (fun i => l.length - i) 0 ⟨X0, Nat.zero_le _, fun j hj => absurd hj (Nat.not_lt_zero _), trivial⟩ ⟨rfl, rfl, rfl, rfl, rfl, trivial⟩ ?_
  rintro i H2 ⟨X3, hi, hi2, _⟩
  refine AW.rs ?_
  refine AL.val rfl (.inl rfl) (HV.lti rfl rfl) ?_
  refine AL.nx ?_
  refine AW.seq ?_
  refine AW.ifd rfl (fun c4 => ?_) (fun c4 => ?_)
  · -- then
    refine AW.skip ?_
    refine nrm_and ?_
    refine AW.seq ?_
    refine AW.block ?_
    refine AW.rs ?_
    refine AL.val rfl (.inl rfl) (HV.mv rfl) ?_
    obtain ⟨p5, z6, cs7, hz8, hK9, hC10, hP11⟩ := RdK.ix (q := (i : Int)) hr sl22 (by omega) (by omega)
    obtain rfl : cs7 = [.int .i64 z6] := hK9
    refine AL.val rfl (.inl rfl) (hP11 rfl rfl) ?_
    refine AL.val rfl (.inl rfl) (HV.ld rfl va2 (cells_first (hC10.ext X3) rfl)) ?_
    refine AL.val rfl (.inl rfl) (HV.as rfl) ?_
    refine AL.val rfl (.inl rfl) (HV.as rfl) ?_
    refine AL.nx ?_
    refine AW.rs ?_
    refine AL.val rfl (.inl rfl) (HV.mv rfl) ?_
    refine AL.val rfl (.inl rfl) (HV.mv rfl) ?_
    refine AL.val rfl (.inl rfl) (HV.sub rfl rfl (by omega)) ?_
    refine AL.w rfl (.inl rfl) (WV.call fn104 rfl (within_ok (W := W) z6 1 (p - 1))) ?_
    rintro _ H12 ⟨rfl, hx13⟩
    have X14 := Ext.trans X3 hx13
    refine AL.val rfl (.inl rfl) (HV.not rfl) ?_
    refine AL.val rfl (.inl rfl) (HV.mv rfl) ?_
    by_cases c15 : 1 ≤ z6 ∧ z6 ≤ (p - 1)
    · -- false
      have c15_ : (!decide (1 ≤ z6 ∧ z6 ≤ (p - 1))) = false := by rw [decide_eq_true c15]; rfl
      rw [c15_]
      refine AL.val rfl (.inr ⟨_, _, _, rfl, rfl, rfl⟩) (HV.mv rfl) ?_
      refine AL.val rfl (.inr ⟨_, _, _, rfl, rfl, rfl⟩) (HV.gti rfl rfl) ?_
      refine AL.val rfl (.inr ⟨_, _, _, rfl, rfl, rfl⟩) (HV.mv rfl) ?_
      by_cases c16 : (i : Int) > 0
      · -- true
        have c16_ : decide ((i : Int) > 0) = true := decide_eq_true c16
        rw [c16_]
        refine AL.val rfl (.inr ⟨_, _, _, rfl, rfl, rfl⟩) (HV.mv rfl) ?_
        refine AL.val rfl (.inr ⟨_, _, _, rfl, rfl, rfl⟩) (HV.mv rfl) ?_
        refine AL.val rfl (.inr ⟨_, _, _, rfl, rfl, rfl⟩) (HV.mv rfl) ?_
        refine AL.val rfl (.inr ⟨_, _, _, rfl, rfl, rfl⟩) (HV.sub rfl rfl (by omega)) ?_
        obtain ⟨p17, z18, cs19, hz20, hK21, hC22, hP23⟩ := RdK.ix (q := (i : Int) - 1) hr sl22 (by omega) (by omega)
        obtain rfl : cs19 = [.int .i64 z18] := hK21
        refine AL.val rfl (.inr ⟨_, _, _, rfl, rfl, rfl⟩) (hP23 rfl rfl) ?_
        refine AL.val rfl (.inr ⟨_, _, _, rfl, rfl, rfl⟩) (HV.ld rfl va2 (cells_first (hC22.ext X14) rfl)) ?_
        refine AL.val rfl (.inr ⟨_, _, _, rfl, rfl, rfl⟩) (HV.lei rfl rfl) ?_
        refine AL.val rfl (.inr ⟨_, _, _, rfl, rfl, rfl⟩) (HV.pickT rfl rfl) ?_
        refine AL.val rfl (.inl rfl) (HV.pickF rfl rfl) ?_
        refine AL.nx ?_
        refine AW.ifd rfl (fun c24 => ?_) (fun c24 => ?_)
        · -- then
          refine AW.rs ?_
          refine AL.val rfl (.inl rfl) (HV.as rfl) ?_
          refine AL.nx ?_
          refine AW.ret ?_
          refine ret_blk (ret_and (ret_and (ret_blk (ret_and ?_))))
          refine post_one rfl rfl ?_ (.inr rfl)
          exact ⟨dec_f fun hR => by have q := hR.2 i (by omega); unfold RisAt at q; have g13 : l.getD i 0 = z6 := gd hz8 (by omega); have g28 : l.getD (i - 1) 0 = z18 := gd hz20 (by omega); omega, X14⟩
        · -- else
          refine AW.skip ?_
          refine nrm_blk (nrm_and ?_)
          refine AW.reg ?_
          refine AL.val rfl (.inl rfl) (HV.add rfl rfl (by omega)) ?_
          refine AL.val rfl (.inl rfl) (HV.mv rfl) ?_
          refine AL.nil ?_
          refine nrm_and ?_
          exact ⟨i + 1, ⟨X14, by omega, fun j hj => by
      rcases Nat.lt_or_ge j i with h1 | h1
      · exact hi2 j h1
      · obtain rfl : j = i := by omega
        unfold RisAt; have g13 : l.getD j 0 = z6 := gd hz8 (by omega); have g28 : l.getD (j - 1) 0 = z18 := gd hz20 (by omega); exact ⟨by omega, by omega, fun h0 => by omega⟩, trivial⟩, by first | omega | (dsimp only; omega), ⟨rfl, rfl, rfl, rfl, rfl, trivial⟩⟩
      · -- false
        have c16_ : decide ((i : Int) > 0) = false := decide_eq_false c16
        rw [c16_]
        refine AL.off rfl rfl (by decide) rfl ?_
        refine AL.off rfl rfl (by decide) rfl ?_
        refine AL.off rfl rfl (by decide) rfl ?_
        refine AL.off rfl rfl (by decide) rfl ?_
        refine AL.off rfl rfl (by decide) rfl ?_
        refine AL.off rfl rfl (by decide) rfl ?_
        refine AL.off rfl rfl (by decide) rfl ?_
        refine AL.val rfl (.inr ⟨_, _, _, rfl, rfl, rfl⟩) (HV.pickF rfl rfl) ?_
        refine AL.val rfl (.inl rfl) (HV.pickF rfl rfl) ?_
        refine AL.nx ?_
        refine AW.cond rfl (fun h => by cases h) (fun _ => ?_)
        refine AW.skip ?_
        refine nrm_blk (nrm_and ?_)
        refine AW.reg ?_
        refine AL.val rfl (.inl rfl) (HV.add rfl rfl (by omega)) ?_
        refine AL.val rfl (.inl rfl) (HV.mv rfl) ?_
        refine AL.nil ?_
        refine nrm_and ?_
        exact ⟨i + 1, ⟨X14, by omega, fun j hj => by
      rcases Nat.lt_or_ge j i with h1 | h1
      · exact hi2 j h1
      · obtain rfl : j = i := by omega
        unfold RisAt; have g13 : l.getD j 0 = z6 := gd hz8 (by omega); exact ⟨by omega, by omega, fun h0 => by omega⟩, trivial⟩, by first | omega | (dsimp only; omega), ⟨rfl, rfl, rfl, rfl, rfl, trivial⟩⟩
    · -- true
      have c15_ : (!decide (1 ≤ z6 ∧ z6 ≤ (p - 1))) = true := by rw [decide_eq_false c15]; rfl
      rw [c15_]
      refine AL.off rfl rfl (by decide) rfl ?_
      refine AL.off rfl rfl (by decide) rfl ?_
      refine AL.off rfl rfl (by decide) rfl ?_
      refine AL.offu rfl rfl rfl ?_
      refine AL.offu rfl rfl rfl ?_
      refine AL.offu rfl rfl rfl ?_
      refine AL.offu rfl rfl rfl ?_
      refine AL.offu rfl rfl rfl ?_
      refine AL.offu rfl rfl rfl ?_
      refine AL.offu rfl rfl rfl ?_
      refine AL.off rfl rfl (by decide) rfl ?_
      refine AL.val rfl (.inl rfl) (HV.pickT rfl rfl) ?_
      refine AL.nx ?_
      refine AW.cond rfl (fun _ => ?_) (fun h => by cases h)
      refine AW.rs ?_
      refine AL.val rfl (.inl rfl) (HV.as rfl) ?_
      refine AL.nx ?_
      refine AW.ret ?_
      refine ret_blk (ret_and (ret_and (ret_blk (ret_and ?_))))
      refine post_one rfl rfl ?_ (.inr rfl)
      exact ⟨dec_f fun hR => by have q := hR.2 i (by omega); unfold RisAt at q; have g13 : l.getD i 0 = z6 := gd hz8 (by omega); omega, X14⟩
  · -- else
    refine AW.exit ?_
    refine ex_and (ex_and (ex_blk ?_))
    refine nrm_and ?_
    refine AW.rs ?_
    refine AL.val rfl (.inl rfl) (HV.mv rfl) ?_
    refine AL.val rfl (.inl rfl) (HV.len Try.underlying22 rfl hr.isSl) ?_
    refine AL.val rfl (.inl rfl) (HV.lei rfl rfl) ?_
    refine AL.val rfl (.inl rfl) (HV.as rfl) ?_
    refine AL.nx ?_
    refine AW.ret ?_
    refine post_one rfl rfl ?_ (.inr rfl)
    exact ⟨congrArg Value.bool (decide_eq_decide.2 ⟨fun h => ⟨h, fun j hj => hi2 j (by omega)⟩, fun h => h.1⟩), X3⟩

set_option maxRecDepth 100000 in
theorem ptsOf_ok {v : Value} {l : List (Int × Int)} {ok : Nat → Prop} (hr : RdK (kP kI kI) W H ok v l) (hl : l.length ≤ 1048576) : ACalls Try.prog W 172 #[v] H (fun r H' => (∃ u v, r = .tuple #[u, v] ∧ RdK kI W H' (fun _ => True) u (l.map Prod.fst) ∧ RdK kI W H' (fun _ => True) v (l.map Prod.snd)) ∧ Ext H H') := by
  refine ACalls.of (args := [v]) Try.func172 rfl rfl ?_
  have X0 := Ext.refl H
  have hm1 := hr.max
  refine AW.rs ?_
  refine AL.val rfl (.inl rfl) (HV.as rfl) ?_
  refine AL.val rfl (.inl rfl) (HV.as rfl) ?_
  refine AL.nx ?_
  refine AW.rs ?_
  have o2 := X0.bd
  refine AL.w rfl (.inl rfl) (WV.bsK (K := kI) (l := ([] : List Int)) (css := []) sl22 rfl rfl (by first | rfl | (simp [Instr.fill, Value.cells, kI, kB, kU, kU8, kS, Kd.sc]; done) | (simp [Instr.fill, Value.cells, kI, kB, kU, kU8, kS, Kd.sc, rng1, rng2, rng3, rng4, kP])) rfl segs_nil) ?_
  rintro v3 H4 ⟨hx5, ho6⟩
  have X7 := Ext.trans X0 hx5
  have X9 := Ext.refl H4
  have o10 := X7.bd
  have o11 := X9.bd
  have a12 := ho6.ltb
  refine AL.w rfl (.inl rfl) (WV.bsK (K := kI) (l := ([] : List Int)) (css := []) sl22 rfl rfl (by first | rfl | (simp [Instr.fill, Value.cells, kI, kB, kU, kU8, kS, Kd.sc]; done) | (simp [Instr.fill, Value.cells, kI, kB, kU, kU8, kS, Kd.sc, rng1, rng2, rng3, rng4, kP])) rfl segs_nil) ?_
  rintro v13 H14 ⟨hx15, ho16⟩
  have X17 := Ext.trans X7 hx15
  have X18 := Ext.trans X9 hx15
  have ho19 := ho6.ext hx15
  refine AL.val rfl (.inl rfl) (HV.as rfl) ?_
  refine AL.val rfl (.inl rfl) (HV.as rfl) ?_
  refine AL.nx ?_
  refine AW.seq ?_
  refine AW.rs ?_
  refine AL.val rfl (.inl rfl) (HV.mv rfl) ?_
  refine AL.val rfl (.inl rfl) (HV.len Try.underlying82 rfl hr.isSl) ?_
  refine AL.val rfl (.inl rfl) (HV.mv rfl) ?_
  refine AL.nx ?_
  refine AW.block ?_
  have ho21 := ho19.narrow (ok' := fun b => H.bd ≤ b ∧ some b = v3.ownBlock) kI_flat (fun b q => ⟨(ho19.blk b q).1, q⟩)
  have ho22 := ho16.narrow (ok' := fun b => H.bd ≤ b ∧ some b = v13.ownBlock) kI_flat (fun b q => ⟨Nat.le_trans o10 (ho16.blk b q).1, q⟩)
  have d23 : ∀ b, some b = v3.ownBlock → some b = v13.ownBlock → False := fun b h1 h2 => by have x1 := a12 b h1; have x2 : H4.bd ≤ b := (ho16.blk b h2).1; omega
  refine AW.loop (σ := Nat × Value × List Int × Value × List Int) (fun ⟨i, va, ka, vb, kb⟩ => [(2, (.slice none 0 0)), (3, (.slice none 0 0)), (10, v), (11, .int .i64 (l.length : Int)), (4, va), (5, vb), (12, .int .i64 (i : Int))]) (fun ⟨i, va, ka, vb, kb⟩ H' => Ext H H' ∧ i ≤ l.length ∧ ka = (l.take i).map Prod.fst ∧ kb = (l.take i).map Prod.snd ∧ ka.length = i ∧ kb.length = i ∧ (∀ b, some b = va.ownBlock → some b = vb.ownBlock → False) ∧ OwnK kI 2 W H' (fun b => H.bd ≤ b ∧ some b = va.ownBlock) va ka ∧ OwnK kI 2 W H' (fun b => H.bd ≤ b ∧ some b = vb.ownBlock) vb kb ∧ True) (fun ⟨i, va, ka, vb, kb⟩ => l.length - i) (0, v3, (([] : List Int) : List Int), v13, (([] : List Int) : List Int)) ⟨X17, Nat.zero_le _, rfl, rfl, rfl, rfl, d23, ho21, ho22, trivial⟩ ⟨rfl, rfl, rfl, rfl, rfl, rfl, rfl, trivial⟩ ?_
  rintro ⟨i, va, ka, vb, kb⟩ H24 ⟨X25, hi, hka, hkb, hla, hlb, hdis, hoA, hoB, _⟩
  refine AW.rs ?_
  refine AL.val rfl (.inl rfl) (HV.lti rfl rfl) ?_
  refine AL.nx ?_
  refine AW.seq ?_
  refine AW.ifd rfl (fun c26 => ?_) (fun c26 => ?_)
  · -- then
    refine AW.skip ?_
    refine nrm_and ?_
    refine AW.seq ?_
    refine AW.block ?_
    refine AW.rs ?_
    obtain ⟨p27, z28, cs29, hz30, hK31, hC32, hP33⟩ := RdK.ix (q := (i : Int)) hr sl82 (by omega) (by omega)
    obtain ⟨cs34, cs35, rfl, hK36, hK37⟩ := hK31
    obtain rfl : cs34 = [.int .i64 z28.1] := hK36
    obtain rfl : cs35 = [.int .i64 z28.2] := hK37
    refine AL.val rfl (.inl rfl) (hP33 rfl rfl) ?_
    refine AL.val rfl (.inl rfl) (HV.lda (cs := [.int .i64 z28.1, .int .i64 z28.2]) rfl va86 (hC32.ext X25)) ?_
    have a43 := hoA.ltb
    have a44 := hoB.ltb
    refine AL.w rfl (.inl rfl) (WV.al ze86 rfl) ?_
    rintro _ H39 ⟨b38, rfl, hx40, hn41, hb42⟩
    have o45 := Nat.le_trans X25.bd hn41
    have a46 : ∀ b', some b' = va.ownBlock → b' = b38 → False := fun b' h1 h2 => by have x1 := a43 b' h1; have x2 := hn41; omega
    have a47 : ∀ b', some b' = vb.ownBlock → b' = b38 → False := fun b' h1 h2 => by have x1 := a44 b' h1; have x2 := hn41; omega
    have X48 := Ext.trans X25 hx40
    have ho49 := hoA.ext hx40
    have ho50 := hoB.ext hx40
    have X51 := Ext.refl H39
    refine AL.w0 (.inl rfl) (WV.st rfl rfl va86 rfl hb42 (Nat.le_of_ble_eq_true rfl) (one_cons rfl (one_cons rfl one_nil))) ?_
    rintro _ H52 ⟨hx53, hb54⟩
    have X55 := Ext.thru X48 hx53 (fun z_ hz_ => by rw [hz_]; exact o45)
    have ho57 := ho49.but hx53 (fun b hb _ e => a46 b hb.2 e) (fun z_ hz_ => by rw [hz_]; exact hb42.w)
    have ho58 := ho50.but hx53 (fun b hb _ e => a47 b hb.2 e) (fun z_ hz_ => by rw [hz_]; exact hb42.w)
    have hb59 : At W H52 b38 ⟨86, [.int .i64 z28.1, .int .i64 z28.2], 2⟩ := hb54
    refine AL.nx ?_
    refine AW.draw' [0, 0, 2, 6, 15, 0, 0, 64, 192, 511, 1023, 2047] mixed (by rfl) ?_
    refine Dr.read 0 _ 16 _ rfl rfl rfl rfl rfl (RV.of (by intro _ _ h; cases h) (.inl rfl) (fun _ xd => HV.mv rfl)) ?_
    refine Dr.read 1 _ 17 _ rfl rfl rfl rfl rfl (RV.of (by intro _ _ h; cases h) (.inl rfl) (fun _ xd => HV.fa fl86_0 rfl)) ?_
    refine Dr.read 2 _ 18 _ rfl rfl rfl rfl rfl (RV.of (by intro _ _ h; cases h) (.inl rfl) (fun _ xd => HV.ld rfl va2 (rdc_ext xd (at_cell hb59 rfl)))) ?_
    refine Dr.read 5 _ 21 _ rfl rfl rfl rfl rfl (RV.of (by intro _ _ h; cases h) (.inl rfl) (fun _ xd => HV.mv rfl)) ?_
    refine Dr.read 6 _ 22 _ rfl rfl rfl rfl rfl (RV.of (by intro _ _ h; cases h) (.inl rfl) (fun _ xd => HV.fa fl86_1 rfl)) ?_
    refine Dr.read 7 _ 23 _ rfl rfl rfl rfl rfl (RV.of (by intro _ _ h; cases h) (.inl rfl) (fun _ xd => HV.ld rfl va2 (rdc_ext xd (at_cell_add (j := 1) hb59 rfl)))) ?_
    have X60 := Ext.refl H52
    have y61 := hb59.lt
    have o62 := X55.bd
    have o63 := X60.bd
    have a64 := ho57.ltb
    have a65 := ho58.ltb
    have X70 := Ext.refl H52
    have y71 := hb59.lt
    have o72 := X55.bd
    have o73 := X70.bd
    have a74 := ho57.ltb
    have a75 := ho58.ltb
    refine Dr.eff2 3 8 _ _ _ _  rfl rfl  (by intro d h; cases h; exact ⟨rfl, rfl⟩) (by intro d h; cases h; exact ⟨rfl, rfl⟩) rfl rfl  rfl rfl rfl  (EC.of (by intro _ _ h; cases h) (.inl rfl) (WV.bsK (K := kI) (l := ([z28.1] : List Int)) (css := [[.int .i64 z28.1]]) sl22 rfl rfl (by first | rfl | (simp [Instr.fill, Value.cells, kI, kB, kU, kU8, kS, Kd.sc]; done) | (simp [Instr.fill, Value.cells, kI, kB, kU, kU8, kS, Kd.sc, rng1, rng2, rng3, rng4, kP])) rfl (segs_cons rfl segs_nil))) (EC.of (by intro _ _ h; cases h) (.inl rfl) (WV.bsK (K := kI) (l := ([z28.2] : List Int)) (css := [[.int .i64 z28.2]]) sl22 rfl rfl (by first | rfl | (simp [Instr.fill, Value.cells, kI, kB, kU, kU8, kS, Kd.sc]; done) | (simp [Instr.fill, Value.cells, kI, kB, kU, kU8, kS, Kd.sc, rng1, rng2, rng3, rng4, kP])) rfl (segs_cons rfl segs_nil))) (fun v H' h => .inl (h.1)) (fun v H' h => .inl (h.1)) ?_ ?_ 
    · -- 3 first
      have X80 := Ext.refl H52
      have y81 := hb59.lt
      have o82 := X55.bd
      have o83 := X80.bd
      have a84 := ho57.ltb
      have a85 := ho58.ltb
      rintro v86 H87 ⟨hx88, ho89⟩
      have X90 := Ext.trans X55 hx88
      have X91 := Ext.trans X80 hx88
      have ho92 := ho57.ext hx88
      have ho93 := ho58.ext hx88
      have hb94 := hb59.ext hx88
      have X96 := Ext.refl H87
      have X103 := Ext.refl H87
      have y104 := hb94.lt
      have o105 := X90.bd
      have o106 := X91.bd
      have o107 := X103.bd
      have a108 := ho92.ltb
      have a109 := ho93.ltb
      have a110 := ho89.ltb
      refine Dr.eff2 4 8 _ _ _ _  rfl rfl  (by intro d h; cases h; exact ⟨rfl, rfl⟩) (by intro d h; cases h; exact ⟨rfl, rfl⟩) rfl rfl  rfl rfl rfl  (EC.of (by intro _ _ h; cases h) (.inl rfl) (WV.apk sl22 rfl rfl ho92 ho89.rd (by simp; omega) (by simp; omega) (fun b hb _ e => Nat.lt_irrefl _ (Nat.lt_of_lt_of_le (a84 b e) hb)))) (EC.of (by intro _ _ h; cases h) (.inl rfl) (WV.bsK (K := kI) (l := ([z28.2] : List Int)) (css := [[.int .i64 z28.2]]) sl22 rfl rfl (by first | rfl | (simp [Instr.fill, Value.cells, kI, kB, kU, kU8, kS, Kd.sc]; done) | (simp [Instr.fill, Value.cells, kI, kB, kU, kU8, kS, Kd.sc, rng1, rng2, rng3, rng4, kP])) rfl (segs_cons rfl segs_nil))) ?_ (fun v H' h => .inl (h.1)) ?_ ?_ 
      · -- kept
        rintro v97 H98 ⟨hx99, ho100, hb101⟩
        have ho102 := ho100.narrow (ok' := fun b => H.bd ≤ b ∧ some b = v97.ownBlock) kI_flat (fun b q => ⟨(hb101 b q).elim (fun e => (ho92.blk b e).1.1) (fun e => Nat.le_trans X90.bd e), q⟩)
        have d115 : ∀ b, some b = vb.ownBlock → some b = v97.ownBlock → False := fun b h1 h2 => (hb101 b h2).elim (fun e => (fun b h1 h2 => hdis b h2 h1) b h1 e) (fun e => by have := (ho93.blk b h1).2.1; omega)
        have a116 : ∀ b', some b' = v97.ownBlock → b' = b38 → False := fun b' h1 h2 => (hb101 b' h1).elim (fun e => a46 b' e h2) (fun e => by have := hb94.lt; omega)
        have X117 := Ext.thru X90 hx99 (fun b hb => Nat.le_trans o2 (ho92.blk b hb).1.1)
        have ho119 := ho93.but hx99 (fun b h1 _ h2 => hdis b h2 h1.2) (fun b hb => (ho92.blk b hb).2.2)
        have ho120 := ho89.but hx99 (fun b hb _ e => Nat.lt_irrefl _ (Nat.lt_of_lt_of_le (a84 b e) hb)) (fun b hb => (ho92.blk b hb).2.2)
        have hb121 := hb94.but hx99 (fun e => a46 _ e rfl)
        refine .inr (.inr ?_)
        exact (kept_cons (.inr ⟨_, _, _, rfl, rfl, rfl, (RV.of (by intro _ _ h; cases h) (.inl rfl) (fun _ xd => HV.ld rfl va2 (rdc_ext xd (at_cell_add (j := 1) hb121 rfl))))⟩) (kept_cons (.inr ⟨_, _, _, rfl, rfl, rfl, (RV.of (by intro _ _ h; cases h) (.inl rfl) (fun _ xd => HV.fa fl86_1 rfl))⟩) (kept_cons (.inr ⟨_, _, _, rfl, rfl, rfl, (RV.of (by intro _ _ h; cases h) (.inl rfl) (fun _ xd => HV.mv rfl))⟩) (kept_cons (.inl rfl) (kept_cons (.inl rfl) (kept_cons (.inl rfl) kept_nil))))))
      · -- 4 first
        have X122 := Ext.refl H87
        rintro v123 H124 ⟨hx125, ho126, hb127⟩
        have ho128 := ho126.narrow (ok' := fun b => H.bd ≤ b ∧ some b = v123.ownBlock) kI_flat (fun b q => ⟨(hb127 b q).elim (fun e => (ho92.blk b e).1.1) (fun e => Nat.le_trans X90.bd e), q⟩)
        have d129 : ∀ b, some b = vb.ownBlock → some b = v123.ownBlock → False := fun b h1 h2 => (hb127 b h2).elim (fun e => (fun b h1 h2 => hdis b h2 h1) b h1 e) (fun e => by have := (ho93.blk b h1).2.1; omega)
        have a130 : ∀ b', some b' = v123.ownBlock → b' = b38 → False := fun b' h1 h2 => (hb127 b' h1).elim (fun e => a46 b' e h2) (fun e => by have := hb94.lt; omega)
        have X131 := Ext.thru X90 hx125 (fun b hb => Nat.le_trans o2 (ho92.blk b hb).1.1)
        have ho134 := ho93.but hx125 (fun b h1 _ h2 => hdis b h2 h1.2) (fun b hb => (ho92.blk b hb).2.2)
        have ho135 := ho89.but hx125 (fun b hb _ e => Nat.lt_irrefl _ (Nat.lt_of_lt_of_le (a84 b e) hb)) (fun b hb => (ho92.blk b hb).2.2)
        have hb136 := hb94.but hx125 (fun e => a46 _ e rfl)
        have X137 := Ext.refl H124
        have y138 := hb136.lt
        have o139 := X131.bd
        have o140 := X137.bd
        have a141 := ho128.ltb
        have a142 := ho134.ltb
        have a143 := ho135.ltb
        refine Dr.eff 8 _ _ rfl (by intro d h; cases h; exact ⟨rfl, rfl⟩) rfl rfl rfl (EC.of (by intro _ _ h; cases h) (.inl rfl) (WV.bsK (K := kI) (l := ([z28.2] : List Int)) (css := [[.int .i64 z28.2]]) sl22 rfl rfl (by first | rfl | (simp [Instr.fill, Value.cells, kI, kB, kU, kU8, kS, Kd.sc]; done) | (simp [Instr.fill, Value.cells, kI, kB, kU, kU8, kS, Kd.sc, rng1, rng2, rng3, rng4, kP])) rfl (segs_cons rfl segs_nil))) (fun v H' h => .inl (h.1)) ?_
        rintro v144 H145 ⟨hx146, ho147⟩
        have X148 := Ext.trans X131 hx146
        have X149 := Ext.trans X137 hx146
        have ho150 := ho128.ext hx146
        have ho151 := ho134.ext hx146
        have ho152 := ho135.ext hx146
        have hb153 := hb136.ext hx146
        have X155 := Ext.refl H145
        refine Dr.eff 9 _ _ rfl (by intro d h; cases h; exact ⟨rfl, rfl⟩) rfl rfl rfl (EC.of (by intro _ _ h; cases h) (.inl rfl) (WV.apk sl22 rfl rfl ho151 ho147.rd (by simp; omega) (by simp; omega) (fun b hb _ e => Nat.lt_irrefl _ (Nat.lt_of_lt_of_le (a142 b e) hb)))) (fun v H' h => .inr (.inl rfl)) ?_
        rintro v156 H157 ⟨hx158, ho159, hb160⟩
        have ho161 := ho159.narrow (ok' := fun b => H.bd ≤ b ∧ some b = v156.ownBlock) kI_flat (fun b q => ⟨(hb160 b q).elim (fun e => (ho151.blk b e).1.1) (fun e => Nat.le_trans X148.bd e), q⟩)
        have d162 : ∀ b, some b = v123.ownBlock → some b = v156.ownBlock → False := fun b h1 h2 => (hb160 b h2).elim (fun e => (fun b h1 h2 => d129 b h2 h1) b h1 e) (fun e => by have := (ho150.blk b h1).2.1; omega)
        have a163 : ∀ b', some b' = v156.ownBlock → b' = b38 → False := fun b' h1 h2 => (hb160 b' h1).elim (fun e => a47 b' e h2) (fun e => by have := hb153.lt; omega)
        have X164 := Ext.thru X148 hx158 (fun b hb => Nat.le_trans o2 (ho151.blk b hb).1.1)
        have ho167 := ho150.but hx158 (fun b h1 _ h2 => (fun b h1 h2 => d129 b h2 h1) b h1.2 h2) (fun b hb => (ho151.blk b hb).2.2)
        have ho168 := ho152.but hx158 (fun b hb _ e => Nat.lt_irrefl _ (Nat.lt_of_lt_of_le (a85 b e) hb)) (fun b hb => (ho151.blk b hb).2.2)
        have ho169 := ho147.but hx158 (fun b hb _ e => Nat.lt_irrefl _ (Nat.lt_of_lt_of_le (a142 b e) hb)) (fun b hb => (ho151.blk b hb).2.2)
        have hb170 := hb153.but hx158 (fun e => a47 _ e rfl)
        refine Dr.eff 10 _ _ rfl (by intro d h; cases h; exact ⟨rfl, rfl⟩) rfl rfl rfl (EC.of (by intro _ _ h; cases h) (.inl rfl) (WV.ofHV (HV.as rfl))) (fun v H' h => .inl (h.2 ▸ Ext.refl _)) ?_
        rintro u_ h_ ⟨e1_, e2_⟩
        rw [e1_, e2_]
        clear e1_ e2_ u_ h_
        refine Dr.eff 11 _ _ rfl (by intro d h; cases h; exact ⟨rfl, rfl⟩) rfl rfl rfl (EC.of (by intro _ _ h; cases h) (.inl rfl) (WV.ofHV (HV.as rfl))) (fun v H' h => .inl (h.2 ▸ Ext.refl _)) ?_
        rintro u_ h_ ⟨e1_, e2_⟩
        rw [e1_, e2_]
        clear e1_ e2_ u_ h_
        refine Dr.fin rfl ?_
        refine nrm_blk (nrm_and ?_)
        refine AW.reg ?_
        refine AL.val rfl (.inl rfl) (HV.add rfl rfl (by omega)) ?_
        refine AL.val rfl (.inl rfl) (HV.mv rfl) ?_
        refine AL.nil ?_
        refine nrm_and ?_
        exact ⟨(i + 1, v123, (ka ++ (([z28.1] : List Int) : List Int)), v156, (kb ++ (([z28.2] : List Int) : List Int))), ⟨X164, by omega, by rw [map_snoc (f := Prod.fst) hz30, hka], by rw [map_snoc (f := Prod.snd) hz30, hkb], by simp [hla], by simp [hlb], d162, ho167, ho161, trivial⟩, by first | omega | (dsimp only; omega), ⟨rfl, rfl, rfl, rfl, rfl, rfl, rfl, trivial⟩⟩
      · -- 8 first
        have X171 := Ext.refl H87
        have y172 := hb94.lt
        have o173 := X90.bd
        have o174 := X91.bd
        have o175 := X171.bd
        have a176 := ho92.ltb
        have a177 := ho93.ltb
        have a178 := ho89.ltb
        rintro v179 H180 ⟨hx181, ho182⟩
        have X183 := Ext.trans X90 hx181
        have X184 := Ext.trans X91 hx181
        have X185 := Ext.trans X171 hx181
        have ho186 := ho92.ext hx181
        have ho187 := ho93.ext hx181
        have ho188 := ho89.ext hx181
        have hb189 := hb94.ext hx181
        have X191 := Ext.refl H180
        refine Dr.eff 4 _ _ rfl (by intro d h; cases h; exact ⟨rfl, rfl⟩) rfl rfl rfl (EC.of (by intro _ _ h; cases h) (.inl rfl) (WV.apk sl22 rfl rfl ho186 ho188.rd (by simp; omega) (by simp; omega) (fun b hb _ e => Nat.lt_irrefl _ (Nat.lt_of_lt_of_le (a84 b e) hb)))) ?_ ?_
        · -- kept
          rintro v192 H193 ⟨hx194, ho195, hb196⟩
          have ho197 := ho195.narrow (ok' := fun b => H.bd ≤ b ∧ some b = v192.ownBlock) kI_flat (fun b q => ⟨(hb196 b q).elim (fun e => (ho186.blk b e).1.1) (fun e => Nat.le_trans X183.bd e), q⟩)
          have d198 : ∀ b, some b = vb.ownBlock → some b = v192.ownBlock → False := fun b h1 h2 => (hb196 b h2).elim (fun e => (fun b h1 h2 => hdis b h2 h1) b h1 e) (fun e => by have := (ho187.blk b h1).2.1; omega)
          have a199 : ∀ b', some b' = v192.ownBlock → b' = b38 → False := fun b' h1 h2 => (hb196 b' h1).elim (fun e => a46 b' e h2) (fun e => by have := hb189.lt; omega)
          have X200 := Ext.thru X183 hx194 (fun b hb => Nat.le_trans o2 (ho186.blk b hb).1.1)
          have ho204 := ho187.but hx194 (fun b h1 _ h2 => hdis b h2 h1.2) (fun b hb => (ho186.blk b hb).2.2)
          have ho205 := ho188.but hx194 (fun b hb _ e => Nat.lt_irrefl _ (Nat.lt_of_lt_of_le (a84 b e) hb)) (fun b hb => (ho186.blk b hb).2.2)
          have ho206 := ho182.but hx194 (fun b hb _ e => Nat.lt_irrefl _ (Nat.lt_of_lt_of_le (a176 b e) hb)) (fun b hb => (ho186.blk b hb).2.2)
          have hb207 := hb189.but hx194 (fun e => a46 _ e rfl)
          refine .inr (.inr ?_)
          exact (kept_cons (.inr ⟨_, _, _, rfl, rfl, rfl, (RV.of (by intro _ _ h; cases h) (.inl rfl) (fun _ xd => HV.ld rfl va2 (rdc_ext xd (at_cell_add (j := 1) hb207 rfl))))⟩) (kept_cons (.inr ⟨_, _, _, rfl, rfl, rfl, (RV.of (by intro _ _ h; cases h) (.inl rfl) (fun _ xd => HV.fa fl86_1 rfl))⟩) (kept_cons (.inr ⟨_, _, _, rfl, rfl, rfl, (RV.of (by intro _ _ h; cases h) (.inl rfl) (fun _ xd => HV.mv rfl))⟩) (kept_cons (.inl rfl) (kept_cons (.inl rfl) (kept_cons (.inl rfl) kept_nil))))))
        rintro v192 H193 ⟨hx194, ho195, hb196⟩
        have ho197 := ho195.narrow (ok' := fun b => H.bd ≤ b ∧ some b = v192.ownBlock) kI_flat (fun b q => ⟨(hb196 b q).elim (fun e => (ho186.blk b e).1.1) (fun e => Nat.le_trans X183.bd e), q⟩)
        have d208 : ∀ b, some b = vb.ownBlock → some b = v192.ownBlock → False := fun b h1 h2 => (hb196 b h2).elim (fun e => (fun b h1 h2 => hdis b h2 h1) b h1 e) (fun e => by have := (ho187.blk b h1).2.1; omega)
        have a209 : ∀ b', some b' = v192.ownBlock → b' = b38 → False := fun b' h1 h2 => (hb196 b' h1).elim (fun e => a46 b' e h2) (fun e => by have := hb189.lt; omega)
        have X210 := Ext.thru X183 hx194 (fun b hb => Nat.le_trans o2 (ho186.blk b hb).1.1)
        have ho214 := ho187.but hx194 (fun b h1 _ h2 => hdis b h2 h1.2) (fun b hb => (ho186.blk b hb).2.2)
        have ho215 := ho188.but hx194 (fun b hb _ e => Nat.lt_irrefl _ (Nat.lt_of_lt_of_le (a84 b e) hb)) (fun b hb => (ho186.blk b hb).2.2)
        have ho216 := ho182.but hx194 (fun b hb _ e => Nat.lt_irrefl _ (Nat.lt_of_lt_of_le (a176 b e) hb)) (fun b hb => (ho186.blk b hb).2.2)
        have hb217 := hb189.but hx194 (fun e => a46 _ e rfl)
        have X218 := Ext.refl H193
        refine Dr.eff 9 _ _ rfl (by intro d h; cases h; exact ⟨rfl, rfl⟩) rfl rfl rfl (EC.of (by intro _ _ h; cases h) (.inl rfl) (WV.apk sl22 rfl rfl ho214 ho216.rd (by simp; omega) (by simp; omega) (fun b hb _ e => Nat.lt_irrefl _ (Nat.lt_of_lt_of_le (a177 b e) hb)))) (fun v H' h => .inr (.inl rfl)) ?_
        rintro v219 H220 ⟨hx221, ho222, hb223⟩
        have ho224 := ho222.narrow (ok' := fun b => H.bd ≤ b ∧ some b = v219.ownBlock) kI_flat (fun b q => ⟨(hb223 b q).elim (fun e => (ho214.blk b e).1.1) (fun e => Nat.le_trans X210.bd e), q⟩)
        have d225 : ∀ b, some b = v192.ownBlock → some b = v219.ownBlock → False := fun b h1 h2 => (hb223 b h2).elim (fun e => (fun b h1 h2 => d208 b h2 h1) b h1 e) (fun e => by have := (ho197.blk b h1).2.1; omega)
        have a226 : ∀ b', some b' = v219.ownBlock → b' = b38 → False := fun b' h1 h2 => (hb223 b' h1).elim (fun e => a47 b' e h2) (fun e => by have := hb217.lt; omega)
        have X227 := Ext.thru X210 hx221 (fun b hb => Nat.le_trans o2 (ho214.blk b hb).1.1)
        have ho229 := ho197.but hx221 (fun b h1 _ h2 => (fun b h1 h2 => d208 b h2 h1) b h1.2 h2) (fun b hb => (ho214.blk b hb).2.2)
        have ho230 := ho215.but hx221 (fun b hb _ e => Nat.lt_irrefl _ (Nat.lt_of_lt_of_le (a85 b e) hb)) (fun b hb => (ho214.blk b hb).2.2)
        have ho231 := ho216.but hx221 (fun b hb _ e => Nat.lt_irrefl _ (Nat.lt_of_lt_of_le (a177 b e) hb)) (fun b hb => (ho214.blk b hb).2.2)
        have hb232 := hb217.but hx221 (fun e => a47 _ e rfl)
        refine Dr.eff 10 _ _ rfl (by intro d h; cases h; exact ⟨rfl, rfl⟩) rfl rfl rfl (EC.of (by intro _ _ h; cases h) (.inl rfl) (WV.ofHV (HV.as rfl))) (fun v H' h => .inl (h.2 ▸ Ext.refl _)) ?_
        rintro u_ h_ ⟨e1_, e2_⟩
        rw [e1_, e2_]
        clear e1_ e2_ u_ h_
        refine Dr.eff 11 _ _ rfl (by intro d h; cases h; exact ⟨rfl, rfl⟩) rfl rfl rfl (EC.of (by intro _ _ h; cases h) (.inl rfl) (WV.ofHV (HV.as rfl))) (fun v H' h => .inl (h.2 ▸ Ext.refl _)) ?_
        rintro u_ h_ ⟨e1_, e2_⟩
        rw [e1_, e2_]
        clear e1_ e2_ u_ h_
        refine Dr.fin rfl ?_
        refine nrm_blk (nrm_and ?_)
        refine AW.reg ?_
        refine AL.val rfl (.inl rfl) (HV.add rfl rfl (by omega)) ?_
        refine AL.val rfl (.inl rfl) (HV.mv rfl) ?_
        refine AL.nil ?_
        refine nrm_and ?_
        exact ⟨(i + 1, v192, (ka ++ (([z28.1] : List Int) : List Int)), v219, (kb ++ (([z28.2] : List Int) : List Int))), ⟨X227, by omega, by rw [map_snoc (f := Prod.fst) hz30, hka], by rw [map_snoc (f := Prod.snd) hz30, hkb], by simp [hla], by simp [hlb], d225, ho229, ho224, trivial⟩, by first | omega | (dsimp only; omega), ⟨rfl, rfl, rfl, rfl, rfl, rfl, rfl, trivial⟩⟩
    · -- 8 first
      have X233 := Ext.refl H52
      have y234 := hb59.lt
      have o235 := X55.bd
      have o236 := X233.bd
      have a237 := ho57.ltb
      have a238 := ho58.ltb
      rintro v239 H240 ⟨hx241, ho242⟩
      have X243 := Ext.trans X55 hx241
      have X244 := Ext.trans X233 hx241
      have ho245 := ho57.ext hx241
      have ho246 := ho58.ext hx241
      have hb247 := hb59.ext hx241
      have X249 := Ext.refl H240
      have y250 := hb247.lt
      have o251 := X243.bd
      have o252 := X244.bd
      have o253 := X249.bd
      have a254 := ho245.ltb
      have a255 := ho246.ltb
      have a256 := ho242.ltb
      refine Dr.eff 3 _ _ rfl (by intro d h; cases h; exact ⟨rfl, rfl⟩) rfl rfl rfl (EC.of (by intro _ _ h; cases h) (.inl rfl) (WV.bsK (K := kI) (l := ([z28.1] : List Int)) (css := [[.int .i64 z28.1]]) sl22 rfl rfl (by first | rfl | (simp [Instr.fill, Value.cells, kI, kB, kU, kU8, kS, Kd.sc]; done) | (simp [Instr.fill, Value.cells, kI, kB, kU, kU8, kS, Kd.sc, rng1, rng2, rng3, rng4, kP])) rfl (segs_cons rfl segs_nil))) (fun v H' h => .inl (h.1)) ?_
      rintro v257 H258 ⟨hx259, ho260⟩
      have X261 := Ext.trans X243 hx259
      have X262 := Ext.trans X244 hx259
      have X263 := Ext.trans X249 hx259
      have ho264 := ho245.ext hx259
      have ho265 := ho246.ext hx259
      have ho266 := ho242.ext hx259
      have hb267 := hb247.ext hx259
      have X269 := Ext.refl H258
      refine Dr.eff 4 _ _ rfl (by intro d h; cases h; exact ⟨rfl, rfl⟩) rfl rfl rfl (EC.of (by intro _ _ h; cases h) (.inl rfl) (WV.apk sl22 rfl rfl ho264 ho260.rd (by simp; omega) (by simp; omega) (fun b hb _ e => Nat.lt_irrefl _ (Nat.lt_of_lt_of_le (a254 b e) hb)))) ?_ ?_
      · -- kept
        rintro v270 H271 ⟨hx272, ho273, hb274⟩
        have ho275 := ho273.narrow (ok' := fun b => H.bd ≤ b ∧ some b = v270.ownBlock) kI_flat (fun b q => ⟨(hb274 b q).elim (fun e => (ho264.blk b e).1.1) (fun e => Nat.le_trans X261.bd e), q⟩)
        have d276 : ∀ b, some b = vb.ownBlock → some b = v270.ownBlock → False := fun b h1 h2 => (hb274 b h2).elim (fun e => (fun b h1 h2 => hdis b h2 h1) b h1 e) (fun e => by have := (ho265.blk b h1).2.1; omega)
        have a277 : ∀ b', some b' = v270.ownBlock → b' = b38 → False := fun b' h1 h2 => (hb274 b' h1).elim (fun e => a46 b' e h2) (fun e => by have := hb267.lt; omega)
        have X278 := Ext.thru X261 hx272 (fun b hb => Nat.le_trans o2 (ho264.blk b hb).1.1)
        have ho282 := ho265.but hx272 (fun b h1 _ h2 => hdis b h2 h1.2) (fun b hb => (ho264.blk b hb).2.2)
        have ho283 := ho266.but hx272 (fun b hb _ e => Nat.lt_irrefl _ (Nat.lt_of_lt_of_le (a237 b e) hb)) (fun b hb => (ho264.blk b hb).2.2)
        have ho284 := ho260.but hx272 (fun b hb _ e => Nat.lt_irrefl _ (Nat.lt_of_lt_of_le (a254 b e) hb)) (fun b hb => (ho264.blk b hb).2.2)
        have hb285 := hb267.but hx272 (fun e => a46 _ e rfl)
        refine .inr (.inr ?_)
        exact (kept_cons (.inr ⟨_, _, _, rfl, rfl, rfl, (RV.of (by intro _ _ h; cases h) (.inl rfl) (fun _ xd => HV.ld rfl va2 (rdc_ext xd (at_cell_add (j := 1) hb285 rfl))))⟩) (kept_cons (.inr ⟨_, _, _, rfl, rfl, rfl, (RV.of (by intro _ _ h; cases h) (.inl rfl) (fun _ xd => HV.fa fl86_1 rfl))⟩) (kept_cons (.inr ⟨_, _, _, rfl, rfl, rfl, (RV.of (by intro _ _ h; cases h) (.inl rfl) (fun _ xd => HV.mv rfl))⟩) (kept_cons (.inl rfl) (kept_cons (.inl rfl) (kept_cons (.inl rfl) kept_nil))))))
      rintro v270 H271 ⟨hx272, ho273, hb274⟩
      have ho275 := ho273.narrow (ok' := fun b => H.bd ≤ b ∧ some b = v270.ownBlock) kI_flat (fun b q => ⟨(hb274 b q).elim (fun e => (ho264.blk b e).1.1) (fun e => Nat.le_trans X261.bd e), q⟩)
      have d286 : ∀ b, some b = vb.ownBlock → some b = v270.ownBlock → False := fun b h1 h2 => (hb274 b h2).elim (fun e => (fun b h1 h2 => hdis b h2 h1) b h1 e) (fun e => by have := (ho265.blk b h1).2.1; omega)
      have a287 : ∀ b', some b' = v270.ownBlock → b' = b38 → False := fun b' h1 h2 => (hb274 b' h1).elim (fun e => a46 b' e h2) (fun e => by have := hb267.lt; omega)
      have X288 := Ext.thru X261 hx272 (fun b hb => Nat.le_trans o2 (ho264.blk b hb).1.1)
      have ho292 := ho265.but hx272 (fun b h1 _ h2 => hdis b h2 h1.2) (fun b hb => (ho264.blk b hb).2.2)
      have ho293 := ho266.but hx272 (fun b hb _ e => Nat.lt_irrefl _ (Nat.lt_of_lt_of_le (a237 b e) hb)) (fun b hb => (ho264.blk b hb).2.2)
      have ho294 := ho260.but hx272 (fun b hb _ e => Nat.lt_irrefl _ (Nat.lt_of_lt_of_le (a254 b e) hb)) (fun b hb => (ho264.blk b hb).2.2)
      have hb295 := hb267.but hx272 (fun e => a46 _ e rfl)
      have X296 := Ext.refl H271
      refine Dr.eff 9 _ _ rfl (by intro d h; cases h; exact ⟨rfl, rfl⟩) rfl rfl rfl (EC.of (by intro _ _ h; cases h) (.inl rfl) (WV.apk sl22 rfl rfl ho292 ho293.rd (by simp; omega) (by simp; omega) (fun b hb _ e => Nat.lt_irrefl _ (Nat.lt_of_lt_of_le (a238 b e) hb)))) (fun v H' h => .inr (.inl rfl)) ?_
      rintro v297 H298 ⟨hx299, ho300, hb301⟩
      have ho302 := ho300.narrow (ok' := fun b => H.bd ≤ b ∧ some b = v297.ownBlock) kI_flat (fun b q => ⟨(hb301 b q).elim (fun e => (ho292.blk b e).1.1) (fun e => Nat.le_trans X288.bd e), q⟩)
      have d303 : ∀ b, some b = v270.ownBlock → some b = v297.ownBlock → False := fun b h1 h2 => (hb301 b h2).elim (fun e => (fun b h1 h2 => d286 b h2 h1) b h1 e) (fun e => by have := (ho275.blk b h1).2.1; omega)
      have a304 : ∀ b', some b' = v297.ownBlock → b' = b38 → False := fun b' h1 h2 => (hb301 b' h1).elim (fun e => a47 b' e h2) (fun e => by have := hb295.lt; omega)
      have X305 := Ext.thru X288 hx299 (fun b hb => Nat.le_trans o2 (ho292.blk b hb).1.1)
      have ho307 := ho275.but hx299 (fun b h1 _ h2 => (fun b h1 h2 => d286 b h2 h1) b h1.2 h2) (fun b hb => (ho292.blk b hb).2.2)
      have ho308 := ho293.but hx299 (fun b hb _ e => Nat.lt_irrefl _ (Nat.lt_of_lt_of_le (a238 b e) hb)) (fun b hb => (ho292.blk b hb).2.2)
      have ho309 := ho294.but hx299 (fun b hb _ e => Nat.lt_irrefl _ (Nat.lt_of_lt_of_le (a255 b e) hb)) (fun b hb => (ho292.blk b hb).2.2)
      have hb310 := hb295.but hx299 (fun e => a47 _ e rfl)
      refine Dr.eff 10 _ _ rfl (by intro d h; cases h; exact ⟨rfl, rfl⟩) rfl rfl rfl (EC.of (by intro _ _ h; cases h) (.inl rfl) (WV.ofHV (HV.as rfl))) (fun v H' h => .inl (h.2 ▸ Ext.refl _)) ?_
      rintro u_ h_ ⟨e1_, e2_⟩
      rw [e1_, e2_]
      clear e1_ e2_ u_ h_
      refine Dr.eff 11 _ _ rfl (by intro d h; cases h; exact ⟨rfl, rfl⟩) rfl rfl rfl (EC.of (by intro _ _ h; cases h) (.inl rfl) (WV.ofHV (HV.as rfl))) (fun v H' h => .inl (h.2 ▸ Ext.refl _)) ?_
      rintro u_ h_ ⟨e1_, e2_⟩
      rw [e1_, e2_]
      clear e1_ e2_ u_ h_
      refine Dr.fin rfl ?_
      refine nrm_blk (nrm_and ?_)
      refine AW.reg ?_
      refine AL.val rfl (.inl rfl) (HV.add rfl rfl (by omega)) ?_
      refine AL.val rfl (.inl rfl) (HV.mv rfl) ?_
      refine AL.nil ?_
      refine nrm_and ?_
      exact ⟨(i + 1, v270, (ka ++ (([z28.1] : List Int) : List Int)), v297, (kb ++ (([z28.2] : List Int) : List Int))), ⟨X305, by omega, by rw [map_snoc (f := Prod.fst) hz30, hka], by rw [map_snoc (f := Prod.snd) hz30, hkb], by simp [hla], by simp [hlb], d303, ho307, ho302, trivial⟩, by first | omega | (dsimp only; omega), ⟨rfl, rfl, rfl, rfl, rfl, rfl, rfl, trivial⟩⟩
  · -- else
    refine AW.exit ?_
    refine ex_and (ex_and (ex_blk ?_))
    refine nrm_and ?_
    refine AW.rs ?_
    refine AL.val rfl (.inl rfl) (HV.mv rfl) ?_
    refine AL.val rfl (.inl rfl) (HV.mv rfl) ?_
    refine AL.val rfl (.inl rfl) (HV.as rfl) ?_
    refine AL.val rfl (.inl rfl) (HV.as rfl) ?_
    refine AL.nx ?_
    refine AW.ret ?_
    refine post_two rfl rfl rfl ?_ (.inr rfl)
    exact ⟨⟨_, _, rfl, by obtain rfl : i = l.length := (by omega); subst hka; rw [List.take_length] at *; exact hoA.rd.okk (fun _ _ _ => trivial), by obtain rfl : i = l.length := (by omega); subst hkb; rw [List.take_length] at *; exact hoB.rd.okk (fun _ _ _ => trivial)⟩, X25⟩

set_option maxRecDepth 100000 in
theorem implVS_ok {v : Value} {l : List (Int × Int)} {ok : Nat → Prop} (hr : RdK (kP kI kI) W H ok v l) (p : Int) (hl : l.length ≤ 1048576) : ACalls Try.prog W 127 #[.int .i64 p, v] H (fun r H' => r = .bool (decide (vS p l)) ∧ Ext H H') := by
  refine ACalls.of (args := [.int .i64 p, v]) Try.func127 rfl rfl ?_
  have X0 := Ext.refl H
  have hm1 := hr.max
  refine AW.rs ?_
  refine AL.val rfl (.inl rfl) (HV.as rfl) ?_
  refine AL.nx ?_
  refine AW.rs ?_
  refine AL.val rfl (.inl rfl) (HV.mv rfl) ?_
  refine AL.w rfl (.inl rfl) (WV.call fn172 rfl (ptsOf_ok hr (by omega))) ?_
  rintro _ H4 ⟨⟨u2, v3, rfl, hr6, hr7⟩, hx5⟩
  have X8 := Ext.trans X0 hx5
  have X9 := Ext.refl H4
  refine AL.val rfl (.inl rfl) (HV.mv rfl) ?_
  refine AL.val rfl (.inl rfl) (HV.ex rfl rfl) ?_
  refine AL.val rfl (.inl rfl) (HV.ex rfl rfl) ?_
  refine AL.val rfl (.inl rfl) (HV.as rfl) ?_
  refine AL.val rfl (.inl rfl) (HV.as rfl) ?_
  refine AL.nx ?_
  refine AW.rs ?_
  refine AL.val rfl (.inl rfl) (HV.mv rfl) ?_
  refine AL.val rfl (.inl rfl) (HV.mv rfl) ?_
  refine AL.w rfl (.inl rfl) (WV.call fn86 rfl (areEl_ok p hr7)) ?_
  rintro _ H10 ⟨rfl, hx11⟩
  have X12 := Ext.trans X8 hx11
  have X13 := Ext.trans X9 hx11
  refine AL.val rfl (.inl rfl) (HV.mv rfl) ?_
  by_cases c14 : primeI p ∧ elems p (l.map Prod.snd)
  · -- true
    have c14_ : decide (primeI p ∧ elems p (l.map Prod.snd)) = true := decide_eq_true c14
    rw [c14_]
    refine AL.val rfl (.inr ⟨_, _, _, rfl, rfl, rfl⟩) (HV.mv rfl) ?_
    refine AL.val rfl (.inr ⟨_, _, _, rfl, rfl, rfl⟩) (HV.mv rfl) ?_
    refine AL.w rfl (.inr ⟨_, _, _, rfl, rfl, rfl⟩) (WV.call fn124 rfl (arePts_ok (hr6.ext X13) (by assumption : primeI p ∧ elems p _).1.1)) ?_
    rintro _ H15 ⟨rfl, hx16⟩
    have X17 := Ext.trans X12 hx16
    have X18 := Ext.trans X13 hx16
    refine AL.val rfl (.inl rfl) (HV.pickT rfl rfl) ?_
    refine AL.val rfl (.inl rfl) (HV.as rfl) ?_
    refine AL.nx ?_
    refine AW.ret ?_
    refine post_one rfl rfl ?_ (.inr rfl)
    have hc := (by assumption : primeI p ∧ elems p _); exact ⟨congrArg Value.bool (decide_eq_decide.2 ⟨fun h => ⟨hc.1, hc.2, h⟩, fun h => h.2.2⟩), X17⟩
  · -- false
    have c14_ : decide (primeI p ∧ elems p (l.map Prod.snd)) = false := decide_eq_false c14
    rw [c14_]
    refine AL.off rfl rfl (by decide) rfl ?_
    refine AL.off rfl rfl (by decide) rfl ?_
    refine AL.off rfl rfl (by decide) rfl ?_
    refine AL.val rfl (.inl rfl) (HV.pickF rfl rfl) ?_
    refine AL.val rfl (.inl rfl) (HV.as rfl) ?_
    refine AL.nx ?_
    refine AW.ret ?_
    refine post_one rfl rfl ?_ (.inr rfl)
    exact ⟨dec_f (fun h => c14 ⟨h.1, h.2.1⟩), X12⟩

set_option maxRecDepth 100000 in
theorem validCu_ok {v : Value} {l : List Int} {ok : Nat → Prop} {p : Int} (hr : RdK kI W H ok v l) : ACalls Try.prog W 123 #[.int .i64 p, v] H (fun r H' => r = .bool (decide (primeI p ∧ curveI p l)) ∧ Ext H H') := by
  refine ACalls.of (args := [.int .i64 p, v]) Try.func123 rfl rfl ?_
  have X0 := Ext.refl H
  have hm1 := hr.max
  refine AW.rs ?_
  refine AL.val rfl (.inl rfl) (HV.as rfl) ?_
  refine AL.nx ?_
  refine AW.rs ?_
  refine AL.val rfl (.inl rfl) (HV.mv rfl) ?_
  refine AL.val rfl (.inl rfl) (HV.mv rfl) ?_
  refine AL.w rfl (.inl rfl) (WV.call fn86 rfl (areEl_ok p hr)) ?_
  rintro _ H2 ⟨rfl, hx3⟩
  have X4 := Ext.trans X0 hx3
  refine AL.val rfl (.inl rfl) (HV.mv rfl) ?_
  by_cases c5 : primeI p ∧ elems p l
  · -- true
    have c5_ : decide (primeI p ∧ elems p l) = true := decide_eq_true c5
    rw [c5_]
    refine AL.val rfl (.inr ⟨_, _, _, rfl, rfl, rfl⟩) (HV.mv rfl) ?_
    refine AL.val rfl (.inr ⟨_, _, _, rfl, rfl, rfl⟩) (HV.len Try.underlying22 rfl hr.isSl) ?_
    refine AL.val rfl (.inr ⟨_, _, _, rfl, rfl, rfl⟩) (HV.lei rfl rfl) ?_
    refine AL.val rfl (.inl rfl) (HV.pickT rfl rfl) ?_
    refine AL.val rfl (.inl rfl) (HV.mv rfl) ?_
    by_cases c6 : (l.length : Int) ≤ 7
    · -- true
      have c6_ : decide ((l.length : Int) ≤ 7) = true := decide_eq_true c6
      rw [c6_]
      refine AL.val rfl (.inr ⟨_, _, _, rfl, rfl, rfl⟩) (HV.mv rfl) ?_
      refine AL.val rfl (.inr ⟨_, _, _, rfl, rfl, rfl⟩) (HV.len Try.underlying22 rfl hr.isSl) ?_
      refine AL.val rfl (.inr ⟨_, _, _, rfl, rfl, rfl⟩) (HV.eqi rfl rfl) ?_
      refine AL.val rfl (.inr ⟨_, _, _, rfl, rfl, rfl⟩) (HV.mv rfl) ?_
      by_cases c7 : (l.length : Int) = 0
      · -- true
        have c7_ : decide ((l.length : Int) = 0) = true := decide_eq_true c7
        rw [c7_]
        refine AL.off rfl rfl (by decide) rfl ?_
        refine AL.off rfl rfl (by decide) rfl ?_
        refine AL.off rfl rfl (by decide) rfl ?_
        refine AL.off rfl rfl (by decide) rfl ?_
        refine AL.off rfl rfl (by decide) rfl ?_
        refine AL.off rfl rfl (by decide) rfl ?_
        refine AL.off rfl rfl (by decide) rfl ?_
        refine AL.val rfl (.inr ⟨_, _, _, rfl, rfl, rfl⟩) (HV.pickT rfl rfl) ?_
        refine AL.val rfl (.inl rfl) (HV.pickT rfl rfl) ?_
        refine AL.val rfl (.inl rfl) (HV.as rfl) ?_
        refine AL.nx ?_
        refine AW.ret ?_
        refine post_one rfl rfl ?_ (.inr rfl)
        have hE := (by assumption : primeI p ∧ elems p l); exact ⟨dec_t ⟨hE.1, by assumption, hE.2, .inl (by assumption)⟩, X4⟩
      · -- false
        have c7_ : decide ((l.length : Int) = 0) = false := decide_eq_false c7
        rw [c7_]
        refine AL.val rfl (.inr ⟨_, _, _, rfl, rfl, rfl⟩) (HV.mv rfl) ?_
        refine AL.val rfl (.inr ⟨_, _, _, rfl, rfl, rfl⟩) (HV.mv rfl) ?_
        refine AL.val rfl (.inr ⟨_, _, _, rfl, rfl, rfl⟩) (HV.len Try.underlying22 rfl hr.isSl) ?_
        refine AL.val rfl (.inr ⟨_, _, _, rfl, rfl, rfl⟩) (HV.sub rfl rfl (by omega)) ?_
        obtain ⟨p8, z9, cs10, hz11, hK12, hC13, hP14⟩ := RdK.ix (q := (l.length : Int) - 1) hr sl22 (by omega) (by omega)
        obtain rfl : cs10 = [.int .i64 z9] := hK12
        refine AL.val rfl (.inr ⟨_, _, _, rfl, rfl, rfl⟩) (hP14 rfl rfl) ?_
        refine AL.val rfl (.inr ⟨_, _, _, rfl, rfl, rfl⟩) (HV.ld rfl va2 (cells_first (hC13.ext X4) rfl)) ?_
        refine AL.val rfl (.inr ⟨_, _, _, rfl, rfl, rfl⟩) (HV.nei rfl rfl) ?_
        refine AL.val rfl (.inr ⟨_, _, _, rfl, rfl, rfl⟩) (HV.pickF rfl rfl) ?_
        refine AL.val rfl (.inl rfl) (HV.pickT rfl rfl) ?_
        refine AL.val rfl (.inl rfl) (HV.as rfl) ?_
        refine AL.nx ?_
        refine AW.ret ?_
        refine post_one rfl rfl ?_ (.inr rfl)
        have hE := (by assumption : primeI p ∧ elems p l); have g22 : l.getD (l.length - 1) 0 = z9 := gd hz11 (by omega); exact ⟨congrArg Value.bool (decide_eq_decide.2 ⟨fun h => ⟨hE.1, by assumption, hE.2, .inr (by rw [g22]; exact h)⟩, fun h => by have q := h.2.2.2.resolve_left c7; rwa [g22] at q⟩), X4⟩
    · -- false
      have c6_ : decide ((l.length : Int) ≤ 7) = false := decide_eq_false c6
      rw [c6_]
      refine AL.off rfl rfl (by decide) rfl ?_
      refine AL.off rfl rfl (by decide) rfl ?_
      refine AL.off rfl rfl (by decide) rfl ?_
      refine AL.off rfl rfl (by decide) rfl ?_
      refine AL.offu rfl rfl rfl ?_
      refine AL.offu rfl rfl rfl ?_
      refine AL.offu rfl rfl rfl ?_
      refine AL.offu rfl rfl rfl ?_
      refine AL.offu rfl rfl rfl ?_
      refine AL.offu rfl rfl rfl ?_
      refine AL.offu rfl rfl rfl ?_
      refine AL.off rfl rfl (by decide) rfl ?_
      refine AL.val rfl (.inl rfl) (HV.pickF rfl rfl) ?_
      refine AL.val rfl (.inl rfl) (HV.as rfl) ?_
      refine AL.nx ?_
      refine AW.ret ?_
      refine post_one rfl rfl ?_ (.inr rfl)
      exact ⟨dec_f (fun h => by first | exact c6 h.2.1 | exact c6 h.2.2.1 | exact c6 ⟨h.1, h.2.2.1⟩), X4⟩
  · -- false
    have c5_ : decide (primeI p ∧ elems p l) = false := decide_eq_false c5
    rw [c5_]
    refine AL.off rfl rfl (by decide) rfl ?_
    refine AL.off rfl rfl (by decide) rfl ?_
    refine AL.off rfl rfl (by decide) rfl ?_
    refine AL.val rfl (.inl rfl) (HV.pickF rfl rfl) ?_
    refine AL.val rfl (.inl rfl) (HV.mv rfl) ?_
    refine AL.off rfl rfl (by decide) rfl ?_
    refine AL.off rfl rfl (by decide) rfl ?_
    refine AL.off rfl rfl (by decide) rfl ?_
    refine AL.off rfl rfl (by decide) rfl ?_
    refine AL.offu rfl rfl rfl ?_
    refine AL.offu rfl rfl rfl ?_
    refine AL.offu rfl rfl rfl ?_
    refine AL.offu rfl rfl rfl ?_
    refine AL.offu rfl rfl rfl ?_
    refine AL.offu rfl rfl rfl ?_
    refine AL.offu rfl rfl rfl ?_
    refine AL.off rfl rfl (by decide) rfl ?_
    refine AL.val rfl (.inl rfl) (HV.pickF rfl rfl) ?_
    refine AL.val rfl (.inl rfl) (HV.as rfl) ?_
    refine AL.nx ?_
    refine AW.ret ?_
    refine post_one rfl rfl ?_ (.inr rfl)
    exact ⟨dec_f (fun h => by first | exact c5 h.2.1 | exact c5 h.2.2.1 | exact c5 ⟨h.1, h.2.2.1⟩), X4⟩

set_option maxRecDepth 100000 in
theorem curveAt_ok {v : Value} {l : List Int} {ok : Nat → Prop} {p : Int} (hr : RdK kI W H ok v l) (x : Int) (hp : 2 ≤ p ∧ p ≤ 31) (hx : 0 ≤ x ∧ x ≤ p - 1) (hc : elems p l) : ACalls Try.prog W 125 #[.int .i64 p, v, .int .i64 x] H (fun r H' => r = .int .i64 (val p l x) ∧ Ext H H') := by
  refine ACalls.of (args := [.int .i64 p, v, .int .i64 x]) Try.func125 rfl rfl ?_
  have X0 := Ext.refl H
  have hm1 := hr.max
  refine AW.rs ?_
  refine AL.val rfl (.inl rfl) (HV.as rfl) ?_
  refine AL.nx ?_
  refine AW.rs ?_
  refine AL.val rfl (.inl rfl) (HV.as rfl) ?_
  refine AL.nx ?_
  refine AW.seq ?_
  refine AW.rs ?_
  refine AL.val rfl (.inl rfl) (HV.mv rfl) ?_
  refine AL.val rfl (.inl rfl) (HV.len Try.underlying22 rfl hr.isSl) ?_
  refine AL.val rfl (.inl rfl) (HV.sub rfl rfl (by omega)) ?_
  refine AL.val rfl (.inl rfl) (HV.as rfl) ?_
  refine AL.nx ?_
  refine AW.block ?_
  refine AW.loop (σ := Nat × Int × Int) (fun ⟨i, j, a⟩ => [(0, .int .i64 p), (1, v), (2, .int .i64 x), (6, .int .i64 0), (7, .int .i64 a), (8, .int .i64 j)]) (fun ⟨i, j, a⟩ H' => Ext H H' ∧ i ≤ l.length ∧ j = (i : Int) - 1 ∧ a = val p (l.drop i) x ∧ True) (fun ⟨i, j, a⟩ => i) (l.length, ((l.length : Int) - 1), 0) ⟨X0, Nat.le_refl _, rfl, by rw [List.drop_length]; rfl, trivial⟩ ⟨rfl, rfl, rfl, rfl, rfl, rfl, trivial⟩ ?_
  rintro ⟨i, j, a⟩ H2 ⟨X3, hi, hj, ha, _⟩
  refine AW.seq ?_
  refine AW.rs ?_
  refine AL.val rfl (.inl rfl) (HV.mv rfl) ?_
  refine AL.val rfl (.inl rfl) (HV.gei rfl rfl) ?_
  refine AL.nx ?_
  refine AW.ifd rfl (fun c4 => ?_) (fun c4 => ?_)
  · -- then
    refine AW.skip ?_
    refine nrm_and ?_
    refine AW.seq ?_
    refine AW.block ?_
    refine AW.reg ?_
    refine AL.val rfl (.inl rfl) (HV.mv rfl) ?_
    refine AL.val rfl (.inl rfl) (HV.mv rfl) ?_
    refine AL.val rfl (.inl rfl) (HV.mul rfl rfl (by have h1 := val_in (show 0 < p by omega) (l.drop i) x; rw [← ha] at h1; have h2 := mul31 (a := a) (b := x) (by omega) (by omega) (by omega) (by omega); omega)) ?_
    refine AL.val rfl (.inl rfl) (HV.mv rfl) ?_
    refine AL.val rfl (.inl rfl) (HV.mv rfl) ?_
    obtain ⟨p5, z6, cs7, hz8, hK9, hC10, hP11⟩ := RdK.ix (q := j) hr sl22 (by omega) (by omega)
    obtain rfl : cs7 = [.int .i64 z6] := hK9
    refine AL.val rfl (.inl rfl) (hP11 rfl rfl) ?_
    refine AL.val rfl (.inl rfl) (HV.ld rfl va2 (cells_first (hC10.ext X3) rfl)) ?_
    refine AL.val rfl (.inl rfl) (HV.add rfl rfl (by have h1 := val_in (show 0 < p by omega) (l.drop i) x; rw [← ha] at h1; have h2 := mul31 (a := a) (b := x) (by omega) (by omega) (by omega) (by omega); have h3 := elem_at hc hz8; omega)) ?_
    refine AL.val rfl (.inl rfl) (HV.mv rfl) ?_
    refine AL.val rfl (.inl rfl) (HV.rem rfl rfl (by have h1 := val_in (show 0 < p by omega) (l.drop i) x; rw [← ha] at h1; have h2 := mul31 (a := a) (b := x) (by omega) (by omega) (by omega) (by omega); have h3 := elem_at hc hz8; omega)) ?_
    refine AL.val rfl (.inl rfl) (HV.as rfl) ?_
    refine AL.nil ?_
    refine nrm_blk (nrm_and ?_)
    refine AW.reg ?_
    refine AL.val rfl (.inl rfl) (HV.mv rfl) ?_
    refine AL.val rfl (.inl rfl) (HV.sub rfl rfl (by omega)) ?_
    refine AL.val rfl (.inl rfl) (HV.as rfl) ?_
    refine AL.nil ?_
    refine nrm_and ?_
    exact ⟨(i - 1, j - 1, ((a * x) + z6) % p), ⟨X3, by omega, by omega, by have e : i - 1 + 1 = i := (by omega); rw [val_step (i := i - 1) (getq hz8 (by omega)), e, ← ha], trivial⟩, by first | omega | (dsimp only; omega), ⟨rfl, rfl, rfl, rfl, rfl, rfl, trivial⟩⟩
  · -- else
    refine AW.exit ?_
    refine ex_and (ex_and (ex_blk ?_))
    refine nrm_and ?_
    refine AW.rs ?_
    refine AL.val rfl (.inl rfl) (HV.mv rfl) ?_
    refine AL.val rfl (.inl rfl) (HV.as rfl) ?_
    refine AL.nx ?_
    refine AW.ret ?_
    refine post_one rfl rfl ?_ (.inr rfl)
    exact ⟨by obtain rfl : i = 0 := (by omega); rw [ha]; rfl, X3⟩

set_option maxRecDepth 100000 in
theorem weights_ok {v : Value} {l : List Int} {ok : Nat → Prop} (p x : Int) (hr : RdK kI W H ok v l) (hq : isPr p = true) (hx : 0 ≤ x ∧ x ≤ p - 1) (hl : Ris 1 (p - 1) l) (hlen : l.length ≤ 10) : ACalls Try.prog W 173 #[.int .i64 p, v, .int .i64 x] H (fun r H' => Ext H H' ∧ OwnK kI 2 W H' (fun b => H.bd ≤ b) r (wts p l x l.length)) := by
  refine ACalls.of (args := [.int .i64 p, v, .int .i64 x]) Try.func173 rfl rfl ?_
  have X0 := Ext.refl H
  have hm1 := hr.max
  have hb := isPr_bd hq
  have hp : 2 ≤ p ∧ p ≤ 31 := hb
  refine AW.rs ?_
  refine AL.val rfl (.inl rfl) (HV.as rfl) ?_
  refine AL.nx ?_
  refine AW.rs ?_
  have o2 := X0.bd
  refine AL.w rfl (.inl rfl) (WV.bsK (K := kI) (l := ([] : List Int)) (css := []) sl22 rfl rfl (by first | rfl | (simp [Instr.fill, Value.cells, kI, kB, kU, kU8, kS, Kd.sc]; done) | (simp [Instr.fill, Value.cells, kI, kB, kU, kU8, kS, Kd.sc, rng1, rng2, rng3, rng4, kP])) rfl segs_nil) ?_
  rintro v3 H4 ⟨hx5, ho6⟩
  have X7 := Ext.trans X0 hx5
  refine AL.val rfl (.inl rfl) (HV.as rfl) ?_
  refine AL.nx ?_
  refine AW.seq ?_
  refine AW.rs ?_
  refine AL.val rfl (.inl rfl) (HV.mv rfl) ?_
  refine AL.val rfl (.inl rfl) (HV.len Try.underlying22 rfl hr.isSl) ?_
  refine AL.val rfl (.inl rfl) (HV.mv rfl) ?_
  refine AL.nx ?_
  refine AW.block ?_
  refine AW.loop (σ := Nat × Value × List Int) (fun ⟨i, vv, k⟩ => [(0, .int .i64 p), (1, v), (2, .int .i64 x), (6, (.slice none 0 0)), (15, v), (16, .int .i64 (l.length : Int)), (7, vv), (17, .int .i64 (i : Int))]) (fun ⟨i, vv, k⟩ H' => Ext H H' ∧ i ≤ l.length ∧ k = wts p l x i ∧ k.length = i ∧ OwnK kI 2 W H' (fun b => H.bd ≤ b) vv k ∧ True) (fun ⟨i, vv, k⟩ => l.length - i) (0, v3, (([] : List Int) : List Int)) ⟨X7, Nat.zero_le _, rfl, rfl, ho6, trivial⟩ ⟨rfl, rfl, rfl, rfl, rfl, rfl, rfl, rfl, trivial⟩ ?_
  rintro ⟨i, vv, k⟩ H9 ⟨X10, hi, hk, hk2, hoL, _⟩
  refine AW.rs ?_
  refine AL.val rfl (.inl rfl) (HV.lti rfl rfl) ?_
  refine AL.nx ?_
  refine AW.seq ?_
  refine AW.ifd rfl (fun c11 => ?_) (fun c11 => ?_)
  · -- then
    refine AW.skip ?_
    refine nrm_and ?_
    refine AW.seq ?_
    refine AW.block ?_
    refine AW.rs ?_
    refine AL.val rfl (.inl rfl) (HV.mv rfl) ?_
    obtain ⟨p12, z13, cs14, hz15, hK16, hC17, hP18⟩ := RdK.ix (q := (i : Int)) hr sl22 (by omega) (by omega)
    obtain rfl : cs14 = [.int .i64 z13] := hK16
    refine AL.val rfl (.inl rfl) (hP18 rfl rfl) ?_
    refine AL.val rfl (.inl rfl) (HV.ld rfl va2 (cells_first (hC17.ext X10) rfl)) ?_
    refine AL.val rfl (.inl rfl) (HV.as rfl) ?_
    refine AL.val rfl (.inl rfl) (HV.as rfl) ?_
    refine AL.nx ?_
    refine AW.rs ?_
    refine AL.val rfl (.inl rfl) (HV.as rfl) ?_
    refine AL.val rfl (.inl rfl) (HV.as rfl) ?_
    refine AL.nx ?_
    refine AW.seq ?_
    refine AW.rs ?_
    refine AL.val rfl (.inl rfl) (HV.mv rfl) ?_
    refine AL.val rfl (.inl rfl) (HV.len Try.underlying22 rfl hr.isSl) ?_
    refine AL.val rfl (.inl rfl) (HV.mv rfl) ?_
    refine AL.nx ?_
    refine AW.block ?_
    have hz21_ := hz15
    refine AW.loop (σ := Nat × Int × Int) (fun ⟨j, a, b⟩ => [(0, .int .i64 p), (1, v), (2, .int .i64 x), (6, (.slice none 0 0)), (7, vv), (8, .int .i64 (i : Int)), (9, .int .i64 z13), (15, v), (16, .int .i64 (l.length : Int)), (17, .int .i64 (i : Int)), (18, .bool (decide ((i : Int) < (l.length : Int)))), (19, .int .i64 (i : Int)), (20, .pointer (some p12)), (21, .int .i64 z13), (22, v), (23, .int .i64 (l.length : Int)), (10, .int .i64 a), (11, .int .i64 b), (24, .int .i64 (j : Int))]) (fun ⟨j, a, b⟩ H' => Ext H H' ∧ OwnK kI 2 W H' (fun b => H.bd ≤ b) vv k ∧ j ≤ l.length ∧ (0 ≤ a ∧ a < p) ∧ (1 ≤ b ∧ b < p) ∧ Cg p (wP p l x i j * b) a ∧ True) (fun ⟨j, a, b⟩ => l.length - j) (0, 1, 1) ⟨X10, hoL, Nat.zero_le _, by omega, by omega, Cg.refl _ _, trivial⟩ ⟨rfl, rfl, rfl, rfl, rfl, rfl, rfl, rfl, rfl, rfl, rfl, rfl, rfl, rfl, rfl, rfl, rfl, rfl, rfl, trivial⟩ ?_
    rintro ⟨j, a, b⟩ H19 ⟨X20, ho21, hj, ha, hb1, hcg, _⟩
    refine AW.rs ?_
    refine AL.val rfl (.inl rfl) (HV.lti rfl rfl) ?_
    refine AL.nx ?_
    refine AW.seq ?_
    refine AW.ifd rfl (fun c22 => ?_) (fun c22 => ?_)
    · -- then
      refine AW.skip ?_
      refine nrm_and ?_
      refine AW.seq ?_
      refine AW.block ?_
      refine AW.rs ?_
      refine AL.val rfl (.inl rfl) (HV.mv rfl) ?_
      obtain ⟨p23, z24, cs25, hz26, hK27, hC28, hP29⟩ := RdK.ix (q := (j : Int)) hr sl22 (by omega) (by omega)
      obtain rfl : cs25 = [.int .i64 z24] := hK27
      refine AL.val rfl (.inl rfl) (hP29 rfl rfl) ?_
      refine AL.val rfl (.inl rfl) (HV.ld rfl va2 (cells_first (hC28.ext X20) rfl)) ?_
      refine AL.val rfl (.inl rfl) (HV.as rfl) ?_
      refine AL.val rfl (.inl rfl) (HV.as rfl) ?_
      refine AL.nx ?_
      refine AW.rs ?_
      refine AL.val rfl (.inl rfl) (HV.mv rfl) ?_
      refine AL.val rfl (.inl rfl) (HV.mv rfl) ?_
      refine AL.val rfl (.inl rfl) (HV.nei rfl rfl) ?_
      refine AL.nx ?_
      refine AW.ifd rfl (fun c30 => ?_) (fun c30 => ?_)
      · -- then
        refine AW.rs ?_
        refine AL.val rfl (.inl rfl) (HV.mv rfl) ?_
        refine AL.val rfl (.inl rfl) (HV.mv rfl) ?_
        refine AL.val rfl (.inl rfl) (HV.mv rfl) ?_
        refine AL.val rfl (.inl rfl) (HV.sub rfl rfl (by have y28 := ris_at hl hz26; have y21 := ris_at hl hz21_; omega)) ?_
        refine AL.val rfl (.inl rfl) (HV.mv rfl) ?_
        refine AL.val rfl (.inl rfl) (HV.add rfl rfl (by have y28 := ris_at hl hz26; have y21 := ris_at hl hz21_; omega)) ?_
        refine AL.val rfl (.inl rfl) (HV.mul rfl rfl (by have y28 := ris_at hl hz26; have y21 := ris_at hl hz21_; have q := mul62 (a := a) (b := (x - z24) + p) (by omega) (by omega) (by omega) (by omega); omega)) ?_
        refine AL.val rfl (.inl rfl) (HV.mv rfl) ?_
        refine AL.val rfl (.inl rfl) (HV.rem rfl rfl (by have y28 := ris_at hl hz26; have y21 := ris_at hl hz21_; have q := mul62 (a := a) (b := (x - z24) + p) (by omega) (by omega) (by omega) (by omega); omega)) ?_
        refine AL.val rfl (.inl rfl) (HV.as rfl) ?_
        refine AL.nx ?_
        refine AW.reg ?_
        refine AL.val rfl (.inl rfl) (HV.mv rfl) ?_
        refine AL.val rfl (.inl rfl) (HV.mv rfl) ?_
        refine AL.val rfl (.inl rfl) (HV.mv rfl) ?_
        refine AL.val rfl (.inl rfl) (HV.sub rfl rfl (by have y28 := ris_at hl hz26; have y21 := ris_at hl hz21_; omega)) ?_
        refine AL.val rfl (.inl rfl) (HV.mv rfl) ?_
        refine AL.val rfl (.inl rfl) (HV.add rfl rfl (by have y28 := ris_at hl hz26; have y21 := ris_at hl hz21_; omega)) ?_
        refine AL.val rfl (.inl rfl) (HV.mul rfl rfl (by have y28 := ris_at hl hz26; have y21 := ris_at hl hz21_; have q := mul62 (a := b) (b := (z13 - z24) + p) (by omega) (by omega) (by omega) (by omega); omega)) ?_
        refine AL.val rfl (.inl rfl) (HV.mv rfl) ?_
        refine AL.val rfl (.inl rfl) (HV.rem rfl rfl (by have y28 := ris_at hl hz26; have y21 := ris_at hl hz21_; have q := mul62 (a := b) (b := (z13 - z24) + p) (by omega) (by omega) (by omega) (by omega); omega)) ?_
        refine AL.val rfl (.inl rfl) (HV.as rfl) ?_
        refine AL.nil ?_
        refine nrm_blk (nrm_and ?_)
        refine AW.reg ?_
        refine AL.val rfl (.inl rfl) (HV.add rfl rfl (by omega)) ?_
        refine AL.val rfl (.inl rfl) (HV.mv rfl) ?_
        refine AL.nil ?_
        refine nrm_and ?_
        have hji : j ≠ i := by omega
        have g28_ := (gd hz26 rfl : l.getD j 0 = z24)
        have y28 := ris_at hl hz26
        have y21 := ris_at hl hz21_
        have hne := ris_ne hl (show i < l.length by omega) (show j < l.length by omega) hji
        rw [g28_, gd hz21_ rfl] at hne
        have hst := wS_step (x := x) hq ⟨y21.1, y21.2⟩ ⟨y28.1, y28.2⟩ hne hb1 hcg
        exact ⟨(j + 1, (a * ((x - z24) + p)) % p, (b * ((z13 - z24) + p)) % p), ⟨X20, ho21, by omega, emod_bd (by omega) _, hst.2, by rw [wP_succ, if_neg hji, g28_, gd hz21_ rfl]; exact hst.1, trivial⟩, by first | omega | (dsimp only; omega), ⟨rfl, rfl, rfl, rfl, rfl, rfl, rfl, rfl, rfl, rfl, rfl, rfl, rfl, rfl, rfl, rfl, rfl, rfl, rfl, trivial⟩⟩
      · -- else
        refine AW.skip ?_
        refine nrm_blk (nrm_and ?_)
        refine AW.reg ?_
        refine AL.val rfl (.inl rfl) (HV.add rfl rfl (by omega)) ?_
        refine AL.val rfl (.inl rfl) (HV.mv rfl) ?_
        refine AL.nil ?_
        refine nrm_and ?_
        exact ⟨(j + 1, a, b), ⟨X20, ho21, by omega, ha, hb1, by rw [wP_succ, if_pos (by omega)]; exact hcg, trivial⟩, by first | omega | (dsimp only; omega), ⟨rfl, rfl, rfl, rfl, rfl, rfl, rfl, rfl, rfl, rfl, rfl, rfl, rfl, rfl, rfl, rfl, rfl, rfl, rfl, trivial⟩⟩
    · -- else
      refine AW.exit ?_
      refine ex_and (ex_and (ex_blk ?_))
      refine nrm_and ?_
      refine AW.reg ?_
      refine AL.val rfl (.inl rfl) (HV.mv rfl) ?_
      refine AL.val rfl (.inl rfl) (HV.mv rfl) ?_
      refine AL.val rfl (.inl rfl) (HV.mv rfl) ?_
      refine AL.val rfl (.inl rfl) (HV.mv rfl) ?_
      refine AL.w rfl (.inl rfl) (WV.call fn141 rfl (inverse_ok (W := W) p b hq (by omega) (by omega))) ?_
      rintro _ H31 ⟨rfl, hx32⟩
      have X33 := Ext.trans X20 hx32
      have ho34 := ho21.ext hx32
      refine AL.val rfl (.inl rfl) (HV.mul rfl rfl (by have q := inv_in hq (show 0 ≤ b by omega) hb1.2; have := mul31 (a := a) (b := invM p b) (by omega) (by omega) (by omega) (by omega); omega)) ?_
      refine AL.val rfl (.inl rfl) (HV.mv rfl) ?_
      refine AL.val rfl (.inl rfl) (HV.rem rfl rfl (by have q := inv_in hq (show 0 ≤ b by omega) hb1.2; have := mul31 (a := a) (b := invM p b) (by omega) (by omega) (by omega) (by omega); omega)) ?_
      have X35 := Ext.refl H31
      have o36 := X33.bd
      have o37 := X35.bd
      have a38 := ho34.ltb
      refine AL.w rfl (.inl rfl) (WV.bsK (K := kI) (l := ([(a * (invM p b)) % p] : List Int)) (css := [[.int .i64 ((a * (invM p b)) % p)]]) sl22 rfl rfl (by first | rfl | (simp [Instr.fill, Value.cells, kI, kB, kU, kU8, kS, Kd.sc]; done) | (simp [Instr.fill, Value.cells, kI, kB, kU, kU8, kS, Kd.sc, rng1, rng2, rng3, rng4, kP])) rfl (segs_cons rfl segs_nil)) ?_
      rintro v39 H40 ⟨hx41, ho42⟩
      have X43 := Ext.trans X33 hx41
      have X44 := Ext.trans X35 hx41
      have ho45 := ho34.ext hx41
      have X47 := Ext.refl H40
      refine AL.w rfl (.inl rfl) (WV.apk sl22 rfl rfl ho45 ho42.rd (by simp; omega) (by simp; omega) (fun b hb _ e => Nat.lt_irrefl _ (Nat.lt_of_lt_of_le (a38 b e) hb))) ?_
      rintro v48 H49 ⟨hx50, ho51, hb52⟩
      have ho53 := ho51.narrow (ok' := fun b => H.bd ≤ b) kI_flat (fun b q => (hb52 b q).elim (fun e => (ho45.blk b e).1) (fun e => Nat.le_trans X43.bd e))
      have X54 := Ext.thru X43 hx50 (fun b hb => Nat.le_trans o2 (ho45.blk b hb).1)
      refine AL.val rfl (.inl rfl) (HV.as rfl) ?_
      refine AL.nil ?_
      refine nrm_blk (nrm_and ?_)
      refine AW.reg ?_
      refine AL.val rfl (.inl rfl) (HV.add rfl rfl (by omega)) ?_
      refine AL.val rfl (.inl rfl) (HV.mv rfl) ?_
      refine AL.nil ?_
      refine nrm_and ?_
      exact ⟨(i + 1, v48, (k ++ (([(a * (invM p b)) % p] : List Int) : List Int))), ⟨X54, by omega, by have hj2 : j = l.length := (by omega); subst hj2; rw [wts_succ, hk]; exact congrArg (fun z => wts p l x i ++ [z]) (wS_end hq hb1 (wP_in (by omega) l x i _) hcg), by simp [hk2], ho53, trivial⟩, by first | omega | (dsimp only; omega), ⟨rfl, rfl, rfl, rfl, rfl, rfl, rfl, rfl, trivial⟩⟩
  · -- else
    refine AW.exit ?_
    refine ex_and (ex_and (ex_blk ?_))
    refine nrm_and ?_
    refine AW.rs ?_
    refine AL.val rfl (.inl rfl) (HV.mv rfl) ?_
    refine AL.val rfl (.inl rfl) (HV.as rfl) ?_
    refine AL.nx ?_
    refine AW.ret ?_
    refine post_one rfl rfl ?_ (.inr rfl)
    exact ⟨X10, by obtain rfl : i = l.length := (by omega); subst hk; exact hoL.okk (fun b hb _ => Nat.le_trans o2 hb)⟩

set_option maxRecDepth 100000 in
theorem next_ok {vc : Value} {l : List Int} {bq : Nat} {a s : Int} (hr : RdK kU8 W H (fun _ => False) vc l) (hby : bytes l) (hbq : At W H bq ⟨199, [vc, .int .i64 a, .int .u64 s], 3⟩) (ha : 0 ≤ a ∧ a ≤ 2000000) : ACalls Try.prog W 170 #[.pointer (some ⟨bq, 0, none⟩)] H (fun r H' => (∃ q a' s', r = .int .i64 q ∧ (0 ≤ q ∧ q ≤ 255) ∧ (a ≤ a' ∧ a' ≤ a + 1) ∧ At W H' bq ⟨199, [vc, .int .i64 a', .int .u64 s'], 3⟩) ∧ But (fun x => x = bq) H H') := by
  refine ACalls.of (args := [.pointer (some ⟨bq, 0, none⟩)]) Try.func170 rfl rfl ?_
  have X0 := Ext.refl H
  have BT0 := But.refl (fun x => x = bq) H
  refine AW.rs ?_
  refine AL.val rfl (.inl rfl) (HV.as rfl) ?_
  refine AL.nx ?_
  refine AW.rs ?_
  refine AL.val rfl (.inl rfl) (HV.as rfl) ?_
  refine AL.nx ?_
  refine AW.seq ?_
  refine AW.seq ?_
  refine AW.draw' [0, 1, 3, 7, 0, 16, 48, 112, 240, 511] mixed (by rfl) ?_
  refine Dr.read 0 _ 4 _ rfl rfl rfl rfl rfl (RV.of (by intro _ _ h; cases h) (.inl rfl) (fun _ xd => HV.mv rfl)) ?_
  refine Dr.read 1 _ 5 _ rfl rfl rfl rfl rfl (RV.of (by intro _ _ h; cases h) (.inl rfl) (fun _ xd => HV.nc rfl)) ?_
  refine Dr.read 2 _ 6 _ rfl rfl rfl rfl rfl (RV.of (by intro _ _ h; cases h) (.inl rfl) (fun _ xd => HV.fa fl199_1 rfl)) ?_
  refine Dr.read 3 _ 7 _ rfl rfl rfl rfl rfl (RV.of (by intro _ _ h; cases h) (.inl rfl) (fun _ xd => HV.ld rfl va3 (rdc_ext xd (at_cell_add (j := 1) hbq rfl)))) ?_
  refine Dr.read 4 _ 8 _ rfl rfl rfl rfl rfl (RV.of (by intro _ _ h; cases h) (.inl rfl) (fun _ xd => HV.mv rfl)) ?_
  refine Dr.read 5 _ 9 _ rfl rfl rfl rfl rfl (RV.of (by intro _ _ h; cases h) (.inl rfl) (fun _ xd => HV.nc rfl)) ?_
  refine Dr.read 6 _ 10 _ rfl rfl rfl rfl rfl (RV.of (by intro _ _ h; cases h) (.inl rfl) (fun _ xd => HV.fa fl199_0 rfl)) ?_
  refine Dr.read 7 _ 11 _ rfl rfl rfl rfl rfl (RV.of (by intro _ _ h; cases h) (.inl rfl) (fun _ xd => HV.ld rfl va75 (rdc_ext xd (at_cell hbq rfl)))) ?_
  refine Dr.read 8 _ 12 _ rfl rfl rfl rfl rfl (RV.of (by intro _ _ h; cases h) (.inl rfl) (fun _ xd => HV.len Try.underlying75 rfl hr.isSl)) ?_
  refine Dr.read 9 _ 13 _ rfl rfl rfl rfl rfl (RV.of (by intro _ _ h; cases h) (.inl rfl) (fun _ xd => HV.lti rfl rfl)) ?_
  refine Dr.fin rfl ?_
  refine nrm_and ?_
  refine AW.ifd rfl (fun c1 => ?_) (fun c1 => ?_)
  · -- then
    refine AW.draw' [0, 1, 3, 7, 0, 16, 48, 112, 255, 511, 1023, 2047] mixed (by rfl) ?_
    refine Dr.read 0 _ 14 _ rfl rfl rfl rfl rfl (RV.of (by intro _ _ h; cases h) (.inl rfl) (fun _ xd => HV.mv rfl)) ?_
    refine Dr.read 1 _ 15 _ rfl rfl rfl rfl rfl (RV.of (by intro _ _ h; cases h) (.inl rfl) (fun _ xd => HV.nc rfl)) ?_
    refine Dr.read 2 _ 16 _ rfl rfl rfl rfl rfl (RV.of (by intro _ _ h; cases h) (.inl rfl) (fun _ xd => HV.fa fl199_0 rfl)) ?_
    refine Dr.read 3 _ 17 _ rfl rfl rfl rfl rfl (RV.of (by intro _ _ h; cases h) (.inl rfl) (fun _ xd => HV.ld rfl va75 (rdc_ext xd (at_cell hbq rfl)))) ?_
    refine Dr.read 4 _ 18 _ rfl rfl rfl rfl rfl (RV.of (by intro _ _ h; cases h) (.inl rfl) (fun _ xd => HV.mv rfl)) ?_
    refine Dr.read 5 _ 19 _ rfl rfl rfl rfl rfl (RV.of (by intro _ _ h; cases h) (.inl rfl) (fun _ xd => HV.nc rfl)) ?_
    refine Dr.read 6 _ 20 _ rfl rfl rfl rfl rfl (RV.of (by intro _ _ h; cases h) (.inl rfl) (fun _ xd => HV.fa fl199_1 rfl)) ?_
    refine Dr.read 7 _ 21 _ rfl rfl rfl rfl rfl (RV.of (by intro _ _ h; cases h) (.inl rfl) (fun _ xd => HV.ld rfl va3 (rdc_ext xd (at_cell_add (j := 1) hbq rfl)))) ?_
    obtain ⟨p2, z3, cs4, hz5, hK6, hC7, hP8⟩ := RdK.ix (q := a) hr sl75 (by omega) (by omega)
    obtain rfl : cs4 = [.int .u8 z3] := hK6
    refine Dr.read 8 _ 22 _ rfl rfl rfl rfl rfl (RV.of (by intro _ _ h; cases h) (.inl rfl) (fun _ xd => hP8 rfl rfl)) ?_
    refine Dr.read 9 _ 23 _ rfl rfl rfl rfl rfl (RV.of (by intro _ _ h; cases h) (.inl rfl) (fun _ xd => HV.ld rfl va5 (rdc_ext xd (cells_first hC7 rfl)))) ?_
    refine Dr.read 10 _ 24 _ rfl rfl rfl rfl rfl (RV.of (by intro _ _ h; cases h) (.inl rfl) (fun _ xd => HV.cve (by rw [Try.underlying5]; rfl) Try.underlying3 rfl (i64_id (hby _ (List.mem_of_getElem? hz5))))) ?_
    refine Dr.read 11 _ 3 _ rfl rfl rfl rfl rfl (RV.of (by intro _ _ h; cases h) (.inl rfl) (fun _ xd => HV.as rfl)) ?_
    refine Dr.fin rfl ?_
    refine nrm_and ?_
    refine AW.rs ?_
    refine AL.val rfl (.inl rfl) (HV.mv rfl) ?_
    refine AL.val rfl (.inl rfl) (HV.nc rfl) ?_
    refine AL.val rfl (.inl rfl) (HV.fa fl199_1 rfl) ?_
    refine AL.val rfl (.inl rfl) (HV.ld rfl va3 (at_cell_add (j := 1) hbq rfl)) ?_
    refine AL.val rfl (.inl rfl) (HV.add rfl rfl (by omega)) ?_
    refine AL.val rfl (.inl rfl) (HV.nc rfl) ?_
    refine AL.val rfl (.inl rfl) (HV.fa fl199_1 rfl) ?_
    refine AL.w0 (.inl rfl) (WV.st rfl rfl va3 rfl hbq (Nat.le_of_ble_eq_true rfl) (one_cons rfl one_nil)) ?_
    rintro _ H9 ⟨hx10, hb11⟩
    have B12 := But.trans BT0 hx10
    have q14 := Nat.le_trans X0.bd hx10.bd
    have ho15 := hr.but hx10 (fun _ f _ => f.elim) (fun z_ hz_ => by rw [hz_]; exact hbq.w)
    have hb16 : At W H9 bq ⟨199, [vc, .int .i64 (a + 1), .int .u64 s], 3⟩ := hb11
    refine AL.nx ?_
    refine AW.rs ?_
    refine AL.val rfl (.inl rfl) (HV.mv rfl) ?_
    refine AL.val rfl (.inl rfl) (HV.mv rfl) ?_
    refine AL.val rfl (.inl rfl) (HV.nc rfl) ?_
    refine AL.val rfl (.inl rfl) (HV.fa fl199_2 rfl) ?_
    refine AL.val rfl (.inl rfl) (HV.ld rfl va197 (at_cell_add (j := 2) hb16 rfl)) ?_
    refine AL.val rfl (.inl rfl) (HV.mulw rfl rfl) ?_
    refine AL.val rfl (.inl rfl) (HV.mv rfl) ?_
    refine AL.val rfl (.inl rfl) (HV.cv (by rw [Try.underlying3]; rfl) Try.underlying197 rfl) ?_
    refine AL.val rfl (.inl rfl) (HV.addw rfl rfl) ?_
    refine AL.val rfl (.inl rfl) (HV.addw rfl rfl) ?_
    refine AL.val rfl (.inl rfl) (HV.nc rfl) ?_
    refine AL.val rfl (.inl rfl) (HV.fa fl199_2 rfl) ?_
    refine AL.w0 (.inl rfl) (WV.st rfl rfl va197 rfl hb16 (Nat.le_of_ble_eq_true rfl) (one_cons rfl one_nil)) ?_
    rintro _ H17 ⟨hx18, hb19⟩
    have B20 := But.trans B12 hx18
    have q21 := Nat.le_trans q14 hx18.bd
    have ho22 := ho15.but hx18 (fun _ f _ => f.elim) (fun z_ hz_ => by rw [hz_]; exact hb16.w)
    have hb23 : At W H17 bq ⟨199, [vc, .int .i64 (a + 1), .int .u64 (IntKind.u64.wrap ((IntKind.u64.wrap ((IntKind.u64.wrap (s * 6364136223846793005)) + (IntKind.u64.wrap z3))) + 1442695040888963407))], 3⟩ := hb19
    refine AL.nx ?_
    refine AW.seq ?_
    refine AW.seq ?_
    refine AW.draw' [0, 1, 3, 7, 0, 16, 48, 112, 240, 511] mixed (by rfl) ?_
    refine Dr.read 0 _ 44 _ rfl rfl rfl rfl rfl (RV.of (by intro _ _ h; cases h) (.inl rfl) (fun _ xd => HV.mv rfl)) ?_
    refine Dr.read 1 _ 45 _ rfl rfl rfl rfl rfl (RV.of (by intro _ _ h; cases h) (.inl rfl) (fun _ xd => HV.nc rfl)) ?_
    refine Dr.read 2 _ 46 _ rfl rfl rfl rfl rfl (RV.of (by intro _ _ h; cases h) (.inl rfl) (fun _ xd => HV.fa fl199_1 rfl)) ?_
    refine Dr.read 3 _ 47 _ rfl rfl rfl rfl rfl (RV.of (by intro _ _ h; cases h) (.inl rfl) (fun _ xd => HV.ld rfl va3 (rdc_ext xd (at_cell_add (j := 1) hb23 rfl)))) ?_
    refine Dr.read 4 _ 48 _ rfl rfl rfl rfl rfl (RV.of (by intro _ _ h; cases h) (.inl rfl) (fun _ xd => HV.mv rfl)) ?_
    refine Dr.read 5 _ 49 _ rfl rfl rfl rfl rfl (RV.of (by intro _ _ h; cases h) (.inl rfl) (fun _ xd => HV.nc rfl)) ?_
    refine Dr.read 6 _ 50 _ rfl rfl rfl rfl rfl (RV.of (by intro _ _ h; cases h) (.inl rfl) (fun _ xd => HV.fa fl199_0 rfl)) ?_
    refine Dr.read 7 _ 51 _ rfl rfl rfl rfl rfl (RV.of (by intro _ _ h; cases h) (.inl rfl) (fun _ xd => HV.ld rfl va75 (rdc_ext xd (at_cell hb23 rfl)))) ?_
    refine Dr.read 8 _ 52 _ rfl rfl rfl rfl rfl (RV.of (by intro _ _ h; cases h) (.inl rfl) (fun _ xd => HV.len Try.underlying75 rfl ho22.isSl)) ?_
    refine Dr.read 9 _ 53 _ rfl rfl rfl rfl rfl (RV.of (by intro _ _ h; cases h) (.inl rfl) (fun _ xd => HV.lei rfl rfl)) ?_
    refine Dr.fin rfl ?_
    refine nrm_and ?_
    refine AW.ifd rfl (fun c24 => ?_) (fun c24 => ?_)
    · -- then
      refine AW.rs ?_
      refine AL.val rfl (.inl rfl) (HV.mv rfl) ?_
      refine AL.val rfl (.inl rfl) (HV.as rfl) ?_
      refine AL.nx ?_
      refine AW.ret ?_
      refine ret_and ?_
      refine post_one rfl rfl ?_ (.inr rfl)
      exact ⟨⟨_, _, _, rfl, by first | exact bt_255 _ | (have q_ := hby _ (List.mem_of_getElem? hz5); omega), by omega, hb23⟩, B20⟩
    · -- else
      refine AW.skip ?_
      refine nrm_and ?_
      refine AW.rs ?_
      refine AL.val rfl (.inl rfl) (HV.mv rfl) ?_
      refine AL.val rfl (.inl rfl) (HV.nc rfl) ?_
      refine AL.val rfl (.inl rfl) (HV.fa fl199_2 rfl) ?_
      refine AL.val rfl (.inl rfl) (HV.ld rfl va197 (at_cell_add (j := 2) hb23 rfl)) ?_
      refine AL.val rfl (.inl rfl) (HV.shr rfl rfl (by omega)) ?_
      refine AL.val rfl (.inl rfl) (HV.bits (by simp) rfl rfl) ?_
      refine AL.val rfl (.inl rfl) (HV.cve (by rw [Try.underlying197]; rfl) Try.underlying2 rfl (i64_id (bt_255 _))) ?_
      refine AL.val rfl (.inl rfl) (HV.as rfl) ?_
      refine AL.nx ?_
      refine AW.ret ?_
      refine post_one rfl rfl ?_ (.inr rfl)
      exact ⟨⟨_, _, _, rfl, by first | exact bt_255 _ | (have q_ := hby _ (List.mem_of_getElem? hz5); omega), by omega, hb23⟩, B20⟩
  · -- else
    refine AW.skip ?_
    refine nrm_and ?_
    refine AW.rs ?_
    refine AL.val rfl (.inl rfl) (HV.mv rfl) ?_
    refine AL.val rfl (.inl rfl) (HV.nc rfl) ?_
    refine AL.val rfl (.inl rfl) (HV.fa fl199_1 rfl) ?_
    refine AL.val rfl (.inl rfl) (HV.ld rfl va3 (at_cell_add (j := 1) hbq rfl)) ?_
    refine AL.val rfl (.inl rfl) (HV.add rfl rfl (by omega)) ?_
    refine AL.val rfl (.inl rfl) (HV.nc rfl) ?_
    refine AL.val rfl (.inl rfl) (HV.fa fl199_1 rfl) ?_
    refine AL.w0 (.inl rfl) (WV.st rfl rfl va3 rfl hbq (Nat.le_of_ble_eq_true rfl) (one_cons rfl one_nil)) ?_
    rintro _ H25 ⟨hx26, hb27⟩
    have B28 := But.trans BT0 hx26
    have q30 := Nat.le_trans X0.bd hx26.bd
    have ho31 := hr.but hx26 (fun _ f _ => f.elim) (fun z_ hz_ => by rw [hz_]; exact hbq.w)
    have hb32 : At W H25 bq ⟨199, [vc, .int .i64 (a + 1), .int .u64 s], 3⟩ := hb27
    refine AL.nx ?_
    refine AW.rs ?_
    refine AL.val rfl (.inl rfl) (HV.mv rfl) ?_
    refine AL.val rfl (.inl rfl) (HV.mv rfl) ?_
    refine AL.val rfl (.inl rfl) (HV.nc rfl) ?_
    refine AL.val rfl (.inl rfl) (HV.fa fl199_2 rfl) ?_
    refine AL.val rfl (.inl rfl) (HV.ld rfl va197 (at_cell_add (j := 2) hb32 rfl)) ?_
    refine AL.val rfl (.inl rfl) (HV.mulw rfl rfl) ?_
    refine AL.val rfl (.inl rfl) (HV.mv rfl) ?_
    refine AL.val rfl (.inl rfl) (HV.cv (by rw [Try.underlying3]; rfl) Try.underlying197 rfl) ?_
    refine AL.val rfl (.inl rfl) (HV.addw rfl rfl) ?_
    refine AL.val rfl (.inl rfl) (HV.addw rfl rfl) ?_
    refine AL.val rfl (.inl rfl) (HV.nc rfl) ?_
    refine AL.val rfl (.inl rfl) (HV.fa fl199_2 rfl) ?_
    refine AL.w0 (.inl rfl) (WV.st rfl rfl va197 rfl hb32 (Nat.le_of_ble_eq_true rfl) (one_cons rfl one_nil)) ?_
    rintro _ H33 ⟨hx34, hb35⟩
    have B36 := But.trans B28 hx34
    have q37 := Nat.le_trans q30 hx34.bd
    have ho38 := ho31.but hx34 (fun _ f _ => f.elim) (fun z_ hz_ => by rw [hz_]; exact hb32.w)
    have hb39 : At W H33 bq ⟨199, [vc, .int .i64 (a + 1), .int .u64 (IntKind.u64.wrap ((IntKind.u64.wrap ((IntKind.u64.wrap (s * 6364136223846793005)) + (IntKind.u64.wrap 0))) + 1442695040888963407))], 3⟩ := hb35
    refine AL.nx ?_
    refine AW.seq ?_
    refine AW.seq ?_
    refine AW.draw' [0, 1, 3, 7, 0, 16, 48, 112, 240, 511] mixed (by rfl) ?_
    refine Dr.read 0 _ 44 _ rfl rfl rfl rfl rfl (RV.of (by intro _ _ h; cases h) (.inl rfl) (fun _ xd => HV.mv rfl)) ?_
    refine Dr.read 1 _ 45 _ rfl rfl rfl rfl rfl (RV.of (by intro _ _ h; cases h) (.inl rfl) (fun _ xd => HV.nc rfl)) ?_
    refine Dr.read 2 _ 46 _ rfl rfl rfl rfl rfl (RV.of (by intro _ _ h; cases h) (.inl rfl) (fun _ xd => HV.fa fl199_1 rfl)) ?_
    refine Dr.read 3 _ 47 _ rfl rfl rfl rfl rfl (RV.of (by intro _ _ h; cases h) (.inl rfl) (fun _ xd => HV.ld rfl va3 (rdc_ext xd (at_cell_add (j := 1) hb39 rfl)))) ?_
    refine Dr.read 4 _ 48 _ rfl rfl rfl rfl rfl (RV.of (by intro _ _ h; cases h) (.inl rfl) (fun _ xd => HV.mv rfl)) ?_
    refine Dr.read 5 _ 49 _ rfl rfl rfl rfl rfl (RV.of (by intro _ _ h; cases h) (.inl rfl) (fun _ xd => HV.nc rfl)) ?_
    refine Dr.read 6 _ 50 _ rfl rfl rfl rfl rfl (RV.of (by intro _ _ h; cases h) (.inl rfl) (fun _ xd => HV.fa fl199_0 rfl)) ?_
    refine Dr.read 7 _ 51 _ rfl rfl rfl rfl rfl (RV.of (by intro _ _ h; cases h) (.inl rfl) (fun _ xd => HV.ld rfl va75 (rdc_ext xd (at_cell hb39 rfl)))) ?_
    refine Dr.read 8 _ 52 _ rfl rfl rfl rfl rfl (RV.of (by intro _ _ h; cases h) (.inl rfl) (fun _ xd => HV.len Try.underlying75 rfl ho38.isSl)) ?_
    refine Dr.read 9 _ 53 _ rfl rfl rfl rfl rfl (RV.of (by intro _ _ h; cases h) (.inl rfl) (fun _ xd => HV.lei rfl rfl)) ?_
    refine Dr.fin rfl ?_
    refine nrm_and ?_
    refine AW.ifd rfl (fun c40 => ?_) (fun c40 => ?_)
    · -- then
      refine AW.rs ?_
      refine AL.val rfl (.inl rfl) (HV.mv rfl) ?_
      refine AL.val rfl (.inl rfl) (HV.as rfl) ?_
      refine AL.nx ?_
      refine AW.ret ?_
      refine ret_and ?_
      refine post_one rfl rfl ?_ (.inr rfl)
      exact ⟨⟨_, _, _, rfl, by first | exact bt_255 _ | omega, by omega, hb39⟩, B36⟩
    · -- else
      refine AW.skip ?_
      refine nrm_and ?_
      refine AW.rs ?_
      refine AL.val rfl (.inl rfl) (HV.mv rfl) ?_
      refine AL.val rfl (.inl rfl) (HV.nc rfl) ?_
      refine AL.val rfl (.inl rfl) (HV.fa fl199_2 rfl) ?_
      refine AL.val rfl (.inl rfl) (HV.ld rfl va197 (at_cell_add (j := 2) hb39 rfl)) ?_
      refine AL.val rfl (.inl rfl) (HV.shr rfl rfl (by omega)) ?_
      refine AL.val rfl (.inl rfl) (HV.bits (by simp) rfl rfl) ?_
      refine AL.val rfl (.inl rfl) (HV.cve (by rw [Try.underlying197]; rfl) Try.underlying2 rfl (i64_id (bt_255 _))) ?_
      refine AL.val rfl (.inl rfl) (HV.as rfl) ?_
      refine AL.nx ?_
      refine AW.ret ?_
      refine post_one rfl rfl ?_ (.inr rfl)
      exact ⟨⟨_, _, _, rfl, by first | exact bt_255 _ | omega, by omega, hb39⟩, B36⟩

set_option maxRecDepth 100000 in
theorem pick_ok {vc : Value} {l : List Int} {bq : Nat} {a s : Int} (hr : RdK kU8 W H (fun _ => False) vc l) (hby : bytes l) (hbq : At W H bq ⟨199, [vc, .int .i64 a, .int .u64 s], 3⟩) (ha : 0 ≤ a ∧ a ≤ 1000000) (n : Int) : ACalls Try.prog W 119 #[.pointer (some ⟨bq, 0, none⟩), .int .i64 n] H (fun r H' => (∃ q a' s', r = .int .i64 q ∧ (0 ≤ q ∧ (1 ≤ n → q < n)) ∧ (a ≤ a' ∧ a' ≤ a + 2) ∧ At W H' bq ⟨199, [vc, .int .i64 a', .int .u64 s'], 3⟩) ∧ But (fun x => x = bq) H H') := by
  refine ACalls.of (args := [.pointer (some ⟨bq, 0, none⟩), .int .i64 n]) Try.func119 rfl rfl ?_
  have X0 := Ext.refl H
  have BT0 := But.refl (fun x => x = bq) H
  refine AW.rs ?_
  refine AL.val rfl (.inl rfl) (HV.as rfl) ?_
  refine AL.nx ?_
  refine AW.seq ?_
  refine AW.rs ?_
  refine AL.val rfl (.inl rfl) (HV.mv rfl) ?_
  refine AL.val rfl (.inl rfl) (HV.lei rfl rfl) ?_
  refine AL.nx ?_
  refine AW.ifd rfl (fun c1 => ?_) (fun c1 => ?_)
  · -- then
    refine AW.rs ?_
    refine AL.val rfl (.inl rfl) (HV.as rfl) ?_
    refine AL.nx ?_
    refine AW.ret ?_
    refine ret_and ?_
    refine post_one rfl rfl ?_ (.inr rfl)
    exact ⟨⟨_, _, _, rfl, by omega, by omega, hbq⟩, BT0⟩
  · -- else
    refine AW.skip ?_
    refine nrm_and ?_
    refine AW.rs ?_
    refine AL.val rfl (.inl rfl) (HV.mv rfl) ?_
    refine AL.w rfl (.inl rfl) (WV.call fn170 rfl (next_ok hr hby hbq (by omega))) ?_
    rintro _ H2 ⟨⟨q3, a4, s5, rfl, h6, h7, hb8⟩, hx9⟩
    have B10 := But.trans BT0 hx9
    have q12 := Nat.le_trans X0.bd hx9.bd
    have ho13 := hr.but hx9 (fun _ f _ => f.elim) (fun z_ hz_ => by rw [hz_]; exact hbq.w)
    refine AL.val rfl (.inl rfl) (HV.as rfl) ?_
    refine AL.nx ?_
    refine AW.seq ?_
    refine AW.rs ?_
    refine AL.val rfl (.inl rfl) (HV.mv rfl) ?_
    refine AL.val rfl (.inl rfl) (HV.gti rfl rfl) ?_
    refine AL.nx ?_
    refine AW.ifd rfl (fun c14 => ?_) (fun c14 => ?_)
    · -- then
      refine AW.reg ?_
      refine AL.val rfl (.inl rfl) (HV.mv rfl) ?_
      refine AL.val rfl (.inl rfl) (HV.mul rfl rfl (by omega)) ?_
      refine AL.val rfl (.inl rfl) (HV.mv rfl) ?_
      refine AL.w rfl (.inl rfl) (WV.call fn170 rfl (next_ok ho13 hby hb8 (by omega))) ?_
      rintro _ H15 ⟨⟨q16, a17, s18, rfl, h19, h20, hb21⟩, hx22⟩
      have B23 := But.trans B10 hx22
      have q24 := Nat.le_trans q12 hx22.bd
      have ho25 := ho13.but hx22 (fun _ f _ => f.elim) (fun z_ hz_ => by rw [hz_]; exact hb8.w)
      refine AL.val rfl (.inl rfl) (HV.add rfl rfl (by omega)) ?_
      refine AL.val rfl (.inl rfl) (HV.as rfl) ?_
      refine AL.nil ?_
      refine nrm_and ?_
      refine AW.rs ?_
      refine AL.val rfl (.inl rfl) (HV.mv rfl) ?_
      refine AL.val rfl (.inl rfl) (HV.mv rfl) ?_
      refine AL.val rfl (.inl rfl) (HV.rem rfl rfl (by omega)) ?_
      refine AL.val rfl (.inl rfl) (HV.as rfl) ?_
      refine AL.nx ?_
      refine AW.ret ?_
      refine post_one rfl rfl ?_ (.inr rfl)
      exact ⟨⟨_, _, _, rfl, ⟨(emod_bd (by omega) _).1, fun _ => (emod_bd (by omega) _).2⟩, by omega, hb21⟩, B23⟩
    · -- else
      refine AW.skip ?_
      refine nrm_and ?_
      refine AW.rs ?_
      refine AL.val rfl (.inl rfl) (HV.mv rfl) ?_
      refine AL.val rfl (.inl rfl) (HV.mv rfl) ?_
      refine AL.val rfl (.inl rfl) (HV.rem rfl rfl (by omega)) ?_
      refine AL.val rfl (.inl rfl) (HV.as rfl) ?_
      refine AL.nx ?_
      refine AW.ret ?_
      refine post_one rfl rfl ?_ (.inr rfl)
      exact ⟨⟨_, _, _, rfl, ⟨(emod_bd (by omega) _).1, fun _ => (emod_bd (by omega) _).2⟩, by omega, hb8⟩, B10⟩

set_option maxRecDepth 100000 in
theorem among_ok {vc : Value} {l : List Int} {bq : Nat} {a s : Int} (hr : RdK kU8 W H (fun _ => False) vc l) (hby : bytes l) (hbq : At W H bq ⟨199, [vc, .int .i64 a, .int .u64 s], 3⟩) (ha : 0 ≤ a ∧ a ≤ 1000000) {vm : Value} {m : List Int} {ok2 : Nat → Prop} (hr2 : RdK kI W H ok2 vm m) (hne : ∀ z, ok2 z → z ≠ bq) (hm : 0 < m.length) : ACalls Try.prog W 118 #[.pointer (some ⟨bq, 0, none⟩), vm] H (fun r H' => (∃ q a' s', r = .int .i64 q ∧ (q ∈ m) ∧ (a ≤ a' ∧ a' ≤ a + 2) ∧ At W H' bq ⟨199, [vc, .int .i64 a', .int .u64 s'], 3⟩) ∧ But (fun x => x = bq) H H') := by
  refine ACalls.of (args := [.pointer (some ⟨bq, 0, none⟩), vm]) Try.func118 rfl rfl ?_
  have X0 := Ext.refl H
  have hmM := hr2.max
  have BT0 := But.refl (fun x => x = bq) H
  refine AW.rs ?_
  refine AL.val rfl (.inl rfl) (HV.as rfl) ?_
  refine AL.nx ?_
  refine AW.rs ?_
  refine AL.val rfl (.inl rfl) (HV.mv rfl) ?_
  refine AL.val rfl (.inl rfl) (HV.mv rfl) ?_
  refine AL.val rfl (.inl rfl) (HV.mv rfl) ?_
  refine AL.val rfl (.inl rfl) (HV.len Try.underlying22 rfl hr2.isSl) ?_
  refine AL.w rfl (.inl rfl) (WV.call fn119 rfl (pick_ok hr hby hbq (by omega) (m.length : Int))) ?_
  rintro _ H1 ⟨⟨q2, a3, s4, rfl, h5, h6, hb7⟩, hx8⟩
  have B9 := But.trans BT0 hx8
  have q11 := Nat.le_trans X0.bd hx8.bd
  have ho12 := hr.but hx8 (fun _ f _ => f.elim) (fun z_ hz_ => by rw [hz_]; exact hbq.w)
  have ho13 := hr2.but hx8 (fun z hz _ e => hne z hz e) (fun z_ hz_ => by rw [hz_]; exact hbq.w)
  have X21 := Ext.refl H1
  obtain ⟨p14, z15, cs16, hz17, hK18, hC19, hP20⟩ := RdK.ix (q := q2) ho13 sl22 (by have := h5; omega) (by have := h5; omega)
  obtain rfl : cs16 = [.int .i64 z15] := hK18
  refine AL.val rfl (.inl rfl) (hP20 rfl rfl) ?_
  refine AL.val rfl (.inl rfl) (HV.ld rfl va2 (cells_first hC19 rfl)) ?_
  refine AL.val rfl (.inl rfl) (HV.as rfl) ?_
  refine AL.nx ?_
  refine AW.ret ?_
  refine post_one rfl rfl ?_ (.inr rfl)
  exact ⟨⟨_, _, _, rfl, List.mem_of_getElem? hz17, by omega, hb7⟩, B9⟩

set_option maxRecDepth 100000 in
theorem from_ok {vc : Value} {l : List Int} (hr : RdK kU8 W H (fun _ => False) vc l) : ACalls Try.prog W 117 #[vc] H (fun r H' => ∃ b, r = .pointer (some ⟨b, 0, none⟩) ∧ H.bd ≤ b ∧ At W H' b ⟨199, [vc, .int .i64 0, .int .u64 0], 3⟩ ∧ Ext H H') := by
  refine ACalls.of (args := [vc]) Try.func117 rfl rfl ?_
  have X0 := Ext.refl H
  have hm1 := hr.max
  refine AW.rs ?_
  refine AL.val rfl (.inl rfl) (HV.as rfl) ?_
  refine AL.nx ?_
  refine AW.rs ?_
  refine AL.val rfl (.inl rfl) (HV.mv rfl) ?_
  refine AL.val rfl (.inl rfl) (HV.bd rfl (bd199_0 hr.isSl)) ?_
  refine AL.w rfl (.inl rfl) (WV.bx rfl rfl) ?_
  rintro _ H3 ⟨b2, rfl, hx4, hn5, hb6⟩
  have o7 := Nat.le_trans X0.bd hn5
  have X8 := Ext.trans X0 hx4
  have X9 := Ext.refl H3
  refine AL.val rfl (.inl rfl) (HV.as rfl) ?_
  refine AL.nx ?_
  refine AW.ret ?_
  refine post_one rfl rfl ?_ (.inr rfl)
  exact ⟨_, rfl, o7, hb6, X8⟩

set_option maxRecDepth 100000 in
theorem p6Prime_ok {vc : Value} {l : List Int} (hr : RdK kU8 W H (fun _ => False) vc l) (hby : bytes l) : ACalls Try.prog W 49 #[vc] H (fun r H' => (∃ q, r = .int .i64 q ∧ q ∈ ([5, 7, 11, 13] : List Int)) ∧ Ext H H') := by
  refine ACalls.of (args := [vc]) Try.func49 rfl rfl ?_
  have X0 := Ext.refl H
  have hm1 := hr.max
  refine AW.rs ?_
  refine AL.val rfl (.inl rfl) (HV.as rfl) ?_
  refine AL.nx ?_
  refine AW.rs ?_
  refine AL.val rfl (.inl rfl) (HV.mv rfl) ?_
  refine AL.w rfl (.inl rfl) (WV.call fn117 rfl (from_ok hr)) ?_
  rintro _ H3 ⟨b2, rfl, hn4, hb5, hx6⟩
  have o7 := Nat.le_trans X0.bd hn4
  have X8 := Ext.trans X0 hx6
  have X9 := Ext.refl H3
  refine AL.val rfl (.inl rfl) (HV.as rfl) ?_
  refine AL.nx ?_
  refine AW.rs ?_
  refine AL.val rfl (.inl rfl) (HV.mv rfl) ?_
  have y10 := hb5.lt
  have o11 := X8.bd
  have o12 := X9.bd
  refine AL.w rfl (.inl rfl) (WV.bsK (K := kI) (l := ([5, 7, 11, 13] : List Int)) (css := [[.int .i64 5], [.int .i64 7], [.int .i64 11], [.int .i64 13]]) sl22 rfl rfl (by first | rfl | (simp [Instr.fill, Value.cells, kI, kB, kU, kU8, kS, Kd.sc]; done) | (simp [Instr.fill, Value.cells, kI, kB, kU, kU8, kS, Kd.sc, rng1, rng2, rng3, rng4, kP])) rfl (segs_cons rfl (segs_cons rfl (segs_cons rfl (segs_cons rfl segs_nil))))) ?_
  rintro v13 H14 ⟨hx15, ho16⟩
  have X17 := Ext.trans X8 hx15
  have X18 := Ext.trans X9 hx15
  have hb19 := hb5.ext hx15
  refine AL.w rfl (.inl rfl) (WV.call fn118 rfl (among_ok (hr.ext X17) hby hb19 (by omega) ho16.rd (fun z hz e => by have q1 : H3.bd ≤ z := hz; omega) (by decide))) ?_
  rintro _ H21 ⟨⟨q22, a23, s24, rfl, h25, h26, hb27⟩, hx28⟩
  have X29 := Ext.thru X17 hx28 (fun z_ hz_ => by rw [hz_]; exact o7)
  have ho31 := ho16.but hx28 (fun b hb _ e => by have hb' : H3.bd ≤ b := hb; have e' : b = b2 := e; omega) (fun z_ hz_ => by rw [hz_]; exact hb19.w)
  refine AL.val rfl (.inl rfl) (HV.as rfl) ?_
  refine AL.nx ?_
  refine AW.ret ?_
  refine post_one rfl rfl ?_ (.inr rfl)
  exact ⟨⟨_, rfl, h25⟩, X29⟩

set_option maxRecDepth 100000 in
theorem p6Pick_ok {vc : Value} {l : List Int} (hr : RdK kU8 W H (fun _ => False) vc l) (hby : bytes l) (n : Int) : ACalls Try.prog W 50 #[vc, .int .i64 n] H (fun r H' => (∃ q, r = .int .i64 q ∧ (0 ≤ q ∧ (1 ≤ n → q < n))) ∧ Ext H H') := by
  refine ACalls.of (args := [vc, .int .i64 n]) Try.func50 rfl rfl ?_
  have X0 := Ext.refl H
  have hm1 := hr.max
  refine AW.rs ?_
  refine AL.val rfl (.inl rfl) (HV.as rfl) ?_
  refine AL.nx ?_
  refine AW.rs ?_
  refine AL.val rfl (.inl rfl) (HV.mv rfl) ?_
  refine AL.w rfl (.inl rfl) (WV.call fn117 rfl (from_ok hr)) ?_
  rintro _ H3 ⟨b2, rfl, hn4, hb5, hx6⟩
  have o7 := Nat.le_trans X0.bd hn4
  have X8 := Ext.trans X0 hx6
  have X9 := Ext.refl H3
  refine AL.val rfl (.inl rfl) (HV.mv rfl) ?_
  refine AL.w rfl (.inl rfl) (WV.call fn119 rfl (pick_ok (hr.ext X8) hby hb5 (by omega) n)) ?_
  rintro _ H10 ⟨⟨q11, a12, s13, rfl, h14, h15, hb16⟩, hx17⟩
  have X18 := Ext.thru X8 hx17 (fun z_ hz_ => by rw [hz_]; exact o7)
  refine AL.val rfl (.inl rfl) (HV.as rfl) ?_
  refine AL.nx ?_
  refine AW.ret ?_
  refine post_one rfl rfl ?_ (.inr rfl)
  exact ⟨⟨_, rfl, h14⟩, X18⟩

set_option maxRecDepth 100000 in
theorem l00Max_ok (a b : Int) : ACalls Try.prog W 171 #[.int .i64 a, .int .i64 b] H (fun r H' => r = .int .i64 (max a b) ∧ Ext H H') := by
  refine ACalls.of (args := [.int .i64 a, .int .i64 b]) Try.func171 rfl rfl ?_
  have X0 := Ext.refl H
  refine AW.rs ?_
  refine AL.val rfl (.inl rfl) (HV.as rfl) ?_
  refine AL.nx ?_
  refine AW.seq ?_
  refine AW.rs ?_
  refine AL.val rfl (.inl rfl) (HV.mv rfl) ?_
  refine AL.val rfl (.inl rfl) (HV.mv rfl) ?_
  refine AL.val rfl (.inl rfl) (HV.gti rfl rfl) ?_
  refine AL.nx ?_
  refine AW.ifd rfl (fun c1 => ?_) (fun c1 => ?_)
  · -- then
    refine AW.rs ?_
    refine AL.val rfl (.inl rfl) (HV.mv rfl) ?_
    refine AL.val rfl (.inl rfl) (HV.as rfl) ?_
    refine AL.nx ?_
    refine AW.ret ?_
    refine ret_and ?_
    refine post_one rfl rfl ?_ (.inr rfl)
    exact ⟨congrArg (Value.int .i64) (by omega), X0⟩
  · -- else
    refine AW.skip ?_
    refine nrm_and ?_
    refine AW.rs ?_
    refine AL.val rfl (.inl rfl) (HV.mv rfl) ?_
    refine AL.val rfl (.inl rfl) (HV.as rfl) ?_
    refine AL.nx ?_
    refine AW.ret ?_
    refine post_one rfl rfl ?_ (.inr rfl)
    exact ⟨congrArg (Value.int .i64) (by omega), X0⟩

set_option maxRecDepth 100000 in
theorem many_ok {vc : Value} {l : List Int} {bq : Nat} {a s : Int} (hr : RdK kU8 W H (fun _ => False) vc l) (hby : bytes l) (hbq : At W H bq ⟨199, [vc, .int .i64 a, .int .u64 s], 3⟩) (ha : 0 ≤ a ∧ a ≤ 100000) (p n : Int) (hp : 2 ≤ p) (hn : n ≤ 1000) : ACalls Try.prog W 122 #[.pointer (some ⟨bq, 0, none⟩), .int .i64 p, .int .i64 n] H (fun r H' => (∃ k a' s', OwnK kI 2 W H' (fun b => H.bd ≤ b) r k ∧ k.length = n.toNat ∧ elems p k ∧ (a ≤ a' ∧ a' ≤ a + 2 * n.toNat) ∧ At W H' bq ⟨199, [vc, .int .i64 a', .int .u64 s'], 3⟩) ∧ But (fun x => x = bq) H H') := by
  refine ACalls.of (args := [.pointer (some ⟨bq, 0, none⟩), .int .i64 p, .int .i64 n]) Try.func122 rfl rfl ?_
  have X0 := Ext.refl H
  have BT0 := But.refl (fun x => x = bq) H
  refine AW.rs ?_
  refine AL.val rfl (.inl rfl) (HV.as rfl) ?_
  refine AL.nx ?_
  refine AW.rs ?_
  have y1 := hbq.lt
  have o2 := X0.bd
  have o3 := BT0.bd
  refine AL.w rfl (.inl rfl) (WV.bsK (K := kI) (l := ([] : List Int)) (css := []) sl22 rfl rfl (by first | rfl | (simp [Instr.fill, Value.cells, kI, kB, kU, kU8, kS, Kd.sc]; done) | (simp [Instr.fill, Value.cells, kI, kB, kU, kU8, kS, Kd.sc, rng1, rng2, rng3, rng4, kP])) rfl segs_nil) ?_
  rintro v4 H5 ⟨hx6, ho7⟩
  have B8 := But.trans BT0 (Ext.but hx6 _)
  have X9 := Ext.trans X0 hx6
  have ho10 := hr.ext hx6
  have hb11 := hbq.ext hx6
  refine AL.val rfl (.inl rfl) (HV.as rfl) ?_
  refine AL.nx ?_
  refine AW.seq ?_
  refine AW.rs ?_
  refine AL.val rfl (.inl rfl) (HV.as rfl) ?_
  refine AL.nx ?_
  refine AW.block ?_
  refine AW.loop (σ := Nat × Value × List Int × Int × Int) (fun ⟨i, vv, k, a1, s1⟩ => [(0, .pointer (some ⟨bq, 0, none⟩)), (1, .int .i64 p), (2, .int .i64 n), (6, (.slice none 0 0)), (7, vv), (8, .int .i64 (i : Int))]) (fun ⟨i, vv, k, a1, s1⟩ H' => But (fun x => x = bq) H H' ∧ RdK kU8 W H' (fun _ => False) vc l ∧ i ≤ n.toNat ∧ k.length = i ∧ elems p k ∧ (a ≤ a1 ∧ a1 ≤ a + 2 * (i : Int)) ∧ OwnK kI 2 W H' (fun b => H.bd ≤ b) vv k ∧ At W H' bq ⟨199, [vc, .int .i64 a1, .int .u64 s1], 3⟩ ∧ True) (fun ⟨i, vv, k, a1, s1⟩ => n.toNat - i) (0, v4, (([] : List Int) : List Int), a, s) ⟨B8, ho10, Nat.zero_le _, rfl, (fun j hj => absurd hj (Nat.not_lt_zero _)), by omega, ho7, hb11, trivial⟩ ⟨rfl, rfl, rfl, rfl, rfl, rfl, trivial⟩ ?_
  rintro ⟨i, vv, k, a1, s1⟩ H13 ⟨B14, ho15, hi, hk2, hel, ha1, hoL, hbL, _⟩
  refine AW.seq ?_
  refine AW.rs ?_
  refine AL.val rfl (.inl rfl) (HV.mv rfl) ?_
  refine AL.val rfl (.inl rfl) (HV.mv rfl) ?_
  refine AL.val rfl (.inl rfl) (HV.lti rfl rfl) ?_
  refine AL.nx ?_
  refine AW.ifd rfl (fun c16 => ?_) (fun c16 => ?_)
  · -- then
    refine AW.skip ?_
    refine nrm_and ?_
    refine AW.seq ?_
    refine AW.block ?_
    refine AW.reg ?_
    refine AL.val rfl (.inl rfl) (HV.mv rfl) ?_
    refine AL.val rfl (.inl rfl) (HV.mv rfl) ?_
    refine AL.val rfl (.inl rfl) (HV.mv rfl) ?_
    refine AL.w rfl (.inl rfl) (WV.call fn171 rfl (l00Max_ok (W := W) p 1)) ?_
    rintro _ H17 ⟨rfl, hx18⟩
    have B19 := But.trans B14 (Ext.but hx18 _)
    have ho20 := hoL.ext hx18
    have ho21 := ho15.ext hx18
    have hb22 := hbL.ext hx18
    refine AL.w rfl (.inl rfl) (WV.call fn119 rfl (pick_ok ho21 hby hb22 (by omega) (max p 1))) ?_
    rintro _ H23 ⟨⟨q24, a25, s26, rfl, h27, h28, hb29⟩, hx30⟩
    have B31 := But.trans B19 hx30
    have ho32 := ho20.but hx30 (fun b hb _ e => by have hb' : H.bd ≤ b := hb; have e' : b = bq := e; omega) (fun z_ hz_ => by rw [hz_]; exact hb22.w)
    have ho33 := ho21.but hx30 (fun _ f _ => f.elim) (fun z_ hz_ => by rw [hz_]; exact hb22.w)
    have X34 := Ext.refl H23
    have y35 := hb29.lt
    have o36 := X34.bd
    have o37 := B31.bd
    have a38 := ho32.ltb
    refine AL.w rfl (.inl rfl) (WV.bsK (K := kI) (l := ([q24] : List Int)) (css := [[.int .i64 q24]]) sl22 rfl rfl (by first | rfl | (simp [Instr.fill, Value.cells, kI, kB, kU, kU8, kS, Kd.sc]; done) | (simp [Instr.fill, Value.cells, kI, kB, kU, kU8, kS, Kd.sc, rng1, rng2, rng3, rng4, kP])) rfl (segs_cons rfl segs_nil)) ?_
    rintro v39 H40 ⟨hx41, ho42⟩
    have B43 := But.trans B31 (Ext.but hx41 _)
    have X44 := Ext.trans X34 hx41
    have ho45 := ho32.ext hx41
    have ho46 := ho33.ext hx41
    have hb47 := hb29.ext hx41
    have X49 := Ext.refl H40
    refine AL.w rfl (.inl rfl) (WV.apk sl22 rfl rfl ho45 ho42.rd (by rw [hk2]; simp; omega) (by rw [hk2]; simp; omega) (fun b hb _ e => Nat.lt_irrefl _ (Nat.lt_of_lt_of_le (a38 b e) hb))) ?_
    rintro v50 H51 ⟨hx52, ho53, hb54⟩
    have ho55 := ho53.narrow (ok' := fun b => H.bd ≤ b) kI_flat (fun b q => (hb54 b q).elim (fun e => (ho45.blk b e).1) (fun e => Nat.le_trans B43.bd e))
    have B56 := But.thru B43 hx52 (fun b hb => Nat.le_trans o3 (ho45.blk b hb).1)
    have q58 := Nat.le_trans X44.bd hx52.bd
    have q60 := Nat.le_trans X49.bd hx52.bd
    have ho61 := ho46.but hx52 (fun _ f _ => f.elim) (fun b hb => (ho45.blk b hb).2.2)
    have hb63 := hb47.but hx52 (fun e => by have q : H.bd ≤ _ := (ho45.blk _ e).1; omega)
    refine AL.val rfl (.inl rfl) (HV.as rfl) ?_
    refine AL.nil ?_
    refine nrm_blk (nrm_and ?_)
    refine AW.reg ?_
    refine AL.val rfl (.inl rfl) (HV.mv rfl) ?_
    refine AL.val rfl (.inl rfl) (HV.add rfl rfl (by omega)) ?_
    refine AL.val rfl (.inl rfl) (HV.as rfl) ?_
    refine AL.nil ?_
    refine nrm_and ?_
    exact ⟨(i + 1, v50, (k ++ (([q24] : List Int) : List Int)), a25, s26), ⟨B56, ho61, by omega, by simp [hk2], elems_snoc hel (by have := h27; omega), by omega, ho55, hb63, trivial⟩, by first | omega | (dsimp only; omega), ⟨rfl, rfl, rfl, rfl, rfl, rfl, trivial⟩⟩
  · -- else
    refine AW.exit ?_
    refine ex_and (ex_and (ex_blk ?_))
    refine nrm_and ?_
    refine AW.rs ?_
    refine AL.val rfl (.inl rfl) (HV.mv rfl) ?_
    refine AL.val rfl (.inl rfl) (HV.as rfl) ?_
    refine AL.nx ?_
    refine AW.ret ?_
    refine post_one rfl rfl ?_ (.inr rfl)
    exact ⟨⟨_, _, _, hoL.okk (fun b hb _ => Nat.le_trans o3 hb), by omega, hel, by omega, hbL⟩, B14⟩

set_option maxRecDepth 100000 in
theorem cut_ok {v : Value} {l : List Int} {ok : Nat → Prop} (hr : RdK kI W H ok v l) (hl : l.length ≤ 1048576) : ACalls Try.prog W 121 #[v] H (fun r H' => (∃ i : Nat, (i ≤ l.length ∧ (i = 0 ∨ l.getD (i - 1) 0 ≠ 0)) ∧ OwnK kI 2 W H' (fun b => H.bd ≤ b) r (l.take i)) ∧ Ext H H') := by
  refine ACalls.of (args := [v]) Try.func121 rfl rfl ?_
  have X0 := Ext.refl H
  have hm1 := hr.max
  refine AW.rs ?_
  refine AL.val rfl (.inl rfl) (HV.as rfl) ?_
  refine AL.nx ?_
  refine AW.rs ?_
  refine AL.val rfl (.inl rfl) (HV.mv rfl) ?_
  refine AL.val rfl (.inl rfl) (HV.len Try.underlying22 rfl hr.isSl) ?_
  refine AL.val rfl (.inl rfl) (HV.as rfl) ?_
  refine AL.nx ?_
  refine AW.seq ?_
  refine AW.block ?_
  refine AW.loop (σ := Nat × Int) (fun ⟨i, x⟩ => [(0, v), (2, (.slice none 0 0)), (3, .int .i64 x)]) (fun ⟨i, x⟩ H' => Ext H H' ∧ i ≤ l.length ∧ x = (i : Int) ∧ True) (fun ⟨i, x⟩ => i) (l.length, (l.length : Int)) ⟨X0, Nat.le_refl _, rfl, trivial⟩ ⟨rfl, rfl, rfl, trivial⟩ ?_
  rintro ⟨i, x⟩ H2 ⟨X3, hi, hx, _⟩
  refine AW.seq ?_
  refine AW.rs ?_
  refine AL.val rfl (.inl rfl) (HV.mv rfl) ?_
  refine AL.val rfl (.inl rfl) (HV.gti rfl rfl) ?_
  refine AL.val rfl (.inl rfl) (HV.mv rfl) ?_
  by_cases c4 : x > 0
  · -- true
    have c4_ : decide (x > 0) = true := decide_eq_true c4
    rw [c4_]
    refine AL.val rfl (.inr ⟨_, _, _, rfl, rfl, rfl⟩) (HV.mv rfl) ?_
    refine AL.val rfl (.inr ⟨_, _, _, rfl, rfl, rfl⟩) (HV.mv rfl) ?_
    refine AL.val rfl (.inr ⟨_, _, _, rfl, rfl, rfl⟩) (HV.sub rfl rfl (by omega)) ?_
    obtain ⟨p5, z6, cs7, hz8, hK9, hC10, hP11⟩ := RdK.ix (q := x - 1) hr sl22 (by omega) (by omega)
    obtain rfl : cs7 = [.int .i64 z6] := hK9
    refine AL.val rfl (.inr ⟨_, _, _, rfl, rfl, rfl⟩) (hP11 rfl rfl) ?_
    refine AL.val rfl (.inr ⟨_, _, _, rfl, rfl, rfl⟩) (HV.ld rfl va2 (cells_first (hC10.ext X3) rfl)) ?_
    refine AL.val rfl (.inr ⟨_, _, _, rfl, rfl, rfl⟩) (HV.eqi rfl rfl) ?_
    refine AL.val rfl (.inl rfl) (HV.pickT rfl rfl) ?_
    refine AL.nx ?_
    refine AW.ifd rfl (fun c12 => ?_) (fun c12 => ?_)
    · -- then
      refine AW.skip ?_
      refine nrm_and ?_
      refine AW.block ?_
      refine AW.reg ?_
      refine AL.val rfl (.inl rfl) (HV.mv rfl) ?_
      refine AL.val rfl (.inl rfl) (HV.sub rfl rfl (by omega)) ?_
      refine AL.val rfl (.inl rfl) (HV.as rfl) ?_
      refine AL.nil ?_
      refine nrm_blk (nrm_and ?_)
      exact ⟨(i - 1, x - 1), ⟨X3, by omega, by omega, trivial⟩, by first | omega | (dsimp only; omega), ⟨rfl, rfl, rfl, trivial⟩⟩
    · -- else
      refine AW.exit ?_
      refine ex_and (ex_and (ex_blk ?_))
      refine nrm_and ?_
      refine AW.rs ?_
      refine AL.val rfl (.inl rfl) (HV.mv rfl) ?_
      refine AL.val rfl (.inl rfl) (HV.mv rfl) ?_
      have X16 := Ext.refl H2
      obtain ⟨v13, hr14, hP15⟩ := RdK.cutH (q := x) (hr.ext X3) sl22 (by omega) (by omega)
      refine AL.val rfl (.inl rfl) (hP15 rfl rfl) ?_
      have o17 := X3.bd
      have o18 := X16.bd
      refine AL.w rfl (.inl rfl) (WV.call fn85 rfl (l00Own_ok hr14 (by simp; omega))) ?_
      rintro v19 H20 ⟨hx21, ho22⟩
      have X23 := Ext.trans X3 hx21
      have X24 := Ext.trans X16 hx21
      refine AL.val rfl (.inl rfl) (HV.as rfl) ?_
      refine AL.nx ?_
      refine AW.ret ?_
      refine post_one rfl rfl ?_ (.inr rfl)
      exact ⟨⟨i, ⟨hi, .inr (by rw [(gd hz8 (by omega) : l.getD (i - 1) 0 = z6)]; assumption)⟩, by have q := ho22.okk (fun b hb _ => Nat.le_trans o17 hb); rw [hx, Int.toNat_natCast] at q; exact q⟩, X23⟩
  · -- false
    have c4_ : decide (x > 0) = false := decide_eq_false c4
    rw [c4_]
    refine AL.off rfl rfl (by decide) rfl ?_
    refine AL.off rfl rfl (by decide) rfl ?_
    refine AL.off rfl rfl (by decide) rfl ?_
    refine AL.off rfl rfl (by decide) rfl ?_
    refine AL.off rfl rfl (by decide) rfl ?_
    refine AL.off rfl rfl (by decide) rfl ?_
    refine AL.val rfl (.inl rfl) (HV.pickF rfl rfl) ?_
    refine AL.nx ?_
    refine AW.cond rfl (fun h => by cases h) (fun _ => ?_)
    refine AW.exit ?_
    refine ex_and (ex_and (ex_blk ?_))
    refine nrm_and ?_
    refine AW.rs ?_
    refine AL.val rfl (.inl rfl) (HV.mv rfl) ?_
    refine AL.val rfl (.inl rfl) (HV.mv rfl) ?_
    have X30 := Ext.refl H2
    obtain ⟨v27, hr28, hP29⟩ := RdK.cutH (q := x) (hr.ext X3) sl22 (by omega) (by omega)
    refine AL.val rfl (.inl rfl) (hP29 rfl rfl) ?_
    have o31 := X3.bd
    have o32 := X30.bd
    refine AL.w rfl (.inl rfl) (WV.call fn85 rfl (l00Own_ok hr28 (by simp; omega))) ?_
    rintro v33 H34 ⟨hx35, ho36⟩
    have X37 := Ext.trans X3 hx35
    have X38 := Ext.trans X30 hx35
    refine AL.val rfl (.inl rfl) (HV.as rfl) ?_
    refine AL.nx ?_
    refine AW.ret ?_
    refine post_one rfl rfl ?_ (.inr rfl)
    exact ⟨⟨i, ⟨hi, .inl (by omega)⟩, by have q := ho36.okk (fun b hb _ => Nat.le_trans o31 hb); rw [hx, Int.toNat_natCast] at q; exact q⟩, X37⟩

set_option maxRecDepth 100000 in
theorem p6Curve_ok {vc : Value} {l : List Int} (hr : RdK kU8 W H (fun _ => False) vc l) (hby : bytes l) (p n : Int) (hp : 2 ≤ p) (hn : 0 ≤ n ∧ n ≤ 6) : ACalls Try.prog W 52 #[vc, .int .i64 p, .int .i64 n] H (fun r H' => (∃ k, OwnK kI 2 W H' (fun b => H.bd ≤ b) r k ∧ curveI p k ∧ (k.length : Int) ≤ n + 1) ∧ Ext H H') := by
  refine ACalls.of (args := [vc, .int .i64 p, .int .i64 n]) Try.func52 rfl rfl ?_
  have X0 := Ext.refl H
  have hm1 := hr.max
  refine AW.rs ?_
  refine AL.val rfl (.inl rfl) (HV.as rfl) ?_
  refine AL.nx ?_
  refine AW.rs ?_
  refine AL.val rfl (.inl rfl) (HV.mv rfl) ?_
  refine AL.w rfl (.inl rfl) (WV.call fn117 rfl (from_ok hr)) ?_
  rintro _ H3 ⟨b2, rfl, hn4, hb5, hx6⟩
  have o7 := Nat.le_trans X0.bd hn4
  have X8 := Ext.trans X0 hx6
  have X9 := Ext.refl H3
  refine AL.val rfl (.inl rfl) (HV.as rfl) ?_
  refine AL.nx ?_
  refine AW.rs ?_
  refine AL.val rfl (.inl rfl) (HV.mv rfl) ?_
  refine AL.val rfl (.inl rfl) (HV.mv rfl) ?_
  refine AL.val rfl (.inl rfl) (HV.mv rfl) ?_
  refine AL.val rfl (.inl rfl) (HV.mv rfl) ?_
  refine AL.val rfl (.inl rfl) (HV.add rfl rfl (by omega)) ?_
  refine AL.w rfl (.inl rfl) (WV.call fn119 rfl (pick_ok (hr.ext X8) hby hb5 (by omega) (n + 1))) ?_
  rintro _ H10 ⟨⟨q11, a12, s13, rfl, h14, h15, hb16⟩, hx17⟩
  have X18 := Ext.thru X8 hx17 (fun z_ hz_ => by rw [hz_]; exact o7)
  refine AL.val rfl (.inl rfl) (HV.add rfl rfl (by have := h14; omega)) ?_
  have X20 := Ext.refl H10
  have y21 := hb16.lt
  have o22 := X18.bd
  have o23 := X20.bd
  refine AL.w rfl (.inl rfl) (WV.call fn122 rfl (many_ok (hr.ext X18) hby hb16 (by omega) p (q11 + 1) (by omega) (by omega))) ?_
  rintro v25 H24 ⟨⟨k26, a27, s28, ho34, hl29, he30, h31, hb32⟩, hx33⟩
  have X35 := Ext.thru X18 hx33 (fun z_ hz_ => by rw [hz_]; exact o7)
  have X38 := Ext.refl H24
  have y39 := hb32.lt
  have o40 := X35.bd
  have o41 := X38.bd
  have a42 := ho34.ltb
  refine AL.w rfl (.inl rfl) (WV.call fn121 rfl (cut_ok ho34.rd (by have := hl29; have := h14; omega))) ?_
  rintro v43 H46 ⟨⟨i44, hi45, ho48⟩, hx47⟩
  have X49 := Ext.trans X35 hx47
  have X50 := Ext.trans X38 hx47
  have ho51 := ho34.ext hx47
  have hb52 := hb32.ext hx47
  refine AL.val rfl (.inl rfl) (HV.as rfl) ?_
  refine AL.nx ?_
  refine AW.ret ?_
  refine post_one rfl rfl ?_ (.inr rfl)
  have q1 := hl29; have q2 := he30; exact ⟨⟨_, ho48.okk (fun b hb _ => Nat.le_trans o40 hb), ⟨by simp; omega, elems_take q2 _, by rw [take_last hi45.1]; rcases hi45.2 with h | h; (exact .inl (by rw [h]; rfl)); (by_cases h0 : i44 = 0; (exact .inl (by rw [h0]; rfl)); (exact .inr (by rw [if_neg h0]; exact h)))⟩, by simp; omega⟩, X49⟩

set_option maxRecDepth 100000 in
theorem f6big_ok {vc : Value} {l : List Int} {ok : Nat → Prop} (hr : RdK kU8 W H ok vc l) : ACalls Try.prog W 48 #[vc] H (fun r H' => r = .bool (decide ((l.length : Int) > 4096)) ∧ Ext H H') := by
  refine ACalls.of (args := [vc]) Try.func48 rfl rfl ?_
  have X0 := Ext.refl H
  have hm1 := hr.max
  refine AW.rs ?_
  refine AL.val rfl (.inl rfl) (HV.as rfl) ?_
  refine AL.nx ?_
  refine AW.rs ?_
  refine AL.val rfl (.inl rfl) (HV.mv rfl) ?_
  refine AL.val rfl (.inl rfl) (HV.len Try.underlying75 rfl hr.isSl) ?_
  refine AL.val rfl (.inl rfl) (HV.gti rfl rfl) ?_
  refine AL.val rfl (.inl rfl) (HV.as rfl) ?_
  refine AL.nx ?_
  refine AW.ret ?_
  refine post_one rfl rfl ?_ (.inr rfl)
  exact ⟨rfl, X0⟩
end Go.Proofs.Yticobjbjejpomaa.VC

