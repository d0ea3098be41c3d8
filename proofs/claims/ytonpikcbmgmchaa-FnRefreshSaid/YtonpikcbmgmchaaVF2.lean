/- Walks. -/
import Derived.Test.YtonpikcbmgmchaaVF
set_option linter.unusedVariables false
set_option linter.unusedSimpArgs false
namespace Go.Proofs.Ytonpikcbmgmchaa.VC
open Go Go.RowKit
variable {W : World} {H : Hp}

/-! ### Numbers modulo a prime -/
def isPr (p : Int) : Bool := decide (p ∈ ([2, 3, 5, 7, 11, 13, 17, 19, 23, 29, 31] : List Int))
theorem isPr_bd {p : Int} (h : isPr p = true) : 2 ≤ p ∧ p ≤ 31 := by
  simp only [isPr, decide_eq_true_eq, List.mem_cons, List.mem_nil_iff, or_false] at h
  omega
theorem emod_bd {p : Int} (hp : 0 < p) (a : Int) : 0 ≤ a % p ∧ a % p < p := ⟨Int.emod_nonneg _ (by omega), Int.emod_lt_of_pos _ hp⟩
def invM (p a : Int) : Int := (((List.range 31).map (fun n : Nat => (n : Int))).find? (fun x => decide (a * x % p = 1 ∧ 0 < x ∧ x < p))).getD 0
theorem invM_small : ∀ p a : Fin 32, isPr (p.val : Int) = true → 1 ≤ a.val → a.val < p.val → ((a.val : Int) * invM p.val a.val) % p.val = 1 ∧ 1 ≤ invM p.val a.val ∧ invM (p.val : Int) a.val < p.val := by decide +kernel
theorem invM_spec {p a : Int} (hp : isPr p = true) (h1 : 1 ≤ a) (h2 : a < p) : (a * invM p a) % p = 1 ∧ 1 ≤ invM p a ∧ invM p a < p := by
  have hb := isPr_bd hp
  obtain ⟨p, rfl⟩ : ∃ n : Nat, p = n := ⟨p.toNat, by omega⟩
  obtain ⟨a, rfl⟩ : ∃ n : Nat, a = n := ⟨a.toNat, by omega⟩
  exact invM_small ⟨p, by omega⟩ ⟨a, by omega⟩ hp (by simp only; omega) (by simp only; omega)

def Cg (p a b : Int) : Prop := ∃ k, a = b + p * k
theorem Cg.refl (p a : Int) : Cg p a a := ⟨0, by omega⟩
theorem Cg.of_eq {p a b : Int} (h : a = b) : Cg p a b := h ▸ Cg.refl p a
theorem Cg.symm {p a b : Int} (h : Cg p a b) : Cg p b a := by
  obtain ⟨k, h⟩ := h; exact ⟨-k, by grind⟩
theorem Cg.trans {p a b c : Int} (h : Cg p a b) (h' : Cg p b c) : Cg p a c := by
  obtain ⟨k, h⟩ := h; obtain ⟨k', h'⟩ := h'; exact ⟨k + k', by grind⟩
theorem Cg.add {p a b c d : Int} (h : Cg p a b) (h' : Cg p c d) : Cg p (a + c) (b + d) := by
  obtain ⟨k, h⟩ := h; obtain ⟨k', h'⟩ := h'; exact ⟨k + k', by grind⟩
theorem Cg.sub {p a b c d : Int} (h : Cg p a b) (h' : Cg p c d) : Cg p (a - c) (b - d) := by
  obtain ⟨k, h⟩ := h; obtain ⟨k', h'⟩ := h'; exact ⟨k - k', by grind⟩
theorem Cg.mul {p a b c d : Int} (h : Cg p a b) (h' : Cg p c d) : Cg p (a * c) (b * d) := by
  obtain ⟨k, h⟩ := h; obtain ⟨k', h'⟩ := h'; exact ⟨b * k' + k * d + p * k * k', by grind⟩
theorem Cg.mod (p a : Int) : Cg p (a % p) a := ⟨-(a / p), by have := Int.emod_def a p; grind⟩
theorem Cg.plus (p a : Int) : Cg p (a + p) a := ⟨1, by grind⟩
theorem Cg.emod_eq {p a b : Int} (h : Cg p a b) : a % p = b % p := by
  obtain ⟨k, h⟩ := h; rw [h, Int.add_mul_emod_self_left]
theorem Cg.eq {p a b : Int} (h : Cg p a b) (a0 : 0 ≤ a) (a1 : a < p) (b0 : 0 ≤ b) (b1 : b < p) : a = b := by
  have := h.emod_eq
  rwa [Int.emod_eq_of_lt a0 a1, Int.emod_eq_of_lt b0 b1] at this
theorem Cg.mod_l {p a b : Int} (h : Cg p a b) : Cg p (a % p) b := (Cg.mod p a).trans h
theorem Cg.of_emod {p a b : Int} (h : a % p = b % p) : Cg p a b := (Cg.mod p a).symm.trans ((Cg.of_eq h).trans (Cg.mod p b))
theorem tmod_Cg (p a : Int) : Cg p (Int.tmod a p) a := ⟨-(Int.tdiv a p), by have := Int.tmod_add_mul_tdiv a p; grind⟩
theorem inv_cg {p a : Int} (hp : isPr p = true) (h1 : 1 ≤ a) (h2 : a < p) : Cg p (a * invM p a) 1 := by
  have h := (invM_spec hp h1 h2).1
  have hb := isPr_bd hp
  exact (Cg.mod p _).symm.trans (Cg.of_eq h)
theorem mul_nz {p a b : Int} (hp : isPr p = true) (a1 : 1 ≤ a) (a2 : a < p) (b1 : 1 ≤ b) (b2 : b < p) : 1 ≤ (a * b) % p ∧ (a * b) % p < p := by
  have hb := isPr_bd hp
  have h := emod_bd (p := p) (by omega) (a * b)
  refine ⟨?_, h.2⟩
  rcases (show 0 < (a * b) % p ∨ (a * b) % p ≤ 0 by omega) with h0 | h0
  · omega
  · exfalso
    have e : (a * b) % p = 0 := by omega
    have z : Cg p (a * b) 0 := (Cg.mod p _).symm.trans (Cg.of_eq e)
    have one : Cg p 1 0 := by
      have h3 := (inv_cg hp a1 a2).mul (inv_cg hp b1 b2)
      have h4 := z.mul (Cg.refl p (invM p a * invM p b))
      have h5 : (a * invM p a) * (b * invM p b) = (a * b) * (invM p a * invM p b) := by grind
      rw [h5] at h3
      have h6 := h3.symm.trans h4
      simpa using h6
    have := one.eq (by omega) (by omega) (by omega) (by omega)
    omega

def wS (p x xi w y : Int) : Int := ((w * ((x - y) % p)) % p * invM p ((xi - y) % p)) % p
theorem wS_bd {p : Int} (hp : 0 < p) (x xi w y : Int) : 0 ≤ wS p x xi w y ∧ wS p x xi w y < p := emod_bd hp _
theorem wS_step {p x xi w y a b : Int} (hp : isPr p = true) (hxi : 1 ≤ xi ∧ xi ≤ p - 1) (hy : 1 ≤ y ∧ y ≤ p - 1) (hne : y ≠ xi) (hb : 1 ≤ b ∧ b < p) (h : Cg p (w * b) a) :
    Cg p (wS p x xi w y * ((b * (xi - y + p)) % p)) ((a * (x - y + p)) % p) ∧ 1 ≤ (b * (xi - y + p)) % p ∧ (b * (xi - y + p)) % p < p := by
  have hpb := isPr_bd hp
  have hd : 1 ≤ (xi - y) % p ∧ (xi - y) % p < p := by
    have := emod_bd (p := p) (by omega) (xi - y)
    refine ⟨?_, this.2⟩
    rcases (show 0 < (xi - y) % p ∨ (xi - y) % p ≤ 0 by omega) with h0 | h0
    · omega
    · exfalso
      have e : (xi - y) % p = 0 := by omega
      have z : Cg p (xi - y) 0 := (Cg.mod p _).symm.trans (Cg.of_eq e)
      have := (z.add (Cg.refl p y)).eq (by omega) (by omega) (by omega) (by omega)
      omega
  have e1 : (b * (xi - y + p)) % p = (b * ((xi - y) % p)) % p := by
    apply Cg.emod_eq
    exact (Cg.refl p b).mul ((Cg.plus p _).trans (Cg.mod p _).symm)
  have hnz := mul_nz hp hb.1 hb.2 hd.1 hd.2
  rw [e1]
  refine ⟨?_, hnz⟩
  have i1 := inv_cg hp hd.1 hd.2
  have g1 : Cg p (wS p x xi w y) (w * ((x - y) % p) * invM p ((xi - y) % p)) := by
    unfold wS
    exact (Cg.mod p _).trans ((Cg.mod p _).mul (Cg.refl p _))
  have g2 : Cg p ((b * ((xi - y) % p)) % p) (b * ((xi - y) % p)) := Cg.mod p _
  have g3 := g1.mul g2
  have e2 : (w * ((x - y) % p) * invM p ((xi - y) % p)) * (b * ((xi - y) % p)) = (w * b) * ((x - y) % p) * ((xi - y) % p * invM p ((xi - y) % p)) := by grind
  rw [e2] at g3
  have g4 : Cg p ((w * b) * ((x - y) % p) * ((xi - y) % p * invM p ((xi - y) % p))) (a * (x - y + p) * 1) := ((h.mul ((Cg.mod p (x - y)).trans (Cg.plus p _).symm)).mul i1)
  exact (g3.trans g4).trans ((Cg.of_eq (by omega)).trans (Cg.mod p _).symm)
theorem wS_end {p w a b : Int} (hp : isPr p = true) (hb : 1 ≤ b ∧ b < p) (hw : 0 ≤ w ∧ w < p) (h : Cg p (w * b) a) : (a * invM p b) % p = w := by
  have hpb := isPr_bd hp
  have i1 := inv_cg hp hb.1 hb.2
  have g : Cg p (a * invM p b) w := by
    have := (h.symm.mul (Cg.refl p (invM p b)))
    have e : w * b * invM p b = w * (b * invM p b) := by grind
    rw [e] at this
    have := this.trans ((Cg.refl p w).mul i1)
    simpa using this
  have := emod_bd (p := p) (by omega) (a * invM p b)
  exact g.mod_l.eq this.1 this.2 hw.1 hw.2
theorem isPr_all : ∀ p : Fin 32, 2 ≤ p.val → (∀ e : Fin 6, 2 ≤ e.val → e.val * e.val ≤ p.val → p.val % e.val ≠ 0) → isPr (p.val : Int) = true := by decide +kernel
theorem isPr_of {p : Int} (h : primeI p) : isPr p = true := by
  obtain ⟨⟨h1, h2⟩, h3⟩ := h
  obtain ⟨p, rfl⟩ : ∃ n : Nat, p = n := ⟨p.toNat, by omega⟩
  refine isPr_all ⟨p, by omega⟩ (by simp only; omega) (fun e he hp hq => h3 (e.val : Int) (by omega) (by exact_mod_cast hp) ?_)
  have : (p : Int) % (e.val : Int) = ((p % e.val : Nat) : Int) := by simp
  rw [this]
  simp only at hq
  rw [hq]; rfl
theorem rest_mod {p a : Int} (hp : 0 < p) : (Int.tmod a p + p) % p = a % p := Cg.emod_eq ((Cg.plus p _).trans (tmod_Cg p a))
theorem tmod_in {p a : Int} (hp : 0 < p) : -p < Int.tmod a p ∧ Int.tmod a p < p := ⟨Int.lt_tmod_of_pos a hp, Int.tmod_lt_of_pos a hp⟩
theorem inv_at {p a x : Int} (hp : isPr p = true) (h0 : 0 ≤ a) (h1 : a < p) (hx : 1 ≤ x) (hx2 : x < p) (h : a * x % p = 1) : invM p a = x := by
  have hb := isPr_bd hp
  have ha : 1 ≤ a := by
    rcases Int.lt_or_le 0 a with h2 | h2
    · omega
    · obtain rfl : a = 0 := by omega
      simp at h
  obtain ⟨s1, s2, s3⟩ := invM_spec hp ha h1
  have g1 : Cg p (a * x) 1 := (Cg.mod p _).symm.trans (Cg.of_eq h)
  have g2 := inv_cg hp ha h1
  have g3 : Cg p (invM p a) x := by
    have e1 := (g1.symm.mul (Cg.refl p (invM p a)))
    have e2 : a * x * invM p a = x * (a * invM p a) := by grind
    rw [e2] at e1
    have e3 := e1.trans ((Cg.refl p x).mul g2)
    simpa using e3
  exact g3.eq (by omega) s3 (by omega) hx2
theorem inv_zero : ∀ p : Fin 32, isPr (p.val : Int) = true → invM (p.val : Int) 0 = 0 := by decide +kernel
theorem inv_none {p a : Int} (hp : isPr p = true) (h0 : 0 ≤ a) (h1 : a < p) (h : ∀ x : Int, 1 ≤ x → x < p → a * x % p ≠ 1) : invM p a = 0 := by
  have hb := isPr_bd hp
  rcases Int.lt_or_le 0 a with h2 | h2
  · obtain ⟨s1, s2, s3⟩ := invM_spec hp (show 1 ≤ a by omega) h1
    exact absurd s1 (h _ s2 s3)
  · obtain rfl : a = 0 := by omega
    obtain ⟨p, rfl⟩ : ∃ n : Nat, p = n := ⟨p.toNat, by omega⟩
    exact inv_zero ⟨p, by omega⟩ hp
theorem inv_in {p a : Int} (hp : isPr p = true) (h0 : 0 ≤ a) (h1 : a < p) : 0 ≤ invM p a ∧ invM p a < p := by
  have hb := isPr_bd hp
  rcases Int.lt_or_le 0 a with h2 | h2
  · have := invM_spec hp (show 1 ≤ a by omega) h1; omega
  · obtain rfl : a = 0 := by omega
    obtain ⟨p, rfl⟩ : ∃ n : Nat, p = n := ⟨p.toNat, by omega⟩
    have := inv_zero ⟨p, by omega⟩ hp
    simp only at this
    omega
def powM (p a : Int) : Nat → Int
  | 0 => 1 % p
  | k + 1 => powM p a k * a % p
theorem powM_in {p a : Int} (hp : 0 < p) : ∀ k, 0 ≤ powM p a k ∧ powM p a k < p
  | 0 => emod_bd hp 1
  | k + 1 => emod_bd hp _
theorem pow_small : ∀ p a : Fin 32, isPr (p.val : Int) = true → 1 ≤ a.val → a.val < p.val → powM (p.val : Int) (a.val : Int) (p.val - 2) = invM p.val a.val := by decide +kernel
theorem pow_inv {p a : Int} (hp : isPr p = true) (h1 : 1 ≤ a) (h2 : a < p) : powM p a (p - 2).toNat = invM p a := by
  have hb := isPr_bd hp
  obtain ⟨p, rfl⟩ : ∃ n : Nat, p = n := ⟨p.toNat, by omega⟩
  obtain ⟨a, rfl⟩ : ∃ n : Nat, a = n := ⟨a.toNat, by omega⟩
  have := pow_small ⟨p, by omega⟩ ⟨a, by omega⟩ hp (by simp only; omega) (by simp only; omega)
  rw [show ((p : Int) - 2).toNat = p - 2 by omega]
  exact this
/-! ### Weights -/
def wP (p : Int) (l : List Int) (x : Int) (i j : Nat) : Int := (List.range j).foldl (fun w k => if k = i then w else wS p x (l.getD i 0) w (l.getD k 0)) 1
theorem wP_succ (p : Int) (l : List Int) (x : Int) (i j : Nat) : wP p l x i (j + 1) = if j = i then wP p l x i j else wS p x (l.getD i 0) (wP p l x i j) (l.getD j 0) := by
  unfold wP
  rw [List.range_succ, List.foldl_append]; rfl
theorem wP_in {p : Int} (hp : 2 ≤ p) (l : List Int) (x : Int) (i : Nat) : ∀ j, 0 ≤ wP p l x i j ∧ wP p l x i j < p
  | 0 => by simp only [wP, List.range_zero, List.foldl_nil]; omega
  | j + 1 => by
    rw [wP_succ]
    split
    · exact wP_in hp l x i j
    · exact wS_bd (by omega) _ _ _ _
def wts (p : Int) (l : List Int) (x : Int) (n : Nat) : List Int := (List.range n).map (fun i => wP p l x i l.length)
theorem wts_succ (p : Int) (l : List Int) (x : Int) (n : Nat) : wts p l x (n + 1) = wts p l x n ++ [wP p l x n l.length] := by
  unfold wts
  rw [List.range_succ, List.map_append]; rfl
theorem wts_len (p : Int) (l : List Int) (x : Int) (n : Nat) : (wts p l x n).length = n := by simp [wts]
theorem wts_at {p : Int} (hp : 2 ≤ p) {l : List Int} {x : Int} {n : Nat} {q z : Int} (h : (wts p l x n)[q.toNat]? = some z) : 0 ≤ z ∧ z < p := by
  obtain ⟨i, _, rfl⟩ := List.mem_map.1 (List.mem_of_getElem? h)
  exact wP_in hp l x i _
theorem ris_lt {lo hi : Int} {l : List Int} (h : Ris lo hi l) {i : Nat} : ∀ d, i + 1 + d < l.length → l.getD i 0 < l.getD (i + 1 + d) 0
  | 0, hd => by have := (h (i + 1) hd).2.2 (by omega); simpa using this
  | d + 1, hd => by
    have h1 := ris_lt h (i := i) d (by omega)
    have h2 := (h (i + 1 + (d + 1)) hd).2.2 (by omega)
    have e : i + 1 + (d + 1) - 1 = i + 1 + d := by omega
    rw [e] at h2
    omega
theorem ris_ne {lo hi : Int} {l : List Int} (h : Ris lo hi l) {i j : Nat} (hi' : i < l.length) (hj : j < l.length) (hne : j ≠ i) : l.getD j 0 ≠ l.getD i 0 := by
  rcases Nat.lt_trichotomy i j with g | g | g
  · obtain ⟨d, rfl⟩ : ∃ d, j = i + 1 + d := ⟨j - i - 1, by omega⟩
    have := ris_lt h (i := i) d hj; omega
  · exact absurd g.symm hne
  · obtain ⟨d, rfl⟩ : ∃ d, i = j + 1 + d := ⟨i - j - 1, by omega⟩
    have := ris_lt h (i := j) d hi'; omega
theorem ris_at {lo hi : Int} {l : List Int} {q z : Int} (h : Ris lo hi l) (hz : l[q.toNat]? = some z) : lo ≤ z ∧ z ≤ hi := by
  have hi := (List.getElem?_eq_some_iff.1 hz).1
  have := h q.toNat hi
  unfold RisAt at this
  rw [List.getD_eq_getElem?_getD, hz] at this
  exact ⟨this.1, this.2.1⟩
/-! ### Shares dealt anew -/
def sumC (p : Int) (w : List Int) (L : List (List Int)) (x : Int) (j : Nat) : Int := (List.range j).foldl (fun s i => s + w.getD i 0 * val p (L.getD i []) x) 0
theorem sumC_succ (p : Int) (w : List Int) (L : List (List Int)) (x : Int) (j : Nat) : sumC p w L x (j + 1) = sumC p w L x j + w.getD j 0 * val p (L.getD j []) x := by
  unfold sumC
  rw [List.range_succ, List.foldl_append]; rfl
theorem mod_add {p a t : Int} : (a % p + t) % p = (a + t) % p := Cg.emod_eq ((Cg.mod p a).add (Cg.refl p t))
theorem mod_add2 {p a t : Int} : (a + t % p) % p = (a + t) % p := Cg.emod_eq ((Cg.refl p a).add (Cg.mod p t))
def rsh (p : Int) (l : List (Int × Int)) (L : List (List Int)) (pts : List Int) : List (Int × Int) := pts.map (fun x => (x, sumC p (wts p (l.map Prod.fst) 0 l.length) L x L.length % p))
theorem rsh_snoc {p : Int} {l : List (Int × Int)} {L : List (List Int)} {pts : List Int} {i : Nat} {z : Int} (hz : pts[(i : Int).toNat]? = some z) : rsh p l L (pts.take (i + 1)) = rsh p l L (pts.take i) ++ [(z, sumC p (wts p (l.map Prod.fst) 0 l.length) L z L.length % p)] := by
  rw [Int.toNat_natCast] at hz
  unfold rsh
  rw [List.take_add_one, hz]; simp
def fits (p : Int) (l : List (Int × Int)) (L : List (List Int)) : Prop := ∀ j, j < l.length → val p (L.getD j []) 0 = (l.getD j (0, 0)).2
noncomputable instance (p : Int) (l : List (Int × Int)) (L : List (List Int)) : Decidable (fits p l L) := Classical.propDecidable _
noncomputable def rs {α : Type} (p : Int) (l : List (Int × Int)) (L : List (List Int)) (pts : List Int) (a b c d : α) : α := if vS p l ∧ allC p L then if (L.length : Int) = l.length ∧ ptsI p pts then if fits p l L ∧ (l.length : Int) ≠ 0 then d else c else b else a
noncomputable def rsCode (p : Int) (l : List (Int × Int)) (L : List (List Int)) (pts : List Int) : Int := rs p l L pts 1 2 4 0
noncomputable def rsRow (p : Int) (l : List (Int × Int)) (L : List (List Int)) (pts : List Int) : List (Int × Int) := rs p l L pts [] [] [] (rsh p l L pts)
theorem rs1 {p : Int} {l : List (Int × Int)} {L : List (List Int)} {pts : List Int} (h : ¬ (vS p l ∧ allC p L)) : rsCode p l L pts = 1 ∧ rsRow p l L pts = [] := ⟨if_neg h, if_neg h⟩
theorem rs2 {p : Int} {l : List (Int × Int)} {L : List (List Int)} {pts : List Int} (h : vS p l ∧ allC p L) (h2 : ¬ ((L.length : Int) = l.length ∧ ptsI p pts)) : rsCode p l L pts = 2 ∧ rsRow p l L pts = [] := by
  unfold rsCode rsRow rs
  rw [if_pos h, if_neg h2, if_pos h, if_neg h2]; exact ⟨rfl, rfl⟩
theorem rs4 {p : Int} {l : List (Int × Int)} {L : List (List Int)} {pts : List Int} (h : vS p l ∧ allC p L) (h2 : (L.length : Int) = l.length ∧ ptsI p pts) (h3 : ¬ (fits p l L ∧ (l.length : Int) ≠ 0)) : rsCode p l L pts = 4 ∧ rsRow p l L pts = [] := by
  unfold rsCode rsRow rs
  rw [if_pos h, if_pos h2, if_neg h3, if_pos h, if_pos h2, if_neg h3]; exact ⟨rfl, rfl⟩
theorem rs0 {p : Int} {l : List (Int × Int)} {L : List (List Int)} {pts : List Int} (h : vS p l ∧ allC p L) (h2 : (L.length : Int) = l.length ∧ ptsI p pts) (h3 : fits p l L ∧ (l.length : Int) ≠ 0) : rsCode p l L pts = 0 ∧ rsRow p l L pts = rsh p l L pts := by
  unfold rsCode rsRow rs
  rw [if_pos h, if_pos h2, if_pos h3, if_pos h, if_pos h2, if_pos h3]; exact ⟨rfl, rfl⟩
theorem rs_len (p : Int) (l : List (Int × Int)) (L : List (List Int)) (pts : List Int) : (rsRow p l L pts).length ≤ 10 := by
  unfold rsRow rs
  split
  · split
    · rename_i h
      split
      · have := h.2.1; simp only [rsh, List.length_map]; omega
      · exact Nat.zero_le _
    · exact Nat.zero_le _
  · exact Nat.zero_le _
theorem sumC_in {p : Int} (hp : 2 ≤ p) (hp2 : p ≤ 31) (l : List Int) (n : Nat) (L : List (List Int)) (x : Int) : ∀ j : Nat, 0 ≤ sumC p (wts p l 0 n) L x j ∧ sumC p (wts p l 0 n) L x j ≤ 961 * j
  | 0 => by simp [sumC]
  | j + 1 => by
    rw [sumC_succ]
    have h1 := sumC_in hp hp2 l n L x j
    have h2 := val_in (show 0 < p by omega) (L.getD j []) x
    have h3 : 0 ≤ (wts p l 0 n).getD j 0 ∧ (wts p l 0 n).getD j 0 < p := by
      rw [List.getD_eq_getElem?_getD]
      cases e : (wts p l 0 n)[j]? with
      | none => simp only [Option.getD_none]; omega
      | some z => exact wts_at hp (q := j) (by simpa using e)
    have h4 := mul31 (a := (wts p l 0 n).getD j 0) (b := val p (L.getD j []) x) (by omega) (by omega) (by omega) (by omega)
    omega
theorem mul62 {a b : Int} (h1 : 0 ≤ a) (h2 : a ≤ 31) (h3 : 0 ≤ b) (h4 : b ≤ 62) : 0 ≤ a * b ∧ a * b ≤ 1922 := by
  have h5 := Int.mul_nonneg h1 h3
  have h6 := Int.mul_le_mul h2 h4 h3 (by decide)
  omega
set_option maxRecDepth 100000 in
theorem rest_ok (a p : Int) (hp : 2 ≤ p ∧ p ≤ 31) : ACalls Try.prog W 88 #[.int .i64 a, .int .i64 p] H (fun r H' => r = .int .i64 (a % p) ∧ Ext H H') := by
  refine ACalls.of (args := [.int .i64 a, .int .i64 p]) Try.func88 rfl rfl ?_
  have X0 := Ext.refl H
  refine AW.rs ?_
  refine AL.val rfl (.inl rfl) (HV.as rfl) ?_
  refine AL.nx ?_
  refine AW.rs ?_
  refine AL.val rfl (.inl rfl) (HV.mv rfl) ?_
  refine AL.val rfl (.inl rfl) (HV.mv rfl) ?_
  refine AL.val rfl (.inl rfl) (HV.remt rfl rfl (by omega)) ?_
  refine AL.val rfl (.inl rfl) (HV.mv rfl) ?_
  refine AL.val rfl (.inl rfl) (HV.add rfl rfl (by have := tmod_in (a := a) (show 0 < p by omega); omega)) ?_
  refine AL.val rfl (.inl rfl) (HV.mv rfl) ?_
  refine AL.val rfl (.inl rfl) (HV.rem rfl rfl (by have := tmod_in (a := a) (show 0 < p by omega); omega)) ?_
  refine AL.val rfl (.inl rfl) (HV.as rfl) ?_
  refine AL.nx ?_
  refine AW.ret ?_
  refine post_one rfl rfl ?_ (.inr rfl)
  exact ⟨congrArg (Value.int .i64) (rest_mod (by omega)), X0⟩

set_option maxRecDepth 100000 in
theorem l05Inv_ok (a p : Int) (hq : isPr p = true) (h0 : 0 ≤ a) (h1 : a < p) : ACalls Try.prog W 116 #[.int .i64 a, .int .i64 p] H (fun r H' => r = .int .i64 (invM p a) ∧ Ext H H') := by
  refine ACalls.of (args := [.int .i64 a, .int .i64 p]) Try.func116 rfl rfl ?_
  have X0 := Ext.refl H
  have hb := isPr_bd hq
  refine AW.rs ?_
  refine AL.val rfl (.inl rfl) (HV.as rfl) ?_
  refine AL.nx ?_
  refine AW.seq ?_
  refine AW.rs ?_
  refine AL.val rfl (.inl rfl) (HV.as rfl) ?_
  refine AL.nx ?_
  refine AW.block ?_
  refine AW.loop (σ := Int) (fun x => [(0, .int .i64 a), (1, .int .i64 p), (5, .int .i64 x)]) (fun x H' => Ext H H' ∧ 1 ≤ x ∧ x ≤ p ∧ (∀ y : Int, 1 ≤ y → y < x → a * y % p ≠ 1) ∧ True) (fun x => (p - x).toNat) 1 ⟨X0, by decide, by omega, fun y a b => by omega, trivial⟩ ⟨rfl, rfl, rfl, trivial⟩ ?_
  rintro x H1 ⟨X2, hx, hx2, he, _⟩
  refine AW.seq ?_
  refine AW.rs ?_
  refine AL.val rfl (.inl rfl) (HV.mv rfl) ?_
  refine AL.val rfl (.inl rfl) (HV.mv rfl) ?_
  refine AL.val rfl (.inl rfl) (HV.lti rfl rfl) ?_
  refine AL.nx ?_
  refine AW.ifd rfl (fun c3 => ?_) (fun c3 => ?_)
  · -- then
    refine AW.skip ?_
    refine nrm_and ?_
    refine AW.seq ?_
    refine AW.block ?_
    refine AW.rs ?_
    refine AL.val rfl (.inl rfl) (HV.mv rfl) ?_
    refine AL.val rfl (.inl rfl) (HV.mv rfl) ?_
    refine AL.val rfl (.inl rfl) (HV.mul rfl rfl (by have := mul31 (a := a) (b := x) (by omega) (by omega) (by omega) (by omega); omega)) ?_
    refine AL.val rfl (.inl rfl) (HV.mv rfl) ?_
    refine AL.val rfl (.inl rfl) (HV.rem rfl rfl (by have := mul31 (a := a) (b := x) (by omega) (by omega) (by omega) (by omega); omega)) ?_
    refine AL.val rfl (.inl rfl) (HV.eqi rfl rfl) ?_
    refine AL.nx ?_
    refine AW.ifd rfl (fun c4 => ?_) (fun c4 => ?_)
    · -- then
      refine AW.rs ?_
      refine AL.val rfl (.inl rfl) (HV.mv rfl) ?_
      refine AL.val rfl (.inl rfl) (HV.as rfl) ?_
      refine AL.nx ?_
      refine AW.ret ?_
      refine ret_blk (ret_and (ret_and (ret_blk (ret_and ?_))))
      refine post_one rfl rfl ?_ (.inr rfl)
      exact ⟨congrArg (Value.int .i64) (inv_at hq h0 h1 hx (by omega) c4).symm, X2⟩
    · -- else
      refine AW.skip ?_
      refine nrm_blk (nrm_and ?_)
      refine AW.reg ?_
      refine AL.val rfl (.inl rfl) (HV.mv rfl) ?_
      refine AL.val rfl (.inl rfl) (HV.add rfl rfl (by omega)) ?_
      refine AL.val rfl (.inl rfl) (HV.as rfl) ?_
      refine AL.nil ?_
      refine nrm_and ?_
      exact ⟨x + 1, ⟨X2, by omega, by omega, fun y a b => by by_cases e : y = x; (subst e; exact c4); (exact he y a (by omega)), trivial⟩, by first | omega | (dsimp only; omega), ⟨rfl, rfl, rfl, trivial⟩⟩
  · -- else
    refine AW.exit ?_
    refine ex_and (ex_and (ex_blk ?_))
    refine nrm_and ?_
    refine AW.rs ?_
    refine AL.val rfl (.inl rfl) (HV.as rfl) ?_
    refine AL.nx ?_
    refine AW.ret ?_
    refine post_one rfl rfl ?_ (.inr rfl)
    exact ⟨congrArg (Value.int .i64) (inv_none hq h0 h1 (fun y a b => he y a (by omega))).symm, X2⟩

set_option maxRecDepth 100000 in
theorem power_ok (p a n : Int) (hp : 2 ≤ p ∧ p ≤ 31) (ha : 0 ≤ a ∧ a ≤ 31) (hn : 0 ≤ n ∧ n ≤ 31) : ACalls Try.prog W 128 #[.int .i64 p, .int .i64 a, .int .i64 n] H (fun r H' => r = .int .i64 (powM p a n.toNat) ∧ Ext H H') := by
  refine ACalls.of (args := [.int .i64 p, .int .i64 a, .int .i64 n]) Try.func128 rfl rfl ?_
  have X0 := Ext.refl H
  refine AW.rs ?_
  refine AL.val rfl (.inl rfl) (HV.as rfl) ?_
  refine AL.nx ?_
  refine AW.rs ?_
  refine AL.val rfl (.inl rfl) (HV.mv rfl) ?_
  refine AL.val rfl (.inl rfl) (HV.rem rfl rfl (by omega)) ?_
  refine AL.val rfl (.inl rfl) (HV.as rfl) ?_
  refine AL.nx ?_
  refine AW.seq ?_
  refine AW.rs ?_
  refine AL.val rfl (.inl rfl) (HV.mv rfl) ?_
  refine AL.val rfl (.inl rfl) (HV.mv rfl) ?_
  refine AL.nx ?_
  refine AW.block ?_
  refine AW.loop (σ := Nat) (fun i => [(0, .int .i64 p), (1, .int .i64 a), (6, .int .i64 0), (10, .int .i64 n), (7, .int .i64 (powM p a i)), (11, .int .i64 (i : Int))]) (fun i H' => Ext H H' ∧ (i : Int) ≤ n ∧ True) (fun i => n.toNat - i) 0 ⟨X0, by omega, trivial⟩ ⟨rfl, rfl, rfl, rfl, rfl, rfl, trivial⟩ ?_
  rintro i H1 ⟨X2, hi, _⟩
  refine AW.rs ?_
  refine AL.val rfl (.inl rfl) (HV.lti rfl rfl) ?_
  refine AL.nx ?_
  refine AW.seq ?_
  refine AW.ifd rfl (fun c3 => ?_) (fun c3 => ?_)
  · -- then
    refine AW.skip ?_
    refine nrm_and ?_
    refine AW.seq ?_
    refine AW.block ?_
    refine AW.reg ?_
    refine AL.val rfl (.inl rfl) (HV.mv rfl) ?_
    refine AL.val rfl (.inl rfl) (HV.mv rfl) ?_
    refine AL.val rfl (.inl rfl) (HV.mul rfl rfl (by have q := powM_in (a := a) (show 0 < p by omega) i; have := mul31 (a := powM p a i) (b := a) (by omega) (by omega) (by omega) (by omega); omega)) ?_
    refine AL.val rfl (.inl rfl) (HV.mv rfl) ?_
    refine AL.val rfl (.inl rfl) (HV.rem rfl rfl (by have q := powM_in (a := a) (show 0 < p by omega) i; have := mul31 (a := powM p a i) (b := a) (by omega) (by omega) (by omega) (by omega); omega)) ?_
    refine AL.val rfl (.inl rfl) (HV.as rfl) ?_
    refine AL.nil ?_
    refine nrm_blk (nrm_and ?_)
    refine AW.reg ?_
    refine AL.val rfl (.inl rfl) (HV.add rfl rfl (by omega)) ?_
    refine AL.val rfl (.inl rfl) (HV.mv rfl) ?_
    refine AL.nil ?_
    refine nrm_and ?_
    exact ⟨i + 1, ⟨X2, by omega, trivial⟩, by first | omega | (dsimp only; omega), ⟨rfl, rfl, rfl, rfl, rfl, rfl, trivial⟩⟩
  · -- else
    refine AW.exit ?_
    refine ex_and (ex_and (ex_blk ?_))
    refine nrm_and ?_
    refine AW.rs ?_
    refine AL.val rfl (.inl rfl) (HV.mv rfl) ?_
    refine AL.val rfl (.inl rfl) (HV.as rfl) ?_
    refine AL.nx ?_
    refine AW.ret ?_
    refine post_one rfl rfl ?_ (.inr rfl)
    exact ⟨by have e : i = n.toNat := (by omega); rw [e], X2⟩

set_option maxRecDepth 100000 in
theorem inverse_ok (p a : Int) (hq : isPr p = true) (h1 : 1 ≤ a) (h2 : a < p) : ACalls Try.prog W 119 #[.int .i64 p, .int .i64 a] H (fun r H' => r = .int .i64 (invM p a) ∧ Ext H H') := by
  refine ACalls.of (args := [.int .i64 p, .int .i64 a]) Try.func119 rfl rfl ?_
  have X0 := Ext.refl H
  have hb := isPr_bd hq
  refine AW.rs ?_
  refine AL.val rfl (.inl rfl) (HV.as rfl) ?_
  refine AL.nx ?_
  refine AW.rs ?_
  refine AL.val rfl (.inl rfl) (HV.mv rfl) ?_
  refine AL.val rfl (.inl rfl) (HV.mv rfl) ?_
  refine AL.val rfl (.inl rfl) (HV.mv rfl) ?_
  refine AL.val rfl (.inl rfl) (HV.sub rfl rfl (by omega)) ?_
  refine AL.w rfl (.inl rfl) (WV.call fn128 rfl (power_ok (W := W) p a (p - 2) (by omega) (by omega) (by omega))) ?_
  rintro _ H1 ⟨rfl, hx2⟩
  have X3 := Ext.trans X0 hx2
  refine AL.val rfl (.inl rfl) (HV.as rfl) ?_
  refine AL.nx ?_
  refine AW.ret ?_
  refine post_one rfl rfl ?_ (.inr rfl)
  exact ⟨congrArg (Value.int .i64) (pow_inv hq h1 h2), X3⟩

set_option maxRecDepth 100000 in
theorem weights_ok {v : Value} {l : List Int} {ok : Nat → Prop} (p x : Int) (hr : RdK kI W H ok v l) (hq : isPr p = true) (hx : 0 ≤ x ∧ x ≤ p - 1) (hl : Ris 1 (p - 1) l) (hlen : l.length ≤ 10) : ACalls Try.prog W 94 #[.int .i64 p, v, .int .i64 x] H (fun r H' => Ext H H' ∧ OwnK kI 2 W H' (fun b => H.bd ≤ b) r (wts p l x l.length)) := by
  refine ACalls.of (args := [.int .i64 p, v, .int .i64 x]) Try.func94 rfl rfl ?_
  have X0 := Ext.refl H
  have hm1 := hr.max
  have hb := isPr_bd hq
  have hp : 2 ≤ p ∧ p ≤ 31 := hb
  refine AW.rs ?_
  refine AL.val rfl (.inl rfl) (HV.as rfl) ?_
  refine AL.nx ?_
  refine AW.rs ?_
  have o2 := X0.bd
  refine AL.w rfl (.inl rfl) (WV.bsK (K := kI) (l := ([] : List Int)) (css := []) sl24 rfl rfl (by first | rfl | (simp [Instr.fill, Value.cells, kI, kB, kU, kS, Kd.sc]; done) | (simp [Instr.fill, Value.cells, kI, kB, kU, kS, Kd.sc, rng1, rng2, rng3, rng4, kP])) rfl segs_nil) ?_
  rintro v3 H4 ⟨hx5, ho6⟩
  have X7 := Ext.trans X0 hx5
  refine AL.val rfl (.inl rfl) (HV.as rfl) ?_
  refine AL.nx ?_
  refine AW.seq ?_
  refine AW.rs ?_
  refine AL.val rfl (.inl rfl) (HV.mv rfl) ?_
  refine AL.val rfl (.inl rfl) (HV.len Try.underlying24 rfl hr.isSl) ?_
  refine AL.val rfl (.inl rfl) (HV.mv rfl) ?_
  refine AL.nx ?_
  refine AW.block ?_
  refine AW.loop (σ := Nat × Value × List Int) (fun ⟨i, vv, k⟩ => [(0, .int .i64 p), (1, v), (2, .int .i64 x), (6, (.slice none 0 0)), (15, v), (16, .int .i64 (l.length : Int)), (7, vv), (17, .int .i64 (i : Int))]) (fun ⟨i, vv, k⟩ H' => Ext H H' ∧ i ≤ l.length ∧ k = wts p l x i ∧ k.length = i ∧ OwnK kI 2 W H' (fun b => H.bd ≤ b) vv k ∧ True) (fun ⟨i, vv, k⟩ => l.length - i) (0, v3, (([] : List Int) : List Int)) ⟨X7, Nat.zero_le _, rfl, rfl, ho6, trivial⟩ ⟨rfl, rfl, rfl, rfl, rfl, rfl, rfl, rfl, trivial⟩ ?_
  rintro ⟨i, vv, k⟩ H9 ⟨X10, hi, hk, hk2, hoL, _⟩
  refine AW.rs ?_
  refine AL.val rfl (.inl rfl) (HV.lti rfl rfl) ?_
  refine AL.nx ?_
  refine AW.seq ?_
  refine AW.ifd rfl (fun c11 => ?_) (fun c11 => ?_)
  · -- then
    refine AW.skip ?_
    refine nrm_and ?_
    refine AW.seq ?_
    refine AW.block ?_
    refine AW.rs ?_
    refine AL.val rfl (.inl rfl) (HV.mv rfl) ?_
    obtain ⟨p12, z13, cs14, hz15, hK16, hC17, hP18⟩ := RdK.ix (q := (i : Int)) hr sl24 (by omega) (by omega)
    obtain rfl : cs14 = [.int .i64 z13] := hK16
    refine AL.val rfl (.inl rfl) (hP18 rfl rfl) ?_
    refine AL.val rfl (.inl rfl) (HV.ld rfl va2 (cells_first (hC17.ext X10) rfl)) ?_
    refine AL.val rfl (.inl rfl) (HV.as rfl) ?_
    refine AL.val rfl (.inl rfl) (HV.as rfl) ?_
    refine AL.nx ?_
    refine AW.rs ?_
    refine AL.val rfl (.inl rfl) (HV.as rfl) ?_
    refine AL.val rfl (.inl rfl) (HV.as rfl) ?_
    refine AL.nx ?_
    refine AW.seq ?_
    refine AW.rs ?_
    refine AL.val rfl (.inl rfl) (HV.mv rfl) ?_
    refine AL.val rfl (.inl rfl) (HV.len Try.underlying24 rfl hr.isSl) ?_
    refine AL.val rfl (.inl rfl) (HV.mv rfl) ?_
    refine AL.nx ?_
    refine AW.block ?_
    have hz21_ := hz15
    refine AW.loop (σ := Nat × Int × Int) (fun ⟨j, a, b⟩ => [(0, .int .i64 p), (1, v), (2, .int .i64 x), (6, (.slice none 0 0)), (7, vv), (8, .int .i64 (i : Int)), (9, .int .i64 z13), (15, v), (16, .int .i64 (l.length : Int)), (17, .int .i64 (i : Int)), (18, .bool (decide ((i : Int) < (l.length : Int)))), (19, .int .i64 (i : Int)), (20, .pointer (some p12)), (21, .int .i64 z13), (22, v), (23, .int .i64 (l.length : Int)), (10, .int .i64 a), (11, .int .i64 b), (24, .int .i64 (j : Int))]) (fun ⟨j, a, b⟩ H' => Ext H H' ∧ OwnK kI 2 W H' (fun b => H.bd ≤ b) vv k ∧ j ≤ l.length ∧ (0 ≤ a ∧ a < p) ∧ (1 ≤ b ∧ b < p) ∧ Cg p (wP p l x i j * b) a ∧ True) (fun ⟨j, a, b⟩ => l.length - j) (0, 1, 1) ⟨X10, hoL, Nat.zero_le _, by omega, by omega, Cg.refl _ _, trivial⟩ ⟨rfl, rfl, rfl, rfl, rfl, rfl, rfl, rfl, rfl, rfl, rfl, rfl, rfl, rfl, rfl, rfl, rfl, rfl, rfl, trivial⟩ ?_
    rintro ⟨j, a, b⟩ H19 ⟨X20, ho21, hj, ha, hb1, hcg, _⟩
    refine AW.rs ?_
    refine AL.val rfl (.inl rfl) (HV.lti rfl rfl) ?_
    refine AL.nx ?_
    refine AW.seq ?_
    refine AW.ifd rfl (fun c22 => ?_) (fun c22 => ?_)
    · -- then
      refine AW.skip ?_
      refine nrm_and ?_
      refine AW.seq ?_
      refine AW.block ?_
      refine AW.rs ?_
      refine AL.val rfl (.inl rfl) (HV.mv rfl) ?_
      obtain ⟨p23, z24, cs25, hz26, hK27, hC28, hP29⟩ := RdK.ix (q := (j : Int)) hr sl24 (by omega) (by omega)
      obtain rfl : cs25 = [.int .i64 z24] := hK27
      refine AL.val rfl (.inl rfl) (hP29 rfl rfl) ?_
      refine AL.val rfl (.inl rfl) (HV.ld rfl va2 (cells_first (hC28.ext X20) rfl)) ?_
      refine AL.val rfl (.inl rfl) (HV.as rfl) ?_
      refine AL.val rfl (.inl rfl) (HV.as rfl) ?_
      refine AL.nx ?_
      refine AW.rs ?_
      refine AL.val rfl (.inl rfl) (HV.mv rfl) ?_
      refine AL.val rfl (.inl rfl) (HV.mv rfl) ?_
      refine AL.val rfl (.inl rfl) (HV.nei rfl rfl) ?_
      refine AL.nx ?_
      refine AW.ifd rfl (fun c30 => ?_) (fun c30 => ?_)
      · -- then
        refine AW.rs ?_
        refine AL.val rfl (.inl rfl) (HV.mv rfl) ?_
        refine AL.val rfl (.inl rfl) (HV.mv rfl) ?_
        refine AL.val rfl (.inl rfl) (HV.mv rfl) ?_
        refine AL.val rfl (.inl rfl) (HV.sub rfl rfl (by have y28 := ris_at hl hz26; have y21 := ris_at hl hz21_; omega)) ?_
        refine AL.val rfl (.inl rfl) (HV.mv rfl) ?_
        refine AL.val rfl (.inl rfl) (HV.add rfl rfl (by have y28 := ris_at hl hz26; have y21 := ris_at hl hz21_; omega)) ?_
        refine AL.val rfl (.inl rfl) (HV.mul rfl rfl (by have y28 := ris_at hl hz26; have y21 := ris_at hl hz21_; have q := mul62 (a := a) (b := (x - z24) + p) (by omega) (by omega) (by omega) (by omega); omega)) ?_
        refine AL.val rfl (.inl rfl) (HV.mv rfl) ?_
        refine AL.val rfl (.inl rfl) (HV.rem rfl rfl (by have y28 := ris_at hl hz26; have y21 := ris_at hl hz21_; have q := mul62 (a := a) (b := (x - z24) + p) (by omega) (by omega) (by omega) (by omega); omega)) ?_
        refine AL.val rfl (.inl rfl) (HV.as rfl) ?_
        refine AL.nx ?_
        refine AW.reg ?_
        refine AL.val rfl (.inl rfl) (HV.mv rfl) ?_
        refine AL.val rfl (.inl rfl) (HV.mv rfl) ?_
        refine AL.val rfl (.inl rfl) (HV.mv rfl) ?_
        refine AL.val rfl (.inl rfl) (HV.sub rfl rfl (by have y28 := ris_at hl hz26; have y21 := ris_at hl hz21_; omega)) ?_
        refine AL.val rfl (.inl rfl) (HV.mv rfl) ?_
        refine AL.val rfl (.inl rfl) (HV.add rfl rfl (by have y28 := ris_at hl hz26; have y21 := ris_at hl hz21_; omega)) ?_
        refine AL.val rfl (.inl rfl) (HV.mul rfl rfl (by have y28 := ris_at hl hz26; have y21 := ris_at hl hz21_; have q := mul62 (a := b) (b := (z13 - z24) + p) (by omega) (by omega) (by omega) (by omega); omega)) ?_
        refine AL.val rfl (.inl rfl) (HV.mv rfl) ?_
        refine AL.val rfl (.inl rfl) (HV.rem rfl rfl (by have y28 := ris_at hl hz26; have y21 := ris_at hl hz21_; have q := mul62 (a := b) (b := (z13 - z24) + p) (by omega) (by omega) (by omega) (by omega); omega)) ?_
        refine AL.val rfl (.inl rfl) (HV.as rfl) ?_
        refine AL.nil ?_
        refine nrm_blk (nrm_and ?_)
        refine AW.reg ?_
        refine AL.val rfl (.inl rfl) (HV.add rfl rfl (by omega)) ?_
        refine AL.val rfl (.inl rfl) (HV.mv rfl) ?_
        refine AL.nil ?_
        refine nrm_and ?_
        have hji : j ≠ i := by omega
        have g28_ := (gd hz26 rfl : l.getD j 0 = z24)
        have y28 := ris_at hl hz26
        have y21 := ris_at hl hz21_
        have hne := ris_ne hl (show i < l.length by omega) (show j < l.length by omega) hji
        rw [g28_, gd hz21_ rfl] at hne
        have hst := wS_step (x := x) hq ⟨y21.1, y21.2⟩ ⟨y28.1, y28.2⟩ hne hb1 hcg
        exact ⟨(j + 1, (a * ((x - z24) + p)) % p, (b * ((z13 - z24) + p)) % p), ⟨X20, ho21, by omega, emod_bd (by omega) _, hst.2, by rw [wP_succ, if_neg hji, g28_, gd hz21_ rfl]; exact hst.1, trivial⟩, by first | omega | (dsimp only; omega), ⟨rfl, rfl, rfl, rfl, rfl, rfl, rfl, rfl, rfl, rfl, rfl, rfl, rfl, rfl, rfl, rfl, rfl, rfl, rfl, trivial⟩⟩
      · -- else
        refine AW.skip ?_
        refine nrm_blk (nrm_and ?_)
        refine AW.reg ?_
        refine AL.val rfl (.inl rfl) (HV.add rfl rfl (by omega)) ?_
        refine AL.val rfl (.inl rfl) (HV.mv rfl) ?_
        refine AL.nil ?_
        refine nrm_and ?_
        exact ⟨(j + 1, a, b), ⟨X20, ho21, by omega, ha, hb1, by rw [wP_succ, if_pos (by omega)]; exact hcg, trivial⟩, by first | omega | (dsimp only; omega), ⟨rfl, rfl, rfl, rfl, rfl, rfl, rfl, rfl, rfl, rfl, rfl, rfl, rfl, rfl, rfl, rfl, rfl, rfl, rfl, trivial⟩⟩
    · -- else
      refine AW.exit ?_
      refine ex_and (ex_and (ex_blk ?_))
      refine nrm_and ?_
      refine AW.reg ?_
      refine AL.val rfl (.inl rfl) (HV.mv rfl) ?_
      refine AL.val rfl (.inl rfl) (HV.mv rfl) ?_
      refine AL.val rfl (.inl rfl) (HV.mv rfl) ?_
      refine AL.val rfl (.inl rfl) (HV.mv rfl) ?_
      refine AL.w rfl (.inl rfl) (WV.call fn119 rfl (inverse_ok (W := W) p b hq (by omega) (by omega))) ?_
      rintro _ H31 ⟨rfl, hx32⟩
      have X33 := Ext.trans X20 hx32
      have ho34 := ho21.ext hx32
      refine AL.val rfl (.inl rfl) (HV.mul rfl rfl (by have q := inv_in hq (show 0 ≤ b by omega) hb1.2; have := mul31 (a := a) (b := invM p b) (by omega) (by omega) (by omega) (by omega); omega)) ?_
      refine AL.val rfl (.inl rfl) (HV.mv rfl) ?_
      refine AL.val rfl (.inl rfl) (HV.rem rfl rfl (by have q := inv_in hq (show 0 ≤ b by omega) hb1.2; have := mul31 (a := a) (b := invM p b) (by omega) (by omega) (by omega) (by omega); omega)) ?_
      have X35 := Ext.refl H31
      have o36 := X33.bd
      have o37 := X35.bd
      have a38 := ho34.ltb
      refine AL.w rfl (.inl rfl) (WV.bsK (K := kI) (l := ([(a * (invM p b)) % p] : List Int)) (css := [[.int .i64 ((a * (invM p b)) % p)]]) sl24 rfl rfl (by first | rfl | (simp [Instr.fill, Value.cells, kI, kB, kU, kS, Kd.sc]; done) | (simp [Instr.fill, Value.cells, kI, kB, kU, kS, Kd.sc, rng1, rng2, rng3, rng4, kP])) rfl (segs_cons rfl segs_nil)) ?_
      rintro v39 H40 ⟨hx41, ho42⟩
      have X43 := Ext.trans X33 hx41
      have X44 := Ext.trans X35 hx41
      have ho45 := ho34.ext hx41
      have X47 := Ext.refl H40
      refine AL.w rfl (.inl rfl) (WV.apk sl24 rfl rfl ho45 ho42.rd (by simp; omega) (by simp; omega) (fun b hb _ e => Nat.lt_irrefl _ (Nat.lt_of_lt_of_le (a38 b e) hb))) ?_
      rintro v48 H49 ⟨hx50, ho51, hb52⟩
      have ho53 := ho51.narrow (ok' := fun b => H.bd ≤ b) kI_flat (fun b q => (hb52 b q).elim (fun e => (ho45.blk b e).1) (fun e => Nat.le_trans X43.bd e))
      have X54 := Ext.thru X43 hx50 (fun b hb => Nat.le_trans o2 (ho45.blk b hb).1)
      refine AL.val rfl (.inl rfl) (HV.as rfl) ?_
      refine AL.nil ?_
      refine nrm_blk (nrm_and ?_)
      refine AW.reg ?_
      refine AL.val rfl (.inl rfl) (HV.add rfl rfl (by omega)) ?_
      refine AL.val rfl (.inl rfl) (HV.mv rfl) ?_
      refine AL.nil ?_
      refine nrm_and ?_
      exact ⟨(i + 1, v48, (k ++ (([(a * (invM p b)) % p] : List Int) : List Int))), ⟨X54, by omega, by have hj2 : j = l.length := (by omega); subst hj2; rw [wts_succ, hk]; exact congrArg (fun z => wts p l x i ++ [z]) (wS_end hq hb1 (wP_in (by omega) l x i _) hcg), by simp [hk2], ho53, trivial⟩, by first | omega | (dsimp only; omega), ⟨rfl, rfl, rfl, rfl, rfl, rfl, rfl, rfl, trivial⟩⟩
  · -- else
    refine AW.exit ?_
    refine ex_and (ex_and (ex_blk ?_))
    refine nrm_and ?_
    refine AW.rs ?_
    refine AL.val rfl (.inl rfl) (HV.mv rfl) ?_
    refine AL.val rfl (.inl rfl) (HV.as rfl) ?_
    refine AL.nx ?_
    refine AW.ret ?_
    refine post_one rfl rfl ?_ (.inr rfl)
    exact ⟨X10, by obtain rfl : i = l.length := (by omega); subst hk; exact hoL.okk (fun b hb _ => Nat.le_trans o2 hb)⟩

set_option maxRecDepth 100000 in
theorem l05Wts_ok {v : Value} {l : List Int} {ok : Nat → Prop} (p x : Int) (hr : RdK kI W H ok v l) (hq : isPr p = true) (hx : 0 ≤ x ∧ x ≤ p - 1) (hl : Ris 1 (p - 1) l) (hlen : l.length ≤ 10) : ACalls Try.prog W 87 #[.int .i64 p, v, .int .i64 x] H (fun r H' => Ext H H' ∧ OwnK kI 2 W H' (fun b => H.bd ≤ b) r (wts p l x l.length)) := by
  refine ACalls.of (args := [.int .i64 p, v, .int .i64 x]) Try.func87 rfl rfl ?_
  have X0 := Ext.refl H
  have hm1 := hr.max
  have hb := isPr_bd hq
  have hp : 2 ≤ p ∧ p ≤ 31 := hb
  refine AW.rs ?_
  refine AL.val rfl (.inl rfl) (HV.as rfl) ?_
  refine AL.nx ?_
  refine AW.rs ?_
  have o2 := X0.bd
  refine AL.w rfl (.inl rfl) (WV.bsK (K := kI) (l := ([] : List Int)) (css := []) sl24 rfl rfl (by first | rfl | (simp [Instr.fill, Value.cells, kI, kB, kU, kS, Kd.sc]; done) | (simp [Instr.fill, Value.cells, kI, kB, kU, kS, Kd.sc, rng1, rng2, rng3, rng4, kP])) rfl segs_nil) ?_
  rintro v3 H4 ⟨hx5, ho6⟩
  have X7 := Ext.trans X0 hx5
  refine AL.val rfl (.inl rfl) (HV.as rfl) ?_
  refine AL.nx ?_
  refine AW.seq ?_
  refine AW.rs ?_
  refine AL.val rfl (.inl rfl) (HV.as rfl) ?_
  refine AL.nx ?_
  refine AW.block ?_
  refine AW.loop (σ := Nat × Value × List Int) (fun ⟨i, vv, k⟩ => [(0, .int .i64 p), (1, v), (2, .int .i64 x), (6, (.slice none 0 0)), (7, vv), (8, .int .i64 (i : Int))]) (fun ⟨i, vv, k⟩ H' => Ext H H' ∧ i ≤ l.length ∧ k = wts p l x i ∧ k.length = i ∧ OwnK kI 2 W H' (fun b => H.bd ≤ b) vv k ∧ True) (fun ⟨i, vv, k⟩ => l.length - i) (0, v3, (([] : List Int) : List Int)) ⟨X7, Nat.zero_le _, rfl, rfl, ho6, trivial⟩ ⟨rfl, rfl, rfl, rfl, rfl, rfl, trivial⟩ ?_
  rintro ⟨i, vv, k⟩ H9 ⟨X10, hi, hk, hk2, hoL, _⟩
  refine AW.seq ?_
  refine AW.rs ?_
  refine AL.val rfl (.inl rfl) (HV.mv rfl) ?_
  refine AL.val rfl (.inl rfl) (HV.mv rfl) ?_
  refine AL.val rfl (.inl rfl) (HV.len Try.underlying24 rfl hr.isSl) ?_
  refine AL.val rfl (.inl rfl) (HV.lti rfl rfl) ?_
  refine AL.nx ?_
  refine AW.ifd rfl (fun c11 => ?_) (fun c11 => ?_)
  · -- then
    refine AW.skip ?_
    refine nrm_and ?_
    refine AW.seq ?_
    refine AW.block ?_
    refine AW.rs ?_
    refine AL.val rfl (.inl rfl) (HV.as rfl) ?_
    refine AL.nx ?_
    refine AW.seq ?_
    refine AW.rs ?_
    refine AL.val rfl (.inl rfl) (HV.as rfl) ?_
    refine AL.nx ?_
    refine AW.block ?_
    refine AW.loop (σ := Nat × Int) (fun ⟨j, w⟩ => [(0, .int .i64 p), (1, v), (2, .int .i64 x), (6, (.slice none 0 0)), (7, vv), (8, .int .i64 (i : Int)), (12, .int .i64 (i : Int)), (13, v), (14, .int .i64 (l.length : Int)), (15, .bool (decide ((i : Int) < (l.length : Int)))), (9, .int .i64 w), (10, .int .i64 (j : Int))]) (fun ⟨j, w⟩ H' => Ext H H' ∧ OwnK kI 2 W H' (fun b => H.bd ≤ b) vv k ∧ j ≤ l.length ∧ w = wP p l x i j ∧ True) (fun ⟨j, w⟩ => l.length - j) (0, 1) ⟨X10, hoL, Nat.zero_le _, rfl, trivial⟩ ⟨rfl, rfl, rfl, rfl, rfl, rfl, rfl, rfl, rfl, rfl, rfl, rfl, trivial⟩ ?_
    rintro ⟨j, w⟩ H12 ⟨X13, ho14, hj, hw, _⟩
    refine AW.seq ?_
    refine AW.rs ?_
    refine AL.val rfl (.inl rfl) (HV.mv rfl) ?_
    refine AL.val rfl (.inl rfl) (HV.mv rfl) ?_
    refine AL.val rfl (.inl rfl) (HV.len Try.underlying24 rfl hr.isSl) ?_
    refine AL.val rfl (.inl rfl) (HV.lti rfl rfl) ?_
    refine AL.nx ?_
    refine AW.ifd rfl (fun c15 => ?_) (fun c15 => ?_)
    · -- then
      refine AW.skip ?_
      refine nrm_and ?_
      refine AW.seq ?_
      refine AW.block ?_
      refine AW.rs ?_
      refine AL.val rfl (.inl rfl) (HV.mv rfl) ?_
      refine AL.val rfl (.inl rfl) (HV.mv rfl) ?_
      refine AL.val rfl (.inl rfl) (HV.nei rfl rfl) ?_
      refine AL.nx ?_
      refine AW.ifd rfl (fun c16 => ?_) (fun c16 => ?_)
      · -- then
        refine AW.rs ?_
        refine AL.val rfl (.inl rfl) (HV.mv rfl) ?_
        refine AL.val rfl (.inl rfl) (HV.mv rfl) ?_
        refine AL.val rfl (.inl rfl) (HV.mv rfl) ?_
        refine AL.val rfl (.inl rfl) (HV.mv rfl) ?_
        obtain ⟨p17, z18, cs19, hz20, hK21, hC22, hP23⟩ := RdK.ix (q := (j : Int)) hr sl24 (by omega) (by omega)
        obtain rfl : cs19 = [.int .i64 z18] := hK21
        refine AL.val rfl (.inl rfl) (hP23 rfl rfl) ?_
        refine AL.val rfl (.inl rfl) (HV.ld rfl va2 (cells_first (hC22.ext X13) rfl)) ?_
        refine AL.val rfl (.inl rfl) (HV.sub rfl rfl (by have y32 := ris_at hl hz20; omega)) ?_
        refine AL.val rfl (.inl rfl) (HV.mv rfl) ?_
        refine AL.w rfl (.inl rfl) (WV.call fn88 rfl (rest_ok (W := W) (x - z18) p hp)) ?_
        rintro _ H24 ⟨rfl, hx25⟩
        have X26 := Ext.trans X13 hx25
        have ho27 := ho14.ext hx25
        refine AL.val rfl (.inl rfl) (HV.mul rfl rfl (by have y32 := ris_at hl hz20; have q := wP_in (show 2 ≤ p by omega) l x i j; have q1 := emod_bd (show 0 < p by omega) (x - z18); have q2 := mul31 (a := w) (b := (x - z18) % p) (by omega) (by omega) (by omega) (by omega); omega)) ?_
        refine AL.val rfl (.inl rfl) (HV.mv rfl) ?_
        refine AL.val rfl (.inl rfl) (HV.rem rfl rfl (by have y32 := ris_at hl hz20; have q := wP_in (show 2 ≤ p by omega) l x i j; have q1 := emod_bd (show 0 < p by omega) (x - z18); have q2 := mul31 (a := w) (b := (x - z18) % p) (by omega) (by omega) (by omega) (by omega); omega)) ?_
        refine AL.val rfl (.inl rfl) (HV.as rfl) ?_
        refine AL.nx ?_
        refine AW.draw' [0, 0, 0, 6, 14, 0, 0, 96, 224, 510, 0, 2046, 0, 8190, 16383, 0, 65535, 131071] mixed (by rfl) ?_
        refine Dr.read 0 _ 39 _ rfl rfl rfl rfl rfl (RV.of (by intro _ _ h; cases h) (.inl rfl) (fun _ xd => HV.mv rfl)) ?_
        refine Dr.read 1 _ 40 _ rfl rfl rfl rfl rfl (RV.of (by intro _ _ h; cases h) (.inl rfl) (fun _ xd => HV.mv rfl)) ?_
        refine Dr.read 2 _ 41 _ rfl rfl rfl rfl rfl (RV.of (by intro _ _ h; cases h) (.inl rfl) (fun _ xd => HV.mv rfl)) ?_
        obtain ⟨p28, z29, cs30, hz31, hK32, hC33, hP34⟩ := RdK.ix (q := (i : Int)) hr sl24 (by omega) (by omega)
        obtain rfl : cs30 = [.int .i64 z29] := hK32
        refine Dr.read 3 _ 42 _ rfl rfl rfl rfl rfl (RV.of (by intro _ _ h; cases h) (.inl rfl) (fun _ xd => hP34 rfl rfl)) ?_
        refine Dr.read 4 _ 43 _ rfl rfl rfl rfl rfl (RV.of (by intro _ _ h; cases h) (.inl rfl) (fun _ xd => HV.ld rfl va2 (rdc_ext xd (cells_first (hC33.ext X26) rfl)))) ?_
        refine Dr.read 5 _ 44 _ rfl rfl rfl rfl rfl (RV.of (by intro _ _ h; cases h) (.inl rfl) (fun _ xd => HV.mv rfl)) ?_
        refine Dr.read 6 _ 45 _ rfl rfl rfl rfl rfl (RV.of (by intro _ _ h; cases h) (.inl rfl) (fun _ xd => HV.mv rfl)) ?_
        obtain ⟨p35, z36, cs37, hz38, hK39, hC40, hP41⟩ := RdK.ix (q := (j : Int)) hr sl24 (by omega) (by omega)
        obtain rfl : cs37 = [.int .i64 z36] := hK39
        refine Dr.read 7 _ 46 _ rfl rfl rfl rfl rfl (RV.of (by intro _ _ h; cases h) (.inl rfl) (fun _ xd => hP41 rfl rfl)) ?_
        refine Dr.read 8 _ 47 _ rfl rfl rfl rfl rfl (RV.of (by intro _ _ h; cases h) (.inl rfl) (fun _ xd => HV.ld rfl va2 (rdc_ext xd (cells_first (hC40.ext X26) rfl)))) ?_
        refine Dr.read 9 _ 48 _ rfl rfl rfl rfl rfl (RV.of (by intro _ _ h; cases h) (.inl rfl) (fun _ xd => HV.sub rfl rfl (by have y43 := ris_at hl hz31; have y47 := ris_at hl hz38; omega))) ?_
        refine Dr.read 10 _ 49 _ rfl rfl rfl rfl rfl (RV.of (by intro _ _ h; cases h) (.inl rfl) (fun _ xd => HV.mv rfl)) ?_
        refine Dr.read 12 _ 51 _ rfl rfl rfl rfl rfl (RV.of (by intro _ _ h; cases h) (.inl rfl) (fun _ xd => HV.mv rfl)) ?_
        refine Dr.read 15 _ 54 _ rfl rfl rfl rfl rfl (RV.of (by intro _ _ h; cases h) (.inl rfl) (fun _ xd => HV.mv rfl)) ?_
        refine Dr.eff 11 _ _ rfl (by intro d h; cases h; exact ⟨rfl, rfl⟩) rfl rfl rfl (EC.of (by intro _ _ h; cases h) (.inl rfl) (WV.call fn88 rfl (rest_ok (W := W) (z29 - z36) p hp))) (fun v H' h => .inl (h.2)) ?_
        rintro _ H42 ⟨rfl, hx43⟩
        have X44 := Ext.trans X26 hx43
        have ho45 := ho27.ext hx43
        refine Dr.eff 13 _ _ rfl (by intro d h; cases h; exact ⟨rfl, rfl⟩) rfl rfl rfl (EC.of (by intro _ _ h; cases h) (.inl rfl) (WV.call fn116 rfl (l05Inv_ok (W := W) ((z29 - z36) % p) p hq (emod_bd (by omega) _).1 (emod_bd (by omega) _).2))) (fun v H' h => .inl (h.2)) ?_
        rintro _ H46 ⟨rfl, hx47⟩
        have X48 := Ext.trans X44 hx47
        have ho49 := ho45.ext hx47
        refine Dr.read 14 _ 53 _ rfl rfl rfl rfl rfl (RV.of (by intro _ _ h; cases h) (.inl rfl) (fun _ xd => HV.mul rfl rfl (by have q3 := emod_bd (show 0 < p by omega) (w * ((x - z18) % p)); have q4 := emod_bd (show 0 < p by omega) (z29 - z36); have q5 := inv_in hq q4.1 q4.2; have q6 := mul31 (a := w * ((x - z18) % p) % p) (b := invM p ((z29 - z36) % p)) (by omega) (by omega) (by omega) (by omega); omega))) ?_
        refine Dr.read 16 _ 55 _ rfl rfl rfl rfl rfl (RV.of (by intro _ _ h; cases h) (.inl rfl) (fun _ xd => HV.rem rfl rfl (by have q3 := emod_bd (show 0 < p by omega) (w * ((x - z18) % p)); have q4 := emod_bd (show 0 < p by omega) (z29 - z36); have q5 := inv_in hq q4.1 q4.2; have q6 := mul31 (a := w * ((x - z18) % p) % p) (b := invM p ((z29 - z36) % p)) (by omega) (by omega) (by omega) (by omega); omega))) ?_
        refine Dr.eff 17 _ _ rfl (by intro d h; cases h; exact ⟨rfl, rfl⟩) rfl rfl rfl (EC.of (by intro _ _ h; cases h) (.inl rfl) (WV.ofHV (HV.as rfl))) (fun v H' h => .inl (h.2 ▸ Ext.refl _)) ?_
        rintro u_ h_ ⟨e1_, e2_⟩
        rw [e1_, e2_]
        clear e1_ e2_ u_ h_
        refine Dr.fin rfl ?_
        refine nrm_blk (nrm_and ?_)
        refine AW.reg ?_
        refine AL.val rfl (.inl rfl) (HV.mv rfl) ?_
        refine AL.val rfl (.inl rfl) (HV.add rfl rfl (by omega)) ?_
        refine AL.val rfl (.inl rfl) (HV.as rfl) ?_
        refine AL.nil ?_
        refine nrm_and ?_
        exact ⟨(j + 1, (((w * ((x - z18) % p)) % p) * (invM p ((z29 - z36) % p))) % p), ⟨X48, ho49, by omega, by rw [wP_succ, if_neg (by omega), (gd hz31 rfl : l.getD i 0 = z29), (gd hz20 rfl : l.getD j 0 = z18), ← hw, show z18 = z36 from same_at hz38 hz20]; rfl, trivial⟩, by first | omega | (dsimp only; omega), ⟨rfl, rfl, rfl, rfl, rfl, rfl, rfl, rfl, rfl, rfl, rfl, rfl, trivial⟩⟩
      · -- else
        refine AW.skip ?_
        refine nrm_blk (nrm_and ?_)
        refine AW.reg ?_
        refine AL.val rfl (.inl rfl) (HV.mv rfl) ?_
        refine AL.val rfl (.inl rfl) (HV.add rfl rfl (by omega)) ?_
        refine AL.val rfl (.inl rfl) (HV.as rfl) ?_
        refine AL.nil ?_
        refine nrm_and ?_
        exact ⟨(j + 1, w), ⟨X13, ho14, by omega, by rw [wP_succ, if_pos (by omega)]; exact hw, trivial⟩, by first | omega | (dsimp only; omega), ⟨rfl, rfl, rfl, rfl, rfl, rfl, rfl, rfl, rfl, rfl, rfl, rfl, trivial⟩⟩
    · -- else
      refine AW.exit ?_
      refine ex_and (ex_and (ex_blk ?_))
      refine nrm_and ?_
      refine AW.reg ?_
      refine AL.val rfl (.inl rfl) (HV.mv rfl) ?_
      refine AL.val rfl (.inl rfl) (HV.mv rfl) ?_
      have X50 := Ext.refl H12
      have o51 := X13.bd
      have o52 := X50.bd
      have a53 := ho14.ltb
      refine AL.w rfl (.inl rfl) (WV.bsK (K := kI) (l := ([w] : List Int)) (css := [[.int .i64 w]]) sl24 rfl rfl (by first | rfl | (simp [Instr.fill, Value.cells, kI, kB, kU, kS, Kd.sc]; done) | (simp [Instr.fill, Value.cells, kI, kB, kU, kS, Kd.sc, rng1, rng2, rng3, rng4, kP])) rfl (segs_cons rfl segs_nil)) ?_
      rintro v54 H55 ⟨hx56, ho57⟩
      have X58 := Ext.trans X13 hx56
      have X59 := Ext.trans X50 hx56
      have ho60 := ho14.ext hx56
      have X62 := Ext.refl H55
      refine AL.w rfl (.inl rfl) (WV.apk sl24 rfl rfl ho60 ho57.rd (by simp; omega) (by simp; omega) (fun b hb _ e => Nat.lt_irrefl _ (Nat.lt_of_lt_of_le (a53 b e) hb))) ?_
      rintro v63 H64 ⟨hx65, ho66, hb67⟩
      have ho68 := ho66.narrow (ok' := fun b => H.bd ≤ b) kI_flat (fun b q => (hb67 b q).elim (fun e => (ho60.blk b e).1) (fun e => Nat.le_trans X58.bd e))
      have X69 := Ext.thru X58 hx65 (fun b hb => Nat.le_trans o2 (ho60.blk b hb).1)
      refine AL.val rfl (.inl rfl) (HV.as rfl) ?_
      refine AL.nil ?_
      refine nrm_blk (nrm_and ?_)
      refine AW.reg ?_
      refine AL.val rfl (.inl rfl) (HV.mv rfl) ?_
      refine AL.val rfl (.inl rfl) (HV.add rfl rfl (by omega)) ?_
      refine AL.val rfl (.inl rfl) (HV.as rfl) ?_
      refine AL.nil ?_
      refine nrm_and ?_
      exact ⟨(i + 1, v63, (k ++ (([w] : List Int) : List Int))), ⟨X69, by omega, by have hj2 : j = l.length := (by omega); subst hj2; rw [wts_succ, hk]; exact congrArg (fun z => wts p l x i ++ [z]) (hw), by simp [hk2], ho68, trivial⟩, by first | omega | (dsimp only; omega), ⟨rfl, rfl, rfl, rfl, rfl, rfl, trivial⟩⟩
  · -- else
    refine AW.exit ?_
    refine ex_and (ex_and (ex_blk ?_))
    refine nrm_and ?_
    refine AW.rs ?_
    refine AL.val rfl (.inl rfl) (HV.mv rfl) ?_
    refine AL.val rfl (.inl rfl) (HV.as rfl) ?_
    refine AL.nx ?_
    refine AW.ret ?_
    refine post_one rfl rfl ?_ (.inr rfl)
    exact ⟨X10, by obtain rfl : i = l.length := (by omega); subst hk; exact hoL.okk (fun b hb _ => Nat.le_trans o2 hb)⟩

set_option maxRecDepth 100000 in
theorem specRs_ok {v vm vp : Value} {l : List (Int × Int)} {m : List (List Int)} {pts : List Int} {ok ok2 ok3 : Nat → Prop} (p : Int) (hr : RdK (kP kI kI) W H ok v l) (hr2 : RdK (kR kI) W H ok2 vm m) (hr3 : RdK kI W H ok3 vp pts) (hl : l.length ≤ 1048576) : ACalls Try.prog W 38 #[.int .i64 p, v, vm, vp] H (fun r H' => (∃ v k, r = .tuple #[v, .int .i64 (rsCode p l m pts)] ∧ k = rsRow p l m pts ∧ OwnK (kP kI kI) 68 W H' (fun b => H.bd ≤ b) v k) ∧ Ext H H') := by
  refine ACalls.of (args := [.int .i64 p, v, vm, vp]) Try.func38 rfl rfl ?_
  have X0 := Ext.refl H
  have hm1 := hr.max
  have hm2 := hr2.max
  have hm3 := hr3.max
  refine AW.rs ?_
  refine AL.val rfl (.inl rfl) (HV.as rfl) ?_
  refine AL.val rfl (.inl rfl) (HV.as rfl) ?_
  refine AL.nx ?_
  refine AW.seq ?_
  refine AW.rs ?_
  refine AL.val rfl (.inl rfl) (HV.mv rfl) ?_
  refine AL.val rfl (.inl rfl) (HV.mv rfl) ?_
  refine AL.w rfl (.inl rfl) (WV.call fn67 rfl (specVS_ok hr p hl)) ?_
  rintro _ H4 ⟨rfl, hx5⟩
  have X6 := Ext.trans X0 hx5
  refine AL.val rfl (.inl rfl) (HV.not rfl) ?_
  refine AL.val rfl (.inl rfl) (HV.mv rfl) ?_
  by_cases c7 : vS p l
  · -- false
    have c7_ : (!decide (vS p l)) = false := by rw [decide_eq_true c7]; rfl
    rw [c7_]
    refine AL.val rfl (.inr ⟨_, _, _, rfl, rfl, rfl⟩) (HV.mv rfl) ?_
    refine AL.val rfl (.inr ⟨_, _, _, rfl, rfl, rfl⟩) (HV.mv rfl) ?_
    refine AL.w rfl (.inr ⟨_, _, _, rfl, rfl, rfl⟩) (WV.call fn79 rfl (l05All_ok (hr2.ext X6) (by assumption : vS p l).1.1)) ?_
    rintro _ H8 ⟨rfl, hx9⟩
    have X10 := Ext.trans X6 hx9
    refine AL.val rfl (.inr ⟨_, _, _, rfl, rfl, rfl⟩) (HV.not rfl) ?_
    refine AL.val rfl (.inl rfl) (HV.pickF rfl rfl) ?_
    refine AL.nx ?_
    refine AW.ifn rfl (fun c11 => ?_) (fun c11 => ?_)
    · -- then
      refine AW.rs ?_
      have X12 := Ext.refl H8
      have o13 := X10.bd
      have o14 := X12.bd
      refine AL.w rfl (.inl rfl) (WV.bsK (K := (kP kI kI)) (l := ([] : List (Int × Int))) (css := []) sl27 rfl rfl (by first | rfl | (simp [Instr.fill, Value.cells, kI, kB, kU, kS, Kd.sc]; done) | (simp [Instr.fill, Value.cells, kI, kB, kU, kS, Kd.sc, rng1, rng2, rng3, rng4, kP])) rfl segs_nil) ?_
      rintro v15 H16 ⟨hx17, ho18⟩
      have X19 := Ext.trans X10 hx17
      have X20 := Ext.trans X12 hx17
      refine AL.val rfl (.inl rfl) (HV.as rfl) ?_
      refine AL.val rfl (.inl rfl) (HV.as rfl) ?_
      refine AL.nx ?_
      refine AW.ret ?_
      refine ret_and ?_
      refine post_two rfl rfl rfl ?_ (.inr rfl)
      have hq := rs1 (p := p) (l := l) (L := m) (pts := pts) (fun h => by first | exact c11 h.1 | exact c11 h.2 | exact c11 (fun j hj => ⟨h.1.1, h.2 j hj⟩)); exact ⟨⟨_, [], by rw [hq.1], hq.2.symm, ho18.okk (fun b hb _ => Nat.le_trans o13 hb)⟩, X19⟩
    · -- else
      refine AW.skip ?_
      refine nrm_and ?_
      refine AW.seq ?_
      refine AW.rs ?_
      refine AL.val rfl (.inl rfl) (HV.mv rfl) ?_
      refine AL.val rfl (.inl rfl) (HV.len Try.underlying36 rfl hr2.isSl) ?_
      refine AL.val rfl (.inl rfl) (HV.mv rfl) ?_
      refine AL.val rfl (.inl rfl) (HV.len Try.underlying27 rfl hr.isSl) ?_
      refine AL.val rfl (.inl rfl) (HV.nei rfl rfl) ?_
      refine AL.val rfl (.inl rfl) (HV.mv rfl) ?_
      by_cases c22 : (m.length : Int) ≠ (l.length : Int)
      · -- true
        have c22_ : decide ((m.length : Int) ≠ (l.length : Int)) = true := decide_eq_true c22
        rw [c22_]
        refine AL.off rfl rfl (by decide) rfl ?_
        refine AL.off rfl rfl (by decide) rfl ?_
        refine AL.off rfl rfl (by decide) rfl ?_
        refine AL.off rfl rfl (by decide) rfl ?_
        refine AL.val rfl (.inl rfl) (HV.pickT rfl rfl) ?_
        refine AL.nx ?_
        refine AW.cond rfl (fun _ => ?_) (fun h => by cases h)
        refine AW.rs ?_
        have X24 := Ext.refl H8
        have o25 := X10.bd
        have o26 := X24.bd
        refine AL.w rfl (.inl rfl) (WV.bsK (K := (kP kI kI)) (l := ([] : List (Int × Int))) (css := []) sl27 rfl rfl (by first | rfl | (simp [Instr.fill, Value.cells, kI, kB, kU, kS, Kd.sc]; done) | (simp [Instr.fill, Value.cells, kI, kB, kU, kS, Kd.sc, rng1, rng2, rng3, rng4, kP])) rfl segs_nil) ?_
        rintro v27 H28 ⟨hx29, ho30⟩
        have X31 := Ext.trans X10 hx29
        have X32 := Ext.trans X24 hx29
        refine AL.val rfl (.inl rfl) (HV.as rfl) ?_
        refine AL.val rfl (.inl rfl) (HV.as rfl) ?_
        refine AL.nx ?_
        refine AW.ret ?_
        refine ret_and ?_
        refine post_two rfl rfl rfl ?_ (.inr rfl)
        have hv : vS p l ∧ allC p m := ⟨by assumption, by first | assumption | exact fun j hj => ((by assumption : allV p m) j hj).2⟩; have hq := rs2 (pts := pts) hv (fun h => by first | exact c22 h.2 | (have := h.1; omega)); exact ⟨⟨_, [], by rw [hq.1], hq.2.symm, ho30.okk (fun b hb _ => Nat.le_trans o25 hb)⟩, X31⟩
      · -- false
        have c22_ : decide ((m.length : Int) ≠ (l.length : Int)) = false := decide_eq_false c22
        rw [c22_]
        refine AL.val rfl (.inr ⟨_, _, _, rfl, rfl, rfl⟩) (HV.mv rfl) ?_
        refine AL.val rfl (.inr ⟨_, _, _, rfl, rfl, rfl⟩) (HV.mv rfl) ?_
        refine AL.w rfl (.inr ⟨_, _, _, rfl, rfl, rfl⟩) (WV.call fn96 rfl (l05Pts_ok (hr3.ext X10) (by assumption : vS p l).1.1)) ?_
        rintro _ H34 ⟨rfl, hx35⟩
        have X36 := Ext.trans X10 hx35
        refine AL.val rfl (.inr ⟨_, _, _, rfl, rfl, rfl⟩) (HV.not rfl) ?_
        refine AL.val rfl (.inl rfl) (HV.pickF rfl rfl) ?_
        refine AL.nx ?_
        refine AW.ifn rfl (fun c37 => ?_) (fun c37 => ?_)
        · -- then
          refine AW.rs ?_
          have X38 := Ext.refl H34
          have o39 := X36.bd
          have o40 := X38.bd
          refine AL.w rfl (.inl rfl) (WV.bsK (K := (kP kI kI)) (l := ([] : List (Int × Int))) (css := []) sl27 rfl rfl (by first | rfl | (simp [Instr.fill, Value.cells, kI, kB, kU, kS, Kd.sc]; done) | (simp [Instr.fill, Value.cells, kI, kB, kU, kS, Kd.sc, rng1, rng2, rng3, rng4, kP])) rfl segs_nil) ?_
          rintro v41 H42 ⟨hx43, ho44⟩
          have X45 := Ext.trans X36 hx43
          have X46 := Ext.trans X38 hx43
          refine AL.val rfl (.inl rfl) (HV.as rfl) ?_
          refine AL.val rfl (.inl rfl) (HV.as rfl) ?_
          refine AL.nx ?_
          refine AW.ret ?_
          refine ret_and ?_
          refine post_two rfl rfl rfl ?_ (.inr rfl)
          have hv : vS p l ∧ allC p m := ⟨by assumption, by first | assumption | exact fun j hj => ((by assumption : allV p m) j hj).2⟩; have hq := rs2 (pts := pts) hv (fun h => by first | exact c37 h.2 | (have := h.1; omega)); exact ⟨⟨_, [], by rw [hq.1], hq.2.symm, ho44.okk (fun b hb _ => Nat.le_trans o39 hb)⟩, X45⟩
        · -- else
          refine AW.skip ?_
          refine nrm_and ?_
          refine AW.seq ?_
          refine AW.rs ?_
          refine AL.val rfl (.inl rfl) (HV.as rfl) ?_
          refine AL.nx ?_
          refine AW.block ?_
          have hv : vS p l ∧ allC p m := ⟨by assumption, by first | assumption | exact fun j hj => ((by assumption : allV p m) j hj).2⟩
          have hp := hv.1.1.1
          have hq := isPr_of hv.1.1
          have hpt : ptsI p pts := (by assumption)
          have hpl := hv.1.2.2
          have hpl2 := hpl.1
          rw [List.length_map] at hpl2
          have X48 := Ext.refl H34
          refine AW.loop (σ := Nat) (fun i => [(0, .int .i64 p), (1, v), (2, vm), (3, vp), (10, .int .i64 (i : Int))]) (fun i H' => Ext H H' ∧ Ext H34 H' ∧ i ≤ m.length ∧ (∀ j, j < i → val p (m.getD j []) 0 = (l.getD j (0, 0)).2) ∧ True) (fun i => m.length - i) 0 ⟨X36, X48, Nat.zero_le _, fun j hj => absurd hj (Nat.not_lt_zero _), trivial⟩ ⟨rfl, rfl, rfl, rfl, rfl, trivial⟩ ?_
          rintro i H49 ⟨X50, X51, hi, hfit, _⟩
          refine AW.seq ?_
          refine AW.rs ?_
          refine AL.val rfl (.inl rfl) (HV.mv rfl) ?_
          refine AL.val rfl (.inl rfl) (HV.mv rfl) ?_
          refine AL.val rfl (.inl rfl) (HV.len Try.underlying36 rfl hr2.isSl) ?_
          refine AL.val rfl (.inl rfl) (HV.lti rfl rfl) ?_
          refine AL.nx ?_
          refine AW.ifd rfl (fun c52 => ?_) (fun c52 => ?_)
          · -- then
            refine AW.skip ?_
            refine nrm_and ?_
            refine AW.seq ?_
            refine AW.block ?_
            refine AW.seq ?_
            refine AW.draw' [0, 0, 0, 6, 14, 31, 0, 0, 192, 448, 960, 2047] mixed (by rfl) ?_
            refine Dr.read 0 _ 45 _ rfl rfl rfl rfl rfl (RV.of (by intro _ _ h; cases h) (.inl rfl) (fun _ xd => HV.mv rfl)) ?_
            refine Dr.read 1 _ 46 _ rfl rfl rfl rfl rfl (RV.of (by intro _ _ h; cases h) (.inl rfl) (fun _ xd => HV.mv rfl)) ?_
            refine Dr.read 2 _ 47 _ rfl rfl rfl rfl rfl (RV.of (by intro _ _ h; cases h) (.inl rfl) (fun _ xd => HV.mv rfl)) ?_
            obtain ⟨p53, z54, cs55, hz56, hK57, hC58, hP59⟩ := RdK.ix (q := (i : Int)) hr2 sl36 (by omega) (by omega)
            obtain ⟨v60, rfl, hr61⟩ := hK57
            have hm62 := hr61.max
            refine Dr.read 3 _ 48 _ rfl rfl rfl rfl rfl (RV.of (by intro _ _ h; cases h) (.inl rfl) (fun _ xd => hP59 rfl rfl)) ?_
            refine Dr.read 4 _ 49 _ rfl rfl rfl rfl rfl (RV.of (by intro _ _ h; cases h) (.inl rfl) (fun _ xd => HV.ld rfl va24 (rdc_ext xd (cells_first (hC58.ext X50) rfl)))) ?_
            refine Dr.read 6 _ 51 _ rfl rfl rfl rfl rfl (RV.of (by intro _ _ h; cases h) (.inl rfl) (fun _ xd => HV.mv rfl)) ?_
            refine Dr.read 7 _ 52 _ rfl rfl rfl rfl rfl (RV.of (by intro _ _ h; cases h) (.inl rfl) (fun _ xd => HV.mv rfl)) ?_
            obtain ⟨p63, z64, cs65, hz66, hK67, hC68, hP69⟩ := RdK.ix (q := (i : Int)) hr sl27 (by omega) (by omega)
            obtain ⟨cs70, cs71, rfl, hK72, hK73⟩ := hK67
            obtain rfl : cs70 = [.int .i64 z64.1] := hK72
            obtain rfl : cs71 = [.int .i64 z64.2] := hK73
            refine Dr.read 8 _ 53 _ rfl rfl rfl rfl rfl (RV.of (by intro _ _ h; cases h) (.inl rfl) (fun _ xd => hP69 rfl rfl)) ?_
            refine Dr.read 9 _ 54 _ rfl rfl rfl rfl rfl (RV.of (by intro _ _ h; cases h) (.inl rfl) (fun _ xd => HV.fa fl68_1 rfl)) ?_
            refine Dr.read 10 _ 55 _ rfl rfl rfl rfl rfl (RV.of (by intro _ _ h; cases h) (.inl rfl) (fun _ xd => HV.ld rfl va2 (rdc_ext xd (cells_at (hC68.ext X50) rfl)))) ?_
            refine Dr.eff 5 _ _ rfl (by intro d h; cases h; exact ⟨rfl, rfl⟩) rfl rfl rfl (EC.of (by intro _ _ h; cases h) (.inl rfl) (WV.call fn80 rfl (l05Val_ok (hr61.ext X50) 0 hp (by omega) (by have q := (hv.2 i (by omega)).2.1; rw [(gd hz56 rfl : m.getD i [] = z54)] at q; exact q)))) (fun v H' h => .inl (h.2)) ?_
            rintro _ H74 ⟨rfl, hx75⟩
            have X76 := Ext.trans X50 hx75
            have X77 := Ext.trans X51 hx75
            refine Dr.read 11 _ 56 _ rfl rfl rfl rfl rfl (RV.of (by intro _ _ h; cases h) (.inl rfl) (fun _ xd => HV.nei rfl rfl)) ?_
            refine Dr.fin rfl ?_
            refine nrm_and ?_
            refine AW.ifd rfl (fun c78 => ?_) (fun c78 => ?_)
            · -- then
              refine AW.rs ?_
              have X79 := Ext.refl H74
              have o80 := X76.bd
              have o81 := X77.bd
              have o82 := X79.bd
              refine AL.w rfl (.inl rfl) (WV.bsK (K := (kP kI kI)) (l := ([] : List (Int × Int))) (css := []) sl27 rfl rfl (by first | rfl | (simp [Instr.fill, Value.cells, kI, kB, kU, kS, Kd.sc]; done) | (simp [Instr.fill, Value.cells, kI, kB, kU, kS, Kd.sc, rng1, rng2, rng3, rng4, kP])) rfl segs_nil) ?_
              rintro v83 H84 ⟨hx85, ho86⟩
              have X87 := Ext.trans X76 hx85
              have X88 := Ext.trans X77 hx85
              have X89 := Ext.trans X79 hx85
              refine AL.val rfl (.inl rfl) (HV.as rfl) ?_
              refine AL.val rfl (.inl rfl) (HV.as rfl) ?_
              refine AL.nx ?_
              refine AW.ret ?_
              refine ret_blk (ret_and (ret_and (ret_blk (ret_and ?_))))
              refine post_two rfl rfl rfl ?_ (.inr rfl)
              have hv : vS p l ∧ allC p m := ⟨by assumption, by first | assumption | exact fun j hj => ((by assumption : allV p m) j hj).2⟩; have hq := rs4 hv (⟨by omega, by assumption⟩ : (m.length : Int) = l.length ∧ ptsI p pts) (fun h => by have q := h.1 i (by omega); rw [(gd hz56 rfl : m.getD i [] = z54), (gd hz66 rfl : l.getD i (0, 0) = z64)] at q; omega); exact ⟨⟨_, [], by rw [hq.1], hq.2.symm, ho86.okk (fun b hb _ => Nat.le_trans o80 hb)⟩, X87⟩
            · -- else
              refine AW.skip ?_
              refine nrm_blk (nrm_and ?_)
              refine AW.reg ?_
              refine AL.val rfl (.inl rfl) (HV.mv rfl) ?_
              refine AL.val rfl (.inl rfl) (HV.add rfl rfl (by omega)) ?_
              refine AL.val rfl (.inl rfl) (HV.as rfl) ?_
              refine AL.nil ?_
              refine nrm_and ?_
              exact ⟨i + 1, ⟨X76, X77, by omega, fun j hj => by
      rcases Nat.lt_or_ge j i with h1 | h1
      · exact hfit j h1
      · obtain rfl : j = i := by omega
        rw [(gd hz56 rfl : m.getD j [] = z54), (gd hz66 rfl : l.getD j (0, 0) = z64)]; omega, trivial⟩, by first | omega | (dsimp only; omega), ⟨rfl, rfl, rfl, rfl, rfl, trivial⟩⟩
          · -- else
            refine AW.exit ?_
            refine ex_and (ex_and (ex_blk ?_))
            refine nrm_and ?_
            refine AW.seq ?_
            refine AW.rs ?_
            refine AL.val rfl (.inl rfl) (HV.mv rfl) ?_
            refine AL.val rfl (.inl rfl) (HV.len Try.underlying27 rfl hr.isSl) ?_
            refine AL.val rfl (.inl rfl) (HV.eqi rfl rfl) ?_
            refine AL.nx ?_
            refine AW.ifd rfl (fun c91 => ?_) (fun c91 => ?_)
            · -- then
              refine AW.rs ?_
              have X92 := Ext.refl H49
              have o93 := X50.bd
              have o94 := X51.bd
              have o95 := X92.bd
              refine AL.w rfl (.inl rfl) (WV.bsK (K := (kP kI kI)) (l := ([] : List (Int × Int))) (css := []) sl27 rfl rfl (by first | rfl | (simp [Instr.fill, Value.cells, kI, kB, kU, kS, Kd.sc]; done) | (simp [Instr.fill, Value.cells, kI, kB, kU, kS, Kd.sc, rng1, rng2, rng3, rng4, kP])) rfl segs_nil) ?_
              rintro v96 H97 ⟨hx98, ho99⟩
              have X100 := Ext.trans X50 hx98
              have X101 := Ext.trans X51 hx98
              have X102 := Ext.trans X92 hx98
              refine AL.val rfl (.inl rfl) (HV.as rfl) ?_
              refine AL.val rfl (.inl rfl) (HV.as rfl) ?_
              refine AL.nx ?_
              refine AW.ret ?_
              refine ret_and ?_
              refine post_two rfl rfl rfl ?_ (.inr rfl)
              have hv : vS p l ∧ allC p m := ⟨by assumption, by first | assumption | exact fun j hj => ((by assumption : allV p m) j hj).2⟩; have hq := rs4 hv (⟨by omega, by assumption⟩ : (m.length : Int) = l.length ∧ ptsI p pts) (fun h => by have := h.2; omega); exact ⟨⟨_, [], by rw [hq.1], hq.2.symm, ho99.okk (fun b hb _ => Nat.le_trans o93 hb)⟩, X100⟩
            · -- else
              refine AW.skip ?_
              refine nrm_and ?_
              refine AW.rs ?_
              refine AL.val rfl (.inl rfl) (HV.mv rfl) ?_
              refine AL.val rfl (.inl rfl) (HV.mv rfl) ?_
              refine AL.w rfl (.inl rfl) (WV.call fn70 rfl (places_ok (hr.ext X50) hl)) ?_
              rintro v104 H105 ⟨hx106, ho107⟩
              have X109 := Ext.trans X50 hx106
              have X110 := Ext.trans X51 hx106
              have X111 := Ext.refl H105
              have hr108 : RdK kI W H105 _ v104 (l.map Prod.fst) := ho107.rd
              refine AL.w rfl (.inl rfl) (WV.call fn87 rfl (l05Wts_ok p 0 hr108 hq (by omega) hpl.2 (by have := hpl.1; omega))) ?_
              rintro v112 H113 ⟨hx114, ho115⟩
              have X117 := Ext.trans X109 hx114
              have X118 := Ext.trans X110 hx114
              have X119 := Ext.trans X111 hx114
              have X120 := Ext.refl H113
              have hr116 : RdK kI W H113 _ v112 (wts p (l.map Prod.fst) 0 (l.map Prod.fst).length) := ho115.rd
              refine AL.val rfl (.inl rfl) (HV.as rfl) ?_
              refine AL.nx ?_
              refine AW.rs ?_
              have o121 := X117.bd
              have o122 := X118.bd
              have o123 := X119.bd
              have o124 := X120.bd
              refine AL.w rfl (.inl rfl) (WV.bsK (K := (kP kI kI)) (l := ([] : List (Int × Int))) (css := []) sl27 rfl rfl (by first | rfl | (simp [Instr.fill, Value.cells, kI, kB, kU, kS, Kd.sc]; done) | (simp [Instr.fill, Value.cells, kI, kB, kU, kS, Kd.sc, rng1, rng2, rng3, rng4, kP])) rfl segs_nil) ?_
              rintro v125 H126 ⟨hx127, ho128⟩
              have X129 := Ext.trans X117 hx127
              have X130 := Ext.trans X118 hx127
              have X131 := Ext.trans X119 hx127
              have X132 := Ext.trans X120 hx127
              refine AL.val rfl (.inl rfl) (HV.as rfl) ?_
              refine AL.nx ?_
              refine AW.seq ?_
              refine AW.rs ?_
              refine AL.val rfl (.inl rfl) (HV.as rfl) ?_
              refine AL.nx ?_
              refine AW.block ?_
              have hwl : (wts p (l.map Prod.fst) 0 (l.map Prod.fst).length).length = l.length := by rw [wts_len, List.length_map]
              refine AW.loop (σ := Nat × Value × List (Int × Int)) (fun ⟨i, vv, k⟩ => [(0, .int .i64 p), (2, vm), (3, vp), (11, v112), (12, vv), (13, .int .i64 (i : Int))]) (fun ⟨i, vv, k⟩ H' => Ext H H' ∧ Ext H34 H' ∧ Ext H105 H' ∧ Ext H113 H' ∧ i ≤ pts.length ∧ k = rsh p l m (pts.take i) ∧ k.length = i ∧ OwnK (kP kI kI) 68 W H' (fun b => H113.bd ≤ b) vv k ∧ True) (fun ⟨i, vv, k⟩ => pts.length - i) (0, v125, (([] : List (Int × Int)) : List (Int × Int))) ⟨X129, X130, X131, X132, Nat.zero_le _, rfl, rfl, ho128, trivial⟩ ⟨rfl, rfl, rfl, rfl, rfl, rfl, trivial⟩ ?_
              rintro ⟨i, vv, k⟩ H134 ⟨X135, X136, X137, X138, hi, hk, hk2, hoL, _⟩
              refine AW.seq ?_
              refine AW.rs ?_
              refine AL.val rfl (.inl rfl) (HV.mv rfl) ?_
              refine AL.val rfl (.inl rfl) (HV.mv rfl) ?_
              refine AL.val rfl (.inl rfl) (HV.len Try.underlying24 rfl hr3.isSl) ?_
              refine AL.val rfl (.inl rfl) (HV.lti rfl rfl) ?_
              refine AL.nx ?_
              refine AW.ifd rfl (fun c139 => ?_) (fun c139 => ?_)
              · -- then
                refine AW.skip ?_
                refine nrm_and ?_
                refine AW.seq ?_
                refine AW.block ?_
                refine AW.rs ?_
                refine AL.val rfl (.inl rfl) (HV.as rfl) ?_
                refine AL.nx ?_
                refine AW.seq ?_
                refine AW.rs ?_
                refine AL.val rfl (.inl rfl) (HV.as rfl) ?_
                refine AL.nx ?_
                refine AW.block ?_
                refine AW.loop (σ := Nat × Int) (fun ⟨j, s⟩ => [(0, .int .i64 p), (2, vm), (3, vp), (11, v112), (12, vv), (13, .int .i64 (i : Int)), (67, .int .i64 (i : Int)), (68, vp), (69, .int .i64 (pts.length : Int)), (70, .bool (decide ((i : Int) < (pts.length : Int)))), (14, .int .i64 s), (15, .int .i64 (j : Int))]) (fun ⟨j, s⟩ H' => Ext H H' ∧ Ext H34 H' ∧ Ext H105 H' ∧ Ext H113 H' ∧ OwnK (kP kI kI) 68 W H' (fun b => H113.bd ≤ b) vv k ∧ j ≤ m.length ∧ s = sumC p (wts p (l.map Prod.fst) 0 (l.map Prod.fst).length) m (pts.getD i 0) j % p ∧ True) (fun ⟨j, s⟩ => m.length - j) (0, 0) ⟨X135, X136, X137, X138, hoL, Nat.zero_le _, by simp [sumC], trivial⟩ ⟨rfl, rfl, rfl, rfl, rfl, rfl, rfl, rfl, rfl, rfl, rfl, rfl, trivial⟩ ?_
                rintro ⟨j, s⟩ H140 ⟨X141, X142, X143, X144, ho145, hj, hs, _⟩
                refine AW.seq ?_
                refine AW.rs ?_
                refine AL.val rfl (.inl rfl) (HV.mv rfl) ?_
                refine AL.val rfl (.inl rfl) (HV.mv rfl) ?_
                refine AL.val rfl (.inl rfl) (HV.len Try.underlying36 rfl hr2.isSl) ?_
                refine AL.val rfl (.inl rfl) (HV.lti rfl rfl) ?_
                refine AL.nx ?_
                refine AW.ifd rfl (fun c146 => ?_) (fun c146 => ?_)
                · -- then
                  refine AW.skip ?_
                  refine nrm_and ?_
                  refine AW.seq ?_
                  refine AW.block ?_
                  refine AW.draw' [0, 0, 0, 6, 14, 0, 0, 0, 192, 448, 0, 0, 3072, 7168, 16352, 32766, 65535, 0, 262143, 524287] mixed (by rfl) ?_
                  refine Dr.read 0 _ 79 _ rfl rfl rfl rfl rfl (RV.of (by intro _ _ h; cases h) (.inl rfl) (fun _ xd => HV.mv rfl)) ?_
                  refine Dr.read 1 _ 80 _ rfl rfl rfl rfl rfl (RV.of (by intro _ _ h; cases h) (.inl rfl) (fun _ xd => HV.mv rfl)) ?_
                  refine Dr.read 2 _ 81 _ rfl rfl rfl rfl rfl (RV.of (by intro _ _ h; cases h) (.inl rfl) (fun _ xd => HV.mv rfl)) ?_
                  obtain ⟨p147, z148, cs149, hz150, hK151, hC152, hP153⟩ := RdK.ix (q := (j : Int)) hr116 sl24 (by omega) (by omega)
                  obtain rfl : cs149 = [.int .i64 z148] := hK151
                  refine Dr.read 3 _ 82 _ rfl rfl rfl rfl rfl (RV.of (by intro _ _ h; cases h) (.inl rfl) (fun _ xd => hP153 rfl rfl)) ?_
                  refine Dr.read 4 _ 83 _ rfl rfl rfl rfl rfl (RV.of (by intro _ _ h; cases h) (.inl rfl) (fun _ xd => HV.ld rfl va2 (rdc_ext xd (cells_first (hC152.ext X144) rfl)))) ?_
                  refine Dr.read 5 _ 84 _ rfl rfl rfl rfl rfl (RV.of (by intro _ _ h; cases h) (.inl rfl) (fun _ xd => HV.mv rfl)) ?_
                  refine Dr.read 6 _ 85 _ rfl rfl rfl rfl rfl (RV.of (by intro _ _ h; cases h) (.inl rfl) (fun _ xd => HV.mv rfl)) ?_
                  refine Dr.read 7 _ 86 _ rfl rfl rfl rfl rfl (RV.of (by intro _ _ h; cases h) (.inl rfl) (fun _ xd => HV.mv rfl)) ?_
                  obtain ⟨p154, z155, cs156, hz157, hK158, hC159, hP160⟩ := RdK.ix (q := (j : Int)) hr2 sl36 (by omega) (by omega)
                  obtain ⟨v161, rfl, hr162⟩ := hK158
                  have hm163 := hr162.max
                  refine Dr.read 8 _ 87 _ rfl rfl rfl rfl rfl (RV.of (by intro _ _ h; cases h) (.inl rfl) (fun _ xd => hP160 rfl rfl)) ?_
                  refine Dr.read 9 _ 88 _ rfl rfl rfl rfl rfl (RV.of (by intro _ _ h; cases h) (.inl rfl) (fun _ xd => HV.ld rfl va24 (rdc_ext xd (cells_first (hC159.ext X141) rfl)))) ?_
                  refine Dr.read 10 _ 89 _ rfl rfl rfl rfl rfl (RV.of (by intro _ _ h; cases h) (.inl rfl) (fun _ xd => HV.mv rfl)) ?_
                  refine Dr.read 11 _ 90 _ rfl rfl rfl rfl rfl (RV.of (by intro _ _ h; cases h) (.inl rfl) (fun _ xd => HV.mv rfl)) ?_
                  obtain ⟨p164, z165, cs166, hz167, hK168, hC169, hP170⟩ := RdK.ix (q := (i : Int)) hr3 sl24 (by omega) (by omega)
                  obtain rfl : cs166 = [.int .i64 z165] := hK168
                  refine Dr.read 12 _ 91 _ rfl rfl rfl rfl rfl (RV.of (by intro _ _ h; cases h) (.inl rfl) (fun _ xd => hP170 rfl rfl)) ?_
                  refine Dr.read 13 _ 92 _ rfl rfl rfl rfl rfl (RV.of (by intro _ _ h; cases h) (.inl rfl) (fun _ xd => HV.ld rfl va2 (rdc_ext xd (cells_first (hC169.ext X141) rfl)))) ?_
                  refine Dr.read 17 _ 96 _ rfl rfl rfl rfl rfl (RV.of (by intro _ _ h; cases h) (.inl rfl) (fun _ xd => HV.mv rfl)) ?_
                  refine Dr.eff 14 _ _ rfl (by intro d h; cases h; exact ⟨rfl, rfl⟩) rfl rfl rfl (EC.of (by intro _ _ h; cases h) (.inl rfl) (WV.call fn80 rfl (l05Val_ok (hr162.ext X141) z165 hp (by have q := ris_at hpt.2 hz167; omega) (by have q := (hv.2 j (by omega)).2.1; rw [(gd hz157 rfl : m.getD j [] = z155)] at q; exact q)))) (fun v H' h => .inl (h.2)) ?_
                  rintro _ H171 ⟨rfl, hx172⟩
                  have X173 := Ext.trans X141 hx172
                  have X174 := Ext.trans X142 hx172
                  have X175 := Ext.trans X143 hx172
                  have X176 := Ext.trans X144 hx172
                  have ho177 := ho145.ext hx172
                  refine Dr.read 15 _ 94 _ rfl rfl rfl rfl rfl (RV.of (by intro _ _ h; cases h) (.inl rfl) (fun _ xd => HV.mul rfl rfl (by have q1 := wts_at (show 2 ≤ p by omega) hz150; have q2 := val_in (show 0 < p by omega) z155 z165; have q3 := mul31 (a := z148) (b := val p z155 z165) (by omega) (by omega) (by omega) (by omega); omega))) ?_
                  refine Dr.read 16 _ 95 _ rfl rfl rfl rfl rfl (RV.of (by intro _ _ h; cases h) (.inl rfl) (fun _ xd => HV.add rfl rfl (by have q1 := wts_at (show 2 ≤ p by omega) hz150; have q2 := val_in (show 0 < p by omega) z155 z165; have q3 := mul31 (a := z148) (b := val p z155 z165) (by omega) (by omega) (by omega) (by omega); rw [hs]; have q4 := emod_bd (show 0 < p by omega) (sumC p (wts p (l.map Prod.fst) 0 (l.map Prod.fst).length) m (pts.getD i 0) j); omega))) ?_
                  refine Dr.read 18 _ 97 _ rfl rfl rfl rfl rfl (RV.of (by intro _ _ h; cases h) (.inl rfl) (fun _ xd => HV.rem rfl rfl (by have q1 := wts_at (show 2 ≤ p by omega) hz150; have q2 := val_in (show 0 < p by omega) z155 z165; have q3 := mul31 (a := z148) (b := val p z155 z165) (by omega) (by omega) (by omega) (by omega); rw [hs]; have q4 := emod_bd (show 0 < p by omega) (sumC p (wts p (l.map Prod.fst) 0 (l.map Prod.fst).length) m (pts.getD i 0) j); omega))) ?_
                  refine Dr.eff 19 _ _ rfl (by intro d h; cases h; exact ⟨rfl, rfl⟩) rfl rfl rfl (EC.of (by intro _ _ h; cases h) (.inl rfl) (WV.ofHV (HV.as rfl))) (fun v H' h => .inl (h.2 ▸ Ext.refl _)) ?_
                  rintro u_ h_ ⟨e1_, e2_⟩
                  rw [e1_, e2_]
                  clear e1_ e2_ u_ h_
                  refine Dr.fin rfl ?_
                  refine nrm_blk (nrm_and ?_)
                  refine AW.reg ?_
                  refine AL.val rfl (.inl rfl) (HV.mv rfl) ?_
                  refine AL.val rfl (.inl rfl) (HV.add rfl rfl (by omega)) ?_
                  refine AL.val rfl (.inl rfl) (HV.as rfl) ?_
                  refine AL.nil ?_
                  refine nrm_and ?_
                  exact ⟨(j + 1, (s + (z148 * (val p z155 z165))) % p), ⟨X173, X174, X175, X176, ho177, by omega, by rw [sumC_succ, (gd hz157 rfl : m.getD j [] = z155), (gd hz150 rfl : (wts p (l.map Prod.fst) 0 (l.map Prod.fst).length).getD j 0 = z148), hs]; rw [(gd hz167 rfl : pts.getD i 0 = z165), show z165 = z165 from rfl]; exact mod_add, trivial⟩, by first | omega | (dsimp only; omega), ⟨rfl, rfl, rfl, rfl, rfl, rfl, rfl, rfl, rfl, rfl, rfl, rfl, trivial⟩⟩
                · -- else
                  refine AW.exit ?_
                  refine ex_and (ex_and (ex_blk ?_))
                  refine nrm_and ?_
                  refine AW.reg ?_
                  refine AL.val rfl (.inl rfl) (HV.mv rfl) ?_
                  refine AL.val rfl (.inl rfl) (HV.mv rfl) ?_
                  refine AL.val rfl (.inl rfl) (HV.mv rfl) ?_
                  obtain ⟨p178, z179, cs180, hz181, hK182, hC183, hP184⟩ := RdK.ix (q := (i : Int)) hr3 sl24 (by omega) (by omega)
                  obtain rfl : cs180 = [.int .i64 z179] := hK182
                  refine AL.val rfl (.inl rfl) (hP184 rfl rfl) ?_
                  refine AL.val rfl (.inl rfl) (HV.ld rfl va2 (cells_first (hC183.ext X141) rfl)) ?_
                  refine AL.val rfl (.inl rfl) (HV.mv rfl) ?_
                  refine AL.val rfl (.inl rfl) (HV.bd rfl (bd68_0_1 z179 s)) ?_
                  have X185 := Ext.refl H140
                  have o186 := X141.bd
                  have o187 := X142.bd
                  have o188 := X143.bd
                  have o189 := X144.bd
                  have o190 := X185.bd
                  have a191 := ho145.ltb
                  refine AL.w rfl (.inl rfl) (WV.bsK (K := (kP kI kI)) (l := ([((z179, s) : (Int × Int))] : List (Int × Int))) (css := [[.int .i64 z179, .int .i64 s]]) sl27 rfl rfl (by first | rfl | (simp [Instr.fill, Value.cells, kI, kB, kU, kS, Kd.sc]; done) | (simp [Instr.fill, Value.cells, kI, kB, kU, kS, Kd.sc, rng1, rng2, rng3, rng4, kP])) rfl (segs_cons ⟨[.int .i64 z179], [.int .i64 s], rfl, rfl, rfl⟩ segs_nil)) ?_
                  rintro v192 H193 ⟨hx194, ho195⟩
                  have X196 := Ext.trans X141 hx194
                  have X197 := Ext.trans X142 hx194
                  have X198 := Ext.trans X143 hx194
                  have X199 := Ext.trans X144 hx194
                  have X200 := Ext.trans X185 hx194
                  have ho201 := ho145.ext hx194
                  have X203 := Ext.refl H193
                  refine AL.w rfl (.inl rfl) (WV.apk sl27 rfl rfl ho201 ho195.rd (by rw [hk2]; have := hpt.1; simp; omega) (by rw [hk2]; have := hpt.1; simp; omega) (fun b hb _ e => Nat.lt_irrefl _ (Nat.lt_of_lt_of_le (a191 b e) hb))) ?_
                  rintro v204 H205 ⟨hx206, ho207, hb208⟩
                  have ho209 := ho207.narrow (ok' := fun b => H113.bd ≤ b) (kP_flat kI_flat kI_flat) (fun b q => (hb208 b q).elim (fun e => (ho201.blk b e).1) (fun e => Nat.le_trans X199.bd e))
                  have X210 := Ext.thru X196 hx206 (fun b hb => Nat.le_trans o121 (ho201.blk b hb).1)
                  have X211 := Ext.thru X197 hx206 (fun b hb => Nat.le_trans o122 (ho201.blk b hb).1)
                  have X212 := Ext.thru X198 hx206 (fun b hb => Nat.le_trans o123 (ho201.blk b hb).1)
                  have X213 := Ext.thru X199 hx206 (fun b hb => Nat.le_trans o124 (ho201.blk b hb).1)
                  refine AL.val rfl (.inl rfl) (HV.as rfl) ?_
                  refine AL.nil ?_
                  refine nrm_blk (nrm_and ?_)
                  refine AW.reg ?_
                  refine AL.val rfl (.inl rfl) (HV.mv rfl) ?_
                  refine AL.val rfl (.inl rfl) (HV.add rfl rfl (by omega)) ?_
                  refine AL.val rfl (.inl rfl) (HV.as rfl) ?_
                  refine AL.nil ?_
                  refine nrm_and ?_
                  exact ⟨(i + 1, v204, (k ++ (([((z179, s) : (Int × Int))] : List (Int × Int)) : List (Int × Int)))), ⟨X210, X211, X212, X213, by omega, by have hj2 : j = m.length := (by omega); subst hj2; rw [rsh_snoc hz181, hk, hs, (gd hz181 rfl : pts.getD i 0 = z179)]; simp only [List.length_map], by simp [hk2], ho209, trivial⟩, by first | omega | (dsimp only; omega), ⟨rfl, rfl, rfl, rfl, rfl, rfl, trivial⟩⟩
              · -- else
                refine AW.exit ?_
                refine ex_and (ex_and (ex_blk ?_))
                refine nrm_and ?_
                refine AW.rs ?_
                refine AL.val rfl (.inl rfl) (HV.mv rfl) ?_
                refine AL.val rfl (.inl rfl) (HV.as rfl) ?_
                refine AL.val rfl (.inl rfl) (HV.as rfl) ?_
                refine AL.nx ?_
                refine AW.ret ?_
                refine post_two rfl rfl rfl ?_ (.inr rfl)
                have hv : vS p l ∧ allC p m := ⟨by assumption, by first | assumption | exact fun j hj => ((by assumption : allV p m) j hj).2⟩; have hq := rs0 hv (⟨by omega, by assumption⟩ : (m.length : Int) = l.length ∧ ptsI p pts) ⟨fun j hj => hfit j (by omega), by omega⟩; exact ⟨⟨_, _, by rw [hq.1], hq.2.symm, by have e : pts.take i = pts := List.take_of_length_le (by omega); have q := hoL.okk (fun b hb _ => Nat.le_trans o121 hb); rw [hk, e] at q; exact q⟩, X135⟩
  · -- true
    have c7_ : (!decide (vS p l)) = true := by rw [decide_eq_false c7]; rfl
    rw [c7_]
    refine AL.off rfl rfl (by decide) rfl ?_
    refine AL.off rfl rfl (by decide) rfl ?_
    refine AL.off rfl rfl (by decide) rfl ?_
    refine AL.off rfl rfl (by decide) rfl ?_
    refine AL.val rfl (.inl rfl) (HV.pickT rfl rfl) ?_
    refine AL.nx ?_
    refine AW.cond rfl (fun _ => ?_) (fun h => by cases h)
    refine AW.rs ?_
    have X218 := Ext.refl H4
    have o219 := X6.bd
    have o220 := X218.bd
    refine AL.w rfl (.inl rfl) (WV.bsK (K := (kP kI kI)) (l := ([] : List (Int × Int))) (css := []) sl27 rfl rfl (by first | rfl | (simp [Instr.fill, Value.cells, kI, kB, kU, kS, Kd.sc]; done) | (simp [Instr.fill, Value.cells, kI, kB, kU, kS, Kd.sc, rng1, rng2, rng3, rng4, kP])) rfl segs_nil) ?_
    rintro v221 H222 ⟨hx223, ho224⟩
    have X225 := Ext.trans X6 hx223
    have X226 := Ext.trans X218 hx223
    refine AL.val rfl (.inl rfl) (HV.as rfl) ?_
    refine AL.val rfl (.inl rfl) (HV.as rfl) ?_
    refine AL.nx ?_
    refine AW.ret ?_
    refine ret_and ?_
    refine post_two rfl rfl rfl ?_ (.inr rfl)
    have hq := rs1 (p := p) (l := l) (L := m) (pts := pts) (fun h => by first | exact c7 h.1 | exact c7 h.2 | exact c7 (fun j hj => ⟨h.1.1, h.2 j hj⟩)); exact ⟨⟨_, [], by rw [hq.1], hq.2.symm, ho224.okk (fun b hb _ => Nat.le_trans o219 hb)⟩, X225⟩

set_option maxRecDepth 100000 in
theorem implRs_ok {v vm vp : Value} {l : List (Int × Int)} {m : List (List Int)} {pts : List Int} {ok ok2 ok3 : Nat → Prop} (p : Int) (hr : RdK (kP kI kI) W H ok v l) (hr2 : RdK (kR kI) W H ok2 vm m) (hr3 : RdK kI W H ok3 vp pts) (hl : l.length ≤ 1048576) : ACalls Try.prog W 40 #[.int .i64 p, v, vm, vp] H (fun r H' => (∃ v k, r = .tuple #[v, .int .i64 (rsCode p l m pts)] ∧ k = rsRow p l m pts ∧ OwnK (kP kI kI) 68 W H' (fun b => H.bd ≤ b) v k) ∧ Ext H H') := by
  refine ACalls.of (args := [.int .i64 p, v, vm, vp]) Try.func40 rfl rfl ?_
  have X0 := Ext.refl H
  have hm1 := hr.max
  have hm2 := hr2.max
  have hm3 := hr3.max
  refine AW.rs ?_
  refine AL.val rfl (.inl rfl) (HV.as rfl) ?_
  refine AL.val rfl (.inl rfl) (HV.as rfl) ?_
  refine AL.nx ?_
  refine AW.seq ?_
  refine AW.block ?_
  refine AW.rs ?_
  refine AL.val rfl (.inl rfl) (HV.mv rfl) ?_
  refine AL.val rfl (.inl rfl) (HV.mv rfl) ?_
  refine AL.w rfl (.inl rfl) (WV.call fn62 rfl (implVS_ok hr p hl)) ?_
  rintro _ H4 ⟨rfl, hx5⟩
  have X6 := Ext.trans X0 hx5
  refine AL.val rfl (.inl rfl) (HV.not rfl) ?_
  refine AL.val rfl (.inl rfl) (HV.mv rfl) ?_
  by_cases c7 : vS p l
  · -- false
    have c7_ : (!decide (vS p l)) = false := by rw [decide_eq_true c7]; rfl
    rw [c7_]
    refine AL.val rfl (.inr ⟨_, _, _, rfl, rfl, rfl⟩) (HV.mv rfl) ?_
    refine AL.val rfl (.inr ⟨_, _, _, rfl, rfl, rfl⟩) (HV.mv rfl) ?_
    refine AL.w rfl (.inr ⟨_, _, _, rfl, rfl, rfl⟩) (WV.call fn81 rfl (areCu_ok (p := p) (hr2.ext X6))) ?_
    rintro _ H8 ⟨rfl, hx9⟩
    have X10 := Ext.trans X6 hx9
    refine AL.val rfl (.inr ⟨_, _, _, rfl, rfl, rfl⟩) (HV.not rfl) ?_
    refine AL.val rfl (.inl rfl) (HV.pickF rfl rfl) ?_
    refine AL.val rfl (.inl rfl) (HV.as rfl) ?_
    refine AL.nx ?_
    refine AW.ifn rfl (fun c11 => ?_) (fun c11 => ?_)
    · -- then
      refine AW.rs ?_
      refine AL.val rfl (.inl rfl) (HV.as rfl) ?_
      refine AL.val rfl (.inl rfl) (HV.as rfl) ?_
      refine AL.nx ?_
      refine AW.ret ?_
      refine ret_blk (ret_and ?_)
      refine post_two rfl rfl rfl ?_ (.inr rfl)
      have hq := rs1 (p := p) (l := l) (L := m) (pts := pts) (fun h => by first | exact c11 h.1 | exact c11 h.2 | exact c11 (fun j hj => ⟨h.1.1, h.2 j hj⟩)); exact ⟨⟨_, [], by rw [hq.1], hq.2.symm, OwnK.nil _⟩, X10⟩
    · -- else
      refine AW.rs ?_
      refine AL.val rfl (.inl rfl) (HV.mv rfl) ?_
      refine AL.val rfl (.inl rfl) (HV.len Try.underlying36 rfl hr2.isSl) ?_
      refine AL.val rfl (.inl rfl) (HV.mv rfl) ?_
      refine AL.val rfl (.inl rfl) (HV.len Try.underlying27 rfl hr.isSl) ?_
      refine AL.val rfl (.inl rfl) (HV.nei rfl rfl) ?_
      refine AL.val rfl (.inl rfl) (HV.mv rfl) ?_
      by_cases c12 : (m.length : Int) ≠ (l.length : Int)
      · -- true
        have c12_ : decide ((m.length : Int) ≠ (l.length : Int)) = true := decide_eq_true c12
        rw [c12_]
        refine AL.off rfl rfl (by decide) rfl ?_
        refine AL.off rfl rfl (by decide) rfl ?_
        refine AL.off rfl rfl (by decide) rfl ?_
        refine AL.off rfl rfl (by decide) rfl ?_
        refine AL.val rfl (.inl rfl) (HV.pickT rfl rfl) ?_
        refine AL.val rfl (.inl rfl) (HV.as rfl) ?_
        refine AL.nx ?_
        refine AW.cond rfl (fun _ => ?_) (fun h => by cases h)
        refine AW.rs ?_
        refine AL.val rfl (.inl rfl) (HV.as rfl) ?_
        refine AL.val rfl (.inl rfl) (HV.as rfl) ?_
        refine AL.nx ?_
        refine AW.ret ?_
        refine ret_blk (ret_and ?_)
        refine post_two rfl rfl rfl ?_ (.inr rfl)
        have hv : vS p l ∧ allC p m := ⟨by assumption, by first | assumption | exact fun j hj => ((by assumption : allV p m) j hj).2⟩; have hq := rs2 (pts := pts) hv (fun h => by first | exact c12 h.2 | (have := h.1; omega)); exact ⟨⟨_, [], by rw [hq.1], hq.2.symm, OwnK.nil _⟩, X10⟩
      · -- false
        have c12_ : decide ((m.length : Int) ≠ (l.length : Int)) = false := decide_eq_false c12
        rw [c12_]
        refine AL.val rfl (.inr ⟨_, _, _, rfl, rfl, rfl⟩) (HV.mv rfl) ?_
        refine AL.val rfl (.inr ⟨_, _, _, rfl, rfl, rfl⟩) (HV.mv rfl) ?_
        refine AL.w rfl (.inr ⟨_, _, _, rfl, rfl, rfl⟩) (WV.call fn97 rfl (arePts_ok (hr3.ext X10) (by assumption : vS p l).1.1)) ?_
        rintro _ H14 ⟨rfl, hx15⟩
        have X16 := Ext.trans X10 hx15
        refine AL.val rfl (.inr ⟨_, _, _, rfl, rfl, rfl⟩) (HV.not rfl) ?_
        refine AL.val rfl (.inl rfl) (HV.pickF rfl rfl) ?_
        refine AL.val rfl (.inl rfl) (HV.as rfl) ?_
        refine AL.nx ?_
        refine AW.ifn rfl (fun c17 => ?_) (fun c17 => ?_)
        · -- then
          refine AW.rs ?_
          refine AL.val rfl (.inl rfl) (HV.as rfl) ?_
          refine AL.val rfl (.inl rfl) (HV.as rfl) ?_
          refine AL.nx ?_
          refine AW.ret ?_
          refine ret_blk (ret_and ?_)
          refine post_two rfl rfl rfl ?_ (.inr rfl)
          have hv : vS p l ∧ allC p m := ⟨by assumption, by first | assumption | exact fun j hj => ((by assumption : allV p m) j hj).2⟩; have hq := rs2 (pts := pts) hv (fun h => by first | exact c17 h.2 | (have := h.1; omega)); exact ⟨⟨_, [], by rw [hq.1], hq.2.symm, OwnK.nil _⟩, X16⟩
        · -- else
          refine AW.rs ?_
          refine AL.val rfl (.inl rfl) (HV.mv rfl) ?_
          refine AL.val rfl (.inl rfl) (HV.len Try.underlying27 rfl hr.isSl) ?_
          refine AL.val rfl (.inl rfl) (HV.eqi rfl rfl) ?_
          refine AL.val rfl (.inl rfl) (HV.as rfl) ?_
          refine AL.nx ?_
          refine AW.ifd rfl (fun c18 => ?_) (fun c18 => ?_)
          · -- then
            refine AW.rs ?_
            refine AL.val rfl (.inl rfl) (HV.as rfl) ?_
            refine AL.val rfl (.inl rfl) (HV.as rfl) ?_
            refine AL.nx ?_
            refine AW.ret ?_
            refine ret_blk (ret_and ?_)
            refine post_two rfl rfl rfl ?_ (.inr rfl)
            have hv : vS p l ∧ allC p m := ⟨by assumption, by first | assumption | exact fun j hj => ((by assumption : allV p m) j hj).2⟩; have hq := rs4 hv (⟨by omega, by assumption⟩ : (m.length : Int) = l.length ∧ ptsI p pts) (fun h => by have := h.2; omega); exact ⟨⟨_, [], by rw [hq.1], hq.2.symm, OwnK.nil _⟩, X16⟩
          · -- else
            refine AW.skip ?_
            refine nrm_blk (nrm_and ?_)
            refine AW.seq ?_
            refine AW.rs ?_
            refine AL.val rfl (.inl rfl) (HV.mv rfl) ?_
            refine AL.val rfl (.inl rfl) (HV.len Try.underlying27 rfl hr.isSl) ?_
            refine AL.val rfl (.inl rfl) (HV.mv rfl) ?_
            refine AL.nx ?_
            refine AW.block ?_
            have hv : vS p l ∧ allC p m := ⟨by assumption, by first | assumption | exact fun j hj => ((by assumption : allV p m) j hj).2⟩
            have hp := hv.1.1.1
            have hq := isPr_of hv.1.1
            have hpt : ptsI p pts := (by assumption)
            have hpl := hv.1.2.2
            have hpl2 := hpl.1
            rw [List.length_map] at hpl2
            have X19 := Ext.refl H14
            refine AW.loop (σ := Nat) (fun i => [(0, .int .i64 p), (1, v), (2, vm), (3, vp), (48, v), (49, .int .i64 (l.length : Int)), (50, .int .i64 (i : Int))]) (fun i H' => Ext H H' ∧ Ext H14 H' ∧ i ≤ m.length ∧ (∀ j, j < i → val p (m.getD j []) 0 = (l.getD j (0, 0)).2) ∧ True) (fun i => m.length - i) 0 ⟨X16, X19, Nat.zero_le _, fun j hj => absurd hj (Nat.not_lt_zero _), trivial⟩ ⟨rfl, rfl, rfl, rfl, rfl, rfl, rfl, trivial⟩ ?_
            rintro i H20 ⟨X21, X22, hi, hfit, _⟩
            refine AW.rs ?_
            refine AL.val rfl (.inl rfl) (HV.lti rfl rfl) ?_
            refine AL.nx ?_
            refine AW.seq ?_
            refine AW.ifd rfl (fun c23 => ?_) (fun c23 => ?_)
            · -- then
              refine AW.skip ?_
              refine nrm_and ?_
              refine AW.seq ?_
              refine AW.block ?_
              refine AW.rs ?_
              refine AL.val rfl (.inl rfl) (HV.mv rfl) ?_
              obtain ⟨p24, z25, cs26, hz27, hK28, hC29, hP30⟩ := RdK.ix (q := (i : Int)) hr sl27 (by omega) (by omega)
              obtain ⟨cs31, cs32, rfl, hK33, hK34⟩ := hK28
              obtain rfl : cs31 = [.int .i64 z25.1] := hK33
              obtain rfl : cs32 = [.int .i64 z25.2] := hK34
              refine AL.val rfl (.inl rfl) (hP30 rfl rfl) ?_
              refine AL.val rfl (.inl rfl) (HV.lda (cs := [.int .i64 z25.1, .int .i64 z25.2]) rfl va68 (hC29.ext X21)) ?_
              refine AL.w rfl (.inl rfl) (WV.al ze68 rfl) ?_
              rintro _ H36 ⟨b35, rfl, hx37, hn38, hb39⟩
              have o40 := Nat.le_trans X21.bd hn38
              have o41 := Nat.le_trans X22.bd hn38
              have X42 := Ext.trans X21 hx37
              have X43 := Ext.trans X22 hx37
              have X44 := Ext.refl H36
              refine AL.val rfl (.inl rfl) (HV.as rfl) ?_
              refine AL.w0 (.inl rfl) (WV.st rfl rfl va68 rfl hb39 (Nat.le_of_ble_eq_true rfl) (one_cons rfl (one_cons rfl one_nil))) ?_
              rintro _ H45 ⟨hx46, hb47⟩
              have X48 := Ext.thru X42 hx46 (fun z_ hz_ => by rw [hz_]; exact o40)
              have X49 := Ext.thru X43 hx46 (fun z_ hz_ => by rw [hz_]; exact o41)
              have hb51 : At W H45 b35 ⟨68, [.int .i64 z25.1, .int .i64 z25.2], 2⟩ := hb47
              refine AL.nx ?_
              refine AW.seq ?_
              refine AW.draw' [0, 0, 0, 6, 14, 31, 0, 64, 255] mixed (by rfl) ?_
              refine Dr.read 0 _ 55 _ rfl rfl rfl rfl rfl (RV.of (by intro _ _ h; cases h) (.inl rfl) (fun _ xd => HV.mv rfl)) ?_
              refine Dr.read 1 _ 56 _ rfl rfl rfl rfl rfl (RV.of (by intro _ _ h; cases h) (.inl rfl) (fun _ xd => HV.mv rfl)) ?_
              refine Dr.read 2 _ 57 _ rfl rfl rfl rfl rfl (RV.of (by intro _ _ h; cases h) (.inl rfl) (fun _ xd => HV.mv rfl)) ?_
              obtain ⟨p52, z53, cs54, hz55, hK56, hC57, hP58⟩ := RdK.ix (q := (i : Int)) hr2 sl36 (by omega) (by omega)
              obtain ⟨v59, rfl, hr60⟩ := hK56
              have hm61 := hr60.max
              refine Dr.read 3 _ 58 _ rfl rfl rfl rfl rfl (RV.of (by intro _ _ h; cases h) (.inl rfl) (fun _ xd => hP58 rfl rfl)) ?_
              refine Dr.read 4 _ 59 _ rfl rfl rfl rfl rfl (RV.of (by intro _ _ h; cases h) (.inl rfl) (fun _ xd => HV.ld rfl va24 (rdc_ext xd (cells_first (hC57.ext X48) rfl)))) ?_
              refine Dr.read 6 _ 61 _ rfl rfl rfl rfl rfl (RV.of (by intro _ _ h; cases h) (.inl rfl) (fun _ xd => HV.fa fl68_1 rfl)) ?_
              refine Dr.read 7 _ 62 _ rfl rfl rfl rfl rfl (RV.of (by intro _ _ h; cases h) (.inl rfl) (fun _ xd => HV.ld rfl va2 (rdc_ext xd (at_cell_add hb51 rfl)))) ?_
              refine Dr.eff 5 _ _ rfl (by intro d h; cases h; exact ⟨rfl, rfl⟩) rfl rfl rfl (EC.of (by intro _ _ h; cases h) (.inl rfl) (WV.call fn83 rfl (curveAt_ok (hr60.ext X48) 0 hp (by omega) (by have q := (hv.2 i (by omega)).2.1; rw [(gd hz55 rfl : m.getD i [] = z53)] at q; exact q)))) (fun v H' h => .inl (h.2)) ?_
              rintro _ H62 ⟨rfl, hx63⟩
              have X64 := Ext.trans X48 hx63
              have X65 := Ext.trans X49 hx63
              have hb66 := hb51.ext hx63
              refine Dr.read 8 _ 63 _ rfl rfl rfl rfl rfl (RV.of (by intro _ _ h; cases h) (.inl rfl) (fun _ xd => HV.nei rfl rfl)) ?_
              refine Dr.fin rfl ?_
              refine nrm_and ?_
              refine AW.ifd rfl (fun c67 => ?_) (fun c67 => ?_)
              · -- then
                refine AW.rs ?_
                refine AL.val rfl (.inl rfl) (HV.as rfl) ?_
                refine AL.val rfl (.inl rfl) (HV.as rfl) ?_
                refine AL.nx ?_
                refine AW.ret ?_
                refine ret_blk (ret_and (ret_and (ret_blk (ret_and ?_))))
                refine post_two rfl rfl rfl ?_ (.inr rfl)
                have hv : vS p l ∧ allC p m := ⟨by assumption, by first | assumption | exact fun j hj => ((by assumption : allV p m) j hj).2⟩; have hq := rs4 hv (⟨by omega, by assumption⟩ : (m.length : Int) = l.length ∧ ptsI p pts) (fun h => by have q := h.1 i (by omega); rw [(gd hz55 rfl : m.getD i [] = z53), (gd hz27 rfl : l.getD i (0, 0) = z25)] at q; omega); exact ⟨⟨_, [], by rw [hq.1], hq.2.symm, OwnK.nil _⟩, X64⟩
              · -- else
                refine AW.skip ?_
                refine nrm_blk (nrm_and ?_)
                refine AW.reg ?_
                refine AL.val rfl (.inl rfl) (HV.add rfl rfl (by omega)) ?_
                refine AL.val rfl (.inl rfl) (HV.mv rfl) ?_
                refine AL.nil ?_
                refine nrm_and ?_
                exact ⟨i + 1, ⟨X64, X65, by omega, fun j hj => by
      rcases Nat.lt_or_ge j i with h1 | h1
      · exact hfit j h1
      · obtain rfl : j = i := by omega
        rw [(gd hz55 rfl : m.getD j [] = z53), (gd hz27 rfl : l.getD j (0, 0) = z25)]; omega, trivial⟩, by first | omega | (dsimp only; omega), ⟨rfl, rfl, rfl, rfl, rfl, rfl, rfl, trivial⟩⟩
            · -- else
              refine AW.exit ?_
              refine ex_and (ex_and (ex_blk ?_))
              refine nrm_and ?_
              refine AW.rs ?_
              refine AL.val rfl (.inl rfl) (HV.mv rfl) ?_
              refine AL.w rfl (.inl rfl) (WV.call fn93 rfl (ptsOf_ok (hr.ext X21) hl)) ?_
              rintro _ H70 ⟨⟨u68, v69, rfl, hr72, hr73⟩, hx71⟩
              have X74 := Ext.trans X21 hx71
              have X75 := Ext.trans X22 hx71
              have X76 := Ext.refl H70
              refine AL.val rfl (.inl rfl) (HV.mv rfl) ?_
              refine AL.val rfl (.inl rfl) (HV.ex rfl rfl) ?_
              refine AL.val rfl (.inl rfl) (HV.ex rfl rfl) ?_
              refine AL.val rfl (.inl rfl) (HV.as rfl) ?_
              refine AL.val rfl (.inl rfl) (HV.as rfl) ?_
              refine AL.nx ?_
              refine AW.rs ?_
              refine AL.val rfl (.inl rfl) (HV.mv rfl) ?_
              refine AL.val rfl (.inl rfl) (HV.mv rfl) ?_
              refine AL.w rfl (.inl rfl) (WV.call fn94 rfl (weights_ok p 0 hr72 hq (by omega) hpl.2 (by have := hpl.1; omega))) ?_
              rintro v77 H78 ⟨hx79, ho80⟩
              have X82 := Ext.trans X74 hx79
              have X83 := Ext.trans X75 hx79
              have X84 := Ext.trans X76 hx79
              have X85 := Ext.refl H78
              have hr81 : RdK kI W H78 _ v77 (wts p (l.map Prod.fst) 0 (l.map Prod.fst).length) := ho80.rd
              have o86 := X82.bd
              have o87 := X83.bd
              have o88 := X84.bd
              have o89 := X85.bd
              refine AL.w rfl (.inl rfl) (WV.bsK (K := (kP kI kI)) (l := ([] : List (Int × Int))) (css := []) sl27 rfl rfl (by first | rfl | (simp [Instr.fill, Value.cells, kI, kB, kU, kS, Kd.sc]; done) | (simp [Instr.fill, Value.cells, kI, kB, kU, kS, Kd.sc, rng1, rng2, rng3, rng4, kP])) rfl segs_nil) ?_
              rintro v90 H91 ⟨hx92, ho93⟩
              have X94 := Ext.trans X82 hx92
              have X95 := Ext.trans X83 hx92
              have X96 := Ext.trans X84 hx92
              have X97 := Ext.trans X85 hx92
              refine AL.val rfl (.inl rfl) (HV.as rfl) ?_
              refine AL.val rfl (.inl rfl) (HV.as rfl) ?_
              refine AL.nx ?_
              refine AW.seq ?_
              refine AW.rs ?_
              refine AL.val rfl (.inl rfl) (HV.mv rfl) ?_
              refine AL.val rfl (.inl rfl) (HV.len Try.underlying24 rfl hr3.isSl) ?_
              refine AL.val rfl (.inl rfl) (HV.mv rfl) ?_
              refine AL.nx ?_
              refine AW.block ?_
              have hwl : (wts p (l.map Prod.fst) 0 (l.map Prod.fst).length).length = l.length := by rw [wts_len, List.length_map]
              refine AW.loop (σ := Nat × Value × List (Int × Int)) (fun ⟨i, vv, k⟩ => [(0, .int .i64 p), (2, vm), (14, v77), (74, vp), (75, .int .i64 (pts.length : Int)), (15, vv), (76, .int .i64 (i : Int))]) (fun ⟨i, vv, k⟩ H' => Ext H H' ∧ Ext H14 H' ∧ Ext H70 H' ∧ Ext H78 H' ∧ i ≤ pts.length ∧ k = rsh p l m (pts.take i) ∧ k.length = i ∧ OwnK (kP kI kI) 68 W H' (fun b => H78.bd ≤ b) vv k ∧ True) (fun ⟨i, vv, k⟩ => pts.length - i) (0, v90, (([] : List (Int × Int)) : List (Int × Int))) ⟨X94, X95, X96, X97, Nat.zero_le _, rfl, rfl, ho93, trivial⟩ ⟨rfl, rfl, rfl, rfl, rfl, rfl, rfl, trivial⟩ ?_
              rintro ⟨i, vv, k⟩ H99 ⟨X100, X101, X102, X103, hi, hk, hk2, hoL, _⟩
              refine AW.rs ?_
              refine AL.val rfl (.inl rfl) (HV.lti rfl rfl) ?_
              refine AL.nx ?_
              refine AW.seq ?_
              refine AW.ifd rfl (fun c104 => ?_) (fun c104 => ?_)
              · -- then
                refine AW.skip ?_
                refine nrm_and ?_
                refine AW.seq ?_
                refine AW.block ?_
                refine AW.rs ?_
                obtain ⟨p105, z106, cs107, hz108, hK109, hC110, hP111⟩ := RdK.ix (q := (i : Int)) hr3 sl24 (by omega) (by omega)
                obtain rfl : cs107 = [.int .i64 z106] := hK109
                refine AL.val rfl (.inl rfl) (hP111 rfl rfl) ?_
                refine AL.val rfl (.inl rfl) (HV.ld rfl va2 (cells_first (hC110.ext X100) rfl)) ?_
                refine AL.val rfl (.inl rfl) (HV.as rfl) ?_
                refine AL.nx ?_
                refine AW.rs ?_
                refine AL.val rfl (.inl rfl) (HV.as rfl) ?_
                refine AL.nx ?_
                refine AW.seq ?_
                refine AW.rs ?_
                refine AL.val rfl (.inl rfl) (HV.mv rfl) ?_
                refine AL.val rfl (.inl rfl) (HV.len Try.underlying36 rfl hr2.isSl) ?_
                refine AL.val rfl (.inl rfl) (HV.mv rfl) ?_
                refine AL.nx ?_
                refine AW.block ?_
                refine AW.loop (σ := Nat × Int) (fun ⟨j, s⟩ => [(0, .int .i64 p), (2, vm), (14, v77), (15, vv), (17, .int .i64 z106), (74, vp), (75, .int .i64 (pts.length : Int)), (76, .int .i64 (i : Int)), (77, .bool (decide ((i : Int) < (pts.length : Int)))), (78, .pointer (some p105)), (79, .int .i64 z106), (80, vm), (81, .int .i64 (m.length : Int)), (18, .int .i64 s), (82, .int .i64 (j : Int))]) (fun ⟨j, s⟩ H' => Ext H H' ∧ Ext H14 H' ∧ Ext H70 H' ∧ Ext H78 H' ∧ OwnK (kP kI kI) 68 W H' (fun b => H78.bd ≤ b) vv k ∧ j ≤ m.length ∧ s = sumC p (wts p (l.map Prod.fst) 0 (l.map Prod.fst).length) m (pts.getD i 0) j ∧ True) (fun ⟨j, s⟩ => m.length - j) (0, 0) ⟨X100, X101, X102, X103, hoL, Nat.zero_le _, by simp [sumC], trivial⟩ ⟨rfl, rfl, rfl, rfl, rfl, rfl, rfl, rfl, rfl, rfl, rfl, rfl, rfl, rfl, rfl, trivial⟩ ?_
                rintro ⟨j, s⟩ H112 ⟨X113, X114, X115, X116, ho117, hj, hs, _⟩
                refine AW.rs ?_
                refine AL.val rfl (.inl rfl) (HV.lti rfl rfl) ?_
                refine AL.nx ?_
                refine AW.seq ?_
                refine AW.ifd rfl (fun c118 => ?_) (fun c118 => ?_)
                · -- then
                  refine AW.skip ?_
                  refine nrm_and ?_
                  refine AW.seq ?_
                  refine AW.block ?_
                  refine AW.rs ?_
                  refine AL.val rfl (.inl rfl) (HV.mv rfl) ?_
                  obtain ⟨p119, z120, cs121, hz122, hK123, hC124, hP125⟩ := RdK.ix (q := (j : Int)) hr2 sl36 (by omega) (by omega)
                  obtain ⟨v126, rfl, hr127⟩ := hK123
                  have hm128 := hr127.max
                  refine AL.val rfl (.inl rfl) (hP125 rfl rfl) ?_
                  refine AL.val rfl (.inl rfl) (HV.ld rfl va24 (cells_first (hC124.ext X113) rfl)) ?_
                  refine AL.val rfl (.inl rfl) (HV.as rfl) ?_
                  refine AL.val rfl (.inl rfl) (HV.as rfl) ?_
                  refine AL.nx ?_
                  refine AW.draw' [0, 0, 0, 6, 14, 0, 0, 0, 224, 510, 1023, 2047] mixed (by rfl) ?_
                  refine Dr.read 0 _ 87 _ rfl rfl rfl rfl rfl (RV.of (by intro _ _ h; cases h) (.inl rfl) (fun _ xd => HV.mv rfl)) ?_
                  refine Dr.read 1 _ 88 _ rfl rfl rfl rfl rfl (RV.of (by intro _ _ h; cases h) (.inl rfl) (fun _ xd => HV.mv rfl)) ?_
                  refine Dr.read 2 _ 89 _ rfl rfl rfl rfl rfl (RV.of (by intro _ _ h; cases h) (.inl rfl) (fun _ xd => HV.mv rfl)) ?_
                  obtain ⟨p129, z130, cs131, hz132, hK133, hC134, hP135⟩ := RdK.ix (q := (j : Int)) hr81 sl24 (by omega) (by omega)
                  obtain rfl : cs131 = [.int .i64 z130] := hK133
                  refine Dr.read 3 _ 90 _ rfl rfl rfl rfl rfl (RV.of (by intro _ _ h; cases h) (.inl rfl) (fun _ xd => hP135 rfl rfl)) ?_
                  refine Dr.read 4 _ 91 _ rfl rfl rfl rfl rfl (RV.of (by intro _ _ h; cases h) (.inl rfl) (fun _ xd => HV.ld rfl va2 (rdc_ext xd (cells_first (hC134.ext X116) rfl)))) ?_
                  refine Dr.read 5 _ 92 _ rfl rfl rfl rfl rfl (RV.of (by intro _ _ h; cases h) (.inl rfl) (fun _ xd => HV.mv rfl)) ?_
                  refine Dr.read 6 _ 93 _ rfl rfl rfl rfl rfl (RV.of (by intro _ _ h; cases h) (.inl rfl) (fun _ xd => HV.mv rfl)) ?_
                  refine Dr.read 7 _ 94 _ rfl rfl rfl rfl rfl (RV.of (by intro _ _ h; cases h) (.inl rfl) (fun _ xd => HV.mv rfl)) ?_
                  refine Dr.eff 8 _ _ rfl (by intro d h; cases h; exact ⟨rfl, rfl⟩) rfl rfl rfl (EC.of (by intro _ _ h; cases h) (.inl rfl) (WV.call fn83 rfl (curveAt_ok (hr127.ext X113) z106 hp (by have q := ris_at hpt.2 hz108; omega) (by have q := (hv.2 j (by omega)).2.1; rw [(gd hz122 rfl : m.getD j [] = z120)] at q; exact q)))) (fun v H' h => .inl (h.2)) ?_
                  rintro _ H136 ⟨rfl, hx137⟩
                  have X138 := Ext.trans X113 hx137
                  have X139 := Ext.trans X114 hx137
                  have X140 := Ext.trans X115 hx137
                  have X141 := Ext.trans X116 hx137
                  have ho142 := ho117.ext hx137
                  refine Dr.read 9 _ 96 _ rfl rfl rfl rfl rfl (RV.of (by intro _ _ h; cases h) (.inl rfl) (fun _ xd => HV.mul rfl rfl (by have q1 := wts_at (show 2 ≤ p by omega) hz132; have q2 := val_in (show 0 < p by omega) z120 z106; have q3 := mul31 (a := z130) (b := val p z120 z106) (by omega) (by omega) (by omega) (by omega); omega))) ?_
                  refine Dr.read 10 _ 97 _ rfl rfl rfl rfl rfl (RV.of (by intro _ _ h; cases h) (.inl rfl) (fun _ xd => HV.add rfl rfl (by have q1 := wts_at (show 2 ≤ p by omega) hz132; have q2 := val_in (show 0 < p by omega) z120 z106; have q3 := mul31 (a := z130) (b := val p z120 z106) (by omega) (by omega) (by omega) (by omega); rw [hs]; have q0 := sumC_in (show 2 ≤ p by omega) (show p ≤ 31 by omega) (l.map Prod.fst) (l.map Prod.fst).length m (pts.getD i 0) j; omega))) ?_
                  refine Dr.eff 11 _ _ rfl (by intro d h; cases h; exact ⟨rfl, rfl⟩) rfl rfl rfl (EC.of (by intro _ _ h; cases h) (.inl rfl) (WV.ofHV (HV.as rfl))) (fun v H' h => .inl (h.2 ▸ Ext.refl _)) ?_
                  rintro u_ h_ ⟨e1_, e2_⟩
                  rw [e1_, e2_]
                  clear e1_ e2_ u_ h_
                  refine Dr.fin rfl ?_
                  refine nrm_blk (nrm_and ?_)
                  refine AW.reg ?_
                  refine AL.val rfl (.inl rfl) (HV.add rfl rfl (by omega)) ?_
                  refine AL.val rfl (.inl rfl) (HV.mv rfl) ?_
                  refine AL.nil ?_
                  refine nrm_and ?_
                  exact ⟨(j + 1, s + (z130 * (val p z120 z106))), ⟨X138, X139, X140, X141, ho142, by omega, by rw [sumC_succ, (gd hz122 rfl : m.getD j [] = z120), (gd hz132 rfl : (wts p (l.map Prod.fst) 0 (l.map Prod.fst).length).getD j 0 = z130), hs]; rw [(gd hz108 rfl : pts.getD i 0 = z106)], trivial⟩, by first | omega | (dsimp only; omega), ⟨rfl, rfl, rfl, rfl, rfl, rfl, rfl, rfl, rfl, rfl, rfl, rfl, rfl, rfl, rfl, trivial⟩⟩
                · -- else
                  refine AW.exit ?_
                  refine ex_and (ex_and (ex_blk ?_))
                  refine nrm_and ?_
                  refine AW.reg ?_
                  refine AL.val rfl (.inl rfl) (HV.mv rfl) ?_
                  refine AL.val rfl (.inl rfl) (HV.mv rfl) ?_
                  refine AL.val rfl (.inl rfl) (HV.mv rfl) ?_
                  refine AL.val rfl (.inl rfl) (HV.mv rfl) ?_
                  refine AL.val rfl (.inl rfl) (HV.rem rfl rfl (by rw [hs]; have q0 := sumC_in (show 2 ≤ p by omega) (show p ≤ 31 by omega) (l.map Prod.fst) (l.map Prod.fst).length m (pts.getD i 0) j; omega)) ?_
                  refine AL.val rfl (.inl rfl) (HV.bd rfl (bd68_0_1 z106 (s % p))) ?_
                  have X143 := Ext.refl H112
                  have o144 := X113.bd
                  have o145 := X114.bd
                  have o146 := X115.bd
                  have o147 := X116.bd
                  have o148 := X143.bd
                  have a149 := ho117.ltb
                  refine AL.w rfl (.inl rfl) (WV.bsK (K := (kP kI kI)) (l := ([((z106, s % p) : (Int × Int))] : List (Int × Int))) (css := [[.int .i64 z106, .int .i64 (s % p)]]) sl27 rfl rfl (by first | rfl | (simp [Instr.fill, Value.cells, kI, kB, kU, kS, Kd.sc]; done) | (simp [Instr.fill, Value.cells, kI, kB, kU, kS, Kd.sc, rng1, rng2, rng3, rng4, kP])) rfl (segs_cons ⟨[.int .i64 z106], [.int .i64 (s % p)], rfl, rfl, rfl⟩ segs_nil)) ?_
                  rintro v150 H151 ⟨hx152, ho153⟩
                  have X154 := Ext.trans X113 hx152
                  have X155 := Ext.trans X114 hx152
                  have X156 := Ext.trans X115 hx152
                  have X157 := Ext.trans X116 hx152
                  have X158 := Ext.trans X143 hx152
                  have ho159 := ho117.ext hx152
                  have X161 := Ext.refl H151
                  refine AL.w rfl (.inl rfl) (WV.apk sl27 rfl rfl ho159 ho153.rd (by rw [hk2]; have := hpt.1; simp; omega) (by rw [hk2]; have := hpt.1; simp; omega) (fun b hb _ e => Nat.lt_irrefl _ (Nat.lt_of_lt_of_le (a149 b e) hb))) ?_
                  rintro v162 H163 ⟨hx164, ho165, hb166⟩
                  have ho167 := ho165.narrow (ok' := fun b => H78.bd ≤ b) (kP_flat kI_flat kI_flat) (fun b q => (hb166 b q).elim (fun e => (ho159.blk b e).1) (fun e => Nat.le_trans X157.bd e))
                  have X168 := Ext.thru X154 hx164 (fun b hb => Nat.le_trans o86 (ho159.blk b hb).1)
                  have X169 := Ext.thru X155 hx164 (fun b hb => Nat.le_trans o87 (ho159.blk b hb).1)
                  have X170 := Ext.thru X156 hx164 (fun b hb => Nat.le_trans o88 (ho159.blk b hb).1)
                  have X171 := Ext.thru X157 hx164 (fun b hb => Nat.le_trans o89 (ho159.blk b hb).1)
                  refine AL.val rfl (.inl rfl) (HV.as rfl) ?_
                  refine AL.nil ?_
                  refine nrm_blk (nrm_and ?_)
                  refine AW.reg ?_
                  refine AL.val rfl (.inl rfl) (HV.add rfl rfl (by omega)) ?_
                  refine AL.val rfl (.inl rfl) (HV.mv rfl) ?_
                  refine AL.nil ?_
                  refine nrm_and ?_
                  exact ⟨(i + 1, v162, (k ++ (([((z106, s % p) : (Int × Int))] : List (Int × Int)) : List (Int × Int)))), ⟨X168, X169, X170, X171, by omega, by have hj2 : j = m.length := (by omega); subst hj2; rw [rsh_snoc hz108, hk, hs, (gd hz108 rfl : pts.getD i 0 = z106)]; simp only [List.length_map], by simp [hk2], ho167, trivial⟩, by first | omega | (dsimp only; omega), ⟨rfl, rfl, rfl, rfl, rfl, rfl, rfl, trivial⟩⟩
              · -- else
                refine AW.exit ?_
                refine ex_and (ex_and (ex_blk ?_))
                refine nrm_and ?_
                refine AW.rs ?_
                refine AL.val rfl (.inl rfl) (HV.mv rfl) ?_
                refine AL.val rfl (.inl rfl) (HV.as rfl) ?_
                refine AL.val rfl (.inl rfl) (HV.as rfl) ?_
                refine AL.nx ?_
                refine AW.ret ?_
                refine post_two rfl rfl rfl ?_ (.inr rfl)
                have hv : vS p l ∧ allC p m := ⟨by assumption, by first | assumption | exact fun j hj => ((by assumption : allV p m) j hj).2⟩; have hq := rs0 hv (⟨by omega, by assumption⟩ : (m.length : Int) = l.length ∧ ptsI p pts) ⟨fun j hj => hfit j (by omega), by omega⟩; exact ⟨⟨_, _, by rw [hq.1], hq.2.symm, by have e : pts.take i = pts := List.take_of_length_le (by omega); have q := hoL.okk (fun b hb _ => Nat.le_trans o86 hb); rw [hk, e] at q; exact q⟩, X100⟩
  · -- true
    have c7_ : (!decide (vS p l)) = true := by rw [decide_eq_false c7]; rfl
    rw [c7_]
    refine AL.off rfl rfl (by decide) rfl ?_
    refine AL.off rfl rfl (by decide) rfl ?_
    refine AL.off rfl rfl (by decide) rfl ?_
    refine AL.off rfl rfl (by decide) rfl ?_
    refine AL.val rfl (.inl rfl) (HV.pickT rfl rfl) ?_
    refine AL.val rfl (.inl rfl) (HV.as rfl) ?_
    refine AL.nx ?_
    refine AW.cond rfl (fun _ => ?_) (fun h => by cases h)
    refine AW.rs ?_
    refine AL.val rfl (.inl rfl) (HV.as rfl) ?_
    refine AL.val rfl (.inl rfl) (HV.as rfl) ?_
    refine AL.nx ?_
    refine AW.ret ?_
    refine ret_blk (ret_and ?_)
    refine post_two rfl rfl rfl ?_ (.inr rfl)
    have hq := rs1 (p := p) (l := l) (L := m) (pts := pts) (fun h => by first | exact c7 h.1 | exact c7 h.2 | exact c7 (fun j hj => ⟨h.1.1, h.2 j hj⟩)); exact ⟨⟨_, [], by rw [hq.1], hq.2.symm, OwnK.nil _⟩, X6⟩

set_option maxRecDepth 100000 in
theorem law_ReshareTo {v vm vp : Value} {l : List (Int × Int)} {m : List (List Int)} {pts : List Int} {ok ok2 ok3 : Nat → Prop} (p : Int) (hr : RdK (kP kI kI) W H ok v l) (hr2 : RdK (kR kI) W H ok2 vm m) (hr3 : RdK kI W H ok3 vp pts) (hW : W.heap.size ≤ H.bd) : ACalls Try.prog W 8 #[.int .i64 p, v, vm, vp] H (fun r H' => r = .bool true ∧ Ext H H') := by
  refine ACalls.of (args := [.int .i64 p, v, vm, vp]) Try.func8 rfl rfl ?_
  have X0 := Ext.refl H
  have hm1 := hr.max
  have hm2 := hr2.max
  have hm3 := hr3.max
  refine AW.rs ?_
  refine AL.val rfl (.inl rfl) (HV.as rfl) ?_
  refine AL.nx ?_
  refine AW.seq ?_
  refine AW.rs ?_
  refine AL.val rfl (.inl rfl) (HV.mv rfl) ?_
  refine AL.val rfl (.inl rfl) (HV.len Try.underlying24 rfl hr3.isSl) ?_
  refine AL.val rfl (.inl rfl) (HV.gti rfl rfl) ?_
  refine AL.nx ?_
  refine AW.ifd rfl (fun c4 => ?_) (fun c4 => ?_)
  · -- then
    refine AW.rs ?_
    refine AL.val rfl (.inl rfl) (HV.as rfl) ?_
    refine AL.nx ?_
    refine AW.ret ?_
    refine ret_and ?_
    refine post_one rfl rfl ?_ (.inr rfl)
    exact ⟨rfl, X0⟩
  · -- else
    refine AW.skip ?_
    refine nrm_and ?_
    refine AW.rs ?_
    refine AL.val rfl (.inl rfl) (HV.as rfl) ?_
    refine AL.nx ?_
    refine AW.rs ?_
    refine AL.val rfl (.inl rfl) (HV.mv rfl) ?_
    refine AL.val rfl (.inl rfl) (HV.mv rfl) ?_
    refine AL.w rfl (.inl rfl) (WV.call fn15 rfl (szSh_ok hr 1048576 (by omega))) ?_
    rintro _ H5 ⟨⟨q7, rfl, ha8, hb9, he10⟩, hx6⟩
    have X11 := Ext.trans X0 hx6
    refine AL.val rfl (.inl rfl) (HV.as rfl) ?_
    refine AL.nx ?_
    refine AW.seq ?_
    refine AW.rs ?_
    refine AL.val rfl (.inl rfl) (HV.mv rfl) ?_
    refine AL.val rfl (.inl rfl) (HV.lti rfl rfl) ?_
    refine AL.nx ?_
    refine AW.ifd rfl (fun c12 => ?_) (fun c12 => ?_)
    · -- then
      refine AW.rs ?_
      refine AL.val rfl (.inl rfl) (HV.as rfl) ?_
      refine AL.nx ?_
      refine AW.ret ?_
      refine ret_and ?_
      refine post_one rfl rfl ?_ (.inr rfl)
      exact ⟨rfl, X11⟩
    · -- else
      refine AW.skip ?_
      refine nrm_and ?_
      refine AW.rs ?_
      refine AL.val rfl (.inl rfl) (HV.mv rfl) ?_
      refine AL.val rfl (.inl rfl) (HV.mv rfl) ?_
      refine AL.w rfl (.inl rfl) (WV.call fn26 rfl (szInt64SS_ok (q := q7) (hr2.ext X11) (by omega))) ?_
      rintro _ H13 ⟨⟨q15, rfl, ha16, hb17, he18⟩, hx14⟩
      have X19 := Ext.trans X11 hx14
      refine AL.val rfl (.inl rfl) (HV.as rfl) ?_
      refine AL.nx ?_
      refine AW.seq ?_
      refine AW.rs ?_
      refine AL.val rfl (.inl rfl) (HV.mv rfl) ?_
      refine AL.val rfl (.inl rfl) (HV.lti rfl rfl) ?_
      refine AL.nx ?_
      refine AW.ifd rfl (fun c20 => ?_) (fun c20 => ?_)
      · -- then
        refine AW.rs ?_
        refine AL.val rfl (.inl rfl) (HV.as rfl) ?_
        refine AL.nx ?_
        refine AW.ret ?_
        refine ret_and ?_
        refine post_one rfl rfl ?_ (.inr rfl)
        exact ⟨rfl, X19⟩
      · -- else
        refine AW.skip ?_
        refine nrm_and ?_
        refine AW.rs ?_
        refine AL.val rfl (.inl rfl) (HV.mv rfl) ?_
        refine AL.val rfl (.inl rfl) (HV.mv rfl) ?_
        refine AL.w rfl (.inl rfl) (WV.call fn17 rfl (toShS_ok (hr.ext X19) (he10 (by omega)))) ?_
        rintro v21 H22 ⟨hx23, ho24⟩
        have X26 := Ext.trans X19 hx23
        have X27 := Ext.refl H22
        have hr25 : RdK (kP kI kI) W H22 _ v21 l := ho24.rd
        refine AL.val rfl (.inl rfl) (HV.mv rfl) ?_
        refine AL.w rfl (.inl rfl) (WV.call fn28 rfl (toSS_ok (hr2.ext X26) (he18 (by omega)).1 (he18 (by omega)).2)) ?_
        rintro v28 H29 ⟨hx30, ho31⟩
        have X33 := Ext.trans X26 hx30
        have X34 := Ext.trans X27 hx30
        have X35 := Ext.refl H29
        have hr32 : RdK (kR kI) W H29 _ v28 m := ho31.rd.le (le_OR (Le.refl _))
        refine AL.val rfl (.inl rfl) (HV.mv rfl) ?_
        refine AL.w rfl (.inl rfl) (WV.call fn39 rfl (toS_ok (hr3.ext X33) (by omega))) ?_
        rintro v36 H37 ⟨hx38, ho39⟩
        have X41 := Ext.trans X33 hx38
        have X42 := Ext.trans X34 hx38
        have X43 := Ext.trans X35 hx38
        have X44 := Ext.refl H37
        have hr40 : RdK kI W H37 _ v36 pts := ho39.rd
        have o45 := X41.bd
        have o46 := X42.bd
        have o47 := X43.bd
        have o48 := X44.bd
        refine AL.w rfl (.inl rfl) (WV.call fn38 rfl (specRs_ok p (hr25.ext X42) (hr32.ext X43) hr40 (he10 (by omega)))) ?_
        rintro _ H52 ⟨⟨v49, k50, rfl, hk51, ho54⟩, hx53⟩
        have X56 := Ext.trans X41 hx53
        have X57 := Ext.trans X42 hx53
        have X58 := Ext.trans X43 hx53
        have X59 := Ext.trans X44 hx53
        have X60 := Ext.refl H52
        have hr55 := ho54.rd
        refine AL.val rfl (.inl rfl) (HV.mv rfl) ?_
        refine AL.val rfl (.inl rfl) (HV.ex rfl rfl) ?_
        refine AL.val rfl (.inl rfl) (HV.ex rfl rfl) ?_
        refine AL.val rfl (.inl rfl) (HV.as rfl) ?_
        refine AL.val rfl (.inl rfl) (HV.as rfl) ?_
        refine AL.nx ?_
        refine AW.rs ?_
        refine AL.val rfl (.inl rfl) (HV.mv rfl) ?_
        have o61 := X56.bd
        have o62 := X57.bd
        have o63 := X58.bd
        have o64 := X59.bd
        have o65 := X60.bd
        refine AL.w rfl (.inl rfl) (WV.call fn17 rfl (toShS_ok (hr.ext X56) (he10 (by omega)))) ?_
        rintro v66 H67 ⟨hx68, ho69⟩
        have X71 := Ext.trans X56 hx68
        have X72 := Ext.trans X57 hx68
        have X73 := Ext.trans X58 hx68
        have X74 := Ext.trans X59 hx68
        have X75 := Ext.trans X60 hx68
        have X76 := Ext.refl H67
        have ho70 := ho69.okk (ok' := fun b => H52.bd ≤ b ∧ b < H67.bd) (fun b hb hlt => ⟨hb, hlt⟩)
        refine AL.val rfl (.inl rfl) (HV.as rfl) ?_
        refine AL.nx ?_
        refine AW.rs ?_
        refine AL.val rfl (.inl rfl) (HV.mv rfl) ?_
        have o78 := X71.bd
        have o79 := X72.bd
        have o80 := X73.bd
        have o81 := X74.bd
        have o82 := X75.bd
        have o83 := X76.bd
        have a84 := ho70.ltb
        refine AL.w rfl (.inl rfl) (WV.call fn28 rfl (toSS_ok (hr2.ext X71) (he18 (by omega)).1 (he18 (by omega)).2)) ?_
        rintro v85 H86 ⟨hx87, ho88⟩
        have X90 := Ext.trans X71 hx87
        have X91 := Ext.trans X72 hx87
        have X92 := Ext.trans X73 hx87
        have X93 := Ext.trans X74 hx87
        have X94 := Ext.trans X75 hx87
        have X95 := Ext.trans X76 hx87
        have ho96 := ho70.ext hx87
        have X97 := Ext.refl H86
        have ho89 := ho88.okk (ok' := fun b => H67.bd ≤ b ∧ b < H86.bd) (fun b hb hlt => ⟨hb, hlt⟩)
        refine AL.val rfl (.inl rfl) (HV.as rfl) ?_
        refine AL.nx ?_
        refine AW.rs ?_
        refine AL.val rfl (.inl rfl) (HV.mv rfl) ?_
        have o99 := X90.bd
        have o100 := X91.bd
        have o101 := X92.bd
        have o102 := X93.bd
        have o103 := X94.bd
        have o104 := X95.bd
        have o105 := X97.bd
        have a106 := ho96.ltb
        have a107 := ho89.ltb
        have s108 := ho89.lo
        refine AL.w rfl (.inl rfl) (WV.call fn39 rfl (toS_ok (hr3.ext X90) (by omega))) ?_
        rintro v109 H110 ⟨hx111, ho112⟩
        have X114 := Ext.trans X90 hx111
        have X115 := Ext.trans X91 hx111
        have X116 := Ext.trans X92 hx111
        have X117 := Ext.trans X93 hx111
        have X118 := Ext.trans X94 hx111
        have X119 := Ext.trans X95 hx111
        have X120 := Ext.trans X97 hx111
        have ho121 := ho96.ext hx111
        have s123 := s108.ext hx111
        have ho122 := ho89.ext hx111
        have X124 := Ext.refl H110
        have ho113 := ho112.okk (ok' := fun b => H86.bd ≤ b ∧ b < H110.bd) (fun b hb hlt => ⟨hb, hlt⟩)
        refine AL.val rfl (.inl rfl) (HV.as rfl) ?_
        refine AL.nx ?_
        refine AW.rs ?_
        refine AL.val rfl (.inl rfl) (HV.mv rfl) ?_
        refine AL.val rfl (.inl rfl) (HV.mv rfl) ?_
        refine AL.val rfl (.inl rfl) (HV.mv rfl) ?_
        refine AL.val rfl (.inl rfl) (HV.mv rfl) ?_
        have o126 := X114.bd
        have o127 := X115.bd
        have o128 := X116.bd
        have o129 := X117.bd
        have o130 := X118.bd
        have o131 := X119.bd
        have o132 := X120.bd
        have o133 := X124.bd
        have a134 := ho121.ltb
        have a135 := ho122.ltb
        have s136 := ho122.lo
        have a137 := ho113.ltb
        refine AL.w rfl (.inl rfl) (WV.call fn40 rfl (implRs_ok p ho121.rd (rd_ofO ho122.rd) ho113.rd (he10 (by omega)))) ?_
        rintro _ H141 ⟨⟨v138, k139, rfl, hk140, ho143⟩, hx142⟩
        have X145 := Ext.trans X114 hx142
        have X146 := Ext.trans X115 hx142
        have X147 := Ext.trans X116 hx142
        have X148 := Ext.trans X117 hx142
        have X149 := Ext.trans X118 hx142
        have X150 := Ext.trans X119 hx142
        have X151 := Ext.trans X120 hx142
        have X152 := Ext.trans X124 hx142
        have ho153 := ho121.ext hx142
        have s155 := s136.ext hx142
        have ho154 := ho122.ext hx142
        have ho156 := ho113.ext hx142
        have X157 := Ext.refl H141
        have hlen_ := rs_len p l m pts
        rw [← hk140] at hlen_
        refine AL.val rfl (.inl rfl) (HV.mv rfl) ?_
        refine AL.val rfl (.inl rfl) (HV.ex rfl rfl) ?_
        refine AL.val rfl (.inl rfl) (HV.ex rfl rfl) ?_
        refine AL.val rfl (.inl rfl) (HV.as rfl) ?_
        refine AL.val rfl (.inl rfl) (HV.as rfl) ?_
        refine AL.nx ?_
        refine AW.seq ?_
        refine AW.rs ?_
        refine AL.val rfl (.inl rfl) (HV.mv rfl) ?_
        refine AL.val rfl (.inl rfl) (HV.mv rfl) ?_
        refine AL.w rfl (.inl rfl) (WV.call fn20 rfl (eqShS_ok ho143.rd (hr55.ext X149))) ?_
        rintro _ H159 ⟨rfl, hx160⟩
        have X161 := Ext.trans X145 hx160
        have X162 := Ext.trans X146 hx160
        have X163 := Ext.trans X147 hx160
        have X164 := Ext.trans X148 hx160
        have X165 := Ext.trans X149 hx160
        have X166 := Ext.trans X150 hx160
        have X167 := Ext.trans X151 hx160
        have X168 := Ext.trans X152 hx160
        have X169 := Ext.trans X157 hx160
        have ho170 := ho153.ext hx160
        have s172 := s155.ext hx160
        have ho171 := ho154.ext hx160
        have ho173 := ho156.ext hx160
        have ho174 := ho143.ext hx160
        refine AL.val rfl (.inl rfl) (HV.not rfl) ?_
        refine AL.val rfl (.inl rfl) (HV.mv rfl) ?_
        by_cases c175 : k139 = k50
        · -- false
          have c175_ : (!decide (k139 = k50)) = false := by rw [decide_eq_true c175]; rfl
          rw [c175_]
          refine AL.val rfl (.inr ⟨_, _, _, rfl, rfl, rfl⟩) (HV.mv rfl) ?_
          refine AL.val rfl (.inr ⟨_, _, _, rfl, rfl, rfl⟩) (HV.mv rfl) ?_
          refine AL.val rfl (.inr ⟨_, _, _, rfl, rfl, rfl⟩) (HV.nei rfl rfl) ?_
          refine AL.val rfl (.inl rfl) (HV.pickF rfl rfl) ?_
          refine AL.nx ?_
          refine AW.ifd rfl (fun c176 => ?_) (fun c176 => ?_)
          · -- then
            refine AW.rs ?_
            refine AL.val rfl (.inl rfl) (HV.as rfl) ?_
            refine AL.nx ?_
            refine AW.ret ?_
            refine ret_and ?_
            refine post_one rfl rfl ?_ (.inr rfl)
            exfalso; first | omega | exact absurd (hk140.trans hk51.symm) c176 | (simp at c176; done) | exact absurd c176 (by simp)
          · -- else
            refine AW.skip ?_
            refine nrm_and ?_
            refine AW.seq ?_
            refine AW.rs ?_
            refine AL.val rfl (.inl rfl) (HV.mv rfl) ?_
            refine AL.val rfl (.inl rfl) (HV.mv rfl) ?_
            refine AL.w rfl (.inl rfl) (WV.call fn17 rfl (toShS_ok (hr.ext X161) (he10 (by omega)))) ?_
            rintro v177 H178 ⟨hx179, ho180⟩
            have X182 := Ext.trans X161 hx179
            have X183 := Ext.trans X162 hx179
            have X184 := Ext.trans X163 hx179
            have X185 := Ext.trans X164 hx179
            have X186 := Ext.trans X165 hx179
            have X187 := Ext.trans X166 hx179
            have X188 := Ext.trans X167 hx179
            have X189 := Ext.trans X168 hx179
            have X190 := Ext.trans X169 hx179
            have ho191 := ho170.ext hx179
            have s193 := s172.ext hx179
            have ho192 := ho171.ext hx179
            have ho194 := ho173.ext hx179
            have ho195 := ho174.ext hx179
            have X196 := Ext.refl H178
            have hr181 : RdK (kP kI kI) W H178 _ v177 l := ho180.rd
            refine AL.w rfl (.inl rfl) (WV.call fn20 rfl (eqShS_ok ho191.rd hr181)) ?_
            rintro _ H197 ⟨rfl, hx198⟩
            have X199 := Ext.trans X182 hx198
            have X200 := Ext.trans X183 hx198
            have X201 := Ext.trans X184 hx198
            have X202 := Ext.trans X185 hx198
            have X203 := Ext.trans X186 hx198
            have X204 := Ext.trans X187 hx198
            have X205 := Ext.trans X188 hx198
            have X206 := Ext.trans X189 hx198
            have X207 := Ext.trans X190 hx198
            have X208 := Ext.trans X196 hx198
            have ho209 := ho191.ext hx198
            have s211 := s193.ext hx198
            have ho210 := ho192.ext hx198
            have ho212 := ho194.ext hx198
            have ho213 := ho195.ext hx198
            refine AL.val rfl (.inl rfl) (HV.not rfl) ?_
            refine AL.nx ?_
            refine AW.ifn rfl (fun c214 => ?_) (fun c214 => ?_)
            · -- then
              refine AW.rs ?_
              refine AL.val rfl (.inl rfl) (HV.as rfl) ?_
              refine AL.nx ?_
              refine AW.ret ?_
              refine ret_and ?_
              refine post_one rfl rfl ?_ (.inr rfl)
              exfalso; first | omega | exact absurd (hk140.trans hk51.symm) c214 | (simp at c214; done) | exact absurd c214 (by simp)
            · -- else
              refine AW.skip ?_
              refine nrm_and ?_
              refine AW.seq ?_
              refine AW.rs ?_
              refine AL.val rfl (.inl rfl) (HV.mv rfl) ?_
              refine AL.val rfl (.inl rfl) (HV.mv rfl) ?_
              refine AL.w rfl (.inl rfl) (WV.call fn28 rfl (toSS_ok (hr2.ext X199) (he18 (by omega)).1 (he18 (by omega)).2)) ?_
              rintro v215 H216 ⟨hx217, ho218⟩
              have X220 := Ext.trans X199 hx217
              have X221 := Ext.trans X200 hx217
              have X222 := Ext.trans X201 hx217
              have X223 := Ext.trans X202 hx217
              have X224 := Ext.trans X203 hx217
              have X225 := Ext.trans X204 hx217
              have X226 := Ext.trans X205 hx217
              have X227 := Ext.trans X206 hx217
              have X228 := Ext.trans X207 hx217
              have X229 := Ext.trans X208 hx217
              have ho230 := ho209.ext hx217
              have s232 := s211.ext hx217
              have ho231 := ho210.ext hx217
              have ho233 := ho212.ext hx217
              have ho234 := ho213.ext hx217
              have X235 := Ext.refl H216
              have hr219 : RdK (kR kI) W H216 _ v215 m := ho218.rd.le (le_OR (Le.refl _))
              refine AL.w rfl (.inl rfl) (WV.call fn30 rfl (eqSS_ok (rd_ofO ho231.rd) hr219)) ?_
              rintro _ H236 ⟨rfl, hx237⟩
              have X238 := Ext.trans X220 hx237
              have X239 := Ext.trans X221 hx237
              have X240 := Ext.trans X222 hx237
              have X241 := Ext.trans X223 hx237
              have X242 := Ext.trans X224 hx237
              have X243 := Ext.trans X225 hx237
              have X244 := Ext.trans X226 hx237
              have X245 := Ext.trans X227 hx237
              have X246 := Ext.trans X228 hx237
              have X247 := Ext.trans X229 hx237
              have X248 := Ext.trans X235 hx237
              have ho249 := ho230.ext hx237
              have s251 := s232.ext hx237
              have ho250 := ho231.ext hx237
              have ho252 := ho233.ext hx237
              have ho253 := ho234.ext hx237
              refine AL.val rfl (.inl rfl) (HV.not rfl) ?_
              refine AL.nx ?_
              refine AW.ifn rfl (fun c254 => ?_) (fun c254 => ?_)
              · -- then
                refine AW.rs ?_
                refine AL.val rfl (.inl rfl) (HV.as rfl) ?_
                refine AL.nx ?_
                refine AW.ret ?_
                refine ret_and ?_
                refine post_one rfl rfl ?_ (.inr rfl)
                exfalso; first | omega | exact absurd (hk140.trans hk51.symm) c254 | (simp at c254; done) | exact absurd c254 (by simp)
              · -- else
                refine AW.skip ?_
                refine nrm_and ?_
                refine AW.seq ?_
                refine AW.rs ?_
                refine AL.val rfl (.inl rfl) (HV.mv rfl) ?_
                refine AL.val rfl (.inl rfl) (HV.mv rfl) ?_
                refine AL.w rfl (.inl rfl) (WV.call fn39 rfl (toS_ok (hr3.ext X238) (by omega))) ?_
                rintro v255 H256 ⟨hx257, ho258⟩
                have X260 := Ext.trans X238 hx257
                have X261 := Ext.trans X239 hx257
                have X262 := Ext.trans X240 hx257
                have X263 := Ext.trans X241 hx257
                have X264 := Ext.trans X242 hx257
                have X265 := Ext.trans X243 hx257
                have X266 := Ext.trans X244 hx257
                have X267 := Ext.trans X245 hx257
                have X268 := Ext.trans X246 hx257
                have X269 := Ext.trans X247 hx257
                have X270 := Ext.trans X248 hx257
                have ho271 := ho249.ext hx257
                have s273 := s251.ext hx257
                have ho272 := ho250.ext hx257
                have ho274 := ho252.ext hx257
                have ho275 := ho253.ext hx257
                have X276 := Ext.refl H256
                have hr259 : RdK kI W H256 _ v255 pts := ho258.rd
                refine AL.w rfl (.inl rfl) (WV.call fn19 rfl (eqS_ok ho274.rd hr259)) ?_
                rintro _ H277 ⟨rfl, hx278⟩
                have X279 := Ext.trans X260 hx278
                have X280 := Ext.trans X261 hx278
                have X281 := Ext.trans X262 hx278
                have X282 := Ext.trans X263 hx278
                have X283 := Ext.trans X264 hx278
                have X284 := Ext.trans X265 hx278
                have X285 := Ext.trans X266 hx278
                have X286 := Ext.trans X267 hx278
                have X287 := Ext.trans X268 hx278
                have X288 := Ext.trans X269 hx278
                have X289 := Ext.trans X270 hx278
                have X290 := Ext.trans X276 hx278
                have ho291 := ho271.ext hx278
                have s293 := s273.ext hx278
                have ho292 := ho272.ext hx278
                have ho294 := ho274.ext hx278
                have ho295 := ho275.ext hx278
                refine AL.val rfl (.inl rfl) (HV.not rfl) ?_
                refine AL.nx ?_
                refine AW.ifn rfl (fun c296 => ?_) (fun c296 => ?_)
                · -- then
                  refine AW.rs ?_
                  refine AL.val rfl (.inl rfl) (HV.as rfl) ?_
                  refine AL.nx ?_
                  refine AW.ret ?_
                  refine ret_and ?_
                  refine post_one rfl rfl ?_ (.inr rfl)
                  exfalso; first | omega | exact absurd (hk140.trans hk51.symm) c296 | (simp at c296; done) | exact absurd c296 (by simp)
                · -- else
                  refine AW.skip ?_
                  refine nrm_and ?_
                  refine AW.rs ?_
                  refine AL.val rfl (.inl rfl) (HV.as rfl) ?_
                  refine AL.nx ?_
                  refine AW.rs ?_
                  refine AL.val rfl (.inl rfl) (HV.mv rfl) ?_
                  refine AL.val rfl (.inl rfl) (HV.mv rfl) ?_
                  refine AL.w rfl (.inl rfl) (WV.call fn21 rfl (markSh_ok 1 ho291 (by omega))) ?_
                  rintro _ H297 ⟨k298, rfl, hk299, hh300, hx301, ho302⟩
                  have X303 := Ext.thru X279 hx301 (fun b hb => Nat.le_trans o61 (ho291.blk b hb).1.1)
                  have X304 := Ext.thru X280 hx301 (fun b hb => Nat.le_trans o62 (ho291.blk b hb).1.1)
                  have X305 := Ext.thru X281 hx301 (fun b hb => Nat.le_trans o63 (ho291.blk b hb).1.1)
                  have X306 := Ext.thru X282 hx301 (fun b hb => Nat.le_trans o64 (ho291.blk b hb).1.1)
                  have X307 := Ext.thru X283 hx301 (fun b hb => Nat.le_trans o65 (ho291.blk b hb).1.1)
                  have ho315 := ho292.but hx301 (fun b hb _ e => by have h1 : H67.bd ≤ b ∧ b < H86.bd := hb; have h2 : H52.bd ≤ b ∧ b < H67.bd := (ho291.blk b e).1; omega) (fun b hb => (ho291.blk b hb).2.2)
                  have ho316 := ho294.but hx301 (fun b hb _ e => by have h1 : H86.bd ≤ b ∧ b < H110.bd := hb; have h2 : H52.bd ≤ b ∧ b < H67.bd := (ho291.blk b e).1; omega) (fun b hb => (ho291.blk b hb).2.2)
                  have ho317 := ho295.but hx301 (fun b hb _ e => by have h1 : H110.bd ≤ b := hb; have h2 : H52.bd ≤ b ∧ b < H67.bd := (ho291.blk b e).1; omega) (fun b hb => (ho291.blk b hb).2.2)
                  refine AL.val rfl (.inl rfl) (HV.as rfl) ?_
                  refine AL.nx ?_
                  refine AW.rs ?_
                  refine AL.val rfl (.inl rfl) (HV.mv rfl) ?_
                  refine AL.val rfl (.inl rfl) (HV.mv rfl) ?_
                  refine AL.w rfl (.inl rfl) (WV.call fn31 rfl (markSS_ok ho315 (he18 (by omega)) (1 + 2 * (l.length : Int)) (by omega))) ?_
                  rintro _ H318 ⟨⟨q319, rfl, ha320⟩, hx321⟩
                  have X322 := Ext.thru X303 hx321 (fun b hb => Nat.le_trans o78 hb.1)
                  have X323 := Ext.thru X304 hx321 (fun b hb => Nat.le_trans o79 hb.1)
                  have X324 := Ext.thru X305 hx321 (fun b hb => Nat.le_trans o80 hb.1)
                  have X325 := Ext.thru X306 hx321 (fun b hb => Nat.le_trans o81 hb.1)
                  have X326 := Ext.thru X307 hx321 (fun b hb => Nat.le_trans o82 hb.1)
                  have ho327 := ho316.but hx321 (fun b hb _ e => by have h1 : H86.bd ≤ b ∧ b < H110.bd := hb; have h2 : H67.bd ≤ b ∧ b < H86.bd := e; omega) (fun b hb => by have h2 : H67.bd ≤ b ∧ b < H86.bd := hb; omega)
                  have ho328 := ho317.but hx321 (fun b hb _ e => by have h1 : H110.bd ≤ b := hb; have h2 : H67.bd ≤ b ∧ b < H86.bd := e; omega) (fun b hb => by have h2 : H67.bd ≤ b ∧ b < H86.bd := hb; omega)
                  refine AL.val rfl (.inl rfl) (HV.as rfl) ?_
                  refine AL.nx ?_
                  refine AW.rs ?_
                  refine AL.val rfl (.inl rfl) (HV.mv rfl) ?_
                  refine AL.val rfl (.inl rfl) (HV.mv rfl) ?_
                  refine AL.w rfl (.inl rfl) (WV.call fn22 rfl (markS_ok q319 ho327 (by omega))) ?_
                  rintro _ H329 ⟨k330, rfl, hk331, hh332, hx333, ho334⟩
                  have X335 := Ext.thru X322 hx333 (fun b hb => Nat.le_trans o99 (ho327.blk b hb).1.1)
                  have X336 := Ext.thru X323 hx333 (fun b hb => Nat.le_trans o100 (ho327.blk b hb).1.1)
                  have X337 := Ext.thru X324 hx333 (fun b hb => Nat.le_trans o101 (ho327.blk b hb).1.1)
                  have X338 := Ext.thru X325 hx333 (fun b hb => Nat.le_trans o102 (ho327.blk b hb).1.1)
                  have X339 := Ext.thru X326 hx333 (fun b hb => Nat.le_trans o103 (ho327.blk b hb).1.1)
                  have ho340 := ho328.but hx333 (fun b hb _ e => by have h1 : H110.bd ≤ b := hb; have h2 : H86.bd ≤ b ∧ b < H110.bd := (ho327.blk b e).1; omega) (fun b hb => (ho327.blk b hb).2.2)
                  refine AL.val rfl (.inl rfl) (HV.as rfl) ?_
                  refine AL.nx ?_
                  refine AW.seq ?_
                  refine AW.rs ?_
                  refine AL.val rfl (.inl rfl) (HV.mv rfl) ?_
                  refine AL.val rfl (.inl rfl) (HV.lti rfl rfl) ?_
                  refine AL.val rfl (.inl rfl) (HV.mv rfl) ?_
                  by_cases c341 : (q319 + (pts.length : Int)) < 0
                  · -- true
                    have c341_ : decide ((q319 + (pts.length : Int)) < 0) = true := decide_eq_true c341
                    rw [c341_]
                    refine AL.off rfl rfl (by decide) rfl ?_
                    refine AL.off rfl rfl (by decide) rfl ?_
                    refine AL.off rfl rfl (by decide) rfl ?_
                    refine AL.off rfl rfl (by decide) rfl ?_
                    refine AL.val rfl (.inl rfl) (HV.pickT rfl rfl) ?_
                    refine AL.val rfl (.inl rfl) (HV.mv rfl) ?_
                    refine AL.off rfl rfl (by decide) rfl ?_
                    refine AL.off rfl rfl (by decide) rfl ?_
                    refine AL.off rfl rfl (by decide) rfl ?_
                    refine AL.val rfl (.inl rfl) (HV.pickT rfl rfl) ?_
                    refine AL.nx ?_
                    refine AW.cond rfl (fun _ => ?_) (fun h => by cases h)
                    refine AW.rs ?_
                    refine AL.val rfl (.inl rfl) (HV.as rfl) ?_
                    refine AL.nx ?_
                    refine AW.ret ?_
                    refine ret_and ?_
                    refine post_one rfl rfl ?_ (.inr rfl)
                    exfalso; first | omega | exact absurd (hk140.trans hk51.symm) c341 | (simp at c341; done) | exact absurd c341 (by simp)
                  · -- false
                    have c341_ : decide ((q319 + (pts.length : Int)) < 0) = false := decide_eq_false c341
                    rw [c341_]
                    refine AL.val rfl (.inr ⟨_, _, _, rfl, rfl, rfl⟩) (HV.mv rfl) ?_
                    refine AL.val rfl (.inr ⟨_, _, _, rfl, rfl, rfl⟩) (HV.mv rfl) ?_
                    refine AL.w rfl (.inr ⟨_, _, _, rfl, rfl, rfl⟩) (WV.call fn20 rfl (eqShS_ok ho340.rd (hr55.ext X339))) ?_
                    rintro _ H343 ⟨rfl, hx344⟩
                    have X345 := Ext.trans X335 hx344
                    have X346 := Ext.trans X336 hx344
                    have X347 := Ext.trans X337 hx344
                    have X348 := Ext.trans X338 hx344
                    have X349 := Ext.trans X339 hx344
                    have ho350 := ho340.ext hx344
                    refine AL.val rfl (.inr ⟨_, _, _, rfl, rfl, rfl⟩) (HV.not rfl) ?_
                    refine AL.val rfl (.inl rfl) (HV.pickF rfl rfl) ?_
                    refine AL.val rfl (.inl rfl) (HV.mv rfl) ?_
                    by_cases c351 : k139 = k50
                    · -- false
                      have c351_ : (!decide (k139 = k50)) = false := by rw [decide_eq_true c351]; rfl
                      rw [c351_]
                      refine AL.val rfl (.inr ⟨_, _, _, rfl, rfl, rfl⟩) (HV.mv rfl) ?_
                      refine AL.val rfl (.inr ⟨_, _, _, rfl, rfl, rfl⟩) (HV.mv rfl) ?_
                      refine AL.val rfl (.inr ⟨_, _, _, rfl, rfl, rfl⟩) (HV.nei rfl rfl) ?_
                      refine AL.val rfl (.inl rfl) (HV.pickF rfl rfl) ?_
                      refine AL.nx ?_
                      refine AW.ifd rfl (fun c352 => ?_) (fun c352 => ?_)
                      · -- then
                        refine AW.rs ?_
                        refine AL.val rfl (.inl rfl) (HV.as rfl) ?_
                        refine AL.nx ?_
                        refine AW.ret ?_
                        refine ret_and ?_
                        refine post_one rfl rfl ?_ (.inr rfl)
                        exfalso; first | omega | exact absurd (hk140.trans hk51.symm) c352 | (simp at c352; done) | exact absurd c352 (by simp)
                      · -- else
                        refine AW.skip ?_
                        refine nrm_and ?_
                        refine AW.rs ?_
                        refine AL.val rfl (.inl rfl) (HV.as rfl) ?_
                        refine AL.nx ?_
                        refine AW.rs ?_
                        refine AL.val rfl (.inl rfl) (HV.mv rfl) ?_
                        refine AL.val rfl (.inl rfl) (HV.mv rfl) ?_
                        refine AL.w rfl (.inl rfl) (WV.call fn21 rfl (markSh_ok 1 ho350 (by omega))) ?_
                        rintro _ H353 ⟨k354, rfl, hk355, hh356, hx357, ho358⟩
                        have X359 := Ext.thru X345 hx357 (fun b hb => Nat.le_trans o126 (ho350.blk b hb).1)
                        have X360 := Ext.thru X346 hx357 (fun b hb => Nat.le_trans o127 (ho350.blk b hb).1)
                        have X361 := Ext.thru X347 hx357 (fun b hb => Nat.le_trans o128 (ho350.blk b hb).1)
                        have X362 := Ext.thru X348 hx357 (fun b hb => Nat.le_trans o129 (ho350.blk b hb).1)
                        have X363 := Ext.thru X349 hx357 (fun b hb => Nat.le_trans o130 (ho350.blk b hb).1)
                        refine AL.val rfl (.inl rfl) (HV.as rfl) ?_
                        refine AL.nx ?_
                        refine AW.rs ?_
                        refine AL.val rfl (.inl rfl) (HV.as rfl) ?_
                        refine AL.nx ?_
                        refine AW.rs ?_
                        refine AL.val rfl (.inl rfl) (HV.mv rfl) ?_
                        refine AL.val rfl (.inl rfl) (HV.mv rfl) ?_
                        refine AL.w rfl (.inl rfl) (WV.call fn32 rfl (heldSh_ok 1 ho358.rd (by omega) hh356)) ?_
                        rintro _ H364 ⟨rfl, hx365⟩
                        have X366 := Ext.trans X359 hx365
                        have X367 := Ext.trans X360 hx365
                        have X368 := Ext.trans X361 hx365
                        have X369 := Ext.trans X362 hx365
                        have X370 := Ext.trans X363 hx365
                        have ho371 := ho358.ext hx365
                        refine AL.val rfl (.inl rfl) (HV.as rfl) ?_
                        refine AL.nx ?_
                        refine AW.seq ?_
                        refine AW.rs ?_
                        refine AL.val rfl (.inl rfl) (HV.mv rfl) ?_
                        refine AL.val rfl (.inl rfl) (HV.lti rfl rfl) ?_
                        refine AL.nx ?_
                        refine AW.ifd rfl (fun c372 => ?_) (fun c372 => ?_)
                        · -- then
                          refine AW.rs ?_
                          refine AL.val rfl (.inl rfl) (HV.as rfl) ?_
                          refine AL.nx ?_
                          refine AW.ret ?_
                          refine ret_and ?_
                          refine post_one rfl rfl ?_ (.inr rfl)
                          exfalso; first | omega | exact absurd (hk140.trans hk51.symm) c372 | (simp at c372; done) | exact absurd c372 (by simp)
                        · -- else
                          refine AW.skip ?_
                          refine nrm_and ?_
                          refine AW.seq ?_
                          refine AW.rs ?_
                          refine AL.val rfl (.inl rfl) (HV.mv rfl) ?_
                          refine AL.val rfl (.inl rfl) (HV.mv rfl) ?_
                          refine AL.val rfl (.inl rfl) (HV.nei rfl rfl) ?_
                          refine AL.nx ?_
                          refine AW.ifd rfl (fun c373 => ?_) (fun c373 => ?_)
                          · -- then
                            refine AW.rs ?_
                            refine AL.val rfl (.inl rfl) (HV.as rfl) ?_
                            refine AL.nx ?_
                            refine AW.ret ?_
                            refine ret_and ?_
                            refine post_one rfl rfl ?_ (.inr rfl)
                            exfalso; first | omega | exact absurd (hk140.trans hk51.symm) c373 | (simp at c373; done) | exact absurd c373 (by simp)
                          · -- else
                            refine AW.skip ?_
                            refine nrm_and ?_
                            refine AW.rs ?_
                            refine AL.val rfl (.inl rfl) (HV.mv rfl) ?_
                            refine AL.val rfl (.inl rfl) (HV.mv rfl) ?_
                            refine AL.w rfl (.inl rfl) (WV.call fn17 rfl (toShS_ok (hr.ext X366) (he10 (by omega)))) ?_
                            rintro v374 H375 ⟨hx376, ho377⟩
                            have X379 := Ext.trans X366 hx376
                            have X380 := Ext.trans X367 hx376
                            have X381 := Ext.trans X368 hx376
                            have X382 := Ext.trans X369 hx376
                            have X383 := Ext.trans X370 hx376
                            have ho384 := ho371.ext hx376
                            have X385 := Ext.refl H375
                            have hr378 : RdK (kP kI kI) W H375 _ v374 l := ho377.rd
                            refine AL.val rfl (.inl rfl) (HV.mv rfl) ?_
                            refine AL.w rfl (.inl rfl) (WV.call fn28 rfl (toSS_ok (hr2.ext X379) (he18 (by omega)).1 (he18 (by omega)).2)) ?_
                            rintro v386 H387 ⟨hx388, ho389⟩
                            have X391 := Ext.trans X379 hx388
                            have X392 := Ext.trans X380 hx388
                            have X393 := Ext.trans X381 hx388
                            have X394 := Ext.trans X382 hx388
                            have X395 := Ext.trans X383 hx388
                            have X396 := Ext.trans X385 hx388
                            have ho397 := ho384.ext hx388
                            have X398 := Ext.refl H387
                            have hr390 : RdK (kR kI) W H387 _ v386 m := ho389.rd.le (le_OR (Le.refl _))
                            refine AL.val rfl (.inl rfl) (HV.mv rfl) ?_
                            refine AL.w rfl (.inl rfl) (WV.call fn39 rfl (toS_ok (hr3.ext X391) (by omega))) ?_
                            rintro v399 H400 ⟨hx401, ho402⟩
                            have X404 := Ext.trans X391 hx401
                            have X405 := Ext.trans X392 hx401
                            have X406 := Ext.trans X393 hx401
                            have X407 := Ext.trans X394 hx401
                            have X408 := Ext.trans X395 hx401
                            have X409 := Ext.trans X396 hx401
                            have X410 := Ext.trans X398 hx401
                            have ho411 := ho397.ext hx401
                            have X412 := Ext.refl H400
                            have hr403 : RdK kI W H400 _ v399 pts := ho402.rd
                            have o413 := X404.bd
                            have o414 := X405.bd
                            have o415 := X406.bd
                            have o416 := X407.bd
                            have o417 := X408.bd
                            have o418 := X409.bd
                            have o419 := X410.bd
                            have o420 := X412.bd
                            have a421 := ho411.ltb
                            refine AL.w rfl (.inl rfl) (WV.call fn40 rfl (implRs_ok p (hr378.ext X409) (hr390.ext X410) hr403 (he10 (by omega)))) ?_
                            rintro _ H425 ⟨⟨v422, k423, rfl, hk424, ho427⟩, hx426⟩
                            have X429 := Ext.trans X404 hx426
                            have X430 := Ext.trans X405 hx426
                            have X431 := Ext.trans X406 hx426
                            have X432 := Ext.trans X407 hx426
                            have X433 := Ext.trans X408 hx426
                            have X434 := Ext.trans X409 hx426
                            have X435 := Ext.trans X410 hx426
                            have X436 := Ext.trans X412 hx426
                            have ho437 := ho411.ext hx426
                            have X438 := Ext.refl H425
                            have hr428 := ho427.rd
                            refine AL.val rfl (.inl rfl) (HV.mv rfl) ?_
                            refine AL.val rfl (.inl rfl) (HV.ex rfl rfl) ?_
                            refine AL.val rfl (.inl rfl) (HV.ex rfl rfl) ?_
                            refine AL.val rfl (.inl rfl) (HV.as rfl) ?_
                            refine AL.val rfl (.inl rfl) (HV.as rfl) ?_
                            refine AL.nx ?_
                            refine AW.seq ?_
                            refine AW.rs ?_
                            refine AL.val rfl (.inl rfl) (HV.mv rfl) ?_
                            refine AL.val rfl (.inl rfl) (HV.mv rfl) ?_
                            refine AL.w rfl (.inl rfl) (WV.call fn20 rfl (eqShS_ok hr428 (hr55.ext X433))) ?_
                            rintro _ H439 ⟨rfl, hx440⟩
                            have X441 := Ext.trans X429 hx440
                            have X442 := Ext.trans X430 hx440
                            have X443 := Ext.trans X431 hx440
                            have X444 := Ext.trans X432 hx440
                            have X445 := Ext.trans X433 hx440
                            have X446 := Ext.trans X434 hx440
                            have X447 := Ext.trans X435 hx440
                            have X448 := Ext.trans X436 hx440
                            have X449 := Ext.trans X438 hx440
                            have ho450 := ho437.ext hx440
                            refine AL.val rfl (.inl rfl) (HV.not rfl) ?_
                            refine AL.val rfl (.inl rfl) (HV.mv rfl) ?_
                            by_cases c451 : k423 = k50
                            · -- false
                              have c451_ : (!decide (k423 = k50)) = false := by rw [decide_eq_true c451]; rfl
                              rw [c451_]
                              refine AL.val rfl (.inr ⟨_, _, _, rfl, rfl, rfl⟩) (HV.mv rfl) ?_
                              refine AL.val rfl (.inr ⟨_, _, _, rfl, rfl, rfl⟩) (HV.mv rfl) ?_
                              refine AL.val rfl (.inr ⟨_, _, _, rfl, rfl, rfl⟩) (HV.nei rfl rfl) ?_
                              refine AL.val rfl (.inl rfl) (HV.pickF rfl rfl) ?_
                              refine AL.nx ?_
                              refine AW.ifd rfl (fun c452 => ?_) (fun c452 => ?_)
                              · -- then
                                refine AW.rs ?_
                                refine AL.val rfl (.inl rfl) (HV.as rfl) ?_
                                refine AL.nx ?_
                                refine AW.ret ?_
                                refine ret_and ?_
                                refine post_one rfl rfl ?_ (.inr rfl)
                                exfalso; first | omega | exact absurd (hk140.trans hk51.symm) c452 | exact absurd (hk424.trans hk51.symm) c452 | (simp at c452; done) | exact absurd c452 (by simp)
                              · -- else
                                refine AW.skip ?_
                                refine nrm_and ?_
                                refine AW.rs ?_
                                refine AL.val rfl (.inl rfl) (HV.as rfl) ?_
                                refine AL.nx ?_
                                refine AW.rs ?_
                                refine AL.val rfl (.inl rfl) (HV.mv rfl) ?_
                                refine AL.val rfl (.inl rfl) (HV.mv rfl) ?_
                                refine AL.w rfl (.inl rfl) (WV.call fn32 rfl (heldSh_ok 1 ho450.rd (by omega) hh356)) ?_
                                rintro _ H453 ⟨rfl, hx454⟩
                                have X455 := Ext.trans X441 hx454
                                have X456 := Ext.trans X442 hx454
                                have X457 := Ext.trans X443 hx454
                                have X458 := Ext.trans X444 hx454
                                have X459 := Ext.trans X445 hx454
                                have X460 := Ext.trans X446 hx454
                                have X461 := Ext.trans X447 hx454
                                have X462 := Ext.trans X448 hx454
                                have X463 := Ext.trans X449 hx454
                                have ho464 := ho450.ext hx454
                                refine AL.val rfl (.inl rfl) (HV.as rfl) ?_
                                refine AL.nx ?_
                                refine AW.seq ?_
                                refine AW.rs ?_
                                refine AL.val rfl (.inl rfl) (HV.mv rfl) ?_
                                refine AL.val rfl (.inl rfl) (HV.lti rfl rfl) ?_
                                refine AL.nx ?_
                                refine AW.ifd rfl (fun c465 => ?_) (fun c465 => ?_)
                                · -- then
                                  refine AW.rs ?_
                                  refine AL.val rfl (.inl rfl) (HV.as rfl) ?_
                                  refine AL.nx ?_
                                  refine AW.ret ?_
                                  refine ret_and ?_
                                  refine post_one rfl rfl ?_ (.inr rfl)
                                  exfalso; first | omega | exact absurd (hk140.trans hk51.symm) c465 | exact absurd (hk424.trans hk51.symm) c465 | (simp at c465; done) | exact absurd c465 (by simp)
                                · -- else
                                  refine AW.skip ?_
                                  refine nrm_and ?_
                                  refine AW.seq ?_
                                  refine AW.rs ?_
                                  refine AL.val rfl (.inl rfl) (HV.mv rfl) ?_
                                  refine AL.val rfl (.inl rfl) (HV.mv rfl) ?_
                                  refine AL.val rfl (.inl rfl) (HV.nei rfl rfl) ?_
                                  refine AL.nx ?_
                                  refine AW.ifd rfl (fun c466 => ?_) (fun c466 => ?_)
                                  · -- then
                                    refine AW.rs ?_
                                    refine AL.val rfl (.inl rfl) (HV.as rfl) ?_
                                    refine AL.nx ?_
                                    refine AW.ret ?_
                                    refine ret_and ?_
                                    refine post_one rfl rfl ?_ (.inr rfl)
                                    exfalso; first | omega | exact absurd (hk140.trans hk51.symm) c466 | exact absurd (hk424.trans hk51.symm) c466 | (simp at c466; done) | exact absurd c466 (by simp)
                                  · -- else
                                    refine AW.skip ?_
                                    refine nrm_and ?_
                                    refine AW.rs ?_
                                    refine AL.val rfl (.inl rfl) (HV.as rfl) ?_
                                    refine AL.nx ?_
                                    refine AW.ret ?_
                                    refine post_one rfl rfl ?_ (.inr rfl)
                                    exact ⟨rfl, X455⟩
                            · -- true
                              have c451_ : (!decide (k423 = k50)) = true := by rw [decide_eq_false c451]; rfl
                              rw [c451_]
                              refine AL.off rfl rfl (by decide) rfl ?_
                              refine AL.off rfl rfl (by decide) rfl ?_
                              refine AL.off rfl rfl (by decide) rfl ?_
                              refine AL.val rfl (.inl rfl) (HV.pickT rfl rfl) ?_
                              refine AL.nx ?_
                              refine AW.cond rfl (fun _ => ?_) (fun h => by cases h)
                              refine AW.rs ?_
                              refine AL.val rfl (.inl rfl) (HV.as rfl) ?_
                              refine AL.nx ?_
                              refine AW.ret ?_
                              refine ret_and ?_
                              refine post_one rfl rfl ?_ (.inr rfl)
                              exfalso; first | omega | exact absurd (hk140.trans hk51.symm) c451 | exact absurd (hk424.trans hk51.symm) c451 | (simp at c451; done) | exact absurd c451 (by simp)
                    · -- true
                      have c351_ : (!decide (k139 = k50)) = true := by rw [decide_eq_false c351]; rfl
                      rw [c351_]
                      refine AL.off rfl rfl (by decide) rfl ?_
                      refine AL.off rfl rfl (by decide) rfl ?_
                      refine AL.off rfl rfl (by decide) rfl ?_
                      refine AL.val rfl (.inl rfl) (HV.pickT rfl rfl) ?_
                      refine AL.nx ?_
                      refine AW.cond rfl (fun _ => ?_) (fun h => by cases h)
                      refine AW.rs ?_
                      refine AL.val rfl (.inl rfl) (HV.as rfl) ?_
                      refine AL.nx ?_
                      refine AW.ret ?_
                      refine ret_and ?_
                      refine post_one rfl rfl ?_ (.inr rfl)
                      exfalso; first | omega | exact absurd (hk140.trans hk51.symm) c351 | exact absurd (hk424.trans hk51.symm) c351 | (simp at c351; done) | exact absurd c351 (by simp)
        · -- true
          have c175_ : (!decide (k139 = k50)) = true := by rw [decide_eq_false c175]; rfl
          rw [c175_]
          refine AL.off rfl rfl (by decide) rfl ?_
          refine AL.off rfl rfl (by decide) rfl ?_
          refine AL.off rfl rfl (by decide) rfl ?_
          refine AL.val rfl (.inl rfl) (HV.pickT rfl rfl) ?_
          refine AL.nx ?_
          refine AW.cond rfl (fun _ => ?_) (fun h => by cases h)
          refine AW.rs ?_
          refine AL.val rfl (.inl rfl) (HV.as rfl) ?_
          refine AL.nx ?_
          refine AW.ret ?_
          refine ret_and ?_
          refine post_one rfl rfl ?_ (.inr rfl)
          exfalso; first | omega | exact absurd (hk140.trans hk51.symm) c175 | exact absurd (hk424.trans hk51.symm) c175 | (simp at c175; done) | exact absurd c175 (by simp)
end Go.Proofs.Ytonpikcbmgmchaa.VC
