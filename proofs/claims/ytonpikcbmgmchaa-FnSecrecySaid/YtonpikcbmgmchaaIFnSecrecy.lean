/- Coefficients modulo a prime: roots, and the curve through points. -/
import Derived.Test.YtonpikcbmgmchaaMFnSecrecy
import Derived.Laws.BitsLemmas
set_option linter.unusedVariables false
set_option linter.unusedSimpArgs false
namespace Go.Proofs.Ytonpikcbmgmchaa.M
open Go.RowKit Go.Proofs.YtonpikcbmgmchaaW.PrintWords

/-- The value of coefficients, over the whole numbers. -/
def pe : List Int → Int → Int
  | [], _ => 0
  | c :: l, x => c + x * pe l x
theorem pe_cons (c : Int) (l : List Int) (x : Int) : pe (c :: l) x = c + x * pe l x := rfl
theorem pe_nil (x : Int) : pe [] x = 0 := rfl
theorem cval_pe (p : Int) (x : Int) : ∀ l : List Int, Cg p (cval p l x) (pe l x)
  | [] => Cg.refl p 0
  | c :: l => by
    rw [cval_cons]
    unfold pe
    refine Cg.mod_l ?_
    have := ((cval_pe p x l).mul (Cg.refl p x)).add (Cg.refl p c)
    exact this.trans (Cg.of_eq (by grind))
/-- Divided by x - r. -/
def qd (r : Int) : List Int → List Int
  | [] => []
  | b :: l => pe (b :: l) r :: qd r l
theorem qd_length (r : Int) : ∀ l : List Int, (qd r l).length = l.length
  | [] => rfl
  | b :: l => by simp [qd, qd_length r l]
theorem pe_div (r x : Int) : ∀ (l : List Int) (a : Int), pe (a :: l) x = (x - r) * pe (qd r l) x + pe (a :: l) r
  | [], a => by simp [pe, qd]
  | b :: l, a => by
    have h := pe_div r x l b
    have e : qd r (b :: l) = pe (b :: l) r :: qd r l := rfl
    rw [e, pe_cons a (b :: l) x, h, pe_cons (pe (b :: l) r) (qd r l) x, pe_cons a (b :: l) r]
    grind
theorem qd_zero {p r : Int} : ∀ l : List Int, (∀ y ∈ qd r l, Cg p y 0) → (∀ b ∈ l, Cg p b 0) ∧ Cg p (pe l r) 0
  | [], _ => ⟨fun _ h => (by cases h), Cg.refl p 0⟩
  | b :: l, h => by
    have h0 := h (pe (b :: l) r) List.mem_cons_self
    obtain ⟨h1, h2⟩ := qd_zero l (fun y hy => h y (List.mem_cons_of_mem _ hy))
    refine ⟨fun y hy => ?_, h0⟩
    rcases List.mem_cons.1 hy with rfl | hy
    · have e : pe (y :: l) r = y + r * pe l r := rfl
      rw [e] at h0
      have := h0.sub ((Cg.refl p r).mul h2)
      exact (Cg.of_eq (by grind)).trans (this.trans (Cg.of_eq (by grind)))
    · exact h1 y hy
theorem cg_cancel {p a b : Int} (hp : isPr p = true) (h : ¬ Cg p a 0) (hab : Cg p (a * b) 0) : Cg p b 0 := by
  have hb := isPr_bd hp
  have e := emod_bd (p := p) (by omega) a
  have h1 : 1 ≤ a % p := by
    rcases (show 0 < a % p ∨ a % p = 0 by omega) with h2 | h2
    · omega
    · exact absurd ((Cg.mod p a).symm.trans (Cg.of_eq h2)) h
  have i := inv_cg hp h1 e.2
  have j : Cg p (a * invM p (a % p)) 1 := ((Cg.mod p a).symm.mul (Cg.refl p _)).trans i
  have k := hab.mul (Cg.refl p (invM p (a % p)))
  have m : Cg p (b * 1) 0 := ((Cg.refl p b).mul j.symm).trans ((Cg.of_eq (by grind)).trans (k.trans (Cg.of_eq (by grind))))
  simpa using m
theorem roots_zero {p : Int} (hp : isPr p = true) : ∀ (c roots : List Int), c.length ≤ roots.length → roots.Pairwise (fun a b => ¬ Cg p (b - a) 0) → (∀ r ∈ roots, Cg p (pe c r) 0) → ∀ a ∈ c, Cg p a 0
  | [], _, _, _, _ => fun _ h => by cases h
  | a :: l, [], h, _, _ => by simp at h
  | a :: l, r :: rs, h, hd, hz => by
    have h1 := hz r List.mem_cons_self
    rw [List.pairwise_cons] at hd
    have hq : ∀ y ∈ qd r l, Cg p y 0 := by
      refine roots_zero hp (qd r l) rs (by rw [qd_length]; simp at h; exact h) hd.2 (fun s hs => ?_)
      have h2 := hz s (List.mem_cons_of_mem _ hs)
      rw [pe_div r s l a] at h2
      have h3 := h2.sub h1
      exact cg_cancel hp (hd.1 s hs) ((Cg.of_eq (by grind)).trans (h3.trans (Cg.of_eq (by grind))))
    obtain ⟨h2, h3⟩ := qd_zero l hq
    intro y hy
    rcases List.mem_cons.1 hy with rfl | hy
    · have e : pe (y :: l) r = y + r * pe l r := rfl
      rw [e] at h1
      have := h1.sub ((Cg.refl p r).mul h3)
      exact (Cg.of_eq (by grind)).trans (this.trans (Cg.of_eq (by grind)))
    · exact h2 y hy
termination_by c => c.length
decreasing_by simp [qd_length]
def psub : List Int → List Int → List Int
  | a :: l, b :: m => (a - b) :: psub l m
  | l, [] => l
  | [], b :: m => (0 - b) :: psub [] m
theorem psub_length : ∀ l m : List Int, (psub l m).length = max l.length m.length
  | a :: l, b :: m => by simp [psub, psub_length l m]
  | [], [] => rfl
  | a :: l, [] => by simp [psub]
  | [], b :: m => by simp [psub, psub_length [] m]
theorem psub_pe (x : Int) : ∀ l m : List Int, pe (psub l m) x = pe l x - pe m x
  | a :: l, b :: m => by
    have := psub_pe x l m
    have e : psub (a :: l) (b :: m) = (a - b) :: psub l m := by simp [psub]
    rw [e, pe_cons, this, pe_cons, pe_cons]; grind
  | [], [] => by simp [psub, pe]
  | a :: l, [] => by simp [psub, pe]
  | [], b :: m => by
    have := psub_pe x [] m
    have e : psub [] (b :: m) = (0 - b) :: psub [] m := by simp [psub]
    rw [e, pe_cons, this, pe_cons, pe_nil]; grind
theorem psub_get : ∀ (l m : List Int) (i : Nat), (psub l m).getD i 0 = l.getD i 0 - m.getD i 0
  | a :: l, b :: m, 0 => by simp [psub]
  | a :: l, b :: m, i + 1 => by simpa [psub] using psub_get l m i
  | [], [], i => by simp [psub]
  | a :: l, [], i => by simp [psub]
  | [], b :: m, 0 => by simp [psub]
  | [], b :: m, i + 1 => by simpa [psub] using psub_get [] m i
theorem pe_zero {p x : Int} : ∀ l : List Int, (∀ a ∈ l, Cg p a 0) → Cg p (pe l x) 0
  | [], _ => Cg.refl p 0
  | a :: l, h => by
    rw [pe_cons]
    have := (h a List.mem_cons_self).add ((Cg.refl p x).mul (pe_zero (x := x) l (fun y hy => h y (List.mem_cons_of_mem _ hy))))
    exact this.trans (Cg.of_eq (by grind))
theorem dst_cg {p : Int} {l : List Int} (h : Dst p l) (hp : 0 < p) : l.Pairwise (fun a b => ¬ Cg p (b - a) 0) := by
  obtain ⟨_, h2, h3⟩ := h
  refine List.Pairwise.imp_of_mem (fun {a b} ha hb hab hc => ?_) h2
  have b1 := h3 a ha
  have b2 := h3 b hb
  have := (hc.add (Cg.refl p a)).eq (by omega) (by omega) (by omega) (by omega)
  omega
/-- Two lists of coefficients that agree at enough points. -/
theorem agree {p : Int} (hp : isPr p = true) {P : List Int} (hP : Dst p P) {c d : List Int} (hc : c.length ≤ P.length) (hd : d.length ≤ P.length) (h : ∀ x ∈ P, Cg p (pe c x) (pe d x)) : ∀ i, Cg p (c.getD i 0) (d.getD i 0) := by
  have hb := isPr_bd hp
  have z := roots_zero hp (psub c d) P (by rw [psub_length]; omega) (dst_cg hP (by omega)) (fun r hr => by
    rw [psub_pe]
    exact ((h r hr).sub (Cg.refl p (pe d r))).trans (Cg.of_eq (by omega)))
  intro i
  rcases Nat.lt_or_ge i (psub c d).length with hi | hi
  · have := z _ (List.getElem_mem hi)
    rw [← getD_get (psub c d) i 0 hi, psub_get] at this
    exact ((this.add (Cg.refl p (d.getD i 0)))).symm.symm.trans (Cg.of_eq (by omega)) |> fun h => (Cg.of_eq (by omega)).trans h
  · rw [psub_length] at hi
    rw [getD_end c i 0 (by omega), getD_end d i 0 (by omega)]
    exact Cg.refl p 0
theorem agree_pe {p : Int} (hp : isPr p = true) {P : List Int} (hP : Dst p P) {c d : List Int} (hc : c.length ≤ P.length) (hd : d.length ≤ P.length) (h : ∀ x ∈ P, Cg p (pe c x) (pe d x)) (x : Int) : Cg p (pe c x) (pe d x) := by
  have hb := isPr_bd hp
  have z := roots_zero hp (psub c d) P (by rw [psub_length]; omega) (dst_cg hP (by omega)) (fun r hr => by
    rw [psub_pe]
    exact ((h r hr).sub (Cg.refl p (pe d r))).trans (Cg.of_eq (by omega)))
  have := pe_zero (x := x) _ z
  rw [psub_pe] at this
  exact (Cg.of_eq (by omega)).trans ((this.add (Cg.refl p (pe d x))).trans (Cg.of_eq (by omega)))

/-! ### sums and products of coefficients -/
theorem pe_cg {p x : Int} {l m : List Int} (h : ∀ i, Cg p (l.getD i 0) (m.getD i 0)) : Cg p (pe l x) (pe m x) := by
  have z := pe_zero (p := p) (x := x) (psub l m) (fun a ha => by
    obtain ⟨i, hi, rfl⟩ := List.getElem_of_mem ha
    rw [← getD_get (psub l m) i 0 hi, psub_get]
    exact ((h i).sub (Cg.refl p _)).trans (Cg.of_eq (by omega)))
  rw [psub_pe] at z
  exact (Cg.of_eq (by omega)).trans ((z.add (Cg.refl p (pe m x))).trans (Cg.of_eq (by omega)))
def addS (t : Int) : List Int → List Int → List Int
  | a :: l, b :: m => (a + b * t) :: addS t l m
  | l, [] => l
  | [], b :: m => (0 + b * t) :: addS t [] m
theorem addS_pe (t x : Int) : ∀ l m : List Int, pe (addS t l m) x = pe l x + t * pe m x
  | a :: l, b :: m => by
    have := addS_pe t x l m
    have e : addS t (a :: l) (b :: m) = (a + b * t) :: addS t l m := by simp [addS]
    rw [e, pe_cons, this, pe_cons, pe_cons]; grind
  | [], [] => by simp [addS, pe]
  | a :: l, [] => by simp [addS, pe]
  | [], b :: m => by
    have := addS_pe t x [] m
    have e : addS t [] (b :: m) = (0 + b * t) :: addS t [] m := by simp [addS]
    rw [e, pe_cons, this, pe_cons, pe_nil]; grind
theorem addS_get (t : Int) : ∀ (l m : List Int) (i : Nat), (addS t l m).getD i 0 = l.getD i 0 + m.getD i 0 * t
  | a :: l, b :: m, 0 => by simp [addS]
  | a :: l, b :: m, i + 1 => by simpa [addS] using addS_get t l m i
  | [], [], i => by simp [addS]
  | a :: l, [], i => by simp [addS]
  | [], b :: m, 0 => by simp [addS]
  | [], b :: m, i + 1 => by simpa [addS] using addS_get t [] m i
theorem addC_pe (p t x : Int) (o c : List Int) : Cg p (pe (addC p t o c) x) (pe o x + t * pe c x) := by
  rw [← addS_pe]
  apply pe_cg
  intro i
  rw [addS_get]
  rcases Nat.lt_or_ge i (addC p t o c).length with h | h
  · rw [getD_get _ _ _ h, addC_get]
    exact Cg.mod p _
  · rw [getD_end _ _ _ h]
    rw [addC_length] at h
    rw [getD_end o i 0 (by omega), getD_end c i 0 (by omega)]
    exact Cg.of_eq (by omega)
theorem mulLin_pe (p a x : Int) (c : List Int) : Cg p (pe (mulLin p c a) x) ((x - a) * pe c x) := by
  have e : pe (addS (-a) ((0 : Int) :: c) c) x = (x - a) * pe c x := by
    rw [addS_pe, pe_cons]; grind
  rw [← e]
  apply pe_cg
  intro i
  rw [addS_get]
  rcases Nat.lt_or_ge i (c.length + 1) with h | h
  · rw [mulLin_getD _ _ _ _ h]
    unfold mulAt
    refine (Cg.mod p _).trans (Cg.add (Cg.of_eq ?_) ((Cg.refl p _).mul (Cg.mod p _)))
    cases i with
    | zero => simp
    | succ n => simp
  · rw [getD_end (mulLin p c a) i 0 (by rw [mulLin_length]; exact h), getD_end c i 0 (by omega), getD_end ((0 : Int) :: c) i 0 (by simpa using h)]
    exact Cg.of_eq (by omega)
theorem cutTo_get (l : List Int) : ∀ (n : Nat), n ≤ l.length → ∀ i, (cutTo l n).getD i 0 = (l.take n).getD i 0
  | 0, _, i => by simp [cutTo]
  | n + 1, h, i => by
    unfold cutTo
    split
    · rename_i hz
      rw [cutTo_get l n (by omega) i]
      rcases Nat.lt_trichotomy i n with hi | hi | hi
      · rw [getD_get _ _ _ (by simp; omega), getD_get _ _ _ (by simp; omega)]; simp
      · subst hi
        rw [getD_end _ _ _ (by simp; omega), getD_get (l.take (i + 1)) i 0 (by simp; omega)]
        rw [getD_get l i 0 (by omega)] at hz
        simp [hz]
      · rw [getD_end _ _ _ (by simp; omega), getD_end _ _ _ (by simp; omega)]
    · rfl
theorem stripM_get (l : List Int) (i : Nat) : (stripM l).getD i 0 = l.getD i 0 := by
  unfold stripM
  rw [cutTo_get l l.length (Nat.le_refl _) i, List.take_length]
theorem stripM_pe (p x : Int) (l : List Int) : Cg p (pe (stripM l) x) (pe l x) := pe_cg (fun i => Cg.of_eq (stripM_get l i))
def pX (x : Int) (b y : Int) : Int := b * (x - y)
theorem part_pe (p x : Int) (i : Nat) : ∀ (l : List Int) (k : Nat) (c : List Int), Cg p (pe (skipFold (mulLin p) i k l c) x) (skipFold (pX x) i k l (pe c x))
  | [], _, c => Cg.refl p _
  | y :: ys, k, c => by
    rw [skipFold_cons, skipFold_cons]
    split
    · exact part_pe p x i ys (k + 1) c
    · refine (part_pe p x i ys (k + 1) (mulLin p c y)).trans ?_
      have : ∀ (l : List Int) (k : Nat) (a b : Int), Cg p a b → Cg p (skipFold (pX x) i k l a) (skipFold (pX x) i k l b) := by
        intro l
        induction l with
        | nil => intro k a b h; exact h
        | cons z zs ih =>
          intro k a b h
          rw [skipFold_cons, skipFold_cons]
          split
          · exact ih (k + 1) a b h
          · exact ih (k + 1) _ _ (h.mul (Cg.refl p _))
      refine this ys (k + 1) _ _ ((mulLin_pe p y x c).trans (Cg.of_eq ?_))
      unfold pX
      rw [Int.mul_comm]
theorem w_by (p x xi v : Int) (i : Nat) : ∀ (l : List Int) (k : Nat) (w b c : Int), Cg p (w * v) (b * c) → Cg p (skipFold (wS p x xi) i k l w * v) (skipFold (byS p xi) i k l b * skipFold (pX x) i k l c)
  | [], _, w, b, c, h => h
  | y :: ys, k, w, b, c, h => by
    rw [skipFold_cons, skipFold_cons, skipFold_cons]
    split
    · exact w_by p x xi v i ys (k + 1) w b c h
    · refine w_by p x xi v i ys (k + 1) _ _ _ ?_
      unfold wS byS pX
      have g1 : Cg p ((w * ((x - y) % p)) % p * invM p ((xi - y) % p) % p * v) (w * (x - y) * invM p ((xi - y) % p) * v) :=
        (((Cg.mod p _).trans (((Cg.mod p _).trans ((Cg.refl p w).mul (Cg.mod p _))).mul (Cg.refl p _)))).mul (Cg.refl p v)
      have g2 : Cg p ((b * invM p ((xi - y) % p)) % p * (c * (x - y))) (b * invM p ((xi - y) % p) * (c * (x - y))) := (Cg.mod p _).mul (Cg.refl p _)
      refine g1.trans (Cg.trans ?_ g2.symm)
      have g3 := h.mul (Cg.refl p ((x - y) * invM p ((xi - y) % p)))
      exact (Cg.of_eq (by grind)).trans (g3.trans (Cg.of_eq (by grind)))
theorem by_prod {p xi : Int} (hp : isPr p = true) (hxi : 0 ≤ xi ∧ xi ≤ p - 1) (i : Nat) : ∀ (l : List Int) (k : Nat) (b c : Int), (∀ y ∈ l, 0 ≤ y ∧ y ≤ p - 1) → (∀ j (hj : j < l.length), k + j ≠ i → l[j] ≠ xi) →
    Cg p (skipFold (byS p xi) i k l b * skipFold (pX xi) i k l c) (b * c)
  | [], _, b, c, _, _ => Cg.refl p _
  | y :: ys, k, b, c, hr, hn => by
    have hb := isPr_bd hp
    rw [skipFold_cons, skipFold_cons]
    have hn' : ∀ j (hj : j < ys.length), (k + 1) + j ≠ i → ys[j] ≠ xi := fun j hj h => by
      have := hn (j + 1) (by simpa using hj) (by omega)
      simpa using this
    have hr' : ∀ y ∈ ys, 0 ≤ y ∧ y ≤ p - 1 := fun z hz => hr z (List.mem_cons_of_mem _ hz)
    by_cases hk : k = i
    · rw [if_pos hk, if_pos hk]
      exact by_prod hp hxi i ys (k + 1) b c hr' hn'
    · rw [if_neg hk, if_neg hk]
      refine (by_prod hp hxi i ys (k + 1) _ _ hr' hn').trans ?_
      have hy := hr y List.mem_cons_self
      have hne : y ≠ xi := by
        have := hn 0 (by simp) (by omega)
        simpa using this
      have hd : 1 ≤ (xi - y) % p ∧ (xi - y) % p < p := by
        have := emod_bd (p := p) (by omega) (xi - y)
        refine ⟨?_, this.2⟩
        rcases (show 0 < (xi - y) % p ∨ (xi - y) % p ≤ 0 by omega) with h0 | h0
        · omega
        · exfalso
          have e : (xi - y) % p = 0 := by omega
          have z : Cg p (xi - y) 0 := (Cg.mod p _).symm.trans (Cg.of_eq e)
          have := (z.add (Cg.refl p y)).eq (by omega) (by omega) (by omega) (by omega)
          omega
      have i1 := inv_cg hp hd.1 hd.2
      unfold byS pX
      have g1 : Cg p ((b * invM p ((xi - y) % p)) % p * (c * (xi - y))) (b * invM p ((xi - y) % p) * (c * ((xi - y) % p))) := (Cg.mod p _).mul ((Cg.refl p c).mul (Cg.mod p _).symm)
      refine g1.trans ?_
      have g2 := (Cg.refl p (b * c)).mul i1
      exact (Cg.of_eq (by grind)).trans (g2.trans (Cg.of_eq (by omega)))
theorem prod_zero {x : Int} (i : Nat) : ∀ (l : List Int) (k : Nat) (c : Int), (c = 0 ∨ ∃ j, ∃ h : j < l.length, k + j ≠ i ∧ l[j] = x) → skipFold (pX x) i k l c = 0
  | [], _, c, h => by
    rcases h with h | ⟨j, hj, _⟩
    · exact h
    · simp at hj
  | y :: ys, k, c, h => by
    rw [skipFold_cons]
    refine prod_zero i ys (k + 1) _ ?_
    rcases h with h | ⟨j, hj, h1, h2⟩
    · left
      subst h
      split
      · rfl
      · simp [pX]
    · cases j with
      | zero =>
        left
        rw [if_neg (by omega)]
        simp only [List.getElem_cons_zero] at h2
        unfold pX
        rw [h2]; simp
      | succ j =>
        right
        exact ⟨j, by simpa using hj, by omega, by simpa using h2⟩

/-! ### the curve through points takes their values; weights take its value -/
theorem thr_pe (p x : Int) (P V : List Int) (hl : P.length = V.length) : ∀ (d i : Nat) (o : List Int), i + d = P.length → Cg p (pe (thrFrom p P V d i o) x) (pe o x + sumM ((wM p P x).drop i) (V.drop i))
  | 0, i, o, hi => by
    rw [drop_end (by rw [wM_length]; omega)]
    exact Cg.of_eq (by simp [thrFrom, sumM])
  | d + 1, i, o, hi => by
    have hw : i < (wM p P x).length := by rw [wM_length]; omega
    have hv : i < V.length := by omega
    unfold thrFrom
    refine (thr_pe p x P V hl d (i + 1) _ (by omega)).trans ?_
    rw [drop_get hw, drop_get hv]
    have ew : (wM p P x)[i] = wAt p P x i := by simp [wM]
    rw [ew]
    have es : sumM (wAt p P x i :: (wM p P x).drop (i + 1)) (V[i] :: V.drop (i + 1)) = wAt p P x i * V[i] + sumM ((wM p P x).drop (i + 1)) (V.drop (i + 1)) := rfl
    rw [es]
    have h1 := addC_pe p (byAt p P V i) x o (partAt p P i)
    have h2 := part_pe p x i P 0 [1]
    have h3 : pe [1] x = 1 := by simp [pe]
    rw [h3] at h2
    have hgv : V.getD i 0 = V[i] := getD_get _ _ _ hv
    have h4 := w_by p x (P.getD i 0) V[i] i P 0 1 V[i] 1 (Cg.of_eq (by omega))
    have h5 : Cg p (byAt p P V i * pe (partAt p P i) x) (wAt p P x i * V[i]) := by
      unfold byAt partAt wAt
      rw [hgv]
      exact ((Cg.refl p _).mul h2).trans h4.symm
    exact ((h1.trans ((Cg.refl p _).add h5)).add (Cg.refl p _)).trans (Cg.of_eq (by omega))
theorem through_pe (p x : Int) (P V : List Int) (hl : P.length = V.length) : Cg p (pe (throughM p P V) x) (sumM (wM p P x) V) := by
  unfold throughM
  refine (stripM_pe p x _).trans ((thr_pe p x P V hl P.length 0 [] (by omega)).trans (Cg.of_eq ?_))
  simp [pe]
theorem thr_at {p : Int} (hp : isPr p = true) (P V : List Int) (hP : Dst p P) (hl : P.length = V.length) (m : Nat) (hm : m < P.length) : ∀ (d i : Nat) (o : List Int), i + d = P.length → Cg p (pe (thrFrom p P V d i o) P[m]) (pe o P[m] + if i ≤ m then V.getD m 0 else 0)
  | 0, i, o, hi => by
    rw [if_neg (by omega)]
    exact Cg.of_eq (by simp [thrFrom])
  | d + 1, i, o, hi => by
    unfold thrFrom
    refine (thr_at hp P V hP hl m hm d (i + 1) _ (by omega)).trans ?_
    have h1 := addC_pe p (byAt p P V i) P[m] o (partAt p P i)
    have h2 := part_pe p P[m] i P 0 [1]
    have h3 : pe [1] P[m] = 1 := by simp [pe]
    rw [h3] at h2
    have hmm := hP.2.2 _ (List.getElem_mem hm)
    by_cases him : i = m
    · subst him
      rw [if_neg (by omega), if_pos (Nat.le_refl _)]
      have hg : P.getD i 0 = P[i] := getD_get _ _ _ hm
      have h4 := by_prod hp hmm i P 0 (V.getD i 0) 1 hP.2.2 (fun j hj h => Dst.ne hP.2.1 hm hj (by omega))
      have h5 : Cg p (byAt p P V i * pe (partAt p P i) P[i]) (V.getD i 0) := by
        unfold byAt partAt
        rw [hg]
        exact ((Cg.refl p _).mul h2).trans (h4.trans (Cg.of_eq (by omega)))
      exact ((h1.trans ((Cg.refl p _).add h5)).add (Cg.refl p _)).trans (Cg.of_eq (by omega))
    · have hz := prod_zero (x := P[m]) i P 0 1 (Or.inr ⟨m, hm, by omega, rfl⟩)
      rw [hz] at h2
      have h5 : Cg p (byAt p P V i * pe (partAt p P i) P[m]) 0 := ((Cg.refl p (byAt p P V i)).mul h2).trans (Cg.of_eq (by omega))
      have e : (if i + 1 ≤ m then V.getD m 0 else 0) = (if i ≤ m then V.getD m 0 else 0) := by
        by_cases h : i ≤ m
        · rw [if_pos h, if_pos (by omega)]
        · rw [if_neg h, if_neg (by omega)]
      rw [e]
      exact ((h1.trans ((Cg.refl p _).add h5)).add (Cg.refl p _)).trans (Cg.of_eq (by omega))
theorem through_at {p : Int} (hp : isPr p = true) (P V : List Int) (hP : Dst p P) (hl : P.length = V.length) (m : Nat) (hm : m < P.length) : Cg p (pe (throughM p P V) P[m]) (V.getD m 0) := by
  unfold throughM
  refine (stripM_pe p _ _).trans ((thr_at hp P V hP hl m hm P.length 0 [] (by omega)).trans (Cg.of_eq ?_))
  rw [if_pos (Nat.zero_le _)]; simp [pe]
/-- Weights take a curve's values to its value, where there are enough points. -/
theorem weights_exact {p : Int} (hp : isPr p = true) {P : List Int} (hP : Dst p P) {c : List Int} (hc : c.length ≤ P.length) (x : Int) : Cg p (sumM (wM p P x) (P.map (fun y => pe c y))) (pe c x) := by
  have h1 := through_pe p x P (P.map (fun y => pe c y)) (by simp)
  refine h1.symm.trans (agree_pe hp hP (through_len2 p P _) hc ?_ x)
  intro y hy
  obtain ⟨m, hm, rfl⟩ := List.getElem_of_mem hy
  refine (through_at hp P _ hP (by simp) m hm).trans (Cg.of_eq ?_)
  rw [getD_get _ _ _ (by simpa using hm)]; simp

/-! ### rising lists that take in a number -/
def putM : List Int → Int → List Int
  | [], x => [x]
  | y :: ys, x => if y < x then y :: putM ys x else if y = x then y :: ys else x :: y :: ys
theorem putM_mem (z x : Int) : ∀ l : List Int, z ∈ putM l x ↔ z = x ∨ z ∈ l
  | [] => by simp [putM]
  | y :: ys => by
    unfold putM
    split
    · rw [List.mem_cons, putM_mem z x ys, List.mem_cons]
      constructor
      · rintro (h | h | h)
        · exact Or.inr (Or.inl h)
        · exact Or.inl h
        · exact Or.inr (Or.inr h)
      · rintro (h | h | h)
        · exact Or.inr (Or.inl h)
        · exact Or.inl h
        · exact Or.inr (Or.inr h)
    · split
      · rename_i h
        subst h
        constructor
        · exact Or.inr
        · rintro (h | h)
          · rw [h]; exact List.mem_cons_self
          · exact h
      · rw [List.mem_cons]
theorem putM_len (x : Int) : ∀ l : List Int, (putM l x).length ≤ l.length + 1
  | [] => by simp [putM]
  | y :: ys => by
    unfold putM
    split
    · have := putM_len x ys
      simp only [List.length_cons]; omega
    · split
      · simp
      · simp
theorem pairwise_rises : ∀ {l : List Int}, l.Pairwise (· < ·) → rises l = true
  | [], _ => rfl
  | [_], _ => rfl
  | a :: b :: l, h => by
    rw [List.pairwise_cons] at h
    simp only [rises, Bool.and_eq_true, decide_eq_true_eq]
    exact ⟨h.1 b List.mem_cons_self, pairwise_rises h.2⟩
theorem putM_pairwise (x : Int) : ∀ {l : List Int}, l.Pairwise (· < ·) → (putM l x).Pairwise (· < ·)
  | [], _ => by simp [putM]
  | y :: ys, h => by
    rw [List.pairwise_cons] at h
    unfold putM
    split
    · rename_i hy
      refine List.Pairwise.cons (fun z hz => ?_) (putM_pairwise x h.2)
      rcases (putM_mem z x ys).1 hz with rfl | hz
      · exact hy
      · exact h.1 z hz
    · split
      · exact List.Pairwise.cons h.1 h.2
      · refine List.Pairwise.cons (fun z hz => ?_) (List.Pairwise.cons h.1 h.2)
        rcases List.mem_cons.1 hz with rfl | hz
        · omega
        · have := h.1 z hz
          omega
theorem all_len : ∀ (m : Nat) (l : List Int), (∀ y : Int, 1 ≤ y → y ≤ m → y ∈ l) → m ≤ l.length
  | 0, _, _ => Nat.zero_le _
  | m + 1, l, h => by
    have h1 := h ((m + 1 : Nat) : Int) (by omega) (Int.le_refl _)
    have h2 := all_len m (l.erase ((m + 1 : Nat) : Int)) (fun y a b => (List.mem_erase_of_ne (by omega)).2 (h y a (by omega)))
    rw [List.length_erase_of_mem h1] at h2
    have : 0 < l.length := List.length_pos_of_mem h1
    omega
theorem lastNZ_cut (l : List Int) : ∀ n, n ≤ l.length → lastNZ (cutTo l n) = true
  | 0, _ => rfl
  | n + 1, h => by
    unfold cutTo
    split
    · exact lastNZ_cut l n (by omega)
    · rename_i hz
      rw [getD_get l n 0 (by omega)] at hz
      unfold lastNZ
      have e : (l.take (n + 1)).getLast? = some l[n] := by
        rw [List.getLast?_eq_getElem?, List.length_take, Nat.min_eq_left h, List.getElem?_eq_getElem (by simp; omega)]
        simp
      rw [e]
      simp [hz]
theorem lastNZ_strip (l : List Int) : lastNZ (stripM l) = true := lastNZ_cut l _ (Nat.le_refl _)
theorem cut_sub (l : List Int) : ∀ n x, x ∈ cutTo l n → x ∈ l
  | 0, x, h => by simp [cutTo] at h
  | n + 1, x, h => by
    unfold cutTo at h
    split at h
    · exact cut_sub l n x h
    · exact List.mem_of_mem_take h
theorem allR_strip {p : Int} {l : List Int} (h : allR p l = true) : allR p (stripM l) = true := by
  unfold allR at *
  rw [List.all_eq_true] at h ⊢
  exact fun x hx => h x (cut_sub l _ x hx)
theorem isCurve_mk {p : Int} {l : List Int} (h1 : isPr p = true) (h2 : l.length ≤ 7) (h3 : allR p l = true) (h4 : lastNZ l = true) : isCurve p l = true := by
  simp [isCurve, h1, h2, h3, h4]
theorem isPts_mk {p : Int} {l : List Int} (h1 : l.length ≤ 10) (h2 : l.Pairwise (· < ·)) (h3 : ∀ x ∈ l, 1 ≤ x ∧ x ≤ p - 1) : isPts p l = true := by
  simp only [isPts, Bool.and_eq_true, decide_eq_true_eq, List.all_eq_true]
  exact ⟨h1, pairwise_rises h2, h3⟩

/-! ### bytes -/
theorem wf8 {n : Int} (h : (Lit.int .u8 n).wf = true) : 0 ≤ n ∧ n ≤ 255 := by
  simp [Lit.wf, IntKind.min, IntKind.max, IntKind.signed, IntKind.bits] at h
  omega
theorem wrapu64 (n : Int) : IntKind.u64.wrap n = n % 18446744073709551616 := by
  simp [IntKind.wrap, IntKind.bits, IntKind.signed]
theorem and255 {x : Int} (h0 : 0 ≤ x) (h1 : x < 18446744073709551616) : Go.bits .and .u64 x 255 = x % 256 := by
  have := bits_mask .u64 64 (by decide) (fun n h0 h1 => by rw [wrapu64]; omega) 8 (by decide) x h0 (by omega)
  simpa using this
theorem low8 (n : Int) : 0 ≤ wrap64 (Go.bits .and .u64 (IntKind.u64.wrap n / 1099511627776) 255) ∧ wrap64 (Go.bits .and .u64 (IntKind.u64.wrap n / 1099511627776) 255) ≤ 255 := by
  rw [wrapu64, and255 (by omega) (by omega), w64 (by omega) (by omega)]
  omega
theorem rd_mem {l : List Int} {a : Int} (h0 : 0 ≤ a) (h1 : a < (l.length : Int)) : rd l a ∈ l := by
  unfold rd
  rw [getD_get l a.toNat 0 (by omega)]
  exact List.getElem_mem _

/-! ### the same, over values modulo p -/
theorem sumM_cg {p : Int} {f g : Int → Int} (h : ∀ y, Cg p (f y) (g y)) : ∀ (w q : List Int), Cg p (sumM w (q.map f)) (sumM w (q.map g))
  | [], q => by cases q <;> exact Cg.refl p _
  | a :: w, [] => Cg.refl p _
  | a :: w, b :: q => by
    rw [List.map_cons, List.map_cons]
    simp only [sumM]
    exact ((Cg.refl p a).mul (h b)).add (sumM_cg h w q)
theorem dot_exact {p : Int} (hp : isPr p = true) {P : List Int} (hP : Dst p P) {c : List Int} (hc : c.length ≤ P.length) (x : Int) : dotM p (wM p P x) (P.map (fun y => cval p c y)) = cval p c x := by
  have hb := isPr_bd hp
  have h1 := weights_exact hp hP hc x
  have h2 := sumM_cg (p := p) (f := fun y => cval p c y) (g := fun y => pe c y) (fun y => cval_pe p y c) (wM p P x) P
  have h3 := (h2.trans (h1.trans (cval_pe p x c).symm)).emod_eq
  have cb := cval_bd (p := p) (by omega) c x
  unfold dotM
  rw [h3, Int.emod_eq_of_lt cb.1 cb.2]
theorem through_val {p : Int} (hp : isPr p = true) {P V : List Int} (hP : Dst p P) (hV : allR p V = true) (hl : P.length = V.length) (m : Nat) (hm : m < P.length) : cval p (throughM p P V) P[m] = V.getD m 0 := by
  have hb := isPr_bd hp
  have cb := cval_bd (p := p) (by omega) (throughM p P V) P[m]
  have vb := allR_getD (p := p) (by omega) hV m
  exact ((cval_pe p _ _).trans (through_at hp P V hP hl m hm)).eq cb.1 cb.2 vb.1 vb.2
theorem thr_all {p : Int} (hp : 0 < p) (P V : List Int) : ∀ (d i : Nat) (o : List Int), allR p o = true → allR p (thrFrom p P V d i o) = true
  | 0, _, _, h => h
  | d + 1, i, o, h => by
    unfold thrFrom
    exact thr_all hp P V d (i + 1) _ (addC_all hp _ _ _)
theorem through_curve {p : Int} (hp : isPr p = true) {P V : List Int} (hl : P.length ≤ 7) : isCurve p (throughM p P V) = true := by
  have hb := isPr_bd hp
  refine isCurve_mk hp (Nat.le_trans (through_len2 p P V) hl) ?_ (lastNZ_strip _)
  exact allR_strip (thr_all (by omega) P V _ _ _ rfl)
/-- The curve through a curve's values is that curve. -/
theorem through_back {p : Int} (hp : isPr p = true) {P : List Int} (hP : Dst p P) {c : List Int} (hr : allR p c = true) (hz : lastNZ c = true) (hc : c.length ≤ P.length) : throughM p P (P.map (fun y => cval p c y)) = c := by
  have hb := isPr_bd hp
  have hV : allR p (P.map (fun y => cval p c y)) = true := by
    unfold allR
    rw [List.all_eq_true]
    intro y hy
    obtain ⟨z, _, rfl⟩ := List.mem_map.1 hy
    have := cval_bd (p := p) (by omega) c z
    simp only [inR, decide_eq_true_eq]
    omega
  have tr : allR p (throughM p P (P.map (fun y => cval p c y))) = true := allR_strip (thr_all (by omega) _ _ _ _ _ rfl)
  have tz : lastNZ (throughM p P (P.map (fun y => cval p c y))) = true := lastNZ_strip _
  have ag := agree hp hP (through_len2 p P (P.map (fun y => cval p c y))) hc (fun y hy => by
    obtain ⟨m, hm, rfl⟩ := List.getElem_of_mem hy
    have h1 := through_at hp P (P.map (fun y => cval p c y)) hP (by simp) m hm
    rw [getD_get _ _ _ (by simpa using hm), List.getElem_map] at h1
    exact h1.trans (cval_pe p _ c))
  have eq : ∀ i, (throughM p P (P.map (fun y => cval p c y))).getD i 0 = c.getD i 0 := fun i => by
    have b1 := allR_getD (p := p) (by omega) tr i
    have b2 := allR_getD (p := p) (by omega) hr i
    exact (ag i).eq b1.1 b1.2 b2.1 b2.2
  have last : ∀ l : List Int, lastNZ l = true → l = [] ∨ l.getD (l.length - 1) 0 ≠ 0 := by
    intro l h
    unfold lastNZ at h
    cases l with
    | nil => exact Or.inl rfl
    | cons a l =>
      right
      rw [getD_get _ _ _ (by simp)]
      simp only [List.isEmpty_cons, Bool.false_or, List.getLast?_eq_getElem?, bne_iff_ne, ne_eq] at h
      intro e
      apply h
      rw [List.getElem?_eq_getElem (by simp), e]
  have len : ∀ a b : List Int, (∀ i, a.getD i 0 = b.getD i 0) → lastNZ a = true → a.length ≤ b.length := by
    intro a b h ha
    rcases last a ha with rfl | h1
    · simp
    · rcases Nat.lt_or_ge b.length a.length with h2 | h2
      · exfalso
        rw [h, getD_end b _ 0 (by omega)] at h1
        exact h1 rfl
      · exact h2
  have l1 := len _ _ eq tz
  have l2 := len _ _ (fun i => (eq i).symm) hz
  exact ext_getD (by omega) (fun m _ => eq m)
end Go.Proofs.Ytonpikcbmgmchaa.M
