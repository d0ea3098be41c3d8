/- Coefficients modulo a prime: roots, the curve through points, weights. -/
import Derived.Test.YtbjcgcililpfdaaGreatZNP
set_option linter.unusedVariables false
set_option linter.unusedSimpArgs false
namespace Go.Proofs.YtbjcgcililpfdaaGreat.VI
open Go Go.Proofs.YtbjcgcililpfdaaGreat.VC

def inR (p a : Int) : Bool := decide (0 ≤ a ∧ a ≤ p - 1)
def allR (p : Int) (l : List Int) : Bool := l.all (inR p)
theorem allR_mem {p : Int} {l : List Int} (h : allR p l = true) : ∀ x ∈ l, 0 ≤ x ∧ x < p := by
  intro x hx
  have := List.all_eq_true.1 h x hx
  simp only [inR, decide_eq_true_eq] at this
  omega
theorem allR_get {p : Int} {l : List Int} (h : allR p l = true) (i : Nat) (hi : i < l.length) : 0 ≤ l[i] ∧ l[i] < p := allR_mem h _ (List.getElem_mem hi)

def lastNZ (l : List Int) : Bool := l.isEmpty || l.getLast? != some 0
def isCurve (p : Int) (l : List Int) : Bool := isPr p && (decide (l.length ≤ 7) && (allR p l && lastNZ l))
def cval (p : Int) (l : List Int) (x : Int) : Int := l.foldr (fun c acc => (acc * x + c) % p) 0
theorem cval_cons (p c : Int) (l : List Int) (x : Int) : cval p (c :: l) x = (cval p l x * x + c) % p := rfl
theorem cval_bd {p : Int} (hp : 0 < p) (l : List Int) (x : Int) : 0 ≤ cval p l x ∧ cval p l x < p := by
  cases l with
  | nil => exact ⟨Int.le_refl _, hp⟩
  | cons c l => exact emod_bd hp _
def horner (p x : Int) (l : List Int) (acc : Int) : Int := l.foldr (fun c acc => (acc * x + c) % p) acc
theorem drop_get {α : Type} {l : List α} {i : Nat} (h : i < l.length) : l.drop i = l[i] :: l.drop (i + 1) := List.drop_eq_getElem_cons h
theorem drop_end {α : Type} {l : List α} {i : Nat} (h : l.length ≤ i) : l.drop i = [] := List.drop_of_length_le h

def skipFold {α β : Type} (f : β → α → β) (i : Nat) : Nat → List α → β → β
  | _, [], b => b
  | k, y :: ys, b => skipFold f i (k + 1) ys (if k = i then b else f b y)

def wAt (p : Int) (l : List Int) (x : Int) (i : Nat) : Int := skipFold (wS p x (l.getD i 0)) i 0 l 1
def wM (p : Int) (l : List Int) (x : Int) : List Int := (List.range l.length).map (wAt p l x)
theorem wM_length (p : Int) (l : List Int) (x : Int) : (wM p l x).length = l.length := by simp [wM]
theorem skipFold_cons {α β : Type} (f : β → α → β) (i k : Nat) (y : α) (ys : List α) (b : β) : skipFold f i k (y :: ys) b = skipFold f i (k + 1) ys (if k = i then b else f b y) := rfl
def sumM : List Int → List Int → Int
  | a :: l, b :: m => a * b + sumM l m
  | _, _ => 0
def dotM (p : Int) (l m : List Int) : Int := sumM l m % p
theorem getD_get {α : Type} (l : List α) (i : Nat) (z : α) (h : i < l.length) : l.getD i z = l[i] := by simp [h]
theorem getD_end {α : Type} (l : List α) (i : Nat) (z : α) (h : l.length ≤ i) : l.getD i z = z := by simp [h]
def cutTo (l : List Int) : Nat → List Int
  | 0 => []
  | n + 1 => if l.getD n 0 = 0 then cutTo l n else l.take (n + 1)
def stripM (l : List Int) : List Int := cutTo l l.length
theorem cutTo_le (l : List Int) : ∀ n, (cutTo l n).length ≤ n
  | 0 => Nat.le_refl _
  | n + 1 => by
    unfold cutTo
    split
    · exact Nat.le_succ_of_le (cutTo_le l n)
    · simp; omega
theorem stripM_le (l : List Int) : (stripM l).length ≤ l.length := cutTo_le l _
def addAt (p t : Int) (a b : List Int) (i : Nat) : Int := (a.getD i 0 + b.getD i 0 * t) % p
def addC (p t : Int) (a b : List Int) : List Int := (List.range (max a.length b.length)).map (addAt p t a b)
theorem addC_length (p t : Int) (a b : List Int) : (addC p t a b).length = max a.length b.length := by simp [addC]
theorem addC_get (p t : Int) (a b : List Int) (i : Nat) (h : i < (addC p t a b).length) : (addC p t a b)[i] = addAt p t a b i := by simp [addC]
theorem addC_all {p : Int} (hp : 0 < p) (t : Int) (a b : List Int) : allR p (addC p t a b) = true := by
  unfold allR addC
  rw [List.all_eq_true]
  intro y hy
  obtain ⟨i, _, rfl⟩ := List.mem_map.1 hy
  have := emod_bd hp (a.getD i 0 + b.getD i 0 * t)
  simp only [inR, decide_eq_true_eq]
  unfold addAt
  omega
theorem allR_getD {p : Int} (hp : 0 < p) {l : List Int} (h : allR p l = true) (i : Nat) : 0 ≤ l.getD i 0 ∧ l.getD i 0 < p := by
  rcases Nat.lt_or_ge i l.length with hi | hi
  · rw [getD_get l i 0 hi]; exact allR_get h i hi
  · rw [getD_end l i 0 hi]; omega

def Dst (p : Int) (l : List Int) : Prop := l.length ≤ 20 ∧ l.Pairwise (· ≠ ·) ∧ ∀ x ∈ l, 0 ≤ x ∧ x ≤ p - 1
theorem Dst.ne {l : List Int} (h : l.Pairwise (· ≠ ·)) {i j : Nat} (hi : i < l.length) (hj : j < l.length) (hne : j ≠ i) : l[j] ≠ l[i] := by
  rw [List.pairwise_iff_getElem] at h
  rcases Nat.lt_or_gt_of_ne hne with h1 | h1
  · exact h j i hj hi h1
  · exact (h i j hi hj h1).symm

theorem ext_getD {a b : List Int} (hl : a.length = b.length) (h : ∀ m, m < a.length → a.getD m 0 = b.getD m 0) : a = b := by
  apply List.ext_getElem hl
  intro j h1 h2
  have := h j h1
  rwa [getD_get a j 0 h1, getD_get b j 0 h2] at this
def mulAt (p x : Int) (c : List Int) (j : Nat) : Int := ((if j = 0 then 0 else c.getD (j - 1) 0) + c.getD j 0 * ((-x) % p)) % p
def mulLin (p : Int) (c : List Int) (x : Int) : List Int := (List.range (c.length + 1)).map (mulAt p x c)
theorem mulLin_length (p : Int) (c : List Int) (x : Int) : (mulLin p c x).length = c.length + 1 := by simp [mulLin]
theorem mulLin_getD (p : Int) (c : List Int) (x : Int) (m : Nat) (h : m < c.length + 1) : (mulLin p c x).getD m 0 = mulAt p x c m := by
  rw [getD_get _ _ _ (by rw [mulLin_length]; exact h)]; simp [mulLin]
def partAt (p : Int) (P : List Int) (i : Nat) : List Int := skipFold (mulLin p) i 0 P [1]
def byS (p xi b x : Int) : Int := (b * invM p ((xi - x) % p)) % p
def byAt (p : Int) (P V : List Int) (i : Nat) : Int := skipFold (byS p (P.getD i 0)) i 0 P (V.getD i 0)
def thrFrom (p : Int) (P V : List Int) : Nat → Nat → List Int → List Int
  | 0, _, o => o
  | d + 1, i, o => thrFrom p P V d (i + 1) (addC p (byAt p P V i) o (partAt p P i))
def throughM (p : Int) (P V : List Int) : List Int := stripM (thrFrom p P V P.length 0 [])
theorem part_len (p : Int) (i : Nat) : ∀ (l : List Int) (k : Nat) (c : List Int), (skipFold (mulLin p) i k l c).length ≤ c.length + l.length
  | [], _, c => by simp [skipFold]
  | y :: ys, k, c => by
    rw [skipFold_cons]
    split
    · have := part_len p i ys (k + 1) c
      simp only [List.length_cons]; omega
    · have := part_len p i ys (k + 1) (mulLin p c y)
      rw [mulLin_length] at this
      simp only [List.length_cons]; omega
theorem part_len2 (p : Int) (i : Nat) : ∀ (l : List Int) (k : Nat) (c : List Int), k ≤ i → i < k + l.length → (skipFold (mulLin p) i k l c).length + 1 = c.length + l.length
  | [], _, c, h, h' => by simp at h'; omega
  | y :: ys, k, c, h, h' => by
    rw [skipFold_cons]
    simp only [List.length_cons] at h' ⊢
    by_cases hk : k = i
    · rw [if_pos hk]
      have : ∀ (l : List Int) (k : Nat) (c : List Int), i < k → (skipFold (mulLin p) i k l c).length = c.length + l.length := by
        intro l
        induction l with
        | nil => intro k c _; rfl
        | cons z zs ih =>
          intro k c hk
          rw [skipFold_cons, if_neg (by omega), ih (k + 1) _ (by omega), mulLin_length]
          simp only [List.length_cons]; omega
      rw [this ys (k + 1) c (by omega)]
      omega
    · rw [if_neg hk]
      have := part_len2 p i ys (k + 1) (mulLin p c y) (by omega) (by omega)
      rw [mulLin_length] at this
      omega
theorem thr_len2 (p : Int) (P V : List Int) : ∀ (d i : Nat) (o : List Int), i + d = P.length → o.length ≤ P.length → (thrFrom p P V d i o).length ≤ P.length
  | 0, _, _, _, h => h
  | d + 1, i, o, hi, h => by
    unfold thrFrom
    refine thr_len2 p P V d (i + 1) _ (by omega) ?_
    rw [addC_length]
    have := part_len2 p i P 0 [1] (by omega) (by omega)
    unfold partAt
    simp only [List.length_singleton] at this
    omega
theorem through_len2 (p : Int) (P V : List Int) : (throughM p P V).length ≤ P.length :=
  Nat.le_trans (stripM_le _) (thr_len2 p P V _ _ _ (by omega) (by simp))
theorem thr_len (p : Int) (P V : List Int) : ∀ (d i : Nat) (o : List Int), o.length ≤ P.length + 1 → (thrFrom p P V d i o).length ≤ P.length + 1
  | 0, _, _, h => h
  | d + 1, i, o, h => by
    unfold thrFrom
    refine thr_len p P V d (i + 1) _ ?_
    rw [addC_length]
    have := part_len p i P 0 [1]
    unfold partAt
    simp only [List.length_singleton] at this
    omega
theorem byS_step {p xi x v w b : Int} (hp : isPr p = true) (hxi : 0 ≤ xi ∧ xi ≤ p - 1) (hx : 0 ≤ x ∧ x ≤ p - 1) (hne : x ≠ xi) (hb : 1 ≤ b ∧ b < p) (h : Cg p (w * b) v) :
    Cg p (byS p xi w x * ((b * (xi - x + p)) % p)) v ∧ 1 ≤ (b * (xi - x + p)) % p ∧ (b * (xi - x + p)) % p < p := by
  have hpb := isPr_bd hp
  have hd : 1 ≤ (xi - x) % p ∧ (xi - x) % p < p := by
    have := emod_bd (p := p) (by omega) (xi - x)
    refine ⟨?_, this.2⟩
    rcases (show 0 < (xi - x) % p ∨ (xi - x) % p ≤ 0 by omega) with h0 | h0
    · omega
    · exfalso
      have e : (xi - x) % p = 0 := by omega
      have z : Cg p (xi - x) 0 := (Cg.mod p _).symm.trans (Cg.of_eq e)
      have := (z.add (Cg.refl p x)).eq (by omega) (by omega) (by omega) (by omega)
      omega
  have e1 : (b * (xi - x + p)) % p = (b * ((xi - x) % p)) % p := by
    apply Cg.emod_eq
    exact (Cg.refl p b).mul ((Cg.plus p _).trans (Cg.mod p _).symm)
  have hnz := mul_nz hp hb.1 hb.2 hd.1 hd.2
  rw [e1]
  refine ⟨?_, hnz⟩
  have i1 := inv_cg hp hd.1 hd.2
  have g3 : Cg p (byS p xi w x * ((b * ((xi - x) % p)) % p)) ((w * invM p ((xi - x) % p)) * (b * ((xi - x) % p))) := by
    unfold byS
    exact (Cg.mod p _).mul (Cg.mod p _)
  have e2 : (w * invM p ((xi - x) % p)) * (b * ((xi - x) % p)) = (w * b) * ((xi - x) % p * invM p ((xi - x) % p)) := by grind
  rw [e2] at g3
  exact g3.trans ((h.mul i1).trans (Cg.of_eq (by omega)))
theorem by_end {p w v b : Int} (hp : isPr p = true) (hb : 1 ≤ b ∧ b < p) (hw : 0 ≤ w ∧ w < p) (h : Cg p (w * b) v) : (invM p b * v) % p = w := by
  rw [Int.mul_comm]
  exact wS_end hp hb hw h
theorem add_scaled {p : Int} (hp : 0 < p) (t : Int) (o c : List Int) : addC p 1 o (addC p t [] c) = addC p t o c := by
  apply ext_getD
  · rw [addC_length, addC_length, addC_length]; simp
  · intro m hm
    have h1 : m < (addC p t o c).length := by rw [addC_length] at hm ⊢; rw [addC_length] at hm; simpa using hm
    rw [getD_get _ _ _ hm, getD_get _ _ _ h1, addC_get, addC_get]
    unfold addAt
    apply Cg.emod_eq
    refine (Cg.refl p _).add ?_
    rw [Int.mul_one]
    rcases Nat.lt_or_ge m (addC p t [] c).length with h | h
    · rw [getD_get _ _ _ h, addC_get]
      unfold addAt
      exact Cg.mod_l (Cg.of_eq (by simp))
    · rw [getD_end _ _ _ h]
      rw [addC_length] at h
      rw [getD_end c m 0 (by simp at h; exact h)]
      exact Cg.of_eq (by omega)

def pe : List Int → Int → Int
  | [], _ => 0
  | c :: l, x => c + x * pe l x
theorem pe_cons (c : Int) (l : List Int) (x : Int) : pe (c :: l) x = c + x * pe l x := rfl
theorem pe_nil (x : Int) : pe [] x = 0 := rfl
theorem cval_pe (p : Int) (x : Int) : ∀ l : List Int, Cg p (cval p l x) (pe l x)
  | [] => Cg.refl p 0
  | c :: l => by
    rw [cval_cons]
    unfold pe
    refine Cg.mod_l ?_
    have := ((cval_pe p x l).mul (Cg.refl p x)).add (Cg.refl p c)
    exact this.trans (Cg.of_eq (by grind))
def qd (r : Int) : List Int → List Int
  | [] => []
  | b :: l => pe (b :: l) r :: qd r l
theorem qd_length (r : Int) : ∀ l : List Int, (qd r l).length = l.length
  | [] => rfl
  | b :: l => by simp [qd, qd_length r l]
theorem pe_div (r x : Int) : ∀ (l : List Int) (a : Int), pe (a :: l) x = (x - r) * pe (qd r l) x + pe (a :: l) r
  | [], a => by simp [pe, qd]
  | b :: l, a => by
    have h := pe_div r x l b
    have e : qd r (b :: l) = pe (b :: l) r :: qd r l := rfl
    rw [e, pe_cons a (b :: l) x, h, pe_cons (pe (b :: l) r) (qd r l) x, pe_cons a (b :: l) r]
    grind
theorem qd_zero {p r : Int} : ∀ l : List Int, (∀ y ∈ qd r l, Cg p y 0) → (∀ b ∈ l, Cg p b 0) ∧ Cg p (pe l r) 0
  | [], _ => ⟨fun _ h => (by cases h), Cg.refl p 0⟩
  | b :: l, h => by
    have h0 := h (pe (b :: l) r) List.mem_cons_self
    obtain ⟨h1, h2⟩ := qd_zero l (fun y hy => h y (List.mem_cons_of_mem _ hy))
    refine ⟨fun y hy => ?_, h0⟩
    rcases List.mem_cons.1 hy with rfl | hy
    · have e : pe (y :: l) r = y + r * pe l r := rfl
      rw [e] at h0
      have := h0.sub ((Cg.refl p r).mul h2)
      exact (Cg.of_eq (by grind)).trans (this.trans (Cg.of_eq (by grind)))
    · exact h1 y hy
theorem cg_cancel {p a b : Int} (hp : isPr p = true) (h : ¬ Cg p a 0) (hab : Cg p (a * b) 0) : Cg p b 0 := by
  have hb := isPr_bd hp
  have e := emod_bd (p := p) (by omega) a
  have h1 : 1 ≤ a % p := by
    rcases (show 0 < a % p ∨ a % p = 0 by omega) with h2 | h2
    · omega
    · exact absurd ((Cg.mod p a).symm.trans (Cg.of_eq h2)) h
  have i := inv_cg hp h1 e.2
  have j : Cg p (a * invM p (a % p)) 1 := ((Cg.mod p a).symm.mul (Cg.refl p _)).trans i
  have k := hab.mul (Cg.refl p (invM p (a % p)))
  have m : Cg p (b * 1) 0 := ((Cg.refl p b).mul j.symm).trans ((Cg.of_eq (by grind)).trans (k.trans (Cg.of_eq (by grind))))
  simpa using m
theorem roots_zero {p : Int} (hp : isPr p = true) : ∀ (c roots : List Int), c.length ≤ roots.length → roots.Pairwise (fun a b => ¬ Cg p (b - a) 0) → (∀ r ∈ roots, Cg p (pe c r) 0) → ∀ a ∈ c, Cg p a 0
  | [], _, _, _, _ => fun _ h => by cases h
  | a :: l, [], h, _, _ => by simp at h
  | a :: l, r :: rs, h, hd, hz => by
    have h1 := hz r List.mem_cons_self
    rw [List.pairwise_cons] at hd
    have hq : ∀ y ∈ qd r l, Cg p y 0 := by
      refine roots_zero hp (qd r l) rs (by rw [qd_length]; simp at h; exact h) hd.2 (fun s hs => ?_)
      have h2 := hz s (List.mem_cons_of_mem _ hs)
      rw [pe_div r s l a] at h2
      have h3 := h2.sub h1
      exact cg_cancel hp (hd.1 s hs) ((Cg.of_eq (by grind)).trans (h3.trans (Cg.of_eq (by grind))))
    obtain ⟨h2, h3⟩ := qd_zero l hq
    intro y hy
    rcases List.mem_cons.1 hy with rfl | hy
    · have e : pe (y :: l) r = y + r * pe l r := rfl
      rw [e] at h1
      have := h1.sub ((Cg.refl p r).mul h3)
      exact (Cg.of_eq (by grind)).trans (this.trans (Cg.of_eq (by grind)))
    · exact h2 y hy
termination_by c => c.length
decreasing_by simp [qd_length]
def psub : List Int → List Int → List Int
  | a :: l, b :: m => (a - b) :: psub l m
  | l, [] => l
  | [], b :: m => (0 - b) :: psub [] m
theorem psub_length : ∀ l m : List Int, (psub l m).length = max l.length m.length
  | a :: l, b :: m => by simp [psub, psub_length l m]
  | [], [] => rfl
  | a :: l, [] => by simp [psub]
  | [], b :: m => by simp [psub, psub_length [] m]
theorem psub_pe (x : Int) : ∀ l m : List Int, pe (psub l m) x = pe l x - pe m x
  | a :: l, b :: m => by
    have := psub_pe x l m
    have e : psub (a :: l) (b :: m) = (a - b) :: psub l m := by simp [psub]
    rw [e, pe_cons, this, pe_cons, pe_cons]; grind
  | [], [] => by simp [psub, pe]
  | a :: l, [] => by simp [psub, pe]
  | [], b :: m => by
    have := psub_pe x [] m
    have e : psub [] (b :: m) = (0 - b) :: psub [] m := by simp [psub]
    rw [e, pe_cons, this, pe_cons, pe_nil]; grind
theorem psub_get : ∀ (l m : List Int) (i : Nat), (psub l m).getD i 0 = l.getD i 0 - m.getD i 0
  | a :: l, b :: m, 0 => by simp [psub]
  | a :: l, b :: m, i + 1 => by simpa [psub] using psub_get l m i
  | [], [], i => by simp [psub]
  | a :: l, [], i => by simp [psub]
  | [], b :: m, 0 => by simp [psub]
  | [], b :: m, i + 1 => by simpa [psub] using psub_get [] m i
theorem pe_zero {p x : Int} : ∀ l : List Int, (∀ a ∈ l, Cg p a 0) → Cg p (pe l x) 0
  | [], _ => Cg.refl p 0
  | a :: l, h => by
    rw [pe_cons]
    have := (h a List.mem_cons_self).add ((Cg.refl p x).mul (pe_zero (x := x) l (fun y hy => h y (List.mem_cons_of_mem _ hy))))
    exact this.trans (Cg.of_eq (by grind))
theorem dst_cg {p : Int} {l : List Int} (h : Dst p l) (hp : 0 < p) : l.Pairwise (fun a b => ¬ Cg p (b - a) 0) := by
  obtain ⟨_, h2, h3⟩ := h
  refine List.Pairwise.imp_of_mem (fun {a b} ha hb hab hc => ?_) h2
  have b1 := h3 a ha
  have b2 := h3 b hb
  have := (hc.add (Cg.refl p a)).eq (by omega) (by omega) (by omega) (by omega)
  omega
theorem agree {p : Int} (hp : isPr p = true) {P : List Int} (hP : Dst p P) {c d : List Int} (hc : c.length ≤ P.length) (hd : d.length ≤ P.length) (h : ∀ x ∈ P, Cg p (pe c x) (pe d x)) : ∀ i, Cg p (c.getD i 0) (d.getD i 0) := by
  have hb := isPr_bd hp
  have z := roots_zero hp (psub c d) P (by rw [psub_length]; omega) (dst_cg hP (by omega)) (fun r hr => by
    rw [psub_pe]
    exact ((h r hr).sub (Cg.refl p (pe d r))).trans (Cg.of_eq (by omega)))
  intro i
  rcases Nat.lt_or_ge i (psub c d).length with hi | hi
  · have := z _ (List.getElem_mem hi)
    rw [← getD_get (psub c d) i 0 hi, psub_get] at this
    exact ((this.add (Cg.refl p (d.getD i 0)))).symm.symm.trans (Cg.of_eq (by omega)) |> fun h => (Cg.of_eq (by omega)).trans h
  · rw [psub_length] at hi
    rw [getD_end c i 0 (by omega), getD_end d i 0 (by omega)]
    exact Cg.refl p 0
theorem agree_pe {p : Int} (hp : isPr p = true) {P : List Int} (hP : Dst p P) {c d : List Int} (hc : c.length ≤ P.length) (hd : d.length ≤ P.length) (h : ∀ x ∈ P, Cg p (pe c x) (pe d x)) (x : Int) : Cg p (pe c x) (pe d x) := by
  have hb := isPr_bd hp
  have z := roots_zero hp (psub c d) P (by rw [psub_length]; omega) (dst_cg hP (by omega)) (fun r hr => by
    rw [psub_pe]
    exact ((h r hr).sub (Cg.refl p (pe d r))).trans (Cg.of_eq (by omega)))
  have := pe_zero (x := x) _ z
  rw [psub_pe] at this
  exact (Cg.of_eq (by omega)).trans ((this.add (Cg.refl p (pe d x))).trans (Cg.of_eq (by omega)))

theorem pe_cg {p x : Int} {l m : List Int} (h : ∀ i, Cg p (l.getD i 0) (m.getD i 0)) : Cg p (pe l x) (pe m x) := by
  have z := pe_zero (p := p) (x := x) (psub l m) (fun a ha => by
    obtain ⟨i, hi, rfl⟩ := List.getElem_of_mem ha
    rw [← getD_get (psub l m) i 0 hi, psub_get]
    exact ((h i).sub (Cg.refl p _)).trans (Cg.of_eq (by omega)))
  rw [psub_pe] at z
  exact (Cg.of_eq (by omega)).trans ((z.add (Cg.refl p (pe m x))).trans (Cg.of_eq (by omega)))
def addS (t : Int) : List Int → List Int → List Int
  | a :: l, b :: m => (a + b * t) :: addS t l m
  | l, [] => l
  | [], b :: m => (0 + b * t) :: addS t [] m
theorem addS_pe (t x : Int) : ∀ l m : List Int, pe (addS t l m) x = pe l x + t * pe m x
  | a :: l, b :: m => by
    have := addS_pe t x l m
    have e : addS t (a :: l) (b :: m) = (a + b * t) :: addS t l m := by simp [addS]
    rw [e, pe_cons, this, pe_cons, pe_cons]; grind
  | [], [] => by simp [addS, pe]
  | a :: l, [] => by simp [addS, pe]
  | [], b :: m => by
    have := addS_pe t x [] m
    have e : addS t [] (b :: m) = (0 + b * t) :: addS t [] m := by simp [addS]
    rw [e, pe_cons, this, pe_cons, pe_nil]; grind
theorem addS_get (t : Int) : ∀ (l m : List Int) (i : Nat), (addS t l m).getD i 0 = l.getD i 0 + m.getD i 0 * t
  | a :: l, b :: m, 0 => by simp [addS]
  | a :: l, b :: m, i + 1 => by simpa [addS] using addS_get t l m i
  | [], [], i => by simp [addS]
  | a :: l, [], i => by simp [addS]
  | [], b :: m, 0 => by simp [addS]
  | [], b :: m, i + 1 => by simpa [addS] using addS_get t [] m i
theorem addC_pe (p t x : Int) (o c : List Int) : Cg p (pe (addC p t o c) x) (pe o x + t * pe c x) := by
  rw [← addS_pe]
  apply pe_cg
  intro i
  rw [addS_get]
  rcases Nat.lt_or_ge i (addC p t o c).length with h | h
  · rw [getD_get _ _ _ h, addC_get]
    exact Cg.mod p _
  · rw [getD_end _ _ _ h]
    rw [addC_length] at h
    rw [getD_end o i 0 (by omega), getD_end c i 0 (by omega)]
    exact Cg.of_eq (by omega)
theorem mulLin_pe (p a x : Int) (c : List Int) : Cg p (pe (mulLin p c a) x) ((x - a) * pe c x) := by
  have e : pe (addS (-a) ((0 : Int) :: c) c) x = (x - a) * pe c x := by
    rw [addS_pe, pe_cons]; grind
  rw [← e]
  apply pe_cg
  intro i
  rw [addS_get]
  rcases Nat.lt_or_ge i (c.length + 1) with h | h
  · rw [mulLin_getD _ _ _ _ h]
    unfold mulAt
    refine (Cg.mod p _).trans (Cg.add (Cg.of_eq ?_) ((Cg.refl p _).mul (Cg.mod p _)))
    cases i with
    | zero => simp
    | succ n => simp
  · rw [getD_end (mulLin p c a) i 0 (by rw [mulLin_length]; exact h), getD_end c i 0 (by omega), getD_end ((0 : Int) :: c) i 0 (by simpa using h)]
    exact Cg.of_eq (by omega)
theorem cutTo_get (l : List Int) : ∀ (n : Nat), n ≤ l.length → ∀ i, (cutTo l n).getD i 0 = (l.take n).getD i 0
  | 0, _, i => by simp [cutTo]
  | n + 1, h, i => by
    unfold cutTo
    split
    · rename_i hz
      rw [cutTo_get l n (by omega) i]
      rcases Nat.lt_trichotomy i n with hi | hi | hi
      · rw [getD_get _ _ _ (by simp; omega), getD_get _ _ _ (by simp; omega)]; simp
      · subst hi
        rw [getD_end _ _ _ (by simp; omega), getD_get (l.take (i + 1)) i 0 (by simp; omega)]
        rw [getD_get l i 0 (by omega)] at hz
        simp [hz]
      · rw [getD_end _ _ _ (by simp; omega), getD_end _ _ _ (by simp; omega)]
    · rfl
theorem stripM_get (l : List Int) (i : Nat) : (stripM l).getD i 0 = l.getD i 0 := by
  unfold stripM
  rw [cutTo_get l l.length (Nat.le_refl _) i, List.take_length]
theorem stripM_pe (p x : Int) (l : List Int) : Cg p (pe (stripM l) x) (pe l x) := pe_cg (fun i => Cg.of_eq (stripM_get l i))
def pX (x : Int) (b y : Int) : Int := b * (x - y)
theorem part_pe (p x : Int) (i : Nat) : ∀ (l : List Int) (k : Nat) (c : List Int), Cg p (pe (skipFold (mulLin p) i k l c) x) (skipFold (pX x) i k l (pe c x))
  | [], _, c => Cg.refl p _
  | y :: ys, k, c => by
    rw [skipFold_cons, skipFold_cons]
    split
    · exact part_pe p x i ys (k + 1) c
    · refine (part_pe p x i ys (k + 1) (mulLin p c y)).trans ?_
      have : ∀ (l : List Int) (k : Nat) (a b : Int), Cg p a b → Cg p (skipFold (pX x) i k l a) (skipFold (pX x) i k l b) := by
        intro l
        induction l with
        | nil => intro k a b h; exact h
        | cons z zs ih =>
          intro k a b h
          rw [skipFold_cons, skipFold_cons]
          split
          · exact ih (k + 1) a b h
          · exact ih (k + 1) _ _ (h.mul (Cg.refl p _))
      refine this ys (k + 1) _ _ ((mulLin_pe p y x c).trans (Cg.of_eq ?_))
      unfold pX
      rw [Int.mul_comm]
theorem w_by (p x xi v : Int) (i : Nat) : ∀ (l : List Int) (k : Nat) (w b c : Int), Cg p (w * v) (b * c) → Cg p (skipFold (wS p x xi) i k l w * v) (skipFold (byS p xi) i k l b * skipFold (pX x) i k l c)
  | [], _, w, b, c, h => h
  | y :: ys, k, w, b, c, h => by
    rw [skipFold_cons, skipFold_cons, skipFold_cons]
    split
    · exact w_by p x xi v i ys (k + 1) w b c h
    · refine w_by p x xi v i ys (k + 1) _ _ _ ?_
      unfold wS byS pX
      have g1 : Cg p ((w * ((x - y) % p)) % p * invM p ((xi - y) % p) % p * v) (w * (x - y) * invM p ((xi - y) % p) * v) :=
        (((Cg.mod p _).trans (((Cg.mod p _).trans ((Cg.refl p w).mul (Cg.mod p _))).mul (Cg.refl p _)))).mul (Cg.refl p v)
      have g2 : Cg p ((b * invM p ((xi - y) % p)) % p * (c * (x - y))) (b * invM p ((xi - y) % p) * (c * (x - y))) := (Cg.mod p _).mul (Cg.refl p _)
      refine g1.trans (Cg.trans ?_ g2.symm)
      have g3 := h.mul (Cg.refl p ((x - y) * invM p ((xi - y) % p)))
      exact (Cg.of_eq (by grind)).trans (g3.trans (Cg.of_eq (by grind)))
theorem by_prod {p xi : Int} (hp : isPr p = true) (hxi : 0 ≤ xi ∧ xi ≤ p - 1) (i : Nat) : ∀ (l : List Int) (k : Nat) (b c : Int), (∀ y ∈ l, 0 ≤ y ∧ y ≤ p - 1) → (∀ j (hj : j < l.length), k + j ≠ i → l[j] ≠ xi) →
    Cg p (skipFold (byS p xi) i k l b * skipFold (pX xi) i k l c) (b * c)
  | [], _, b, c, _, _ => Cg.refl p _
  | y :: ys, k, b, c, hr, hn => by
    have hb := isPr_bd hp
    rw [skipFold_cons, skipFold_cons]
    have hn' : ∀ j (hj : j < ys.length), (k + 1) + j ≠ i → ys[j] ≠ xi := fun j hj h => by
      have := hn (j + 1) (by simpa using hj) (by omega)
      simpa using this
    have hr' : ∀ y ∈ ys, 0 ≤ y ∧ y ≤ p - 1 := fun z hz => hr z (List.mem_cons_of_mem _ hz)
    by_cases hk : k = i
    · rw [if_pos hk, if_pos hk]
      exact by_prod hp hxi i ys (k + 1) b c hr' hn'
    · rw [if_neg hk, if_neg hk]
      refine (by_prod hp hxi i ys (k + 1) _ _ hr' hn').trans ?_
      have hy := hr y List.mem_cons_self
      have hne : y ≠ xi := by
        have := hn 0 (by simp) (by omega)
        simpa using this
      have hd : 1 ≤ (xi - y) % p ∧ (xi - y) % p < p := by
        have := emod_bd (p := p) (by omega) (xi - y)
        refine ⟨?_, this.2⟩
        rcases (show 0 < (xi - y) % p ∨ (xi - y) % p ≤ 0 by omega) with h0 | h0
        · omega
        · exfalso
          have e : (xi - y) % p = 0 := by omega
          have z : Cg p (xi - y) 0 := (Cg.mod p _).symm.trans (Cg.of_eq e)
          have := (z.add (Cg.refl p y)).eq (by omega) (by omega) (by omega) (by omega)
          omega
      have i1 := inv_cg hp hd.1 hd.2
      unfold byS pX
      have g1 : Cg p ((b * invM p ((xi - y) % p)) % p * (c * (xi - y))) (b * invM p ((xi - y) % p) * (c * ((xi - y) % p))) := (Cg.mod p _).mul ((Cg.refl p c).mul (Cg.mod p _).symm)
      refine g1.trans ?_
      have g2 := (Cg.refl p (b * c)).mul i1
      exact (Cg.of_eq (by grind)).trans (g2.trans (Cg.of_eq (by omega)))
theorem prod_zero {x : Int} (i : Nat) : ∀ (l : List Int) (k : Nat) (c : Int), (c = 0 ∨ ∃ j, ∃ h : j < l.length, k + j ≠ i ∧ l[j] = x) → skipFold (pX x) i k l c = 0
  | [], _, c, h => by
    rcases h with h | ⟨j, hj, _⟩
    · exact h
    · simp at hj
  | y :: ys, k, c, h => by
    rw [skipFold_cons]
    refine prod_zero i ys (k + 1) _ ?_
    rcases h with h | ⟨j, hj, h1, h2⟩
    · left
      subst h
      split
      · rfl
      · simp [pX]
    · cases j with
      | zero =>
        left
        rw [if_neg (by omega)]
        simp only [List.getElem_cons_zero] at h2
        unfold pX
        rw [h2]; simp
      | succ j =>
        right
        exact ⟨j, by simpa using hj, by omega, by simpa using h2⟩

theorem thr_pe (p x : Int) (P V : List Int) (hl : P.length = V.length) : ∀ (d i : Nat) (o : List Int), i + d = P.length → Cg p (pe (thrFrom p P V d i o) x) (pe o x + sumM ((wM p P x).drop i) (V.drop i))
  | 0, i, o, hi => by
    rw [drop_end (by rw [wM_length]; omega)]
    exact Cg.of_eq (by simp [thrFrom, sumM])
  | d + 1, i, o, hi => by
    have hw : i < (wM p P x).length := by rw [wM_length]; omega
    have hv : i < V.length := by omega
    unfold thrFrom
    refine (thr_pe p x P V hl d (i + 1) _ (by omega)).trans ?_
    rw [drop_get hw, drop_get hv]
    have ew : (wM p P x)[i] = wAt p P x i := by simp [wM]
    rw [ew]
    have es : sumM (wAt p P x i :: (wM p P x).drop (i + 1)) (V[i] :: V.drop (i + 1)) = wAt p P x i * V[i] + sumM ((wM p P x).drop (i + 1)) (V.drop (i + 1)) := rfl
    rw [es]
    have h1 := addC_pe p (byAt p P V i) x o (partAt p P i)
    have h2 := part_pe p x i P 0 [1]
    have h3 : pe [1] x = 1 := by simp [pe]
    rw [h3] at h2
    have hgv : V.getD i 0 = V[i] := getD_get _ _ _ hv
    have h4 := w_by p x (P.getD i 0) V[i] i P 0 1 V[i] 1 (Cg.of_eq (by omega))
    have h5 : Cg p (byAt p P V i * pe (partAt p P i) x) (wAt p P x i * V[i]) := by
      unfold byAt partAt wAt
      rw [hgv]
      exact ((Cg.refl p _).mul h2).trans h4.symm
    exact ((h1.trans ((Cg.refl p _).add h5)).add (Cg.refl p _)).trans (Cg.of_eq (by omega))
theorem through_pe (p x : Int) (P V : List Int) (hl : P.length = V.length) : Cg p (pe (throughM p P V) x) (sumM (wM p P x) V) := by
  unfold throughM
  refine (stripM_pe p x _).trans ((thr_pe p x P V hl P.length 0 [] (by omega)).trans (Cg.of_eq ?_))
  simp [pe]
theorem thr_at {p : Int} (hp : isPr p = true) (P V : List Int) (hP : Dst p P) (hl : P.length = V.length) (m : Nat) (hm : m < P.length) : ∀ (d i : Nat) (o : List Int), i + d = P.length → Cg p (pe (thrFrom p P V d i o) P[m]) (pe o P[m] + if i ≤ m then V.getD m 0 else 0)
  | 0, i, o, hi => by
    rw [if_neg (by omega)]
    exact Cg.of_eq (by simp [thrFrom])
  | d + 1, i, o, hi => by
    unfold thrFrom
    refine (thr_at hp P V hP hl m hm d (i + 1) _ (by omega)).trans ?_
    have h1 := addC_pe p (byAt p P V i) P[m] o (partAt p P i)
    have h2 := part_pe p P[m] i P 0 [1]
    have h3 : pe [1] P[m] = 1 := by simp [pe]
    rw [h3] at h2
    have hmm := hP.2.2 _ (List.getElem_mem hm)
    by_cases him : i = m
    · subst him
      rw [if_neg (by omega), if_pos (Nat.le_refl _)]
      have hg : P.getD i 0 = P[i] := getD_get _ _ _ hm
      have h4 := by_prod hp hmm i P 0 (V.getD i 0) 1 hP.2.2 (fun j hj h => Dst.ne hP.2.1 hm hj (by omega))
      have h5 : Cg p (byAt p P V i * pe (partAt p P i) P[i]) (V.getD i 0) := by
        unfold byAt partAt
        rw [hg]
        exact ((Cg.refl p _).mul h2).trans (h4.trans (Cg.of_eq (by omega)))
      exact ((h1.trans ((Cg.refl p _).add h5)).add (Cg.refl p _)).trans (Cg.of_eq (by omega))
    · have hz := prod_zero (x := P[m]) i P 0 1 (Or.inr ⟨m, hm, by omega, rfl⟩)
      rw [hz] at h2
      have h5 : Cg p (byAt p P V i * pe (partAt p P i) P[m]) 0 := ((Cg.refl p (byAt p P V i)).mul h2).trans (Cg.of_eq (by omega))
      have e : (if i + 1 ≤ m then V.getD m 0 else 0) = (if i ≤ m then V.getD m 0 else 0) := by
        by_cases h : i ≤ m
        · rw [if_pos h, if_pos (by omega)]
        · rw [if_neg h, if_neg (by omega)]
      rw [e]
      exact ((h1.trans ((Cg.refl p _).add h5)).add (Cg.refl p _)).trans (Cg.of_eq (by omega))
theorem through_at {p : Int} (hp : isPr p = true) (P V : List Int) (hP : Dst p P) (hl : P.length = V.length) (m : Nat) (hm : m < P.length) : Cg p (pe (throughM p P V) P[m]) (V.getD m 0) := by
  unfold throughM
  refine (stripM_pe p _ _).trans ((thr_at hp P V hP hl m hm P.length 0 [] (by omega)).trans (Cg.of_eq ?_))
  rw [if_pos (Nat.zero_le _)]; simp [pe]
theorem weights_exact {p : Int} (hp : isPr p = true) {P : List Int} (hP : Dst p P) {c : List Int} (hc : c.length ≤ P.length) (x : Int) : Cg p (sumM (wM p P x) (P.map (fun y => pe c y))) (pe c x) := by
  have h1 := through_pe p x P (P.map (fun y => pe c y)) (by simp)
  refine h1.symm.trans (agree_pe hp hP (through_len2 p P _) hc ?_ x)
  intro y hy
  obtain ⟨m, hm, rfl⟩ := List.getElem_of_mem hy
  refine (through_at hp P _ hP (by simp) m hm).trans (Cg.of_eq ?_)
  rw [getD_get _ _ _ (by simpa using hm)]; simp

theorem lastNZ_cut (l : List Int) : ∀ n, n ≤ l.length → lastNZ (cutTo l n) = true
  | 0, _ => rfl
  | n + 1, h => by
    unfold cutTo
    split
    · exact lastNZ_cut l n (by omega)
    · rename_i hz
      rw [getD_get l n 0 (by omega)] at hz
      unfold lastNZ
      have e : (l.take (n + 1)).getLast? = some l[n] := by
        rw [List.getLast?_eq_getElem?, List.length_take, Nat.min_eq_left h, List.getElem?_eq_getElem (by simp; omega)]
        simp
      rw [e]
      simp [hz]
theorem lastNZ_strip (l : List Int) : lastNZ (stripM l) = true := lastNZ_cut l _ (Nat.le_refl _)
theorem cut_sub (l : List Int) : ∀ n x, x ∈ cutTo l n → x ∈ l
  | 0, x, h => by simp [cutTo] at h
  | n + 1, x, h => by
    unfold cutTo at h
    split at h
    · exact cut_sub l n x h
    · exact List.mem_of_mem_take h
theorem allR_strip {p : Int} {l : List Int} (h : allR p l = true) : allR p (stripM l) = true := by
  unfold allR at *
  rw [List.all_eq_true] at h ⊢
  exact fun x hx => h x (cut_sub l _ x hx)
theorem sumM_cg {p : Int} {f g : Int → Int} (h : ∀ y, Cg p (f y) (g y)) : ∀ (w q : List Int), Cg p (sumM w (q.map f)) (sumM w (q.map g))
  | [], q => by cases q <;> exact Cg.refl p _
  | a :: w, [] => Cg.refl p _
  | a :: w, b :: q => by
    rw [List.map_cons, List.map_cons]
    simp only [sumM]
    exact ((Cg.refl p a).mul (h b)).add (sumM_cg h w q)
theorem dot_exact {p : Int} (hp : isPr p = true) {P : List Int} (hP : Dst p P) {c : List Int} (hc : c.length ≤ P.length) (x : Int) : dotM p (wM p P x) (P.map (fun y => cval p c y)) = cval p c x := by
  have hb := isPr_bd hp
  have h1 := weights_exact hp hP hc x
  have h2 := sumM_cg (p := p) (f := fun y => cval p c y) (g := fun y => pe c y) (fun y => cval_pe p y c) (wM p P x) P
  have h3 := (h2.trans (h1.trans (cval_pe p x c).symm)).emod_eq
  have cb := cval_bd (p := p) (by omega) c x
  unfold dotM
  rw [h3, Int.emod_eq_of_lt cb.1 cb.2]
theorem thr_all {p : Int} (hp : 0 < p) (P V : List Int) : ∀ (d i : Nat) (o : List Int), allR p o = true → allR p (thrFrom p P V d i o) = true
  | 0, _, _, h => h
  | d + 1, i, o, h => by
    unfold thrFrom
    exact thr_all hp P V d (i + 1) _ (addC_all hp _ _ _)
theorem through_back {p : Int} (hp : isPr p = true) {P : List Int} (hP : Dst p P) {c : List Int} (hr : allR p c = true) (hz : lastNZ c = true) (hc : c.length ≤ P.length) : throughM p P (P.map (fun y => cval p c y)) = c := by
  have hb := isPr_bd hp
  have hV : allR p (P.map (fun y => cval p c y)) = true := by
    unfold allR
    rw [List.all_eq_true]
    intro y hy
    obtain ⟨z, _, rfl⟩ := List.mem_map.1 hy
    have := cval_bd (p := p) (by omega) c z
    simp only [inR, decide_eq_true_eq]
    omega
  have tr : allR p (throughM p P (P.map (fun y => cval p c y))) = true := allR_strip (thr_all (by omega) _ _ _ _ _ rfl)
  have tz : lastNZ (throughM p P (P.map (fun y => cval p c y))) = true := lastNZ_strip _
  have ag := agree hp hP (through_len2 p P (P.map (fun y => cval p c y))) hc (fun y hy => by
    obtain ⟨m, hm, rfl⟩ := List.getElem_of_mem hy
    have h1 := through_at hp P (P.map (fun y => cval p c y)) hP (by simp) m hm
    rw [getD_get _ _ _ (by simpa using hm), List.getElem_map] at h1
    exact h1.trans (cval_pe p _ c))
  have eq : ∀ i, (throughM p P (P.map (fun y => cval p c y))).getD i 0 = c.getD i 0 := fun i => by
    have b1 := allR_getD (p := p) (by omega) tr i
    have b2 := allR_getD (p := p) (by omega) hr i
    exact (ag i).eq b1.1 b1.2 b2.1 b2.2
  have last : ∀ l : List Int, lastNZ l = true → l = [] ∨ l.getD (l.length - 1) 0 ≠ 0 := by
    intro l h
    unfold lastNZ at h
    cases l with
    | nil => exact Or.inl rfl
    | cons a l =>
      right
      rw [getD_get _ _ _ (by simp)]
      simp only [List.isEmpty_cons, Bool.false_or, List.getLast?_eq_getElem?, bne_iff_ne, ne_eq] at h
      intro e
      apply h
      rw [List.getElem?_eq_getElem (by simp), e]
  have len : ∀ a b : List Int, (∀ i, a.getD i 0 = b.getD i 0) → lastNZ a = true → a.length ≤ b.length := by
    intro a b h ha
    rcases last a ha with rfl | h1
    · simp
    · rcases Nat.lt_or_ge b.length a.length with h2 | h2
      · exfalso
        rw [h, getD_end b _ 0 (by omega)] at h1
        exact h1 rfl
      · exact h2
  have l1 := len _ _ eq tz
  have l2 := len _ _ (fun i => (eq i).symm) hz
  exact ext_getD (by omega) (fun m _ => eq m)

/-! ### The range's folds -/
theorem range_fold {α β : Type} (f : β → α → β) (d : α) : ∀ (l : List α) (b : β), (List.range l.length).foldl (fun s i => f s (l.getD i d)) b = l.foldl f b
  | [], b => rfl
  | y :: l, b => by
    rw [List.length_cons, List.range_succ_eq_map, List.foldl_cons, List.foldl_map, List.foldl_cons]
    exact range_fold f d l _
theorem skip_range (f : Int → Int → Int) (i : Nat) : ∀ (l : List Int) (k : Nat) (b : Int), (List.range l.length).foldl (fun w t => if k + t = i then w else f w (l.getD t 0)) b = skipFold f i k l b
  | [], k, b => rfl
  | y :: l, k, b => by
    rw [List.length_cons, List.range_succ_eq_map, List.foldl_cons, List.foldl_map, skipFold_cons, ← skip_range f i l (k + 1)]
    refine congrArg (fun g => List.foldl g _ _) (funext fun w => funext fun t => ?_)
    rw [List.getD_cons_succ, Nat.succ_eq_add_one, show k + (t + 1) = k + 1 + t by omega]
theorem wP_wAt (p : Int) (l : List Int) (x : Int) (i : Nat) : wP p l x i l.length = wAt p l x i := by
  unfold wP wAt
  rw [← skip_range]
  simp only [Nat.zero_add]
theorem wts_wM (p : Int) (l : List Int) (x : Int) : wts p l x l.length = wM p l x := by
  unfold wts wM
  exact List.map_congr_left fun i _ => wP_wAt p l x i
theorem sumM_range : ∀ (w q : List Int), w.length = q.length → ∀ s : Int, (List.range w.length).foldl (fun s i => s + w.getD i 0 * q.getD i 0) s = s + sumM w q
  | [], [], _, s => by simp [sumM]
  | a :: w, b :: q, h, s => by
    rw [List.length_cons, List.range_succ_eq_map, List.foldl_cons, List.foldl_map]
    refine (sumM_range w q (by simpa using h) _).trans ?_
    have e : sumM (a :: w) (b :: q) = a * b + sumM w q := rfl
    rw [e]
    simp only [List.getD_cons_zero]
    omega
theorem dst_of {p : Int} {l : List Int} (h : ptsI p l) : Dst p l := by
  obtain ⟨h1, h2⟩ := ris_iff.1 h.2
  have := h.1
  exact ⟨by omega, h1.imp (fun h => by omega), fun x hx => by have := h2 x hx; omega⟩
/-! ### Enrolling, all of it -/
def dl (p : Int) (c pts : List Int) : List (Int × Int) := pts.map (fun x => (x, val p c x))
theorem dl_fst (p : Int) (c pts : List Int) : (dl p c pts).map Prod.fst = pts := by
  unfold dl
  rw [List.map_map]
  exact List.map_id' pts
theorem sumI_fold (l : List Int) : sumI l l.length = l.foldl (· + ·) 0 := range_fold (· + ·) 0 l 0
theorem lastE_cg {p : Int} : ∀ (row : List Int) (a s : Int), Cg p (row.foldl (· + ·) s + lastE p a row) (s + a)
  | [], a, s => Cg.refl p _
  | m :: row, a, s => by
    have h := lastE_cg (p := p) row ((a - m) % p) (s + m)
    exact h.trans (((Cg.refl p (s + m)).add (Cg.mod p (a - m))).trans (Cg.of_eq (by omega)))
theorem enrE_cg {p : Int} {l : List (Int × Int)} {m : List (List Int)} {x : Int} (i : Nat) : Cg p (sumI (enrE p l m x i) (enrE p l m x i).length) ((wts p (l.map Prod.fst) x (l.map Prod.fst).length).getD i 0 * (l.getD i (0, 0)).2) := by
  rw [sumI_fold]
  unfold enrE
  rw [List.foldl_append]
  have h := lastE_cg (p := p) (m.getD i []) ((wts p (l.map Prod.fst) x (l.map Prod.fst).length).getD i 0 * (l.getD i (0, 0)).2 % p) 0
  exact h.trans ((Cg.of_eq (by omega)).trans (Cg.mod p _))
theorem enr_join {p : Int} {c pts : List Int} {m : List (List Int)} {x : Int} (hp : primeI p) (hpt : ptsI p pts) (hcl : c.length ≤ pts.length) : totI (enrN p (dl p c pts) m x (dl p c pts).length) (dl p c pts).length % p = val p c x := by
  have hl : (dl p c pts).length = pts.length := by simp [dl]
  have hd := dot_exact (isPr_of hp) (dst_of hpt) hcl x
  refine Eq.trans ?_ hd
  unfold dotM
  apply Cg.emod_eq
  have hs := sumM_range (wM p pts x) (pts.map (fun y => cval p c y)) (by simp [wM]) 0
  rw [show (0 : Int) + sumM (wM p pts x) (pts.map (fun y => cval p c y)) = sumM (wM p pts x) (pts.map (fun y => cval p c y)) by omega, wM_length] at hs
  rw [← hs, hl]
  have key : ∀ j, j ≤ pts.length → Cg p (totI (enrN p (dl p c pts) m x pts.length) j) ((List.range j).foldl (fun s i => s + (wM p pts x).getD i 0 * (pts.map (fun y => cval p c y)).getD i 0) 0) := by
    intro j
    induction j with
    | zero => intro _; exact Cg.refl p _
    | succ j ih =>
      intro hj
      rw [totI_succ, List.range_succ, List.foldl_append]
      refine (ih (by omega)).add ?_
      have e : (enrN p (dl p c pts) m x pts.length).getD j [] = enrE p (dl p c pts) m x j := by simp [enrN, show j < pts.length by omega]
      rw [e]
      refine (enrE_cg j).trans (Cg.of_eq ?_)
      rw [dl_fst, wts_wM]
      have : ((dl p c pts).getD j (0, 0)).2 = (pts.map (fun y => cval p c y)).getD j 0 := by
        have hj' : j < pts.length := by omega
        simp [dl, hj']
        rfl
      rw [this]
  exact key _ (Nat.le_refl _)
end Go.Proofs.YtbjcgcililpfdaaGreat.VI

