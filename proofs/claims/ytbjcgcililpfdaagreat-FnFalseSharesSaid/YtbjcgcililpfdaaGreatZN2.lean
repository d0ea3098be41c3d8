/- Walks. -/
import Derived.Laws.StructEq
import Derived.Test.YtbjcgcililpfdaaGreatZN1
import Derived.Test.YtbjcgcililpfdaaGreatZI
set_option linter.unusedVariables false
set_option linter.unusedSimpArgs false
namespace Go.Proofs.YtbjcgcililpfdaaGreat.VC
open Go Go.RowKit
variable {W : World} {H : Hp}

/-! ### Enrolling, all of it -/
open VI (dl dl_fst enr_join)
theorem prime_of {p : Int} (h : p ∈ ([5, 7, 11, 13] : List Int)) : primeI p ∧ 5 ≤ p ∧ p ≤ 13 := by
  have key : ∀ q : Int, q = 5 ∨ q = 7 ∨ q = 11 ∨ q = 13 → primeI q := fun q hq => ⟨by omega, fun e h1 h2 h3 => by
    have he : e = 2 ∨ e = 3 := by
      have : e ≤ 3 := by
        rcases Int.lt_or_le 3 e with g | g
        · have := Int.mul_le_mul (show (4 : Int) ≤ e by omega) (show (4 : Int) ≤ e by omega) (by decide) (by omega); omega
        · exact g
      omega
    rcases he with rfl | rfl <;> omega⟩
  have : p = 5 ∨ p = 7 ∨ p = 11 ∨ p = 13 := by simpa using h
  exact ⟨key p this, by omega⟩
theorem vS_dl {p : Int} {c pts : List Int} (hp : primeI p) (hpt : ptsI p pts) : vS p (dl p c pts) := by
  refine ⟨hp, fun j hj => ?_, by rw [dl_fst]; exact hpt⟩
  have hj' : j < pts.length := by simpa [dl] using hj
  have := val_in (show 0 < p by have := hp.1; omega) c pts[j]
  simpa [dl, hj'] using this
/-! ### Curves: sums, multiples, the curve through points -/
open VI (addC addAt addC_length stripM cutTo mulLin mulAt byAt thrFrom throughM skipFold skipFold_cons)
/-- The first i are changed. -/
def updF {α : Type} (d : α) (f : Nat → α) (lo : List α) (i : Nat) : List α := (List.range lo.length).map (fun j => if j < i then f j else lo.getD j d)
theorem updF_len {α : Type} (d : α) (f : Nat → α) (lo : List α) (i : Nat) : (updF d f lo i).length = lo.length := by simp [updF]
theorem updF_at {α : Type} {d z : α} {f : Nat → α} {lo : List α} {i : Nat} (hz : (updF d f lo i)[(i : Int).toNat]? = some z) : z = lo.getD i d := by
  rw [Int.toNat_natCast] at hz
  have hi := (List.getElem?_eq_some_iff.1 hz).1
  rw [updF_len] at hi
  unfold updF at hz
  rw [List.getElem?_map, List.getElem?_range hi] at hz
  simp at hz
  rw [← hz]; simp
theorem updF_set {α : Type} {d y : α} {f : Nat → α} {lo : List α} {i : Nat} (hy : y = f i) : (updF d f lo i).set (i : Int).toNat y = updF d f lo (i + 1) := by
  rw [Int.toNat_natCast]
  apply List.ext_getElem?
  intro q
  by_cases e : q = i
  · subst e
    rcases Nat.lt_or_ge q lo.length with h | h
    · rw [List.getElem?_set_self (by rw [updF_len]; exact h)]
      simp [updF, h, hy]
    · rw [List.getElem?_eq_none (by rw [List.length_set, updF_len]; exact h), List.getElem?_eq_none (by rw [updF_len]; exact h)]
  · rw [List.getElem?_set_ne (fun h => e h.symm)]
    unfold updF
    rw [List.getElem?_map, List.getElem?_map]
    rcases Nat.lt_or_ge q lo.length with h | h
    · rw [List.getElem?_range h]
      simp only [Option.map_some]
      by_cases h2 : q < i
      · rw [if_pos h2, if_pos (by omega)]
      · rw [if_neg h2, if_neg (by omega)]
    · rw [List.getElem?_eq_none (by simpa using h)]; rfl
theorem updF_zero {α : Type} (d : α) (f : Nat → α) (lo : List α) : updF d f lo 0 = lo := by
  apply List.ext_getElem?
  intro q
  unfold updF
  rw [List.getElem?_map]
  rcases Nat.lt_or_ge q lo.length with h | h
  · rw [List.getElem?_range h]; simp [h]
  · rw [List.getElem?_eq_none (by simpa using h), List.getElem?_eq_none h]; rfl
theorem updF_end {α : Type} {d : α} {f : Nat → α} {lo : List α} {i : Nat} (h : lo.length ≤ i) : updF d f lo i = (List.range lo.length).map f := by
  unfold updF
  refine List.map_congr_left fun j hj => ?_
  rw [if_pos (by have := List.mem_range.1 hj; omega)]
theorem rep_at {n i : Nat} : (List.replicate n (0 : Int)).getD i 0 = 0 := by
  rw [List.getD_eq_getElem?_getD, List.getElem?_replicate]
  split <;> rfl
theorem setq_get {α : Type} {k : List α} {q : Nat} {x z : α} (h : (k.set q x)[q]? = some z) : z = x := by
  have hi := (List.getElem?_eq_some_iff.1 h).1
  rw [List.length_set] at hi
  rw [List.getElem?_set_self hi] at h
  exact (Option.some.inj h).symm
theorem addC_in {p : Int} (hp : 0 < p) (t : Int) (a b : List Int) : elems p (addC p t a b) := fun j hj => by
  rw [addC_length] at hj
  have h := emod_bd hp (a.getD j 0 + b.getD j 0 * t)
  have e : (addC p t a b).getD j 0 = addAt p t a b j := by simp [addC, hj]
  rw [e]; unfold addAt; omega
theorem getD_in {p : Int} {a : List Int} (h : elems p a) (hp : 0 < p) (j : Nat) : 0 ≤ a.getD j 0 ∧ a.getD j 0 ≤ p - 1 := by
  rcases Nat.lt_or_ge j a.length with h1 | h1
  · exact h j h1
  · rw [List.getD_eq_getElem?_getD, List.getElem?_eq_none h1]; simp; omega
theorem getD_ge {α : Type} {a : List α} {d : α} {j : Nat} (h : ¬ j < a.length) : a.getD j d = d := by
  rw [List.getD_eq_getElem?_getD, List.getElem?_eq_none (by omega)]; rfl
theorem zcons_in {p : Int} (hp : 0 < p) {l : List Int} (h : elems p l) : elems p (0 :: l) := fun j hj => by
  cases j with
  | zero => simp; omega
  | succ j => simpa using h j (by simpa using hj)
def scl (p t : Int) (c : List Int) : List Int := (List.range c.length).map (fun j => c.getD j 0 * t % p)
theorem scl_len (p t : Int) (c : List Int) : (scl p t c).length = c.length := by simp [scl]
theorem scl_in {p : Int} (hp : 0 < p) (t : Int) (c : List Int) : elems p (scl p t c) := fun j hj => by
  rw [scl_len] at hj
  have h := emod_bd hp (c.getD j 0 * t)
  have e : (scl p t c).getD j 0 = c.getD j 0 * t % p := by simp [scl, hj]
  rw [e]; omega
theorem scl_addC (p t : Int) (c : List Int) : scl p t c = addC p t [] c := by
  unfold scl addC
  rw [show max ([] : List Int).length c.length = c.length by simp]
  refine List.map_congr_left fun j hj => ?_
  unfold addAt
  simp
/-- Taken off: lo = 0 :: l, times (x - y). -/
def offF (p x : Int) (lo l : List Int) (j : Nat) : Int := (lo.getD j 0 + (p - x) * l.getD j 0) % p
theorem off_mul {p x : Int} (hp : 2 ≤ p) {c : List Int} (hc : elems p c) : updF 0 (offF p x (0 :: c) c) (0 :: c) c.length = mulLin p c x := by
  unfold updF mulLin
  rw [show (0 :: c).length = c.length + 1 from rfl]
  refine List.map_congr_left fun j hj => ?_
  have hj' : j < c.length + 1 := List.mem_range.1 hj
  have e0 : (0 :: c).getD j 0 = if j = 0 then 0 else c.getD (j - 1) 0 := by
    cases j with
    | zero => rfl
    | succ j => simp
  unfold mulAt offF
  rw [e0]
  split
  · apply Cg.emod_eq
    refine (Cg.refl p _).add ?_
    have h1 : Cg p (p - x) (-x) := (Cg.of_eq (by omega)).trans (Cg.plus p (-x))
    exact ((h1.trans (Cg.mod p (-x)).symm).mul (Cg.refl p _)).trans (Cg.of_eq (Int.mul_comm _ _))
  · have e1 : c.getD j 0 = 0 := getD_ge (by assumption)
    rw [e1]
    have h2 := getD_in hc (show 0 < p by omega) (j - 1)
    rw [Int.zero_mul, Int.add_zero]
    split
    · simp
    · rw [Int.emod_eq_of_lt h2.1 (by omega)]
/-- What stripping leaves. -/
theorem cut_succ {l : List Int} {i : Nat} (h : l.getD i 0 = 0) : cutTo l (i + 1) = cutTo l i := by
  show (if l.getD i 0 = 0 then cutTo l i else l.take (i + 1)) = _
  rw [if_pos h]
theorem cut_stop {l : List Int} {i : Nat} (h : i = 0 ∨ l.getD (i - 1) 0 ≠ 0) : cutTo l i = l.take i := by
  cases i with
  | zero => simp [cutTo]
  | succ i =>
    show (if l.getD i 0 = 0 then cutTo l i else l.take (i + 1)) = _
    rw [if_neg (by rcases h with h | h; (omega); (simpa using h))]
theorem take_getD {l : List Int} {i q : Nat} {z : Int} (h : (l.take i)[q]? = some z) : l.getD q 0 = z := by
  rw [List.getElem?_take] at h
  split at h
  · rw [List.getD_eq_getElem?_getD, h]; rfl
  · cases h
/-! ### The curve through shares -/
def pxD (l : List (Int × Int)) (k : Nat) : Int := (l.getD k (0, 0)).1
def prt (p : Int) (l : List (Int × Int)) (i j : Nat) : List Int := (List.range j).foldl (fun c k => if k = i then c else mulLin p c (pxD l k)) [1]
theorem prt_succ (p : Int) (l : List (Int × Int)) (i j : Nat) : prt p l i (j + 1) = if j = i then prt p l i j else mulLin p (prt p l i j) (pxD l j) := by
  unfold prt; rw [List.range_succ, List.foldl_append]; rfl
def den (p : Int) (l : List (Int × Int)) (i j : Nat) : Int := (List.range j).foldl (fun d k => if k = i then d else (d * (pxD l i - pxD l k + p)) % p) 1
theorem den_succ (p : Int) (l : List (Int × Int)) (i j : Nat) : den p l i (j + 1) = if j = i then den p l i j else (den p l i j * (pxD l i - pxD l j + p)) % p := by
  unfold den; rw [List.range_succ, List.foldl_append]; rfl
def thr (p : Int) (l : List (Int × Int)) (n : Nat) : List Int := (List.range n).foldl (fun o i => addC p 1 o (scl p ((invM p (den p l i l.length) * (l.getD i (0, 0)).2) % p) (prt p l i l.length))) []
theorem thr_succ (p : Int) (l : List (Int × Int)) (n : Nat) : thr p l (n + 1) = addC p 1 (thr p l n) (scl p ((invM p (den p l n l.length) * (l.getD n (0, 0)).2) % p) (prt p l n l.length)) := by
  unfold thr; rw [List.range_succ, List.foldl_append]; rfl
theorem mulLin_in {p : Int} (hp : 0 < p) (c : List Int) (x : Int) : elems p (mulLin p c x) := fun j hj => by
  have e : (mulLin p c x).getD j 0 = mulAt p x c j := by
    unfold mulLin at hj ⊢
    simp at hj
    simp [hj]
  rw [e]
  have h := emod_bd hp ((if j = 0 then 0 else c.getD (j - 1) 0) + c.getD j 0 * ((-x) % p))
  unfold mulAt; omega
theorem prt_in {p : Int} (hp : 2 ≤ p) (l : List (Int × Int)) (i : Nat) : ∀ j, elems p (prt p l i j)
  | 0 => fun q hq => by
    have : q = 0 := by simp [prt] at hq; omega
    subst this; simp [prt]; omega
  | j + 1 => by
    rw [prt_succ]
    split
    · exact prt_in hp l i j
    · exact mulLin_in (by omega) _ _
theorem prt_len (p : Int) (l : List (Int × Int)) (i : Nat) : ∀ j, 1 ≤ (prt p l i j).length ∧ (prt p l i j).length ≤ j + 1
  | 0 => by simp [prt]
  | j + 1 => by
    have := prt_len p l i j
    rw [prt_succ]
    split
    · omega
    · rw [VI.mulLin_length]; omega
theorem thr_in {p : Int} (hp : 0 < p) (l : List (Int × Int)) : ∀ n, elems p (thr p l n)
  | 0 => fun q hq => absurd hq (Nat.not_lt_zero _)
  | n + 1 => by rw [thr_succ]; exact addC_in hp 1 _ _
theorem thr_len (p : Int) (l : List (Int × Int)) : ∀ n, (thr p l n).length ≤ l.length + 1
  | 0 => by simp [thr]
  | n + 1 => by
    have h1 := thr_len p l n
    have h2 := prt_len p l n l.length
    rw [thr_succ, addC_length, scl_len]; omega
theorem px_at {l : List (Int × Int)} {i : Nat} {z : Int × Int} (hz : l[(i : Int).toNat]? = some z) : pxD l i = z.1 := by
  unfold pxD
  rw [Int.toNat_natCast] at hz
  rw [List.getD_eq_getElem?_getD, hz]; rfl
theorem px_map (l : List (Int × Int)) (k : Nat) : pxD l k = (l.map Prod.fst).getD k 0 := by
  unfold pxD
  simp only [List.getD_eq_getElem?_getD, List.getElem?_map]
  cases l[k]? <;> rfl
theorem py_map (l : List (Int × Int)) (k : Nat) : (l.getD k (0, 0)).2 = (l.map Prod.snd).getD k 0 := by
  simp only [List.getD_eq_getElem?_getD, List.getElem?_map]
  cases l[k]? <;> rfl
theorem vS_px {p : Int} {l : List (Int × Int)} (h : vS p l) {k : Nat} (hk : k < l.length) : 1 ≤ pxD l k ∧ pxD l k ≤ p - 1 := by
  have q := h.2.2.2 k (by simpa using hk)
  rw [px_map]
  exact ⟨q.1, q.2.1⟩
theorem vS_py {p : Int} {l : List (Int × Int)} (h : vS p l) {k : Nat} (hk : k < l.length) : 0 ≤ (l.getD k (0, 0)).2 ∧ (l.getD k (0, 0)).2 ≤ p - 1 := by
  rw [py_map]
  exact h.2.1 k (by simpa using hk)
theorem vS_ne {p : Int} {l : List (Int × Int)} (h : vS p l) {i j : Nat} (hi : i < l.length) (hj : j < l.length) (hne : j ≠ i) : pxD l j ≠ pxD l i := by
  rw [px_map, px_map]
  exact ris_ne h.2.2.2 (by simpa using hi) (by simpa using hj) hne
theorem vS_len {p : Int} {l : List (Int × Int)} (h : vS p l) : l.length ≤ 10 := by
  have := h.2.2.1
  rw [List.length_map] at this; omega
theorem den_in {p : Int} {l : List (Int × Int)} (h : vS p l) {i : Nat} (hi : i < l.length) : ∀ j, j ≤ l.length → 1 ≤ den p l i j ∧ den p l i j < p
  | 0, _ => by have := h.1.1; simp [den]; omega
  | j + 1, hj => by
    have h1 := den_in h hi j (by omega)
    rw [den_succ]
    split
    · exact h1
    · exact (wS_step (x := 0) (w := 0) (a := 0) (isPr_of h.1) (vS_px h hi) (vS_px h (by omega)) (vS_ne h hi (by omega) (by assumption)) h1 (Cg.of_eq (by simp))).2
theorem prt_part (p : Int) (l : List (Int × Int)) (i : Nat) : prt p l i l.length = VI.partAt p (l.map Prod.fst) i := by
  unfold VI.partAt
  have e := VI.range_fold (fun (s : List Int × Nat) (y : Int) => (if s.2 = i then s.1 else mulLin p s.1 y, s.2 + 1)) 0 (l.map Prod.fst) ([1], 0)
  have key : ∀ n, (List.range n).foldl (fun (s : List Int × Nat) k => (if s.2 = i then s.1 else mulLin p s.1 ((l.map Prod.fst).getD k 0), s.2 + 1)) ([1], 0) = (prt p l i n, n) := by
    intro n
    induction n with
    | zero => rfl
    | succ n ih =>
      rw [List.range_succ, List.foldl_append, ih, prt_succ, px_map]; rfl
  have key2 : ∀ (m : List Int) (c : List Int) (k : Nat), (m.foldl (fun (s : List Int × Nat) (y : Int) => (if s.2 = i then s.1 else mulLin p s.1 y, s.2 + 1)) (c, k)).1 = skipFold (mulLin p) i k m c := by
    intro m
    induction m with
    | nil => intro c k; rfl
    | cons y m ih => intro c k; rw [List.foldl_cons, ih, skipFold_cons]
  have e2 := congrArg Prod.fst (e.symm.trans rfl)
  rw [← key2 (l.map Prod.fst) [1] 0, ← e]
  simp only [List.length_map]
  rw [key]
theorem den_by {p : Int} {l : List (Int × Int)} (h : vS p l) {i : Nat} (hi : i < l.length) : (invM p (den p l i l.length) * (l.getD i (0, 0)).2) % p = byAt p (l.map Prod.fst) (l.map Prod.snd) i := by
  have hq := isPr_of h.1
  have hp := h.1.1
  have hv := vS_py h hi
  have key : ∀ j, j ≤ l.length → ∃ w, Cg p (w * den p l i j) (l.getD i (0, 0)).2 ∧ (0 ≤ w ∧ w < p) ∧ w = (List.range j).foldl (fun s k => if k = i then s else VI.byS p (pxD l i) s (pxD l k)) (l.getD i (0, 0)).2 := by
    intro j
    induction j with
    | zero => intro _; exact ⟨_, Cg.of_eq (by simp [den]), ⟨hv.1, by omega⟩, rfl⟩
    | succ j ih =>
      intro hj
      obtain ⟨w, h1, h2, h3⟩ := ih (by omega)
      rw [den_succ]
      by_cases e : j = i
      · refine ⟨w, by rw [if_pos e]; exact h1, h2, ?_⟩
        rw [List.range_succ, List.foldl_append, ← h3]
        simp [e]
      · refine ⟨VI.byS p (pxD l i) w (pxD l j), ?_, emod_bd (by omega) _, ?_⟩
        · rw [if_neg e]
          exact (VI.byS_step hq (by have := vS_px h hi; omega) (by have := vS_px h (show j < l.length by omega); omega) (vS_ne h hi (by omega) e) (den_in h hi j (by omega)) h1).1
        · rw [List.range_succ, List.foldl_append, ← h3]
          simp [e]
  obtain ⟨w, h1, h2, h3⟩ := key l.length (Nat.le_refl _)
  rw [VI.by_end hq (den_in h hi _ (Nat.le_refl _)) h2 h1, h3]
  unfold byAt
  rw [← VI.skip_range, ← py_map, List.length_map]
  refine congrArg (fun g => List.foldl g _ _) (funext fun s => funext fun k => ?_)
  rw [px_map, px_map, Nat.zero_add]
theorem thr_thrFrom {p : Int} {l : List (Int × Int)} (h : vS p l) : ∀ (d i : Nat) (o : List Int), i + d = l.length → o = thr p l i → thrFrom p (l.map Prod.fst) (l.map Prod.snd) d i o = thr p l l.length
  | 0, i, o, hi, ho => by rw [ho]; unfold thrFrom; rw [show i = l.length by omega]
  | d + 1, i, o, hi, ho => by
    unfold thrFrom
    refine thr_thrFrom h d (i + 1) _ (by omega) ?_
    rw [thr_succ, ho, den_by h (by omega), prt_part, scl_addC, VI.add_scaled (show 0 < p by have := h.1.1; omega)]
theorem thr_through {p : Int} {l : List (Int × Int)} (h : vS p l) : stripM (thr p l l.length) = throughM p (l.map Prod.fst) (l.map Prod.snd) := by
  unfold throughM
  rw [thr_thrFrom h _ 0 [] (by simp) rfl]
/-! ### A front of a row of the call's own -/
def cutv (v : Value) (n : Nat) : Value := match v with | .slice a _ c => .slice a n c | u => u
section
variable {P : Program} {α : Type} {K : Kd α} {ok : Nat → Prop} {v : Value} {l : List α} {e : Nat} {t : TypeId}
theorem OwnK.cutA {e' : TypeId} {z : Value} {bytes : Nat} {k : IntKind} {q : Int} (h : OwnK K e W H ok v l) (ht : SlT P t e' z K.sz bytes) (h0 : 0 ≤ q) (h1 : q ≤ l.length) :
    ∀ {H2 N E d x y ty pos af gd}, evl E x = some v → evl E y = some (.int k q) → HV P W N E H2 ⟨some d, .slice t x none (some y) none, ty, pos, af, gd⟩ (cutv v q.toNat) := by
  intro H2 N E d x y ty pos af gd hx hy
  obtain ⟨css, hs, hl, ho, hat⟩ := h
  rcases hat with ⟨rfl, h2⟩ | ⟨g, c, rfl, hg, hA, hc, hm⟩
  · have hh := HV.cutH (P := P) (W := W) (H := H2) (N := N) (d := d) (ty := ty) (pos := pos) (af := af) (gd := gd) ht hx hy h0 (by omega)
    have e1 : q.toNat = 0 := by omega
    simpa [sliced, cutv, e1] using hh
  · have hh := HV.cutH (P := P) (W := W) (H := H2) (N := N) (d := d) (ty := ty) (pos := pos) (af := af) (gd := gd) ht hx hy h0 (by omega)
    simp only [sliced, Nat.zero_mul, Nat.sub_zero] at hh
    have e2 : (if c = 0 then (some (⟨g, 0, none⟩ : Addr)) else Option.map (fun a => a.add 0) (some (⟨g, 0, none⟩ : Addr))) = some ⟨g, 0, none⟩ := by split <;> simp [Addr.add]
    rw [e2] at hh; exact hh
theorem OwnK.ixA {e' : TypeId} {z : Value} {bytes : Nat} {k : IntKind} {q : Int} {n : Nat} (h : OwnK K e W H ok v l) (ht : SlT P t e' z K.sz bytes) (h0 : 0 ≤ q) (h1 : q < l.length) (h2 : q < n) :
    ∃ g x cs, l[q.toNat]? = some x ∧ K.rd W H ok x cs ∧ Cells W H ⟨g, q.toNat * K.sz, none⟩ cs ∧ some g = v.ownBlock ∧
      ∀ {H2 N E d x y ty pos af gd}, evl E x = some (cutv v n) → evl E y = some (.int k q) → HV P W N E H2 ⟨some d, .indexAddr t x y, ty, pos, af, gd⟩ (.pointer (some ⟨g, q.toNat * K.sz, none⟩)) := by
  obtain ⟨css, hs, hl, ho, hat⟩ := h
  have hpos : 0 < l.length := by omega
  have hq : q.toNat < l.length := by omega
  have hq' : q.toNat < css.length := by rw [hs.1]; exact hq
  have hf := (hs.flat (fun _ _ _ h => K.len h)).1
  rcases hat with ⟨rfl, h0⟩ | ⟨g, c, rfl, hg, hA, hc, hm⟩
  · omega
  · have hK := hs.2 _ _ _ (List.getElem?_eq_getElem hq) (List.getElem?_eq_getElem hq')
    refine ⟨g, _, _, List.getElem?_eq_getElem hq, K.okk (fun b hb _ => hb.1) hK, fun j u hu => ?_, rfl, fun hx hy => ?_⟩
    · rw [add_at]
      exact hA.rd (flat_get hf (List.getElem?_eq_getElem hq') hu)
    · have hh := fun {H2 N d ty pos af gd} => HV.ix (P := P) (W := W) (H := H2) (N := N) (d := d) (ty := ty) (pos := pos) (af := af) (gd := gd) (ad := ⟨g, 0, none⟩) ht h0 h2 hx hy
      simp only [add_at, Nat.zero_add] at hh
      exact hh
end
def dotI (a b : List Int) (j : Nat) : Int := (List.range j).foldl (fun s i => s + a.getD i 0 * b.getD i 0) 0
def opV (p : Int) (l : List (Int × Int)) (x : Int) : Int := dotI (wts p (l.map Prod.fst) x (l.map Prod.fst).length) (l.map Prod.snd) (wts p (l.map Prod.fst) x (l.map Prod.fst).length).length % p
/-- The reference's sum, where i numbers have been added. -/
def sumT (p t : Int) (la lb : List Int) (i : Nat) : List Int := (List.range (max la.length i)).map (fun j => if j < i then addAt p t la lb j else la.getD j 0)
theorem sumT_zero (p t : Int) (la lb : List Int) : sumT p t la lb 0 = la := by
  apply List.ext_getElem?
  intro q
  unfold sumT
  rw [List.getElem?_map]
  rcases Nat.lt_or_ge q la.length with h | h
  · rw [List.getElem?_range (by omega)]; simp [h]
  · rw [List.getElem?_eq_none (by simp; omega), List.getElem?_eq_none h]; rfl
theorem sumT_len (p t : Int) (la lb : List Int) (i : Nat) : (sumT p t la lb i).length = max la.length i := by simp [sumT]
theorem sumT_get {p t : Int} {la lb : List Int} {i : Nat} {z : Int} (hz : (sumT p t la lb i)[(i : Int).toNat]? = some z) : z = la.getD i 0 := by
  rw [Int.toNat_natCast] at hz
  have hi := (List.getElem?_eq_some_iff.1 hz).1
  rw [sumT_len] at hi
  unfold sumT at hz
  rw [List.getElem?_map, List.getElem?_range hi] at hz
  simp at hz
  rw [← hz]; simp
theorem sumT_app {p t : Int} {la lb : List Int} {i : Nat} {z : Int} (hi : (sumT p t la lb i).length = i) (hz : (sumT p t la lb i ++ [0])[(i : Int).toNat]? = some z) : z = la.getD i 0 := by
  rw [Int.toNat_natCast, List.getElem?_append_right (by omega), hi, Nat.sub_self] at hz
  rw [sumT_len] at hi
  rw [getD_ge (show ¬ i < la.length by omega)]
  simpa using hz.symm
theorem sumT_set {p t y : Int} {la lb : List Int} {i : Nat} (hi : i < (sumT p t la lb i).length) (hy : y = addAt p t la lb i) : (sumT p t la lb i).set (i : Int).toNat y = sumT p t la lb (i + 1) := by
  rw [Int.toNat_natCast]
  rw [sumT_len] at hi
  apply List.ext_getElem?
  intro q
  by_cases e : q = i
  · subst e
    rw [List.getElem?_set_self (by rw [sumT_len]; exact hi)]
    unfold sumT
    rw [List.getElem?_map, List.getElem?_range (by omega)]
    simp [hy]
  · rw [List.getElem?_set_ne (fun h => e h.symm)]
    unfold sumT
    rw [List.getElem?_map, List.getElem?_map, show max la.length (i + 1) = max la.length i by omega]
    rcases Nat.lt_or_ge q (max la.length i) with h | h
    · rw [List.getElem?_range h]
      simp only [Option.map_some]
      by_cases h2 : q < i
      · rw [if_pos h2, if_pos (by omega)]
      · rw [if_neg h2, if_neg (by omega)]
    · rw [List.getElem?_eq_none (by simpa using h)]; rfl
theorem sumT_set2 {p t y : Int} {la lb : List Int} {i : Nat} (hi : (sumT p t la lb i).length = i) (hy : y = addAt p t la lb i) : (sumT p t la lb i ++ [0]).set (i : Int).toNat y = sumT p t la lb (i + 1) := by
  rw [Int.toNat_natCast, List.set_append, if_neg (by omega), hi, Nat.sub_self]
  rw [sumT_len] at hi
  have e1 : sumT p t la lb (i + 1) = (List.range (i + 1)).map (fun j => addAt p t la lb j) := by
    unfold sumT
    rw [show max la.length (i + 1) = i + 1 by omega]
    exact List.map_congr_left fun j hj => if_pos (List.mem_range.1 hj)
  have e2 : sumT p t la lb i = (List.range i).map (fun j => addAt p t la lb j) := by
    unfold sumT
    rw [hi]
    exact List.map_congr_left fun j hj => if_pos (List.mem_range.1 hj)
  rw [e1, e2, List.range_succ, List.map_append, hy]; rfl
theorem sumT_end {p t : Int} {la lb : List Int} (hp : 0 < p) (ha : elems p la) : sumT p t la lb lb.length = addC p t la lb := by
  unfold sumT addC
  refine List.map_congr_left fun j hj => ?_
  split
  · rfl
  · unfold addAt
    have h := getD_in ha hp j
    rw [getD_ge (a := lb) (by omega), Int.zero_mul, Int.add_zero, Int.emod_eq_of_lt h.1 (by omega)]
/-! ### Shares compared -/
theorem HV.neSh {N d t' ty : Nat} {E : List (Nat × Value)} {x y : Operand} {pos : String} {af : Array Edge} {gd : Option (Nat × Bool)} {a b a2 b2 : Int} (hx : evl E x = some (.agg #[.int .i64 a, .int .i64 b])) (hy : evl E y = some (.agg #[.int .i64 a2, .int .i64 b2])) :
    HV Tryz.prog W N E H ⟨some d, .binOp .neq 36 x y t', ty, pos, af, gd⟩ (.bool (decide (¬ (a = a2 ∧ b = b2)))) :=
  HV.bin hx hy (fun w => by
    rw [Sem.run_bind, run_eqGuard_agg w .neq 36 x y _ _ (by kernel_rfl), Result.andThen_ok, run_neq_struct, run_equalIn_agg w 9999 36 _ _ (by kernel_rfl) (by kernel_rfl)]
    simp [go_sem, Program.fieldsOf, Tryz.underlying36, Op.eqFields]
    by_cases h1 : a = a2 <;> by_cases h2 : b = b2 <;> simp [h1, h2])
/-! ### Curves and their shares -/
open VI (dl dl_fst cutTo throughM addC stripM pe cval_pe stripM_pe addC_pe addC_length allR lastNZ)
theorem cut_last (l : List Int) : ∀ n, n ≤ l.length → ((cutTo l n).length : Int) = 0 ∨ (cutTo l n).getD ((cutTo l n).length - 1) 0 ≠ 0
  | 0, _ => .inl rfl
  | n + 1, h => by
    by_cases e : l.getD n 0 = 0
    · rw [cut_succ e]; exact cut_last l n (by omega)
    · right
      rw [cut_stop (i := n + 1) (.inr (by simpa using e)), List.length_take, Nat.min_eq_left h, Nat.add_sub_cancel]
      rw [List.getD_eq_getElem?_getD, List.getElem?_take, if_pos (by omega), ← List.getD_eq_getElem?_getD]
      exact e
theorem allR_of {p : Int} {l : List Int} (h : elems p l) : allR p l = true := by
  unfold allR
  rw [List.all_eq_true]
  intro x hx
  obtain ⟨j, hj, rfl⟩ := List.getElem_of_mem hx
  have := h j hj
  simp only [VI.inR, decide_eq_true_eq]
  simpa [hj] using this
theorem lastNZ_of {l : List Int} (h : (l.length : Int) = 0 ∨ l.getD (l.length - 1) 0 ≠ 0) : lastNZ l = true := by
  unfold lastNZ
  cases l with
  | nil => rfl
  | cons a l =>
    rcases h with h | h
    · simp at h; omega
    · simp only [List.isEmpty_cons, Bool.false_or, List.getLast?_eq_getElem?, bne_iff_ne, ne_eq]
      intro e
      apply h
      rw [List.getD_eq_getElem?_getD, e]; rfl
theorem dl_snd (p : Int) (c pts : List Int) : (dl p c pts).map Prod.snd = pts.map (fun y => VI.cval p c y) := by
  unfold dl
  rw [List.map_map]; rfl
theorem dl_len (p : Int) (c pts : List Int) : (dl p c pts).length = pts.length := by simp [dl]
theorem dl_thr {p : Int} {c pts : List Int} (hp : primeI p) (hc : curveI p c) (hpt : ptsI p pts) (hl : c.length ≤ pts.length) : throughM p ((dl p c pts).map Prod.fst) ((dl p c pts).map Prod.snd) = c := by
  rw [dl_fst, dl_snd]
  exact VI.through_back (isPr_of hp) (VI.dst_of hpt) (allR_of hc.2.1) (lastNZ_of hc.2.2) hl
set_option maxRecDepth 100000 in
theorem rest_ok (a p : Int) (hp : 2 ≤ p ∧ p ≤ 31) : ACalls Tryz.prog W 99 #[.int .i64 a, .int .i64 p] H (fun r H' => r = .int .i64 (a % p) ∧ Ext H H') := by
  refine ACalls.of (args := [.int .i64 a, .int .i64 p]) Tryz.func99 rfl rfl ?_
  have X0 := Ext.refl H
  refine AW.rs ?_
  refine AL.val rfl (.inl rfl) (HV.as rfl) ?_
  refine AL.nx ?_
  refine AW.rs ?_
  refine AL.val rfl (.inl rfl) (HV.mv rfl) ?_
  refine AL.val rfl (.inl rfl) (HV.mv rfl) ?_
  refine AL.val rfl (.inl rfl) (HV.remt rfl rfl (by omega)) ?_
  refine AL.val rfl (.inl rfl) (HV.mv rfl) ?_
  refine AL.val rfl (.inl rfl) (HV.add rfl rfl (by have := tmod_in (a := a) (show 0 < p by omega); omega)) ?_
  refine AL.val rfl (.inl rfl) (HV.mv rfl) ?_
  refine AL.val rfl (.inl rfl) (HV.rem rfl rfl (by have := tmod_in (a := a) (show 0 < p by omega); omega)) ?_
  refine AL.val rfl (.inl rfl) (HV.as rfl) ?_
  refine AL.nx ?_
  refine AW.ret ?_
  refine post_one rfl rfl ?_ (.inr rfl)
  exact ⟨congrArg (Value.int .i64) (rest_mod (by omega)), X0⟩

set_option maxRecDepth 100000 in
theorem l05Inv_ok (a p : Int) (hq : isPr p = true) (h0 : 0 ≤ a) (h1 : a < p) : ACalls Tryz.prog W 100 #[.int .i64 a, .int .i64 p] H (fun r H' => r = .int .i64 (invM p a) ∧ Ext H H') := by
  refine ACalls.of (args := [.int .i64 a, .int .i64 p]) Tryz.func100 rfl rfl ?_
  have X0 := Ext.refl H
  have hb := isPr_bd hq
  refine AW.rs ?_
  refine AL.val rfl (.inl rfl) (HV.as rfl) ?_
  refine AL.nx ?_
  refine AW.seq ?_
  refine AW.rs ?_
  refine AL.val rfl (.inl rfl) (HV.as rfl) ?_
  refine AL.nx ?_
  refine AW.block ?_
  refine AW.loop (σ := Int) (fun x => [(0, .int .i64 a), (1, .int .i64 p), (5, .int .i64 x)]) (fun x H' => Ext H H' ∧ 1 ≤ x ∧ x ≤ p ∧ (∀ y : Int, 1 ≤ y → y < x → a * y % p ≠ 1) ∧ True) (fun x => (p - x).toNat) 1 ⟨X0, by decide, by omega, fun y a b => by omega, trivial⟩ ⟨rfl, rfl, rfl, trivial⟩ ?_
  rintro x H1 ⟨X2, hx, hx2, he, _⟩
  refine AW.seq ?_
  refine AW.rs ?_
  refine AL.val rfl (.inl rfl) (HV.mv rfl) ?_
  refine AL.val rfl (.inl rfl) (HV.mv rfl) ?_
  refine AL.val rfl (.inl rfl) (HV.lti rfl rfl) ?_
  refine AL.nx ?_
  refine AW.ifd rfl (fun c3 => ?_) (fun c3 => ?_)
  · -- then
    refine AW.skip ?_
    refine nrm_and ?_
    refine AW.seq ?_
    refine AW.block ?_
    refine AW.rs ?_
    refine AL.val rfl (.inl rfl) (HV.mv rfl) ?_
    refine AL.val rfl (.inl rfl) (HV.mv rfl) ?_
    refine AL.val rfl (.inl rfl) (HV.mul rfl rfl (by have := mul31 (a := a) (b := x) (by omega) (by omega) (by omega) (by omega); omega)) ?_
    refine AL.val rfl (.inl rfl) (HV.mv rfl) ?_
    refine AL.val rfl (.inl rfl) (HV.rem rfl rfl (by have := mul31 (a := a) (b := x) (by omega) (by omega) (by omega) (by omega); omega)) ?_
    refine AL.val rfl (.inl rfl) (HV.eqi rfl rfl) ?_
    refine AL.nx ?_
    refine AW.ifd rfl (fun c4 => ?_) (fun c4 => ?_)
    · -- then
      refine AW.rs ?_
      refine AL.val rfl (.inl rfl) (HV.mv rfl) ?_
      refine AL.val rfl (.inl rfl) (HV.as rfl) ?_
      refine AL.nx ?_
      refine AW.ret ?_
      refine ret_blk (ret_and (ret_and (ret_blk (ret_and ?_))))
      refine post_one rfl rfl ?_ (.inr rfl)
      exact ⟨congrArg (Value.int .i64) (inv_at hq h0 h1 hx (by omega) c4).symm, X2⟩
    · -- else
      refine AW.skip ?_
      refine nrm_blk (nrm_and ?_)
      refine AW.reg ?_
      refine AL.val rfl (.inl rfl) (HV.mv rfl) ?_
      refine AL.val rfl (.inl rfl) (HV.add rfl rfl (by omega)) ?_
      refine AL.val rfl (.inl rfl) (HV.as rfl) ?_
      refine AL.nil ?_
      refine nrm_and ?_
      exact ⟨x + 1, ⟨X2, by omega, by omega, fun y a b => by by_cases e : y = x; (subst e; exact c4); (exact he y a (by omega)), trivial⟩, by first | omega | (dsimp only; omega), ⟨rfl, rfl, rfl, trivial⟩⟩
  · -- else
    refine AW.exit ?_
    refine ex_and (ex_and (ex_blk ?_))
    refine nrm_and ?_
    refine AW.rs ?_
    refine AL.val rfl (.inl rfl) (HV.as rfl) ?_
    refine AL.nx ?_
    refine AW.ret ?_
    refine post_one rfl rfl ?_ (.inr rfl)
    exact ⟨congrArg (Value.int .i64) (inv_none hq h0 h1 (fun y a b => he y a (by omega))).symm, X2⟩

set_option maxRecDepth 100000 in
theorem power_ok (p a n : Int) (hp : 2 ≤ p ∧ p ≤ 31) (ha : 0 ≤ a ∧ a ≤ 31) (hn : 0 ≤ n ∧ n ≤ 31) : ACalls Tryz.prog W 78 #[.int .i64 p, .int .i64 a, .int .i64 n] H (fun r H' => r = .int .i64 (powM p a n.toNat) ∧ Ext H H') := by
  refine ACalls.of (args := [.int .i64 p, .int .i64 a, .int .i64 n]) Tryz.func78 rfl rfl ?_
  have X0 := Ext.refl H
  refine AW.rs ?_
  refine AL.val rfl (.inl rfl) (HV.as rfl) ?_
  refine AL.nx ?_
  refine AW.rs ?_
  refine AL.val rfl (.inl rfl) (HV.mv rfl) ?_
  refine AL.val rfl (.inl rfl) (HV.rem rfl rfl (by omega)) ?_
  refine AL.val rfl (.inl rfl) (HV.as rfl) ?_
  refine AL.nx ?_
  refine AW.seq ?_
  refine AW.rs ?_
  refine AL.val rfl (.inl rfl) (HV.mv rfl) ?_
  refine AL.val rfl (.inl rfl) (HV.mv rfl) ?_
  refine AL.nx ?_
  refine AW.block ?_
  refine AW.loop (σ := Nat) (fun i => [(0, .int .i64 p), (1, .int .i64 a), (6, .int .i64 0), (10, .int .i64 n), (7, .int .i64 (powM p a i)), (11, .int .i64 (i : Int))]) (fun i H' => Ext H H' ∧ (i : Int) ≤ n ∧ True) (fun i => n.toNat - i) 0 ⟨X0, by omega, trivial⟩ ⟨rfl, rfl, rfl, rfl, rfl, rfl, trivial⟩ ?_
  rintro i H1 ⟨X2, hi, _⟩
  refine AW.rs ?_
  refine AL.val rfl (.inl rfl) (HV.lti rfl rfl) ?_
  refine AL.nx ?_
  refine AW.seq ?_
  refine AW.ifd rfl (fun c3 => ?_) (fun c3 => ?_)
  · -- then
    refine AW.skip ?_
    refine nrm_and ?_
    refine AW.seq ?_
    refine AW.block ?_
    refine AW.reg ?_
    refine AL.val rfl (.inl rfl) (HV.mv rfl) ?_
    refine AL.val rfl (.inl rfl) (HV.mv rfl) ?_
    refine AL.val rfl (.inl rfl) (HV.mul rfl rfl (by have q := powM_in (a := a) (show 0 < p by omega) i; have := mul31 (a := powM p a i) (b := a) (by omega) (by omega) (by omega) (by omega); omega)) ?_
    refine AL.val rfl (.inl rfl) (HV.mv rfl) ?_
    refine AL.val rfl (.inl rfl) (HV.rem rfl rfl (by have q := powM_in (a := a) (show 0 < p by omega) i; have := mul31 (a := powM p a i) (b := a) (by omega) (by omega) (by omega) (by omega); omega)) ?_
    refine AL.val rfl (.inl rfl) (HV.as rfl) ?_
    refine AL.nil ?_
    refine nrm_blk (nrm_and ?_)
    refine AW.reg ?_
    refine AL.val rfl (.inl rfl) (HV.add rfl rfl (by omega)) ?_
    refine AL.val rfl (.inl rfl) (HV.mv rfl) ?_
    refine AL.nil ?_
    refine nrm_and ?_
    exact ⟨i + 1, ⟨X2, by omega, trivial⟩, by first | omega | (dsimp only; omega), ⟨rfl, rfl, rfl, rfl, rfl, rfl, trivial⟩⟩
  · -- else
    refine AW.exit ?_
    refine ex_and (ex_and (ex_blk ?_))
    refine nrm_and ?_
    refine AW.rs ?_
    refine AL.val rfl (.inl rfl) (HV.mv rfl) ?_
    refine AL.val rfl (.inl rfl) (HV.as rfl) ?_
    refine AL.nx ?_
    refine AW.ret ?_
    refine post_one rfl rfl ?_ (.inr rfl)
    exact ⟨by have e : i = n.toNat := (by omega); rw [e], X2⟩

set_option maxRecDepth 100000 in
theorem inverse_ok (p a : Int) (hq : isPr p = true) (h1 : 1 ≤ a) (h2 : a < p) : ACalls Tryz.prog W 68 #[.int .i64 p, .int .i64 a] H (fun r H' => r = .int .i64 (invM p a) ∧ Ext H H') := by
  refine ACalls.of (args := [.int .i64 p, .int .i64 a]) Tryz.func68 rfl rfl ?_
  have X0 := Ext.refl H
  have hb := isPr_bd hq
  refine AW.rs ?_
  refine AL.val rfl (.inl rfl) (HV.as rfl) ?_
  refine AL.nx ?_
  refine AW.rs ?_
  refine AL.val rfl (.inl rfl) (HV.mv rfl) ?_
  refine AL.val rfl (.inl rfl) (HV.mv rfl) ?_
  refine AL.val rfl (.inl rfl) (HV.mv rfl) ?_
  refine AL.val rfl (.inl rfl) (HV.sub rfl rfl (by omega)) ?_
  refine AL.w rfl (.inl rfl) (WV.call fn78 rfl (power_ok (W := W) p a (p - 2) (by omega) (by omega) (by omega))) ?_
  rintro _ H1 ⟨rfl, hx2⟩
  have X3 := Ext.trans X0 hx2
  refine AL.val rfl (.inl rfl) (HV.as rfl) ?_
  refine AL.nx ?_
  refine AW.ret ?_
  refine post_one rfl rfl ?_ (.inr rfl)
  exact ⟨congrArg (Value.int .i64) (pow_inv hq h1 h2), X3⟩

set_option maxRecDepth 100000 in
theorem addCu_ok {va vb : Value} {la lb : List Int} {ok ok2 : Nat → Prop} {p : Int} (hr : RdK kI W H ok va la) (hr2 : RdK kI W H ok2 vb lb) (hp : 2 ≤ p ∧ p ≤ 31) (hla : elems p la) (hlb : elems p lb) (hl : la.length ≤ 1000 ∧ lb.length ≤ 1000) : ACalls Tryz.prog W 69 #[.int .i64 p, va, vb] H (fun r H' => Ext H H' ∧ OwnK kI 2 W H' (fun b => H.bd ≤ b) r (addC p 1 la lb)) := by
  refine ACalls.of (args := [.int .i64 p, va, vb]) Tryz.func69 rfl rfl ?_
  have X0 := Ext.refl H
  have hm1 := hr.max
  have hm2 := hr2.max
  obtain ⟨N, hN⟩ : ∃ N : Nat, N = max la.length lb.length := ⟨_, rfl⟩
  refine AW.rs ?_
  refine AL.val rfl (.inl rfl) (HV.as rfl) ?_
  refine AL.nx ?_
  refine AW.rs ?_
  refine AL.val rfl (.inl rfl) (HV.mv rfl) ?_
  refine AL.val rfl (.inl rfl) (HV.len Tryz.underlying25 rfl hr.isSl) ?_
  refine AL.val rfl (.inl rfl) (HV.mv rfl) ?_
  refine AL.val rfl (.inl rfl) (HV.len Tryz.underlying25 rfl hr2.isSl) ?_
  refine AL.val rfl (.inl rfl) (HV.mx rfl rfl) ?_
  have o3 := X0.bd
  refine AL.w rfl (.inl rfl) (WV.mkK (K := kI) (0 : Int) (fun _ _ _ => rfl) sl25 rfl rfl rfl (by omega) (by omega) (by omega)) ?_
  rintro v4 H5 ⟨hx6, ho7⟩
  have X8 := Ext.trans X0 hx6
  refine AL.val rfl (.inl rfl) (HV.as rfl) ?_
  refine AL.nx ?_
  refine AW.seq ?_
  refine AW.rs ?_
  refine AL.val rfl (.inl rfl) (HV.mv rfl) ?_
  refine AL.val rfl (.inl rfl) (HV.len Tryz.underlying25 rfl ho7.rd.isSl) ?_
  refine AL.val rfl (.inl rfl) (HV.mv rfl) ?_
  refine AL.nx ?_
  refine AW.block ?_
  have hNl : (List.replicate (max (la.length : Int) (lb.length : Int) : Int).toNat (0 : Int)).length = N := by simp only [List.length_replicate]; omega
  refine AW.loop (σ := Nat × List Int) (fun ⟨i, k⟩ => [(0, .int .i64 p), (1, va), (2, vb), (6, (.slice none 0 0)), (7, v4), (16, .int .i64 ((List.replicate (max (la.length : Int) (lb.length : Int) : Int).toNat (0 : Int)).length : Int)), (7, v4), (17, .int .i64 (i : Int))]) (fun ⟨i, k⟩ H' => Ext H H' ∧ i ≤ N ∧ k = updF 0 (addAt p 1 la lb) (List.replicate (max (la.length : Int) (lb.length : Int) : Int).toNat (0 : Int)) i ∧ k.length = N ∧ OwnK kI 2 W H' (fun b => H.bd ≤ b) v4 k ∧ True) (fun ⟨i, k⟩ => N - i) (0, (List.replicate (max (la.length : Int) (lb.length : Int) : Int).toNat (0 : Int))) ⟨X8, Nat.zero_le _, (updF_zero _ _ _).symm, hNl, ho7, trivial⟩ ⟨rfl, rfl, rfl, rfl, rfl, rfl, rfl, rfl, trivial⟩ ?_
  rintro ⟨i, k⟩ H10 ⟨X11, hi, hk, hk2, hoL, _⟩
  refine AW.rs ?_
  refine AL.val rfl (.inl rfl) (HV.lti rfl rfl) ?_
  refine AL.nx ?_
  refine AW.seq ?_
  refine AW.ifd rfl (fun c12 => ?_) (fun c12 => ?_)
  · -- then
    refine AW.skip ?_
    refine nrm_and ?_
    refine AW.seq ?_
    refine AW.block ?_
    refine AW.rs ?_
    refine AL.val rfl (.inl rfl) (HV.mv rfl) ?_
    refine AL.val rfl (.inl rfl) (HV.as rfl) ?_
    refine AL.nx ?_
    refine AW.seq ?_
    refine AW.rs ?_
    refine AL.val rfl (.inl rfl) (HV.mv rfl) ?_
    refine AL.val rfl (.inl rfl) (HV.mv rfl) ?_
    refine AL.val rfl (.inl rfl) (HV.len Tryz.underlying25 rfl hr.isSl) ?_
    refine AL.val rfl (.inl rfl) (HV.lti rfl rfl) ?_
    refine AL.nx ?_
    refine AW.ifd rfl (fun c13 => ?_) (fun c13 => ?_)
    · -- then
      refine AW.draw' [0, 0, 3, 7, 0, 0, 48, 112, 255, 511, 1023] mixed (by rfl) ?_
      refine Dr.read 0 _ 24 _ rfl rfl rfl rfl rfl (RV.of (by intro _ _ h; cases h) (.inl rfl) (fun _ xd => HV.mv rfl)) ?_
      refine Dr.read 1 _ 25 _ rfl rfl rfl rfl rfl (RV.of (by intro _ _ h; cases h) (.inl rfl) (fun _ xd => HV.mv rfl)) ?_
      obtain ⟨g14, z15, cs16, hz17, hK18, hC19, hg20, hP21⟩ := OwnK.ix (q := (i : Int)) hoL sl25 (by omega) (by first | omega | (simp only [List.length_set]; omega))
      have X22 := Ext.refl H10
      obtain rfl : cs16 = [.int .i64 z15] := hK18
      refine Dr.read 2 _ 26 _ rfl rfl rfl rfl rfl (RV.of (by intro _ _ h; cases h) (.inl rfl) (fun _ xd => hP21 rfl rfl)) ?_
      refine Dr.read 3 _ 27 _ rfl rfl rfl rfl rfl (RV.of (by intro _ _ h; cases h) (.inl rfl) (fun _ xd => HV.ld rfl va2 (rdc_ext xd (cells_first hC19 rfl)))) ?_
      refine Dr.read 4 _ 28 _ rfl rfl rfl rfl rfl (RV.of (by intro _ _ h; cases h) (.inl rfl) (fun _ xd => HV.mv rfl)) ?_
      refine Dr.read 5 _ 29 _ rfl rfl rfl rfl rfl (RV.of (by intro _ _ h; cases h) (.inl rfl) (fun _ xd => HV.mv rfl)) ?_
      obtain ⟨p23, z24, cs25, hz26, hK27, hC28, hP29⟩ := RdK.ix (q := (i : Int)) hr sl25 (by omega) (by omega)
      obtain rfl : cs25 = [.int .i64 z24] := hK27
      refine Dr.read 6 _ 30 _ rfl rfl rfl rfl rfl (RV.of (by intro _ _ h; cases h) (.inl rfl) (fun _ xd => hP29 rfl rfl)) ?_
      refine Dr.read 7 _ 31 _ rfl rfl rfl rfl rfl (RV.of (by intro _ _ h; cases h) (.inl rfl) (fun _ xd => HV.ld rfl va2 (rdc_ext xd (cells_first (hC28.ext X11) rfl)))) ?_
      have e26 := (updF_at (by rw [← hk]; exact hz17)).trans rep_at
      have b30 := elem_at hla hz26
      refine Dr.read 8 _ 32 _ rfl rfl rfl rfl rfl (RV.of (by intro _ _ h; cases h) (.inl rfl) (fun _ xd => HV.add rfl rfl (by omega))) ?_
      obtain ⟨g30, z31, cs32, hz33, hK34, hC35, hg36, hP37⟩ := OwnK.ix (q := (i : Int)) hoL sl25 (by omega) (by first | omega | (simp only [List.length_set]; omega))
      obtain rfl : cs32 = [.int .i64 z31] := hK34
      refine Dr.read 9 _ 33 _ rfl rfl rfl rfl rfl (RV.of (by intro _ _ h; cases h) (.inl rfl) (fun _ xd => hP37 rfl rfl)) ?_
      refine Dr.eff 10 _ _ rfl (by intro d h; cases h) rfl rfl rfl (EC.of (by intro _ _ h; cases h) (.inl rfl) (WV.stK (okx := fun _ => False) (x' := z15 + z24) hoL hg36 rfl rfl va2 (by first | omega | (simp only [List.length_set]; omega)) rfl (fun _ h => h.elim))) (fun v H' h => .inr (.inl rfl)) ?_
      rintro _ H38 ⟨hx39, ho40⟩
      have X41 := Ext.thru X11 hx39 (fun b hb => Nat.le_trans o3 (hoL.blk b hb).1)
      have ho43 := ho40.okk (ok' := fun b => H.bd ≤ b) (fun b hb _ => hb.elim id False.elim)
      refine Dr.fin rfl ?_
      refine nrm_and ?_
      refine AW.seq ?_
      refine AW.rs ?_
      refine AL.val rfl (.inl rfl) (HV.mv rfl) ?_
      refine AL.val rfl (.inl rfl) (HV.mv rfl) ?_
      refine AL.val rfl (.inl rfl) (HV.len Tryz.underlying25 rfl hr2.isSl) ?_
      refine AL.val rfl (.inl rfl) (HV.lti rfl rfl) ?_
      refine AL.nx ?_
      refine AW.ifd rfl (fun c44 => ?_) (fun c44 => ?_)
      · -- then
        refine AW.draw' [0, 0, 3, 7, 0, 0, 48, 112, 255, 511, 1023] mixed (by rfl) ?_
        refine Dr.read 0 _ 38 _ rfl rfl rfl rfl rfl (RV.of (by intro _ _ h; cases h) (.inl rfl) (fun _ xd => HV.mv rfl)) ?_
        refine Dr.read 1 _ 39 _ rfl rfl rfl rfl rfl (RV.of (by intro _ _ h; cases h) (.inl rfl) (fun _ xd => HV.mv rfl)) ?_
        obtain ⟨g45, z46, cs47, hz48, hK49, hC50, hg51, hP52⟩ := OwnK.ix (q := (i : Int)) ho43 sl25 (by omega) (by first | omega | (simp only [List.length_set]; omega))
        have X53 := Ext.refl H38
        obtain rfl : cs47 = [.int .i64 z46] := hK49
        refine Dr.read 2 _ 40 _ rfl rfl rfl rfl rfl (RV.of (by intro _ _ h; cases h) (.inl rfl) (fun _ xd => hP52 rfl rfl)) ?_
        refine Dr.read 3 _ 41 _ rfl rfl rfl rfl rfl (RV.of (by intro _ _ h; cases h) (.inl rfl) (fun _ xd => HV.ld rfl va2 (rdc_ext xd (cells_first hC50 rfl)))) ?_
        refine Dr.read 4 _ 42 _ rfl rfl rfl rfl rfl (RV.of (by intro _ _ h; cases h) (.inl rfl) (fun _ xd => HV.mv rfl)) ?_
        refine Dr.read 5 _ 43 _ rfl rfl rfl rfl rfl (RV.of (by intro _ _ h; cases h) (.inl rfl) (fun _ xd => HV.mv rfl)) ?_
        obtain ⟨p54, z55, cs56, hz57, hK58, hC59, hP60⟩ := RdK.ix (q := (i : Int)) hr2 sl25 (by omega) (by omega)
        obtain rfl : cs56 = [.int .i64 z55] := hK58
        refine Dr.read 6 _ 44 _ rfl rfl rfl rfl rfl (RV.of (by intro _ _ h; cases h) (.inl rfl) (fun _ xd => hP60 rfl rfl)) ?_
        refine Dr.read 7 _ 45 _ rfl rfl rfl rfl rfl (RV.of (by intro _ _ h; cases h) (.inl rfl) (fun _ xd => HV.ld rfl va2 (rdc_ext xd (cells_first (hC59.ext X41) rfl)))) ?_
        have e40 := setq_get hz48
        have b44 := elem_at hlb hz57
        refine Dr.read 8 _ 46 _ rfl rfl rfl rfl rfl (RV.of (by intro _ _ h; cases h) (.inl rfl) (fun _ xd => HV.add rfl rfl (by omega))) ?_
        obtain ⟨g61, z62, cs63, hz64, hK65, hC66, hg67, hP68⟩ := OwnK.ix (q := (i : Int)) ho43 sl25 (by omega) (by first | omega | (simp only [List.length_set]; omega))
        obtain rfl : cs63 = [.int .i64 z62] := hK65
        refine Dr.read 9 _ 47 _ rfl rfl rfl rfl rfl (RV.of (by intro _ _ h; cases h) (.inl rfl) (fun _ xd => hP68 rfl rfl)) ?_
        refine Dr.eff 10 _ _ rfl (by intro d h; cases h) rfl rfl rfl (EC.of (by intro _ _ h; cases h) (.inl rfl) (WV.stK (okx := fun _ => False) (x' := z46 + z55) ho43 hg67 rfl rfl va2 (by first | omega | (simp only [List.length_set]; omega)) rfl (fun _ h => h.elim))) (fun v H' h => .inr (.inl rfl)) ?_
        rintro _ H69 ⟨hx70, ho71⟩
        have X72 := Ext.thru X41 hx70 (fun b hb => Nat.le_trans o3 (ho43.blk b hb).1)
        have ho74 := ho71.okk (ok' := fun b => H.bd ≤ b) (fun b hb _ => hb.elim id False.elim)
        refine Dr.fin rfl ?_
        refine nrm_and ?_
        refine AW.reg ?_
        refine AL.val rfl (.inl rfl) (HV.mv rfl) ?_
        refine AL.val rfl (.inl rfl) (HV.mv rfl) ?_
        obtain ⟨g75, z76, cs77, hz78, hK79, hC80, hg81, hP82⟩ := OwnK.ix (q := (i : Int)) ho74 sl25 (by omega) (by first | omega | (simp only [List.length_set]; omega))
        have X83 := Ext.refl H69
        obtain rfl : cs77 = [.int .i64 z76] := hK79
        refine AL.val rfl (.inl rfl) (hP82 rfl rfl) ?_
        refine AL.val rfl (.inl rfl) (HV.ld rfl va2 (cells_first hC80 rfl)) ?_
        refine AL.val rfl (.inl rfl) (HV.mv rfl) ?_
        have e50 := setq_get hz78
        refine AL.val rfl (.inl rfl) (HV.rem rfl rfl (by omega)) ?_
        obtain ⟨g84, z85, cs86, hz87, hK88, hC89, hg90, hP91⟩ := OwnK.ix (q := (i : Int)) ho74 sl25 (by omega) (by first | omega | (simp only [List.length_set]; omega))
        obtain rfl : cs86 = [.int .i64 z85] := hK88
        refine AL.val rfl (.inl rfl) (hP91 rfl rfl) ?_
        refine AL.w0 (.inl rfl) (WV.stK (okx := fun _ => False) (x' := z76 % p) ho74 hg90 rfl rfl va2 (by first | omega | (simp only [List.length_set]; omega)) rfl (fun _ h => h.elim)) ?_
        rintro _ H92 ⟨hx93, ho94⟩
        have X95 := Ext.thru X72 hx93 (fun b hb => Nat.le_trans o3 (ho74.blk b hb).1)
        have ho97 := ho94.okk (ok' := fun b => H.bd ≤ b) (fun b hb _ => hb.elim id False.elim)
        refine AL.nil ?_
        refine nrm_blk (nrm_and ?_)
        refine AW.reg ?_
        refine AL.val rfl (.inl rfl) (HV.add rfl rfl (by omega)) ?_
        refine AL.val rfl (.inl rfl) (HV.mv rfl) ?_
        refine AL.nil ?_
        refine nrm_and ?_
        exact ⟨(i + 1, (((k.set ((i : Int) : Int).toNat (z15 + z24)).set ((i : Int) : Int).toNat (z46 + z55)).set ((i : Int) : Int).toNat (z76 % p))), ⟨X95, by omega, by (try simp only [List.set_set]); rw [hk]; exact updF_set (by unfold addAt; rw [(gd hz26 rfl : la.getD i 0 = z24), (gd hz57 rfl : lb.getD i 0 = z55)]; exact congrArg (fun q => q % p) (by omega)), by simp [hk2], ho97, trivial⟩, by first | omega | (dsimp only; omega), ⟨rfl, rfl, rfl, rfl, rfl, rfl, rfl, rfl, trivial⟩⟩
      · -- else
        refine AW.skip ?_
        refine nrm_and ?_
        refine AW.reg ?_
        refine AL.val rfl (.inl rfl) (HV.mv rfl) ?_
        refine AL.val rfl (.inl rfl) (HV.mv rfl) ?_
        obtain ⟨g98, z99, cs100, hz101, hK102, hC103, hg104, hP105⟩ := OwnK.ix (q := (i : Int)) ho43 sl25 (by omega) (by first | omega | (simp only [List.length_set]; omega))
        have X106 := Ext.refl H38
        obtain rfl : cs100 = [.int .i64 z99] := hK102
        refine AL.val rfl (.inl rfl) (hP105 rfl rfl) ?_
        refine AL.val rfl (.inl rfl) (HV.ld rfl va2 (cells_first hC103 rfl)) ?_
        refine AL.val rfl (.inl rfl) (HV.mv rfl) ?_
        have e50 := setq_get hz101
        refine AL.val rfl (.inl rfl) (HV.rem rfl rfl (by omega)) ?_
        obtain ⟨g107, z108, cs109, hz110, hK111, hC112, hg113, hP114⟩ := OwnK.ix (q := (i : Int)) ho43 sl25 (by omega) (by first | omega | (simp only [List.length_set]; omega))
        obtain rfl : cs109 = [.int .i64 z108] := hK111
        refine AL.val rfl (.inl rfl) (hP114 rfl rfl) ?_
        refine AL.w0 (.inl rfl) (WV.stK (okx := fun _ => False) (x' := z99 % p) ho43 hg113 rfl rfl va2 (by first | omega | (simp only [List.length_set]; omega)) rfl (fun _ h => h.elim)) ?_
        rintro _ H115 ⟨hx116, ho117⟩
        have X118 := Ext.thru X41 hx116 (fun b hb => Nat.le_trans o3 (ho43.blk b hb).1)
        have ho120 := ho117.okk (ok' := fun b => H.bd ≤ b) (fun b hb _ => hb.elim id False.elim)
        refine AL.nil ?_
        refine nrm_blk (nrm_and ?_)
        refine AW.reg ?_
        refine AL.val rfl (.inl rfl) (HV.add rfl rfl (by omega)) ?_
        refine AL.val rfl (.inl rfl) (HV.mv rfl) ?_
        refine AL.nil ?_
        refine nrm_and ?_
        exact ⟨(i + 1, ((k.set ((i : Int) : Int).toNat (z15 + z24)).set ((i : Int) : Int).toNat (z99 % p))), ⟨X118, by omega, by (try simp only [List.set_set]); rw [hk]; exact updF_set (by unfold addAt; rw [(gd hz26 rfl : la.getD i 0 = z24), (getD_ge (by omega) : lb.getD i 0 = 0)]; exact congrArg (fun q => q % p) (by omega)), by simp [hk2], ho120, trivial⟩, by first | omega | (dsimp only; omega), ⟨rfl, rfl, rfl, rfl, rfl, rfl, rfl, rfl, trivial⟩⟩
    · -- else
      refine AW.skip ?_
      refine nrm_and ?_
      refine AW.seq ?_
      refine AW.rs ?_
      refine AL.val rfl (.inl rfl) (HV.mv rfl) ?_
      refine AL.val rfl (.inl rfl) (HV.mv rfl) ?_
      refine AL.val rfl (.inl rfl) (HV.len Tryz.underlying25 rfl hr2.isSl) ?_
      refine AL.val rfl (.inl rfl) (HV.lti rfl rfl) ?_
      refine AL.nx ?_
      refine AW.ifd rfl (fun c121 => ?_) (fun c121 => ?_)
      · -- then
        refine AW.draw' [0, 0, 3, 7, 0, 0, 48, 112, 255, 511, 1023] mixed (by rfl) ?_
        refine Dr.read 0 _ 38 _ rfl rfl rfl rfl rfl (RV.of (by intro _ _ h; cases h) (.inl rfl) (fun _ xd => HV.mv rfl)) ?_
        refine Dr.read 1 _ 39 _ rfl rfl rfl rfl rfl (RV.of (by intro _ _ h; cases h) (.inl rfl) (fun _ xd => HV.mv rfl)) ?_
        obtain ⟨g122, z123, cs124, hz125, hK126, hC127, hg128, hP129⟩ := OwnK.ix (q := (i : Int)) hoL sl25 (by omega) (by first | omega | (simp only [List.length_set]; omega))
        have X130 := Ext.refl H10
        obtain rfl : cs124 = [.int .i64 z123] := hK126
        refine Dr.read 2 _ 40 _ rfl rfl rfl rfl rfl (RV.of (by intro _ _ h; cases h) (.inl rfl) (fun _ xd => hP129 rfl rfl)) ?_
        refine Dr.read 3 _ 41 _ rfl rfl rfl rfl rfl (RV.of (by intro _ _ h; cases h) (.inl rfl) (fun _ xd => HV.ld rfl va2 (rdc_ext xd (cells_first hC127 rfl)))) ?_
        refine Dr.read 4 _ 42 _ rfl rfl rfl rfl rfl (RV.of (by intro _ _ h; cases h) (.inl rfl) (fun _ xd => HV.mv rfl)) ?_
        refine Dr.read 5 _ 43 _ rfl rfl rfl rfl rfl (RV.of (by intro _ _ h; cases h) (.inl rfl) (fun _ xd => HV.mv rfl)) ?_
        obtain ⟨p131, z132, cs133, hz134, hK135, hC136, hP137⟩ := RdK.ix (q := (i : Int)) hr2 sl25 (by omega) (by omega)
        obtain rfl : cs133 = [.int .i64 z132] := hK135
        refine Dr.read 6 _ 44 _ rfl rfl rfl rfl rfl (RV.of (by intro _ _ h; cases h) (.inl rfl) (fun _ xd => hP137 rfl rfl)) ?_
        refine Dr.read 7 _ 45 _ rfl rfl rfl rfl rfl (RV.of (by intro _ _ h; cases h) (.inl rfl) (fun _ xd => HV.ld rfl va2 (rdc_ext xd (cells_first (hC136.ext X11) rfl)))) ?_
        have e40 := (updF_at (by rw [← hk]; exact hz125)).trans rep_at
        have b44 := elem_at hlb hz134
        refine Dr.read 8 _ 46 _ rfl rfl rfl rfl rfl (RV.of (by intro _ _ h; cases h) (.inl rfl) (fun _ xd => HV.add rfl rfl (by omega))) ?_
        obtain ⟨g138, z139, cs140, hz141, hK142, hC143, hg144, hP145⟩ := OwnK.ix (q := (i : Int)) hoL sl25 (by omega) (by first | omega | (simp only [List.length_set]; omega))
        obtain rfl : cs140 = [.int .i64 z139] := hK142
        refine Dr.read 9 _ 47 _ rfl rfl rfl rfl rfl (RV.of (by intro _ _ h; cases h) (.inl rfl) (fun _ xd => hP145 rfl rfl)) ?_
        refine Dr.eff 10 _ _ rfl (by intro d h; cases h) rfl rfl rfl (EC.of (by intro _ _ h; cases h) (.inl rfl) (WV.stK (okx := fun _ => False) (x' := z123 + z132) hoL hg144 rfl rfl va2 (by first | omega | (simp only [List.length_set]; omega)) rfl (fun _ h => h.elim))) (fun v H' h => .inr (.inl rfl)) ?_
        rintro _ H146 ⟨hx147, ho148⟩
        have X149 := Ext.thru X11 hx147 (fun b hb => Nat.le_trans o3 (hoL.blk b hb).1)
        have ho151 := ho148.okk (ok' := fun b => H.bd ≤ b) (fun b hb _ => hb.elim id False.elim)
        refine Dr.fin rfl ?_
        refine nrm_and ?_
        refine AW.reg ?_
        refine AL.val rfl (.inl rfl) (HV.mv rfl) ?_
        refine AL.val rfl (.inl rfl) (HV.mv rfl) ?_
        obtain ⟨g152, z153, cs154, hz155, hK156, hC157, hg158, hP159⟩ := OwnK.ix (q := (i : Int)) ho151 sl25 (by omega) (by first | omega | (simp only [List.length_set]; omega))
        have X160 := Ext.refl H146
        obtain rfl : cs154 = [.int .i64 z153] := hK156
        refine AL.val rfl (.inl rfl) (hP159 rfl rfl) ?_
        refine AL.val rfl (.inl rfl) (HV.ld rfl va2 (cells_first hC157 rfl)) ?_
        refine AL.val rfl (.inl rfl) (HV.mv rfl) ?_
        have e50 := setq_get hz155
        refine AL.val rfl (.inl rfl) (HV.rem rfl rfl (by omega)) ?_
        obtain ⟨g161, z162, cs163, hz164, hK165, hC166, hg167, hP168⟩ := OwnK.ix (q := (i : Int)) ho151 sl25 (by omega) (by first | omega | (simp only [List.length_set]; omega))
        obtain rfl : cs163 = [.int .i64 z162] := hK165
        refine AL.val rfl (.inl rfl) (hP168 rfl rfl) ?_
        refine AL.w0 (.inl rfl) (WV.stK (okx := fun _ => False) (x' := z153 % p) ho151 hg167 rfl rfl va2 (by first | omega | (simp only [List.length_set]; omega)) rfl (fun _ h => h.elim)) ?_
        rintro _ H169 ⟨hx170, ho171⟩
        have X172 := Ext.thru X149 hx170 (fun b hb => Nat.le_trans o3 (ho151.blk b hb).1)
        have ho174 := ho171.okk (ok' := fun b => H.bd ≤ b) (fun b hb _ => hb.elim id False.elim)
        refine AL.nil ?_
        refine nrm_blk (nrm_and ?_)
        refine AW.reg ?_
        refine AL.val rfl (.inl rfl) (HV.add rfl rfl (by omega)) ?_
        refine AL.val rfl (.inl rfl) (HV.mv rfl) ?_
        refine AL.nil ?_
        refine nrm_and ?_
        exact ⟨(i + 1, ((k.set ((i : Int) : Int).toNat (z123 + z132)).set ((i : Int) : Int).toNat (z153 % p))), ⟨X172, by omega, by (try simp only [List.set_set]); rw [hk]; exact updF_set (by unfold addAt; rw [(getD_ge (by omega) : la.getD i 0 = 0), (gd hz134 rfl : lb.getD i 0 = z132)]; exact congrArg (fun q => q % p) (by omega)), by simp [hk2], ho174, trivial⟩, by first | omega | (dsimp only; omega), ⟨rfl, rfl, rfl, rfl, rfl, rfl, rfl, rfl, trivial⟩⟩
      · -- else
        refine AW.skip ?_
        refine nrm_and ?_
        refine AW.reg ?_
        refine AL.val rfl (.inl rfl) (HV.mv rfl) ?_
        refine AL.val rfl (.inl rfl) (HV.mv rfl) ?_
        obtain ⟨g175, z176, cs177, hz178, hK179, hC180, hg181, hP182⟩ := OwnK.ix (q := (i : Int)) hoL sl25 (by omega) (by first | omega | (simp only [List.length_set]; omega))
        have X183 := Ext.refl H10
        obtain rfl : cs177 = [.int .i64 z176] := hK179
        refine AL.val rfl (.inl rfl) (hP182 rfl rfl) ?_
        refine AL.val rfl (.inl rfl) (HV.ld rfl va2 (cells_first hC180 rfl)) ?_
        refine AL.val rfl (.inl rfl) (HV.mv rfl) ?_
        have e50 := (updF_at (by rw [← hk]; exact hz178)).trans rep_at
        refine AL.val rfl (.inl rfl) (HV.rem rfl rfl (by omega)) ?_
        obtain ⟨g184, z185, cs186, hz187, hK188, hC189, hg190, hP191⟩ := OwnK.ix (q := (i : Int)) hoL sl25 (by omega) (by first | omega | (simp only [List.length_set]; omega))
        obtain rfl : cs186 = [.int .i64 z185] := hK188
        refine AL.val rfl (.inl rfl) (hP191 rfl rfl) ?_
        refine AL.w0 (.inl rfl) (WV.stK (okx := fun _ => False) (x' := z176 % p) hoL hg190 rfl rfl va2 (by first | omega | (simp only [List.length_set]; omega)) rfl (fun _ h => h.elim)) ?_
        rintro _ H192 ⟨hx193, ho194⟩
        have X195 := Ext.thru X11 hx193 (fun b hb => Nat.le_trans o3 (hoL.blk b hb).1)
        have ho197 := ho194.okk (ok' := fun b => H.bd ≤ b) (fun b hb _ => hb.elim id False.elim)
        refine AL.nil ?_
        refine nrm_blk (nrm_and ?_)
        refine AW.reg ?_
        refine AL.val rfl (.inl rfl) (HV.add rfl rfl (by omega)) ?_
        refine AL.val rfl (.inl rfl) (HV.mv rfl) ?_
        refine AL.nil ?_
        refine nrm_and ?_
        exact ⟨(i + 1, (k.set ((i : Int) : Int).toNat (z176 % p))), ⟨X195, by omega, by (try simp only [List.set_set]); rw [hk]; exact updF_set (by unfold addAt; rw [(getD_ge (by omega) : la.getD i 0 = 0), (getD_ge (by omega) : lb.getD i 0 = 0)]; exact congrArg (fun q => q % p) (by omega)), by simp [hk2], ho197, trivial⟩, by first | omega | (dsimp only; omega), ⟨rfl, rfl, rfl, rfl, rfl, rfl, rfl, rfl, trivial⟩⟩
  · -- else
    refine AW.exit ?_
    refine ex_and (ex_and (ex_blk ?_))
    refine nrm_and ?_
    refine AW.rs ?_
    refine AL.val rfl (.inl rfl) (HV.mv rfl) ?_
    refine AL.val rfl (.inl rfl) (HV.as rfl) ?_
    refine AL.nx ?_
    refine AW.ret ?_
    refine post_one rfl rfl ?_ (.inr rfl)
    exact ⟨X11, by have e : k = addC p 1 la lb := (by rw [hk, updF_end (by rw [hNl]; omega), hNl, hN]; rfl); rw [← e]; exact hoL.okk (fun b hb _ => Nat.le_trans o3 hb)⟩

set_option maxRecDepth 100000 in
theorem cutS_ok {v : Value} {l : List Int} {ok : Nat → Prop} (hr : RdK kI W H ok v l) (hl : l.length ≤ 1048576) : ACalls Tryz.prog W 20 #[v] H (fun r H' => Ext H H' ∧ OwnK kI 2 W H' (fun b => H.bd ≤ b) r (stripM l)) := by
  refine ACalls.of (args := [v]) Tryz.func20 rfl rfl ?_
  have X0 := Ext.refl H
  have hm1 := hr.max
  refine AW.rs ?_
  refine AL.val rfl (.inl rfl) (HV.as rfl) ?_
  refine AL.nx ?_
  refine AW.rs ?_
  refine AL.val rfl (.inl rfl) (HV.mv rfl) ?_
  refine AL.val rfl (.inl rfl) (HV.len Tryz.underlying25 rfl hr.isSl) ?_
  refine AL.val rfl (.inl rfl) (HV.as rfl) ?_
  refine AL.nx ?_
  refine AW.seq ?_
  refine AW.block ?_
  refine AW.loop (σ := Nat × Int) (fun ⟨i, x⟩ => [(0, v), (2, (.slice none 0 0)), (3, .int .i64 x)]) (fun ⟨i, x⟩ H' => Ext H H' ∧ i ≤ l.length ∧ x = (i : Int) ∧ cutTo l i = stripM l ∧ True) (fun ⟨i, x⟩ => i) (l.length, (l.length : Int)) ⟨X0, Nat.le_refl _, rfl, rfl, trivial⟩ ⟨rfl, rfl, rfl, trivial⟩ ?_
  rintro ⟨i, x⟩ H2 ⟨X3, hi, hx, hcut, _⟩
  refine AW.seq ?_
  refine AW.rs ?_
  refine AL.val rfl (.inl rfl) (HV.mv rfl) ?_
  refine AL.val rfl (.inl rfl) (HV.gti rfl rfl) ?_
  refine AL.val rfl (.inl rfl) (HV.mv rfl) ?_
  by_cases c4 : x > 0
  · -- true
    have c4_ : decide (x > 0) = true := decide_eq_true c4
    rw [c4_]
    refine AL.val rfl (.inr ⟨_, _, _, rfl, rfl, rfl⟩) (HV.mv rfl) ?_
    refine AL.val rfl (.inr ⟨_, _, _, rfl, rfl, rfl⟩) (HV.mv rfl) ?_
    refine AL.val rfl (.inr ⟨_, _, _, rfl, rfl, rfl⟩) (HV.sub rfl rfl (by omega)) ?_
    obtain ⟨p5, z6, cs7, hz8, hK9, hC10, hP11⟩ := RdK.ix (q := x - 1) hr sl25 (by omega) (by omega)
    obtain rfl : cs7 = [.int .i64 z6] := hK9
    refine AL.val rfl (.inr ⟨_, _, _, rfl, rfl, rfl⟩) (hP11 rfl rfl) ?_
    refine AL.val rfl (.inr ⟨_, _, _, rfl, rfl, rfl⟩) (HV.ld rfl va2 (cells_first (hC10.ext X3) rfl)) ?_
    refine AL.val rfl (.inr ⟨_, _, _, rfl, rfl, rfl⟩) (HV.eqi rfl rfl) ?_
    refine AL.val rfl (.inl rfl) (HV.pickT rfl rfl) ?_
    refine AL.nx ?_
    refine AW.ifd rfl (fun c12 => ?_) (fun c12 => ?_)
    · -- then
      refine AW.skip ?_
      refine nrm_and ?_
      refine AW.block ?_
      refine AW.reg ?_
      refine AL.val rfl (.inl rfl) (HV.mv rfl) ?_
      refine AL.val rfl (.inl rfl) (HV.sub rfl rfl (by omega)) ?_
      refine AL.val rfl (.inl rfl) (HV.as rfl) ?_
      refine AL.nil ?_
      refine nrm_blk (nrm_and ?_)
      exact ⟨(i - 1, x - 1), ⟨X3, by omega, by omega, by have h0 : l.getD (i - 1) 0 = 0 := (gd hz8 (by omega)).trans (by omega); have q := cut_succ h0; rw [show i - 1 + 1 = i by omega] at q; exact q.symm.trans hcut, trivial⟩, by first | omega | (dsimp only; omega), ⟨rfl, rfl, rfl, trivial⟩⟩
    · -- else
      refine AW.exit ?_
      refine ex_and (ex_and (ex_blk ?_))
      refine nrm_and ?_
      refine AW.rs ?_
      refine AL.val rfl (.inl rfl) (HV.mv rfl) ?_
      refine AL.val rfl (.inl rfl) (HV.mv rfl) ?_
      have X16 := Ext.refl H2
      obtain ⟨v13, hr14, hP15⟩ := RdK.cutH (q := x) (hr.ext X3) sl25 (by omega) (by omega)
      refine AL.val rfl (.inl rfl) (hP15 rfl rfl) ?_
      have o17 := X3.bd
      have o18 := X16.bd
      refine AL.w rfl (.inl rfl) (WV.call fn38 rfl (l00Own_ok hr14 (by simp; omega))) ?_
      rintro v19 H20 ⟨hx21, ho22⟩
      have X23 := Ext.trans X3 hx21
      have X24 := Ext.trans X16 hx21
      refine AL.val rfl (.inl rfl) (HV.as rfl) ?_
      refine AL.nx ?_
      refine AW.ret ?_
      refine post_one rfl rfl ?_ (.inr rfl)
      exact ⟨X23, by have e : stripM l = l.take i := (hcut.symm.trans (cut_stop (.inr (by rw [(gd hz8 (by omega) : l.getD (i - 1) 0 = z6)]; assumption)))); have q := ho22.okk (fun b hb _ => Nat.le_trans o17 hb); rw [hx, Int.toNat_natCast] at q; rw [e]; exact q⟩
  · -- false
    have c4_ : decide (x > 0) = false := decide_eq_false c4
    rw [c4_]
    refine AL.off rfl rfl (by decide) rfl ?_
    refine AL.off rfl rfl (by decide) rfl ?_
    refine AL.off rfl rfl (by decide) rfl ?_
    refine AL.off rfl rfl (by decide) rfl ?_
    refine AL.off rfl rfl (by decide) rfl ?_
    refine AL.off rfl rfl (by decide) rfl ?_
    refine AL.val rfl (.inl rfl) (HV.pickF rfl rfl) ?_
    refine AL.nx ?_
    refine AW.cond rfl (fun h => by cases h) (fun _ => ?_)
    refine AW.exit ?_
    refine ex_and (ex_and (ex_blk ?_))
    refine nrm_and ?_
    refine AW.rs ?_
    refine AL.val rfl (.inl rfl) (HV.mv rfl) ?_
    refine AL.val rfl (.inl rfl) (HV.mv rfl) ?_
    have X30 := Ext.refl H2
    obtain ⟨v27, hr28, hP29⟩ := RdK.cutH (q := x) (hr.ext X3) sl25 (by omega) (by omega)
    refine AL.val rfl (.inl rfl) (hP29 rfl rfl) ?_
    have o31 := X3.bd
    have o32 := X30.bd
    refine AL.w rfl (.inl rfl) (WV.call fn38 rfl (l00Own_ok hr28 (by simp; omega))) ?_
    rintro v33 H34 ⟨hx35, ho36⟩
    have X37 := Ext.trans X3 hx35
    have X38 := Ext.trans X30 hx35
    refine AL.val rfl (.inl rfl) (HV.as rfl) ?_
    refine AL.nx ?_
    refine AW.ret ?_
    refine post_one rfl rfl ?_ (.inr rfl)
    exact ⟨X37, by have e : stripM l = l.take i := (hcut.symm.trans (cut_stop (.inl (by omega)))); have q := ho36.okk (fun b hb _ => Nat.le_trans o31 hb); rw [hx, Int.toNat_natCast] at q; rw [e]; exact q⟩

set_option maxRecDepth 100000 in
theorem scaled_ok {v : Value} {l : List Int} {ok : Nat → Prop} {p t : Int} (ho : OwnK kI 2 W H ok v l) (hp : 2 ≤ p ∧ p ≤ 31) (hle : elems p l) (ht : 0 ≤ t ∧ t ≤ p - 1) : ACalls Tryz.prog W 67 #[.int .i64 p, v, .int .i64 t] H (fun r H' => But (fun b => some b = v.ownBlock) H H' ∧ OwnK kI 2 W H' ok v (scl p t l)) := by
  refine ACalls.of (args := [.int .i64 p, v, .int .i64 t]) Tryz.func67 rfl rfl ?_
  have X0 := Ext.refl H
  have B0 := But.refl (fun b => some b = v.ownBlock) H
  have hmL := ho.rd.max
  refine AW.rs ?_
  refine AL.val rfl (.inl rfl) (HV.mv rfl) ?_
  refine AL.val rfl (.inl rfl) (HV.len Tryz.underlying25 rfl ho.rd.isSl) ?_
  refine AL.val rfl (.inl rfl) (HV.mv rfl) ?_
  refine AL.nx ?_
  refine AW.block ?_
  refine AW.loop (σ := Nat × List Int) (fun ⟨i, k⟩ => [(0, .int .i64 p), (1, v), (2, .int .i64 t), (8, .int .i64 (l.length : Int)), (1, v), (9, .int .i64 (i : Int))]) (fun ⟨i, k⟩ H' => i ≤ l.length ∧ k = updF 0 (fun j => l.getD j 0 * t % p) l i ∧ k.length = l.length ∧ OwnK kI 2 W H' ok v k ∧ But (fun b => some b = v.ownBlock) H H' ∧ True) (fun ⟨i, k⟩ => l.length - i) (0, l) ⟨Nat.zero_le _, (updF_zero _ _ _).symm, rfl, ho, B0, trivial⟩ ⟨rfl, rfl, rfl, rfl, rfl, rfl, trivial⟩ ?_
  rintro ⟨i, k⟩ H1 ⟨hi, hk, hk2, hoL, hB, _⟩
  refine AW.rs ?_
  refine AL.val rfl (.inl rfl) (HV.lti rfl rfl) ?_
  refine AL.nx ?_
  refine AW.seq ?_
  refine AW.ifd rfl (fun c2 => ?_) (fun c2 => ?_)
  · -- then
    refine AW.skip ?_
    refine nrm_and ?_
    refine AW.seq ?_
    refine AW.block ?_
    refine AW.rs ?_
    refine AL.val rfl (.inl rfl) (HV.mv rfl) ?_
    refine AL.val rfl (.inl rfl) (HV.as rfl) ?_
    refine AL.nx ?_
    refine AW.reg ?_
    refine AL.val rfl (.inl rfl) (HV.mv rfl) ?_
    refine AL.val rfl (.inl rfl) (HV.mv rfl) ?_
    refine AL.val rfl (.inl rfl) (HV.mv rfl) ?_
    refine AL.val rfl (.inl rfl) (HV.mv rfl) ?_
    obtain ⟨g3, z4, cs5, hz6, hK7, hC8, hg9, hP10⟩ := OwnK.ix (q := (i : Int)) hoL sl25 (by omega) (by omega)
    have X11 := Ext.refl H1
    obtain rfl : cs5 = [.int .i64 z4] := hK7
    refine AL.val rfl (.inl rfl) (hP10 rfl rfl) ?_
    refine AL.val rfl (.inl rfl) (HV.ld rfl va2 (cells_first hC8 rfl)) ?_
    refine AL.val rfl (.inl rfl) (HV.mv rfl) ?_
    have e16 : z4 = l.getD i 0 := updF_at (by rw [← hk]; exact hz6)
    have b16 := getD_in hle (show 0 < p by omega) i
    have q16 := mul31 (a := z4) (b := t) (by omega) (by omega) (by omega) (by omega)
    refine AL.val rfl (.inl rfl) (HV.mul rfl rfl (by omega)) ?_
    refine AL.val rfl (.inl rfl) (HV.mv rfl) ?_
    refine AL.val rfl (.inl rfl) (HV.rem rfl rfl (by omega)) ?_
    obtain ⟨g12, z13, cs14, hz15, hK16, hC17, hg18, hP19⟩ := OwnK.ix (q := (i : Int)) hoL sl25 (by omega) (by omega)
    obtain rfl : cs14 = [.int .i64 z13] := hK16
    refine AL.val rfl (.inl rfl) (hP19 rfl rfl) ?_
    refine AL.w0 (.inl rfl) (WV.stK (okx := fun _ => False) (x' := (z4 * t) % p) hoL hg18 rfl rfl va2 (by omega) rfl (fun _ h => h.elim)) ?_
    rintro _ H20 ⟨hx21, ho22⟩
    have B24 := But.trans hB hx21
    have ho25 := ho22.okk (ok' := ok) (fun b hb _ => hb.elim id False.elim)
    refine AL.nil ?_
    refine nrm_blk (nrm_and ?_)
    refine AW.reg ?_
    refine AL.val rfl (.inl rfl) (HV.add rfl rfl (by omega)) ?_
    refine AL.val rfl (.inl rfl) (HV.mv rfl) ?_
    refine AL.nil ?_
    refine nrm_and ?_
    exact ⟨(i + 1, (k.set ((i : Int) : Int).toNat ((z4 * t) % p))), ⟨by omega, by rw [hk]; exact updF_set (by rw [e16]), by simp [hk2], ho25, B24, trivial⟩, by first | omega | (dsimp only; omega), ⟨rfl, rfl, rfl, rfl, rfl, rfl, trivial⟩⟩
  · -- else
    refine AW.exit ?_
    refine ex_and (ex_and (ex_blk ?_))
    refine post_none rfl ?_ (.inl rfl)
    exact ⟨hB, by have e : k = scl p t l := (by rw [hk, updF_end (by omega)]; rfl); rw [← e]; exact hoL⟩

set_option maxRecDepth 100000 in
theorem takeOff_ok {v vb : Value} {lo l : List Int} {ok ok2 : Nat → Prop} {p x : Int} {n : Nat} (ho : OwnK kI 2 W H ok v lo) (hr : RdK kI W H ok2 vb l) (hne : ∀ b, ok2 b → some b = v.ownBlock → False) (hp : 2 ≤ p ∧ p ≤ 31) (he : lo = 0 :: l) (hle : elems p l) (hx : 0 ≤ x ∧ x ≤ p - 1) (hn : l.length ≤ n) (hl : l.length ≤ 1000) : ACalls Tryz.prog W 66 #[.int .i64 p, (cutv v n), vb, .int .i64 x] H (fun r H' => But (fun b => some b = v.ownBlock) H H' ∧ OwnK kI 2 W H' ok v (mulLin p l x)) := by
  refine ACalls.of (args := [.int .i64 p, (cutv v n), vb, .int .i64 x]) Tryz.func66 rfl rfl ?_
  have X0 := Ext.refl H
  have B0 := But.refl (fun b => some b = v.ownBlock) H
  have hmL := ho.rd.max
  have hll : lo.length = l.length + 1 := by rw [he]; rfl
  have hlo : elems p lo := by rw [he]; exact zcons_in (by omega) hle
  refine AW.rs ?_
  refine AL.val rfl (.inl rfl) (HV.mv rfl) ?_
  refine AL.val rfl (.inl rfl) (HV.len Tryz.underlying25 rfl hr.isSl) ?_
  refine AL.val rfl (.inl rfl) (HV.mv rfl) ?_
  refine AL.nx ?_
  refine AW.block ?_
  refine AW.loop (σ := Nat × List Int) (fun ⟨i, k⟩ => [(0, .int .i64 p), (1, (cutv v n)), (3, .int .i64 x), (10, vb), (11, .int .i64 (l.length : Int)), (1, (cutv v n)), (12, .int .i64 (i : Int))]) (fun ⟨i, k⟩ H' => RdK kI W H' (ok2) vb l ∧ i ≤ l.length ∧ k = updF 0 (offF p x lo l) lo i ∧ k.length = lo.length ∧ OwnK kI 2 W H' ok v k ∧ But (fun b => some b = v.ownBlock) H H' ∧ True) (fun ⟨i, k⟩ => l.length - i) (0, lo) ⟨hr, Nat.zero_le _, (updF_zero _ _ _).symm, rfl, ho, B0, trivial⟩ ⟨rfl, rfl, rfl, rfl, rfl, rfl, rfl, trivial⟩ ?_
  rintro ⟨i, k⟩ H1 ⟨ho2, hi, hk, hk2, hoL, hB, _⟩
  refine AW.rs ?_
  refine AL.val rfl (.inl rfl) (HV.lti rfl rfl) ?_
  refine AL.nx ?_
  refine AW.seq ?_
  refine AW.ifd rfl (fun c3 => ?_) (fun c3 => ?_)
  · -- then
    refine AW.skip ?_
    refine nrm_and ?_
    refine AW.seq ?_
    refine AW.block ?_
    refine AW.rs ?_
    refine AL.val rfl (.inl rfl) (HV.mv rfl) ?_
    have X11 := Ext.refl H1
    obtain ⟨p4, z5, cs6, hz7, hK8, hC9, hP10⟩ := RdK.ix (q := (i : Int)) ho2 sl25 (by omega) (by omega)
    obtain rfl : cs6 = [.int .i64 z5] := hK8
    refine AL.val rfl (.inl rfl) (hP10 rfl rfl) ?_
    refine AL.val rfl (.inl rfl) (HV.ld rfl va2 (cells_first hC9 rfl)) ?_
    refine AL.val rfl (.inl rfl) (HV.as rfl) ?_
    refine AL.val rfl (.inl rfl) (HV.as rfl) ?_
    refine AL.nx ?_
    refine AW.reg ?_
    refine AL.val rfl (.inl rfl) (HV.mv rfl) ?_
    refine AL.val rfl (.inl rfl) (HV.mv rfl) ?_
    refine AL.val rfl (.inl rfl) (HV.mv rfl) ?_
    refine AL.val rfl (.inl rfl) (HV.mv rfl) ?_
    obtain ⟨g12, z13, cs14, hz15, hK16, hC17, hg18, hP19⟩ := OwnK.ixA (n := n) (q := (i : Int)) hoL sl25 (by omega) (by omega) (by omega)
    obtain rfl : cs14 = [.int .i64 z13] := hK16
    refine AL.val rfl (.inl rfl) (hP19 rfl rfl) ?_
    refine AL.val rfl (.inl rfl) (HV.ld rfl va2 (cells_first hC17 rfl)) ?_
    refine AL.val rfl (.inl rfl) (HV.mv rfl) ?_
    refine AL.val rfl (.inl rfl) (HV.mv rfl) ?_
    refine AL.val rfl (.inl rfl) (HV.sub rfl rfl (by omega)) ?_
    refine AL.val rfl (.inl rfl) (HV.mv rfl) ?_
    have e21 : z13 = lo.getD i 0 := updF_at (by rw [← hk]; exact hz15)
    have b21 := getD_in hlo (show 0 < p by omega) i
    have b15 := elem_at hle hz7
    have q15 := mul31 (a := p - x) (b := z5) (by omega) (by omega) (by omega) (by omega)
    refine AL.val rfl (.inl rfl) (HV.mul rfl rfl (by omega)) ?_
    refine AL.val rfl (.inl rfl) (HV.add rfl rfl (by omega)) ?_
    refine AL.val rfl (.inl rfl) (HV.mv rfl) ?_
    refine AL.val rfl (.inl rfl) (HV.rem rfl rfl (by omega)) ?_
    obtain ⟨g20, z21, cs22, hz23, hK24, hC25, hg26, hP27⟩ := OwnK.ixA (n := n) (q := (i : Int)) hoL sl25 (by omega) (by omega) (by omega)
    obtain rfl : cs22 = [.int .i64 z21] := hK24
    refine AL.val rfl (.inl rfl) (hP27 rfl rfl) ?_
    refine AL.w0 (.inl rfl) (WV.stK (okx := fun _ => False) (x' := (z13 + ((p - x) * z5)) % p) hoL hg26 rfl rfl va2 (by omega) rfl (fun _ h => h.elim)) ?_
    rintro _ H28 ⟨hx29, ho30⟩
    have B32 := But.trans hB hx29
    have ho33 := ho2.but hx29 (fun b h1 _ e => hne b h1 e) (fun b hb => (hoL.blk b hb).2.2)
    have ho34 := ho30.okk (ok' := ok) (fun b hb _ => hb.elim id False.elim)
    refine AL.nil ?_
    refine nrm_blk (nrm_and ?_)
    refine AW.reg ?_
    refine AL.val rfl (.inl rfl) (HV.add rfl rfl (by omega)) ?_
    refine AL.val rfl (.inl rfl) (HV.mv rfl) ?_
    refine AL.nil ?_
    refine nrm_and ?_
    exact ⟨(i + 1, (k.set ((i : Int) : Int).toNat ((z13 + ((p - x) * z5)) % p))), ⟨ho33, by omega, by rw [hk]; exact updF_set (by unfold offF; rw [e21, (gd hz7 rfl : l.getD i 0 = z5)]), by simp [hk2], ho34, B32, trivial⟩, by first | omega | (dsimp only; omega), ⟨rfl, rfl, rfl, rfl, rfl, rfl, rfl, trivial⟩⟩
  · -- else
    refine AW.exit ?_
    refine ex_and (ex_and (ex_blk ?_))
    refine post_none rfl ?_ (.inl rfl)
    exact ⟨hB, by have e : k = mulLin p l x := (by rw [hk, show i = l.length by omega, he]; exact off_mul (by omega) hle); rw [← e]; exact hoL⟩

end Go.Proofs.YtbjcgcililpfdaaGreat.VC

