/- Walks. -/
import Derived.Laws.StructEq
import Derived.Test.YtonpikcbmgmchaaVF5
set_option linter.unusedVariables false
set_option linter.unusedSimpArgs false
namespace Go.Proofs.Ytonpikcbmgmchaa.VC
open Go Go.RowKit
variable {W : World} {H : Hp}

/-! ### Curves: sums, multiples, the curve through points -/
open VI (addC addAt addC_length stripM cutTo mulLin mulAt byAt thrFrom throughM skipFold skipFold_cons)
/-- The first i are changed. -/
def updF {α : Type} (d : α) (f : Nat → α) (lo : List α) (i : Nat) : List α := (List.range lo.length).map (fun j => if j < i then f j else lo.getD j d)
theorem updF_len {α : Type} (d : α) (f : Nat → α) (lo : List α) (i : Nat) : (updF d f lo i).length = lo.length := by simp [updF]
theorem updF_at {α : Type} {d z : α} {f : Nat → α} {lo : List α} {i : Nat} (hz : (updF d f lo i)[(i : Int).toNat]? = some z) : z = lo.getD i d := by
  rw [Int.toNat_natCast] at hz
  have hi := (List.getElem?_eq_some_iff.1 hz).1
  rw [updF_len] at hi
  unfold updF at hz
  rw [List.getElem?_map, List.getElem?_range hi] at hz
  simp at hz
  rw [← hz]; simp
theorem updF_set {α : Type} {d y : α} {f : Nat → α} {lo : List α} {i : Nat} (hy : y = f i) : (updF d f lo i).set (i : Int).toNat y = updF d f lo (i + 1) := by
  rw [Int.toNat_natCast]
  apply List.ext_getElem?
  intro q
  by_cases e : q = i
  · subst e
    rcases Nat.lt_or_ge q lo.length with h | h
    · rw [List.getElem?_set_self (by rw [updF_len]; exact h)]
      simp [updF, h, hy]
    · rw [List.getElem?_eq_none (by rw [List.length_set, updF_len]; exact h), List.getElem?_eq_none (by rw [updF_len]; exact h)]
  · rw [List.getElem?_set_ne (fun h => e h.symm)]
    unfold updF
    rw [List.getElem?_map, List.getElem?_map]
    rcases Nat.lt_or_ge q lo.length with h | h
    · rw [List.getElem?_range h]
      simp only [Option.map_some]
      by_cases h2 : q < i
      · rw [if_pos h2, if_pos (by omega)]
      · rw [if_neg h2, if_neg (by omega)]
    · rw [List.getElem?_eq_none (by simpa using h)]; rfl
theorem updF_zero {α : Type} (d : α) (f : Nat → α) (lo : List α) : updF d f lo 0 = lo := by
  apply List.ext_getElem?
  intro q
  unfold updF
  rw [List.getElem?_map]
  rcases Nat.lt_or_ge q lo.length with h | h
  · rw [List.getElem?_range h]; simp [h]
  · rw [List.getElem?_eq_none (by simpa using h), List.getElem?_eq_none h]; rfl
theorem updF_end {α : Type} {d : α} {f : Nat → α} {lo : List α} {i : Nat} (h : lo.length ≤ i) : updF d f lo i = (List.range lo.length).map f := by
  unfold updF
  refine List.map_congr_left fun j hj => ?_
  rw [if_pos (by have := List.mem_range.1 hj; omega)]
theorem rep_at {n i : Nat} : (List.replicate n (0 : Int)).getD i 0 = 0 := by
  rw [List.getD_eq_getElem?_getD, List.getElem?_replicate]
  split <;> rfl
theorem setq_get {α : Type} {k : List α} {q : Nat} {x z : α} (h : (k.set q x)[q]? = some z) : z = x := by
  have hi := (List.getElem?_eq_some_iff.1 h).1
  rw [List.length_set] at hi
  rw [List.getElem?_set_self hi] at h
  exact (Option.some.inj h).symm
theorem addC_in {p : Int} (hp : 0 < p) (t : Int) (a b : List Int) : elems p (addC p t a b) := fun j hj => by
  rw [addC_length] at hj
  have h := emod_bd hp (a.getD j 0 + b.getD j 0 * t)
  have e : (addC p t a b).getD j 0 = addAt p t a b j := by simp [addC, hj]
  rw [e]; unfold addAt; omega
theorem getD_in {p : Int} {a : List Int} (h : elems p a) (hp : 0 < p) (j : Nat) : 0 ≤ a.getD j 0 ∧ a.getD j 0 ≤ p - 1 := by
  rcases Nat.lt_or_ge j a.length with h1 | h1
  · exact h j h1
  · rw [List.getD_eq_getElem?_getD, List.getElem?_eq_none h1]; simp; omega
theorem getD_ge {α : Type} {a : List α} {d : α} {j : Nat} (h : ¬ j < a.length) : a.getD j d = d := by
  rw [List.getD_eq_getElem?_getD, List.getElem?_eq_none (by omega)]; rfl
theorem zcons_in {p : Int} (hp : 0 < p) {l : List Int} (h : elems p l) : elems p (0 :: l) := fun j hj => by
  cases j with
  | zero => simp; omega
  | succ j => simpa using h j (by simpa using hj)
def scl (p t : Int) (c : List Int) : List Int := (List.range c.length).map (fun j => c.getD j 0 * t % p)
theorem scl_len (p t : Int) (c : List Int) : (scl p t c).length = c.length := by simp [scl]
theorem scl_in {p : Int} (hp : 0 < p) (t : Int) (c : List Int) : elems p (scl p t c) := fun j hj => by
  rw [scl_len] at hj
  have h := emod_bd hp (c.getD j 0 * t)
  have e : (scl p t c).getD j 0 = c.getD j 0 * t % p := by simp [scl, hj]
  rw [e]; omega
theorem scl_addC (p t : Int) (c : List Int) : scl p t c = addC p t [] c := by
  unfold scl addC
  rw [show max ([] : List Int).length c.length = c.length by simp]
  refine List.map_congr_left fun j hj => ?_
  unfold addAt
  simp
/-- Taken off: lo = 0 :: l, times (x - y). -/
def offF (p x : Int) (lo l : List Int) (j : Nat) : Int := (lo.getD j 0 + (p - x) * l.getD j 0) % p
theorem off_mul {p x : Int} (hp : 2 ≤ p) {c : List Int} (hc : elems p c) : updF 0 (offF p x (0 :: c) c) (0 :: c) c.length = mulLin p c x := by
  unfold updF mulLin
  rw [show (0 :: c).length = c.length + 1 from rfl]
  refine List.map_congr_left fun j hj => ?_
  have hj' : j < c.length + 1 := List.mem_range.1 hj
  have e0 : (0 :: c).getD j 0 = if j = 0 then 0 else c.getD (j - 1) 0 := by
    cases j with
    | zero => rfl
    | succ j => simp
  unfold mulAt offF
  rw [e0]
  split
  · apply Cg.emod_eq
    refine (Cg.refl p _).add ?_
    have h1 : Cg p (p - x) (-x) := (Cg.of_eq (by omega)).trans (Cg.plus p (-x))
    exact ((h1.trans (Cg.mod p (-x)).symm).mul (Cg.refl p _)).trans (Cg.of_eq (Int.mul_comm _ _))
  · have e1 : c.getD j 0 = 0 := getD_ge (by assumption)
    rw [e1]
    have h2 := getD_in hc (show 0 < p by omega) (j - 1)
    rw [Int.zero_mul, Int.add_zero]
    split
    · simp
    · rw [Int.emod_eq_of_lt h2.1 (by omega)]
/-- What stripping leaves. -/
theorem cut_succ {l : List Int} {i : Nat} (h : l.getD i 0 = 0) : cutTo l (i + 1) = cutTo l i := by
  show (if l.getD i 0 = 0 then cutTo l i else l.take (i + 1)) = _
  rw [if_pos h]
theorem cut_stop {l : List Int} {i : Nat} (h : i = 0 ∨ l.getD (i - 1) 0 ≠ 0) : cutTo l i = l.take i := by
  cases i with
  | zero => simp [cutTo]
  | succ i =>
    show (if l.getD i 0 = 0 then cutTo l i else l.take (i + 1)) = _
    rw [if_neg (by rcases h with h | h; (omega); (simpa using h))]
theorem strip_take {l : List Int} : ∀ {i : Nat}, cutTo l i = stripM l → ∃ i', i' ≤ i ∧ stripM l = l.take i'
  | 0, h => ⟨0, Nat.le_refl _, h.symm.trans rfl⟩
  | i + 1, h => by
    by_cases e : l.getD i 0 = 0
    · obtain ⟨j, hj, h2⟩ := strip_take ((cut_succ e).symm.trans h)
      exact ⟨j, by omega, h2⟩
    · refine ⟨i + 1, Nat.le_refl _, h.symm.trans ?_⟩
      exact cut_stop (.inr (by simpa using e))
theorem take_getD {l : List Int} {i q : Nat} {z : Int} (h : (l.take i)[q]? = some z) : l.getD q 0 = z := by
  rw [List.getElem?_take] at h
  split at h
  · rw [List.getD_eq_getElem?_getD, h]; rfl
  · cases h
/-! ### The curve through shares -/
def pxD (l : List (Int × Int)) (k : Nat) : Int := (l.getD k (0, 0)).1
def prt (p : Int) (l : List (Int × Int)) (i j : Nat) : List Int := (List.range j).foldl (fun c k => if k = i then c else mulLin p c (pxD l k)) [1]
theorem prt_succ (p : Int) (l : List (Int × Int)) (i j : Nat) : prt p l i (j + 1) = if j = i then prt p l i j else mulLin p (prt p l i j) (pxD l j) := by
  unfold prt; rw [List.range_succ, List.foldl_append]; rfl
def den (p : Int) (l : List (Int × Int)) (i j : Nat) : Int := (List.range j).foldl (fun d k => if k = i then d else (d * (pxD l i - pxD l k + p)) % p) 1
theorem den_succ (p : Int) (l : List (Int × Int)) (i j : Nat) : den p l i (j + 1) = if j = i then den p l i j else (den p l i j * (pxD l i - pxD l j + p)) % p := by
  unfold den; rw [List.range_succ, List.foldl_append]; rfl
def thr (p : Int) (l : List (Int × Int)) (n : Nat) : List Int := (List.range n).foldl (fun o i => addC p 1 o (scl p ((invM p (den p l i l.length) * (l.getD i (0, 0)).2) % p) (prt p l i l.length))) []
theorem thr_succ (p : Int) (l : List (Int × Int)) (n : Nat) : thr p l (n + 1) = addC p 1 (thr p l n) (scl p ((invM p (den p l n l.length) * (l.getD n (0, 0)).2) % p) (prt p l n l.length)) := by
  unfold thr; rw [List.range_succ, List.foldl_append]; rfl
theorem mulLin_in {p : Int} (hp : 0 < p) (c : List Int) (x : Int) : elems p (mulLin p c x) := fun j hj => by
  have e : (mulLin p c x).getD j 0 = mulAt p x c j := by
    unfold mulLin at hj ⊢
    simp at hj
    simp [hj]
  rw [e]
  have h := emod_bd hp ((if j = 0 then 0 else c.getD (j - 1) 0) + c.getD j 0 * ((-x) % p))
  unfold mulAt; omega
theorem prt_in {p : Int} (hp : 2 ≤ p) (l : List (Int × Int)) (i : Nat) : ∀ j, elems p (prt p l i j)
  | 0 => fun q hq => by
    have : q = 0 := by simp [prt] at hq; omega
    subst this; simp [prt]; omega
  | j + 1 => by
    rw [prt_succ]
    split
    · exact prt_in hp l i j
    · exact mulLin_in (by omega) _ _
theorem prt_len (p : Int) (l : List (Int × Int)) (i : Nat) : ∀ j, 1 ≤ (prt p l i j).length ∧ (prt p l i j).length ≤ j + 1
  | 0 => by simp [prt]
  | j + 1 => by
    have := prt_len p l i j
    rw [prt_succ]
    split
    · omega
    · rw [VI.mulLin_length]; omega
theorem thr_in {p : Int} (hp : 0 < p) (l : List (Int × Int)) : ∀ n, elems p (thr p l n)
  | 0 => fun q hq => absurd hq (Nat.not_lt_zero _)
  | n + 1 => by rw [thr_succ]; exact addC_in hp 1 _ _
theorem thr_len (p : Int) (l : List (Int × Int)) : ∀ n, (thr p l n).length ≤ l.length + 1
  | 0 => by simp [thr]
  | n + 1 => by
    have h1 := thr_len p l n
    have h2 := prt_len p l n l.length
    rw [thr_succ, addC_length, scl_len]; omega
theorem px_at {l : List (Int × Int)} {i : Nat} {z : Int × Int} (hz : l[(i : Int).toNat]? = some z) : pxD l i = z.1 := by
  unfold pxD
  rw [Int.toNat_natCast] at hz
  rw [List.getD_eq_getElem?_getD, hz]; rfl
theorem px_map (l : List (Int × Int)) (k : Nat) : pxD l k = (l.map Prod.fst).getD k 0 := by
  unfold pxD
  simp only [List.getD_eq_getElem?_getD, List.getElem?_map]
  cases l[k]? <;> rfl
theorem py_map (l : List (Int × Int)) (k : Nat) : (l.getD k (0, 0)).2 = (l.map Prod.snd).getD k 0 := by
  simp only [List.getD_eq_getElem?_getD, List.getElem?_map]
  cases l[k]? <;> rfl
theorem vS_px {p : Int} {l : List (Int × Int)} (h : vS p l) {k : Nat} (hk : k < l.length) : 1 ≤ pxD l k ∧ pxD l k ≤ p - 1 := by
  have q := h.2.2.2 k (by simpa using hk)
  rw [px_map]
  exact ⟨q.1, q.2.1⟩
theorem vS_py {p : Int} {l : List (Int × Int)} (h : vS p l) {k : Nat} (hk : k < l.length) : 0 ≤ (l.getD k (0, 0)).2 ∧ (l.getD k (0, 0)).2 ≤ p - 1 := by
  rw [py_map]
  exact h.2.1 k (by simpa using hk)
theorem vS_ne {p : Int} {l : List (Int × Int)} (h : vS p l) {i j : Nat} (hi : i < l.length) (hj : j < l.length) (hne : j ≠ i) : pxD l j ≠ pxD l i := by
  rw [px_map, px_map]
  exact ris_ne h.2.2.2 (by simpa using hi) (by simpa using hj) hne
theorem vS_len {p : Int} {l : List (Int × Int)} (h : vS p l) : l.length ≤ 10 := by
  have := h.2.2.1
  rw [List.length_map] at this; omega
theorem den_in {p : Int} {l : List (Int × Int)} (h : vS p l) {i : Nat} (hi : i < l.length) : ∀ j, j ≤ l.length → 1 ≤ den p l i j ∧ den p l i j < p
  | 0, _ => by have := h.1.1; simp [den]; omega
  | j + 1, hj => by
    have h1 := den_in h hi j (by omega)
    rw [den_succ]
    split
    · exact h1
    · exact (wS_step (x := 0) (w := 0) (a := 0) (isPr_of h.1) (vS_px h hi) (vS_px h (by omega)) (vS_ne h hi (by omega) (by assumption)) h1 (Cg.of_eq (by simp))).2
theorem prt_part (p : Int) (l : List (Int × Int)) (i : Nat) : prt p l i l.length = VI.partAt p (l.map Prod.fst) i := by
  unfold VI.partAt
  have e := VI.range_fold (fun (s : List Int × Nat) (y : Int) => (if s.2 = i then s.1 else mulLin p s.1 y, s.2 + 1)) 0 (l.map Prod.fst) ([1], 0)
  have key : ∀ n, (List.range n).foldl (fun (s : List Int × Nat) k => (if s.2 = i then s.1 else mulLin p s.1 ((l.map Prod.fst).getD k 0), s.2 + 1)) ([1], 0) = (prt p l i n, n) := by
    intro n
    induction n with
    | zero => rfl
    | succ n ih =>
      rw [List.range_succ, List.foldl_append, ih, prt_succ, px_map]; rfl
  have key2 : ∀ (m : List Int) (c : List Int) (k : Nat), (m.foldl (fun (s : List Int × Nat) (y : Int) => (if s.2 = i then s.1 else mulLin p s.1 y, s.2 + 1)) (c, k)).1 = skipFold (mulLin p) i k m c := by
    intro m
    induction m with
    | nil => intro c k; rfl
    | cons y m ih => intro c k; rw [List.foldl_cons, ih, skipFold_cons]
  have e2 := congrArg Prod.fst (e.symm.trans rfl)
  rw [← key2 (l.map Prod.fst) [1] 0, ← e]
  simp only [List.length_map]
  rw [key]
theorem den_by {p : Int} {l : List (Int × Int)} (h : vS p l) {i : Nat} (hi : i < l.length) : (invM p (den p l i l.length) * (l.getD i (0, 0)).2) % p = byAt p (l.map Prod.fst) (l.map Prod.snd) i := by
  have hq := isPr_of h.1
  have hp := h.1.1
  have hv := vS_py h hi
  have key : ∀ j, j ≤ l.length → ∃ w, Cg p (w * den p l i j) (l.getD i (0, 0)).2 ∧ (0 ≤ w ∧ w < p) ∧ w = (List.range j).foldl (fun s k => if k = i then s else VI.byS p (pxD l i) s (pxD l k)) (l.getD i (0, 0)).2 := by
    intro j
    induction j with
    | zero => intro _; exact ⟨_, Cg.of_eq (by simp [den]), ⟨hv.1, by omega⟩, rfl⟩
    | succ j ih =>
      intro hj
      obtain ⟨w, h1, h2, h3⟩ := ih (by omega)
      rw [den_succ]
      by_cases e : j = i
      · refine ⟨w, by rw [if_pos e]; exact h1, h2, ?_⟩
        rw [List.range_succ, List.foldl_append, ← h3]
        simp [e]
      · refine ⟨VI.byS p (pxD l i) w (pxD l j), ?_, emod_bd (by omega) _, ?_⟩
        · rw [if_neg e]
          exact (VI.byS_step hq (by have := vS_px h hi; omega) (by have := vS_px h (show j < l.length by omega); omega) (vS_ne h hi (by omega) e) (den_in h hi j (by omega)) h1).1
        · rw [List.range_succ, List.foldl_append, ← h3]
          simp [e]
  obtain ⟨w, h1, h2, h3⟩ := key l.length (Nat.le_refl _)
  rw [VI.by_end hq (den_in h hi _ (Nat.le_refl _)) h2 h1, h3]
  unfold byAt
  rw [← VI.skip_range, ← py_map, List.length_map]
  refine congrArg (fun g => List.foldl g _ _) (funext fun s => funext fun k => ?_)
  rw [px_map, px_map, Nat.zero_add]
theorem thr_thrFrom {p : Int} {l : List (Int × Int)} (h : vS p l) : ∀ (d i : Nat) (o : List Int), i + d = l.length → o = thr p l i → thrFrom p (l.map Prod.fst) (l.map Prod.snd) d i o = thr p l l.length
  | 0, i, o, hi, ho => by rw [ho]; unfold thrFrom; rw [show i = l.length by omega]
  | d + 1, i, o, hi, ho => by
    unfold thrFrom
    refine thr_thrFrom h d (i + 1) _ (by omega) ?_
    rw [thr_succ, ho, den_by h (by omega), prt_part, scl_addC, VI.add_scaled (show 0 < p by have := h.1.1; omega)]
theorem thr_through {p : Int} {l : List (Int × Int)} (h : vS p l) : stripM (thr p l l.length) = throughM p (l.map Prod.fst) (l.map Prod.snd) := by
  unfold throughM
  rw [thr_thrFrom h _ 0 [] (by simp) rfl]
/-! ### A front of a row of the call's own -/
def cutv (v : Value) (n : Nat) : Value := match v with | .slice a _ c => .slice a n c | u => u
section
variable {P : Program} {α : Type} {K : Kd α} {ok : Nat → Prop} {v : Value} {l : List α} {e : Nat} {t : TypeId}
theorem OwnK.cutA {e' : TypeId} {z : Value} {bytes : Nat} {k : IntKind} {q : Int} (h : OwnK K e W H ok v l) (ht : SlT P t e' z K.sz bytes) (h0 : 0 ≤ q) (h1 : q ≤ l.length) :
    ∀ {H2 N E d x y ty pos af gd}, evl E x = some v → evl E y = some (.int k q) → HV P W N E H2 ⟨some d, .slice t x none (some y) none, ty, pos, af, gd⟩ (cutv v q.toNat) := by
  intro H2 N E d x y ty pos af gd hx hy
  obtain ⟨css, hs, hl, ho, hat⟩ := h
  rcases hat with ⟨rfl, h2⟩ | ⟨g, c, rfl, hg, hA, hc, hm⟩
  · have hh := HV.cutH (P := P) (W := W) (H := H2) (N := N) (d := d) (ty := ty) (pos := pos) (af := af) (gd := gd) ht hx hy h0 (by omega)
    have e1 : q.toNat = 0 := by omega
    simpa [sliced, cutv, e1] using hh
  · have hh := HV.cutH (P := P) (W := W) (H := H2) (N := N) (d := d) (ty := ty) (pos := pos) (af := af) (gd := gd) ht hx hy h0 (by omega)
    simp only [sliced, Nat.zero_mul, Nat.sub_zero] at hh
    have e2 : (if c = 0 then (some (⟨g, 0, none⟩ : Addr)) else Option.map (fun a => a.add 0) (some (⟨g, 0, none⟩ : Addr))) = some ⟨g, 0, none⟩ := by split <;> simp [Addr.add]
    rw [e2] at hh; exact hh
theorem OwnK.ixA {e' : TypeId} {z : Value} {bytes : Nat} {k : IntKind} {q : Int} {n : Nat} (h : OwnK K e W H ok v l) (ht : SlT P t e' z K.sz bytes) (h0 : 0 ≤ q) (h1 : q < l.length) (h2 : q < n) :
    ∃ g x cs, l[q.toNat]? = some x ∧ K.rd W H ok x cs ∧ Cells W H ⟨g, q.toNat * K.sz, none⟩ cs ∧ some g = v.ownBlock ∧
      ∀ {H2 N E d x y ty pos af gd}, evl E x = some (cutv v n) → evl E y = some (.int k q) → HV P W N E H2 ⟨some d, .indexAddr t x y, ty, pos, af, gd⟩ (.pointer (some ⟨g, q.toNat * K.sz, none⟩)) := by
  obtain ⟨css, hs, hl, ho, hat⟩ := h
  have hpos : 0 < l.length := by omega
  have hq : q.toNat < l.length := by omega
  have hq' : q.toNat < css.length := by rw [hs.1]; exact hq
  have hf := (hs.flat (fun _ _ _ h => K.len h)).1
  rcases hat with ⟨rfl, h0⟩ | ⟨g, c, rfl, hg, hA, hc, hm⟩
  · omega
  · have hK := hs.2 _ _ _ (List.getElem?_eq_getElem hq) (List.getElem?_eq_getElem hq')
    refine ⟨g, _, _, List.getElem?_eq_getElem hq, K.okk (fun b hb _ => hb.1) hK, fun j u hu => ?_, rfl, fun hx hy => ?_⟩
    · rw [add_at]
      exact hA.rd (flat_get hf (List.getElem?_eq_getElem hq') hu)
    · have hh := fun {H2 N d ty pos af gd} => HV.ix (P := P) (W := W) (H := H2) (N := N) (d := d) (ty := ty) (pos := pos) (af := af) (gd := gd) (ad := ⟨g, 0, none⟩) ht h0 h2 hx hy
      simp only [add_at, Nat.zero_add] at hh
      exact hh
end
def dotI (a b : List Int) (j : Nat) : Int := (List.range j).foldl (fun s i => s + a.getD i 0 * b.getD i 0) 0
theorem dotI_succ (a b : List Int) (j : Nat) : dotI a b (j + 1) = dotI a b j + a.getD j 0 * b.getD j 0 := by
  unfold dotI; rw [List.range_succ, List.foldl_append]; rfl
theorem dotI_in {p : Int} {a b : List Int} (hp : p ≤ 31) (ha : elems p a) (hb : elems p b) (hl : a.length = b.length) : ∀ j : Nat, j ≤ a.length → 0 ≤ dotI a b j ∧ dotI a b j ≤ 961 * j
  | 0, _ => by simp [dotI]
  | j + 1, hj => by
    have h1 := dotI_in hp ha hb hl j (by omega)
    have h2 := ha j (by omega)
    have h3 := hb j (by omega)
    have h4 := mul31 h2.1 (show a.getD j 0 ≤ 31 by omega) h3.1 (show b.getD j 0 ≤ 31 by omega)
    rw [dotI_succ]; omega
theorem wts_in {p : Int} (hp : 2 ≤ p) (l : List Int) (x : Int) (n : Nat) : elems p (wts p l x n) := fun j hj => by
  rw [wts_len] at hj
  have e : (wts p l x n).getD j 0 = wP p l x j l.length := by simp [wts, hj]
  have h := wP_in hp l x j l.length
  rw [e]; omega
def opV (p : Int) (l : List (Int × Int)) (x : Int) : Int := dotI (wts p (l.map Prod.fst) x (l.map Prod.fst).length) (l.map Prod.snd) (wts p (l.map Prod.fst) x (l.map Prod.fst).length).length % p
/-- The reference's sum, where i numbers have been added. -/
def sumT (p t : Int) (la lb : List Int) (i : Nat) : List Int := (List.range (max la.length i)).map (fun j => if j < i then addAt p t la lb j else la.getD j 0)
theorem sumT_zero (p t : Int) (la lb : List Int) : sumT p t la lb 0 = la := by
  apply List.ext_getElem?
  intro q
  unfold sumT
  rw [List.getElem?_map]
  rcases Nat.lt_or_ge q la.length with h | h
  · rw [List.getElem?_range (by omega)]; simp [h]
  · rw [List.getElem?_eq_none (by simp; omega), List.getElem?_eq_none h]; rfl
theorem sumT_len (p t : Int) (la lb : List Int) (i : Nat) : (sumT p t la lb i).length = max la.length i := by simp [sumT]
theorem sumT_get {p t : Int} {la lb : List Int} {i : Nat} {z : Int} (hz : (sumT p t la lb i)[(i : Int).toNat]? = some z) : z = la.getD i 0 := by
  rw [Int.toNat_natCast] at hz
  have hi := (List.getElem?_eq_some_iff.1 hz).1
  rw [sumT_len] at hi
  unfold sumT at hz
  rw [List.getElem?_map, List.getElem?_range hi] at hz
  simp at hz
  rw [← hz]; simp
theorem sumT_app {p t : Int} {la lb : List Int} {i : Nat} {z : Int} (hi : (sumT p t la lb i).length = i) (hz : (sumT p t la lb i ++ [0])[(i : Int).toNat]? = some z) : z = la.getD i 0 := by
  rw [Int.toNat_natCast, List.getElem?_append_right (by omega), hi, Nat.sub_self] at hz
  rw [sumT_len] at hi
  rw [getD_ge (show ¬ i < la.length by omega)]
  simpa using hz.symm
theorem sumT_set {p t y : Int} {la lb : List Int} {i : Nat} (hi : i < (sumT p t la lb i).length) (hy : y = addAt p t la lb i) : (sumT p t la lb i).set (i : Int).toNat y = sumT p t la lb (i + 1) := by
  rw [Int.toNat_natCast]
  rw [sumT_len] at hi
  apply List.ext_getElem?
  intro q
  by_cases e : q = i
  · subst e
    rw [List.getElem?_set_self (by rw [sumT_len]; exact hi)]
    unfold sumT
    rw [List.getElem?_map, List.getElem?_range (by omega)]
    simp [hy]
  · rw [List.getElem?_set_ne (fun h => e h.symm)]
    unfold sumT
    rw [List.getElem?_map, List.getElem?_map, show max la.length (i + 1) = max la.length i by omega]
    rcases Nat.lt_or_ge q (max la.length i) with h | h
    · rw [List.getElem?_range h]
      simp only [Option.map_some]
      by_cases h2 : q < i
      · rw [if_pos h2, if_pos (by omega)]
      · rw [if_neg h2, if_neg (by omega)]
    · rw [List.getElem?_eq_none (by simpa using h)]; rfl
theorem sumT_set2 {p t y : Int} {la lb : List Int} {i : Nat} (hi : (sumT p t la lb i).length = i) (hy : y = addAt p t la lb i) : (sumT p t la lb i ++ [0]).set (i : Int).toNat y = sumT p t la lb (i + 1) := by
  rw [Int.toNat_natCast, List.set_append, if_neg (by omega), hi, Nat.sub_self]
  rw [sumT_len] at hi
  have e1 : sumT p t la lb (i + 1) = (List.range (i + 1)).map (fun j => addAt p t la lb j) := by
    unfold sumT
    rw [show max la.length (i + 1) = i + 1 by omega]
    exact List.map_congr_left fun j hj => if_pos (List.mem_range.1 hj)
  have e2 : sumT p t la lb i = (List.range i).map (fun j => addAt p t la lb j) := by
    unfold sumT
    rw [hi]
    exact List.map_congr_left fun j hj => if_pos (List.mem_range.1 hj)
  rw [e1, e2, List.range_succ, List.map_append, hy]; rfl
theorem sumT_end {p t : Int} {la lb : List Int} (hp : 0 < p) (ha : elems p la) : sumT p t la lb lb.length = addC p t la lb := by
  unfold sumT addC
  refine List.map_congr_left fun j hj => ?_
  split
  · rfl
  · unfold addAt
    have h := getD_in ha hp j
    rw [getD_ge (a := lb) (by omega), Int.zero_mul, Int.add_zero, Int.emod_eq_of_lt h.1 (by omega)]
/-! ### Shares compared -/
theorem HV.neSh {N d t' ty : Nat} {E : List (Nat × Value)} {x y : Operand} {pos : String} {af : Array Edge} {gd : Option (Nat × Bool)} {a b a2 b2 : Int} (hx : evl E x = some (.agg #[.int .i64 a, .int .i64 b])) (hy : evl E y = some (.agg #[.int .i64 a2, .int .i64 b2])) :
    HV Try.prog W N E H ⟨some d, .binOp .neq 68 x y t', ty, pos, af, gd⟩ (.bool (decide (¬ (a = a2 ∧ b = b2)))) :=
  HV.bin hx hy (fun w => by
    rw [Sem.run_bind, run_eqGuard_agg w .neq 68 x y _ _ (by kernel_rfl), Result.andThen_ok, run_neq_struct, run_equalIn_agg w 9999 68 _ _ (by kernel_rfl) (by kernel_rfl)]
    simp [go_sem, Program.fieldsOf, Try.underlying68, Op.eqFields]
    by_cases h1 : a = a2 <;> by_cases h2 : b = b2 <;> simp [h1, h2])
set_option maxRecDepth 100000 in
theorem addCu_ok {va vb : Value} {la lb : List Int} {ok ok2 : Nat → Prop} {p : Int} (hr : RdK kI W H ok va la) (hr2 : RdK kI W H ok2 vb lb) (hp : 2 ≤ p ∧ p ≤ 31) (hla : elems p la) (hlb : elems p lb) (hl : la.length ≤ 1000 ∧ lb.length ≤ 1000) : ACalls Try.prog W 109 #[.int .i64 p, va, vb] H (fun r H' => Ext H H' ∧ OwnK kI 2 W H' (fun b => H.bd ≤ b) r (addC p 1 la lb)) := by
  refine ACalls.of (args := [.int .i64 p, va, vb]) Try.func109 rfl rfl ?_
  have X0 := Ext.refl H
  have hm1 := hr.max
  have hm2 := hr2.max
  obtain ⟨N, hN⟩ : ∃ N : Nat, N = max la.length lb.length := ⟨_, rfl⟩
  refine AW.rs ?_
  refine AL.val rfl (.inl rfl) (HV.as rfl) ?_
  refine AL.nx ?_
  refine AW.rs ?_
  refine AL.val rfl (.inl rfl) (HV.mv rfl) ?_
  refine AL.val rfl (.inl rfl) (HV.len Try.underlying24 rfl hr.isSl) ?_
  refine AL.val rfl (.inl rfl) (HV.mv rfl) ?_
  refine AL.val rfl (.inl rfl) (HV.len Try.underlying24 rfl hr2.isSl) ?_
  refine AL.val rfl (.inl rfl) (HV.mx rfl rfl) ?_
  have o3 := X0.bd
  refine AL.w rfl (.inl rfl) (WV.mkK (K := kI) (0 : Int) (fun _ _ _ => rfl) sl24 rfl rfl rfl (by omega) (by omega) (by omega)) ?_
  rintro v4 H5 ⟨hx6, ho7⟩
  have X8 := Ext.trans X0 hx6
  refine AL.val rfl (.inl rfl) (HV.as rfl) ?_
  refine AL.nx ?_
  refine AW.seq ?_
  refine AW.rs ?_
  refine AL.val rfl (.inl rfl) (HV.mv rfl) ?_
  refine AL.val rfl (.inl rfl) (HV.len Try.underlying24 rfl ho7.rd.isSl) ?_
  refine AL.val rfl (.inl rfl) (HV.mv rfl) ?_
  refine AL.nx ?_
  refine AW.block ?_
  have hNl : (List.replicate (max (la.length : Int) (lb.length : Int) : Int).toNat (0 : Int)).length = N := by simp only [List.length_replicate]; omega
  refine AW.loop (σ := Nat × List Int) (fun ⟨i, k⟩ => [(0, .int .i64 p), (1, va), (2, vb), (6, (.slice none 0 0)), (7, v4), (16, .int .i64 ((List.replicate (max (la.length : Int) (lb.length : Int) : Int).toNat (0 : Int)).length : Int)), (7, v4), (17, .int .i64 (i : Int))]) (fun ⟨i, k⟩ H' => Ext H H' ∧ i ≤ N ∧ k = updF 0 (addAt p 1 la lb) (List.replicate (max (la.length : Int) (lb.length : Int) : Int).toNat (0 : Int)) i ∧ k.length = N ∧ OwnK kI 2 W H' (fun b => H.bd ≤ b) v4 k ∧ True) (fun ⟨i, k⟩ => N - i) (0, (List.replicate (max (la.length : Int) (lb.length : Int) : Int).toNat (0 : Int))) ⟨X8, Nat.zero_le _, (updF_zero _ _ _).symm, hNl, ho7, trivial⟩ ⟨rfl, rfl, rfl, rfl, rfl, rfl, rfl, rfl, trivial⟩ ?_
  rintro ⟨i, k⟩ H10 ⟨X11, hi, hk, hk2, hoL, _⟩
  refine AW.rs ?_
  refine AL.val rfl (.inl rfl) (HV.lti rfl rfl) ?_
  refine AL.nx ?_
  refine AW.seq ?_
  refine AW.ifd rfl (fun c12 => ?_) (fun c12 => ?_)
  · -- then
    refine AW.skip ?_
    refine nrm_and ?_
    refine AW.seq ?_
    refine AW.block ?_
    refine AW.rs ?_
    refine AL.val rfl (.inl rfl) (HV.mv rfl) ?_
    refine AL.val rfl (.inl rfl) (HV.as rfl) ?_
    refine AL.nx ?_
    refine AW.seq ?_
    refine AW.rs ?_
    refine AL.val rfl (.inl rfl) (HV.mv rfl) ?_
    refine AL.val rfl (.inl rfl) (HV.mv rfl) ?_
    refine AL.val rfl (.inl rfl) (HV.len Try.underlying24 rfl hr.isSl) ?_
    refine AL.val rfl (.inl rfl) (HV.lti rfl rfl) ?_
    refine AL.nx ?_
    refine AW.ifd rfl (fun c13 => ?_) (fun c13 => ?_)
    · -- then
      refine AW.draw' [0, 0, 3, 7, 0, 0, 48, 112, 255, 511, 1023] mixed (by rfl) ?_
      refine Dr.read 0 _ 24 _ rfl rfl rfl rfl rfl (RV.of (by intro _ _ h; cases h) (.inl rfl) (fun _ xd => HV.mv rfl)) ?_
      refine Dr.read 1 _ 25 _ rfl rfl rfl rfl rfl (RV.of (by intro _ _ h; cases h) (.inl rfl) (fun _ xd => HV.mv rfl)) ?_
      obtain ⟨g14, z15, cs16, hz17, hK18, hC19, hg20, hP21⟩ := OwnK.ix (q := (i : Int)) hoL sl24 (by omega) (by first | omega | (simp only [List.length_set]; omega))
      have X22 := Ext.refl H10
      obtain rfl : cs16 = [.int .i64 z15] := hK18
      refine Dr.read 2 _ 26 _ rfl rfl rfl rfl rfl (RV.of (by intro _ _ h; cases h) (.inl rfl) (fun _ xd => hP21 rfl rfl)) ?_
      refine Dr.read 3 _ 27 _ rfl rfl rfl rfl rfl (RV.of (by intro _ _ h; cases h) (.inl rfl) (fun _ xd => HV.ld rfl va2 (rdc_ext xd (cells_first hC19 rfl)))) ?_
      refine Dr.read 4 _ 28 _ rfl rfl rfl rfl rfl (RV.of (by intro _ _ h; cases h) (.inl rfl) (fun _ xd => HV.mv rfl)) ?_
      refine Dr.read 5 _ 29 _ rfl rfl rfl rfl rfl (RV.of (by intro _ _ h; cases h) (.inl rfl) (fun _ xd => HV.mv rfl)) ?_
      obtain ⟨p23, z24, cs25, hz26, hK27, hC28, hP29⟩ := RdK.ix (q := (i : Int)) hr sl24 (by omega) (by omega)
      obtain rfl : cs25 = [.int .i64 z24] := hK27
      refine Dr.read 6 _ 30 _ rfl rfl rfl rfl rfl (RV.of (by intro _ _ h; cases h) (.inl rfl) (fun _ xd => hP29 rfl rfl)) ?_
      refine Dr.read 7 _ 31 _ rfl rfl rfl rfl rfl (RV.of (by intro _ _ h; cases h) (.inl rfl) (fun _ xd => HV.ld rfl va2 (rdc_ext xd (cells_first (hC28.ext X11) rfl)))) ?_
      have e26 := (updF_at (by rw [← hk]; exact hz17)).trans rep_at
      have b30 := elem_at hla hz26
      refine Dr.read 8 _ 32 _ rfl rfl rfl rfl rfl (RV.of (by intro _ _ h; cases h) (.inl rfl) (fun _ xd => HV.add rfl rfl (by omega))) ?_
      obtain ⟨g30, z31, cs32, hz33, hK34, hC35, hg36, hP37⟩ := OwnK.ix (q := (i : Int)) hoL sl24 (by omega) (by first | omega | (simp only [List.length_set]; omega))
      obtain rfl : cs32 = [.int .i64 z31] := hK34
      refine Dr.read 9 _ 33 _ rfl rfl rfl rfl rfl (RV.of (by intro _ _ h; cases h) (.inl rfl) (fun _ xd => hP37 rfl rfl)) ?_
      refine Dr.eff 10 _ _ rfl (by intro d h; cases h) rfl rfl rfl (EC.of (by intro _ _ h; cases h) (.inl rfl) (WV.stK (okx := fun _ => False) (x' := z15 + z24) hoL hg36 rfl rfl va2 (by first | omega | (simp only [List.length_set]; omega)) rfl (fun _ h => h.elim))) (fun v H' h => .inr (.inl rfl)) ?_
      rintro _ H38 ⟨hx39, ho40⟩
      have X41 := Ext.thru X11 hx39 (fun b hb => Nat.le_trans o3 (hoL.blk b hb).1)
      have ho43 := ho40.okk (ok' := fun b => H.bd ≤ b) (fun b hb _ => hb.elim id False.elim)
      refine Dr.fin rfl ?_
      refine nrm_and ?_
      refine AW.seq ?_
      refine AW.rs ?_
      refine AL.val rfl (.inl rfl) (HV.mv rfl) ?_
      refine AL.val rfl (.inl rfl) (HV.mv rfl) ?_
      refine AL.val rfl (.inl rfl) (HV.len Try.underlying24 rfl hr2.isSl) ?_
      refine AL.val rfl (.inl rfl) (HV.lti rfl rfl) ?_
      refine AL.nx ?_
      refine AW.ifd rfl (fun c44 => ?_) (fun c44 => ?_)
      · -- then
        refine AW.draw' [0, 0, 3, 7, 0, 0, 48, 112, 255, 511, 1023] mixed (by rfl) ?_
        refine Dr.read 0 _ 38 _ rfl rfl rfl rfl rfl (RV.of (by intro _ _ h; cases h) (.inl rfl) (fun _ xd => HV.mv rfl)) ?_
        refine Dr.read 1 _ 39 _ rfl rfl rfl rfl rfl (RV.of (by intro _ _ h; cases h) (.inl rfl) (fun _ xd => HV.mv rfl)) ?_
        obtain ⟨g45, z46, cs47, hz48, hK49, hC50, hg51, hP52⟩ := OwnK.ix (q := (i : Int)) ho43 sl24 (by omega) (by first | omega | (simp only [List.length_set]; omega))
        have X53 := Ext.refl H38
        obtain rfl : cs47 = [.int .i64 z46] := hK49
        refine Dr.read 2 _ 40 _ rfl rfl rfl rfl rfl (RV.of (by intro _ _ h; cases h) (.inl rfl) (fun _ xd => hP52 rfl rfl)) ?_
        refine Dr.read 3 _ 41 _ rfl rfl rfl rfl rfl (RV.of (by intro _ _ h; cases h) (.inl rfl) (fun _ xd => HV.ld rfl va2 (rdc_ext xd (cells_first hC50 rfl)))) ?_
        refine Dr.read 4 _ 42 _ rfl rfl rfl rfl rfl (RV.of (by intro _ _ h; cases h) (.inl rfl) (fun _ xd => HV.mv rfl)) ?_
        refine Dr.read 5 _ 43 _ rfl rfl rfl rfl rfl (RV.of (by intro _ _ h; cases h) (.inl rfl) (fun _ xd => HV.mv rfl)) ?_
        obtain ⟨p54, z55, cs56, hz57, hK58, hC59, hP60⟩ := RdK.ix (q := (i : Int)) hr2 sl24 (by omega) (by omega)
        obtain rfl : cs56 = [.int .i64 z55] := hK58
        refine Dr.read 6 _ 44 _ rfl rfl rfl rfl rfl (RV.of (by intro _ _ h; cases h) (.inl rfl) (fun _ xd => hP60 rfl rfl)) ?_
        refine Dr.read 7 _ 45 _ rfl rfl rfl rfl rfl (RV.of (by intro _ _ h; cases h) (.inl rfl) (fun _ xd => HV.ld rfl va2 (rdc_ext xd (cells_first (hC59.ext X41) rfl)))) ?_
        have e40 := setq_get hz48
        have b44 := elem_at hlb hz57
        refine Dr.read 8 _ 46 _ rfl rfl rfl rfl rfl (RV.of (by intro _ _ h; cases h) (.inl rfl) (fun _ xd => HV.add rfl rfl (by omega))) ?_
        obtain ⟨g61, z62, cs63, hz64, hK65, hC66, hg67, hP68⟩ := OwnK.ix (q := (i : Int)) ho43 sl24 (by omega) (by first | omega | (simp only [List.length_set]; omega))
        obtain rfl : cs63 = [.int .i64 z62] := hK65
        refine Dr.read 9 _ 47 _ rfl rfl rfl rfl rfl (RV.of (by intro _ _ h; cases h) (.inl rfl) (fun _ xd => hP68 rfl rfl)) ?_
        refine Dr.eff 10 _ _ rfl (by intro d h; cases h) rfl rfl rfl (EC.of (by intro _ _ h; cases h) (.inl rfl) (WV.stK (okx := fun _ => False) (x' := z46 + z55) ho43 hg67 rfl rfl va2 (by first | omega | (simp only [List.length_set]; omega)) rfl (fun _ h => h.elim))) (fun v H' h => .inr (.inl rfl)) ?_
        rintro _ H69 ⟨hx70, ho71⟩
        have X72 := Ext.thru X41 hx70 (fun b hb => Nat.le_trans o3 (ho43.blk b hb).1)
        have ho74 := ho71.okk (ok' := fun b => H.bd ≤ b) (fun b hb _ => hb.elim id False.elim)
        refine Dr.fin rfl ?_
        refine nrm_and ?_
        refine AW.reg ?_
        refine AL.val rfl (.inl rfl) (HV.mv rfl) ?_
        refine AL.val rfl (.inl rfl) (HV.mv rfl) ?_
        obtain ⟨g75, z76, cs77, hz78, hK79, hC80, hg81, hP82⟩ := OwnK.ix (q := (i : Int)) ho74 sl24 (by omega) (by first | omega | (simp only [List.length_set]; omega))
        have X83 := Ext.refl H69
        obtain rfl : cs77 = [.int .i64 z76] := hK79
        refine AL.val rfl (.inl rfl) (hP82 rfl rfl) ?_
        refine AL.val rfl (.inl rfl) (HV.ld rfl va2 (cells_first hC80 rfl)) ?_
        refine AL.val rfl (.inl rfl) (HV.mv rfl) ?_
        have e50 := setq_get hz78
        refine AL.val rfl (.inl rfl) (HV.rem rfl rfl (by omega)) ?_
        obtain ⟨g84, z85, cs86, hz87, hK88, hC89, hg90, hP91⟩ := OwnK.ix (q := (i : Int)) ho74 sl24 (by omega) (by first | omega | (simp only [List.length_set]; omega))
        obtain rfl : cs86 = [.int .i64 z85] := hK88
        refine AL.val rfl (.inl rfl) (hP91 rfl rfl) ?_
        refine AL.w0 (.inl rfl) (WV.stK (okx := fun _ => False) (x' := z76 % p) ho74 hg90 rfl rfl va2 (by first | omega | (simp only [List.length_set]; omega)) rfl (fun _ h => h.elim)) ?_
        rintro _ H92 ⟨hx93, ho94⟩
        have X95 := Ext.thru X72 hx93 (fun b hb => Nat.le_trans o3 (ho74.blk b hb).1)
        have ho97 := ho94.okk (ok' := fun b => H.bd ≤ b) (fun b hb _ => hb.elim id False.elim)
        refine AL.nil ?_
        refine nrm_blk (nrm_and ?_)
        refine AW.reg ?_
        refine AL.val rfl (.inl rfl) (HV.add rfl rfl (by omega)) ?_
        refine AL.val rfl (.inl rfl) (HV.mv rfl) ?_
        refine AL.nil ?_
        refine nrm_and ?_
        exact ⟨(i + 1, (((k.set ((i : Int) : Int).toNat (z15 + z24)).set ((i : Int) : Int).toNat (z46 + z55)).set ((i : Int) : Int).toNat (z76 % p))), ⟨X95, by omega, by (try simp only [List.set_set]); rw [hk]; exact updF_set (by unfold addAt; rw [(gd hz26 rfl : la.getD i 0 = z24), (gd hz57 rfl : lb.getD i 0 = z55)]; exact congrArg (fun q => q % p) (by omega)), by simp [hk2], ho97, trivial⟩, by first | omega | (dsimp only; omega), ⟨rfl, rfl, rfl, rfl, rfl, rfl, rfl, rfl, trivial⟩⟩
      · -- else
        refine AW.skip ?_
        refine nrm_and ?_
        refine AW.reg ?_
        refine AL.val rfl (.inl rfl) (HV.mv rfl) ?_
        refine AL.val rfl (.inl rfl) (HV.mv rfl) ?_
        obtain ⟨g98, z99, cs100, hz101, hK102, hC103, hg104, hP105⟩ := OwnK.ix (q := (i : Int)) ho43 sl24 (by omega) (by first | omega | (simp only [List.length_set]; omega))
        have X106 := Ext.refl H38
        obtain rfl : cs100 = [.int .i64 z99] := hK102
        refine AL.val rfl (.inl rfl) (hP105 rfl rfl) ?_
        refine AL.val rfl (.inl rfl) (HV.ld rfl va2 (cells_first hC103 rfl)) ?_
        refine AL.val rfl (.inl rfl) (HV.mv rfl) ?_
        have e50 := setq_get hz101
        refine AL.val rfl (.inl rfl) (HV.rem rfl rfl (by omega)) ?_
        obtain ⟨g107, z108, cs109, hz110, hK111, hC112, hg113, hP114⟩ := OwnK.ix (q := (i : Int)) ho43 sl24 (by omega) (by first | omega | (simp only [List.length_set]; omega))
        obtain rfl : cs109 = [.int .i64 z108] := hK111
        refine AL.val rfl (.inl rfl) (hP114 rfl rfl) ?_
        refine AL.w0 (.inl rfl) (WV.stK (okx := fun _ => False) (x' := z99 % p) ho43 hg113 rfl rfl va2 (by first | omega | (simp only [List.length_set]; omega)) rfl (fun _ h => h.elim)) ?_
        rintro _ H115 ⟨hx116, ho117⟩
        have X118 := Ext.thru X41 hx116 (fun b hb => Nat.le_trans o3 (ho43.blk b hb).1)
        have ho120 := ho117.okk (ok' := fun b => H.bd ≤ b) (fun b hb _ => hb.elim id False.elim)
        refine AL.nil ?_
        refine nrm_blk (nrm_and ?_)
        refine AW.reg ?_
        refine AL.val rfl (.inl rfl) (HV.add rfl rfl (by omega)) ?_
        refine AL.val rfl (.inl rfl) (HV.mv rfl) ?_
        refine AL.nil ?_
        refine nrm_and ?_
        exact ⟨(i + 1, ((k.set ((i : Int) : Int).toNat (z15 + z24)).set ((i : Int) : Int).toNat (z99 % p))), ⟨X118, by omega, by (try simp only [List.set_set]); rw [hk]; exact updF_set (by unfold addAt; rw [(gd hz26 rfl : la.getD i 0 = z24), (getD_ge (by omega) : lb.getD i 0 = 0)]; exact congrArg (fun q => q % p) (by omega)), by simp [hk2], ho120, trivial⟩, by first | omega | (dsimp only; omega), ⟨rfl, rfl, rfl, rfl, rfl, rfl, rfl, rfl, trivial⟩⟩
    · -- else
      refine AW.skip ?_
      refine nrm_and ?_
      refine AW.seq ?_
      refine AW.rs ?_
      refine AL.val rfl (.inl rfl) (HV.mv rfl) ?_
      refine AL.val rfl (.inl rfl) (HV.mv rfl) ?_
      refine AL.val rfl (.inl rfl) (HV.len Try.underlying24 rfl hr2.isSl) ?_
      refine AL.val rfl (.inl rfl) (HV.lti rfl rfl) ?_
      refine AL.nx ?_
      refine AW.ifd rfl (fun c121 => ?_) (fun c121 => ?_)
      · -- then
        refine AW.draw' [0, 0, 3, 7, 0, 0, 48, 112, 255, 511, 1023] mixed (by rfl) ?_
        refine Dr.read 0 _ 38 _ rfl rfl rfl rfl rfl (RV.of (by intro _ _ h; cases h) (.inl rfl) (fun _ xd => HV.mv rfl)) ?_
        refine Dr.read 1 _ 39 _ rfl rfl rfl rfl rfl (RV.of (by intro _ _ h; cases h) (.inl rfl) (fun _ xd => HV.mv rfl)) ?_
        obtain ⟨g122, z123, cs124, hz125, hK126, hC127, hg128, hP129⟩ := OwnK.ix (q := (i : Int)) hoL sl24 (by omega) (by first | omega | (simp only [List.length_set]; omega))
        have X130 := Ext.refl H10
        obtain rfl : cs124 = [.int .i64 z123] := hK126
        refine Dr.read 2 _ 40 _ rfl rfl rfl rfl rfl (RV.of (by intro _ _ h; cases h) (.inl rfl) (fun _ xd => hP129 rfl rfl)) ?_
        refine Dr.read 3 _ 41 _ rfl rfl rfl rfl rfl (RV.of (by intro _ _ h; cases h) (.inl rfl) (fun _ xd => HV.ld rfl va2 (rdc_ext xd (cells_first hC127 rfl)))) ?_
        refine Dr.read 4 _ 42 _ rfl rfl rfl rfl rfl (RV.of (by intro _ _ h; cases h) (.inl rfl) (fun _ xd => HV.mv rfl)) ?_
        refine Dr.read 5 _ 43 _ rfl rfl rfl rfl rfl (RV.of (by intro _ _ h; cases h) (.inl rfl) (fun _ xd => HV.mv rfl)) ?_
        obtain ⟨p131, z132, cs133, hz134, hK135, hC136, hP137⟩ := RdK.ix (q := (i : Int)) hr2 sl24 (by omega) (by omega)
        obtain rfl : cs133 = [.int .i64 z132] := hK135
        refine Dr.read 6 _ 44 _ rfl rfl rfl rfl rfl (RV.of (by intro _ _ h; cases h) (.inl rfl) (fun _ xd => hP137 rfl rfl)) ?_
        refine Dr.read 7 _ 45 _ rfl rfl rfl rfl rfl (RV.of (by intro _ _ h; cases h) (.inl rfl) (fun _ xd => HV.ld rfl va2 (rdc_ext xd (cells_first (hC136.ext X11) rfl)))) ?_
        have e40 := (updF_at (by rw [← hk]; exact hz125)).trans rep_at
        have b44 := elem_at hlb hz134
        refine Dr.read 8 _ 46 _ rfl rfl rfl rfl rfl (RV.of (by intro _ _ h; cases h) (.inl rfl) (fun _ xd => HV.add rfl rfl (by omega))) ?_
        obtain ⟨g138, z139, cs140, hz141, hK142, hC143, hg144, hP145⟩ := OwnK.ix (q := (i : Int)) hoL sl24 (by omega) (by first | omega | (simp only [List.length_set]; omega))
        obtain rfl : cs140 = [.int .i64 z139] := hK142
        refine Dr.read 9 _ 47 _ rfl rfl rfl rfl rfl (RV.of (by intro _ _ h; cases h) (.inl rfl) (fun _ xd => hP145 rfl rfl)) ?_
        refine Dr.eff 10 _ _ rfl (by intro d h; cases h) rfl rfl rfl (EC.of (by intro _ _ h; cases h) (.inl rfl) (WV.stK (okx := fun _ => False) (x' := z123 + z132) hoL hg144 rfl rfl va2 (by first | omega | (simp only [List.length_set]; omega)) rfl (fun _ h => h.elim))) (fun v H' h => .inr (.inl rfl)) ?_
        rintro _ H146 ⟨hx147, ho148⟩
        have X149 := Ext.thru X11 hx147 (fun b hb => Nat.le_trans o3 (hoL.blk b hb).1)
        have ho151 := ho148.okk (ok' := fun b => H.bd ≤ b) (fun b hb _ => hb.elim id False.elim)
        refine Dr.fin rfl ?_
        refine nrm_and ?_
        refine AW.reg ?_
        refine AL.val rfl (.inl rfl) (HV.mv rfl) ?_
        refine AL.val rfl (.inl rfl) (HV.mv rfl) ?_
        obtain ⟨g152, z153, cs154, hz155, hK156, hC157, hg158, hP159⟩ := OwnK.ix (q := (i : Int)) ho151 sl24 (by omega) (by first | omega | (simp only [List.length_set]; omega))
        have X160 := Ext.refl H146
        obtain rfl : cs154 = [.int .i64 z153] := hK156
        refine AL.val rfl (.inl rfl) (hP159 rfl rfl) ?_
        refine AL.val rfl (.inl rfl) (HV.ld rfl va2 (cells_first hC157 rfl)) ?_
        refine AL.val rfl (.inl rfl) (HV.mv rfl) ?_
        have e50 := setq_get hz155
        refine AL.val rfl (.inl rfl) (HV.rem rfl rfl (by omega)) ?_
        obtain ⟨g161, z162, cs163, hz164, hK165, hC166, hg167, hP168⟩ := OwnK.ix (q := (i : Int)) ho151 sl24 (by omega) (by first | omega | (simp only [List.length_set]; omega))
        obtain rfl : cs163 = [.int .i64 z162] := hK165
        refine AL.val rfl (.inl rfl) (hP168 rfl rfl) ?_
        refine AL.w0 (.inl rfl) (WV.stK (okx := fun _ => False) (x' := z153 % p) ho151 hg167 rfl rfl va2 (by first | omega | (simp only [List.length_set]; omega)) rfl (fun _ h => h.elim)) ?_
        rintro _ H169 ⟨hx170, ho171⟩
        have X172 := Ext.thru X149 hx170 (fun b hb => Nat.le_trans o3 (ho151.blk b hb).1)
        have ho174 := ho171.okk (ok' := fun b => H.bd ≤ b) (fun b hb _ => hb.elim id False.elim)
        refine AL.nil ?_
        refine nrm_blk (nrm_and ?_)
        refine AW.reg ?_
        refine AL.val rfl (.inl rfl) (HV.add rfl rfl (by omega)) ?_
        refine AL.val rfl (.inl rfl) (HV.mv rfl) ?_
        refine AL.nil ?_
        refine nrm_and ?_
        exact ⟨(i + 1, ((k.set ((i : Int) : Int).toNat (z123 + z132)).set ((i : Int) : Int).toNat (z153 % p))), ⟨X172, by omega, by (try simp only [List.set_set]); rw [hk]; exact updF_set (by unfold addAt; rw [(getD_ge (by omega) : la.getD i 0 = 0), (gd hz134 rfl : lb.getD i 0 = z132)]; exact congrArg (fun q => q % p) (by omega)), by simp [hk2], ho174, trivial⟩, by first | omega | (dsimp only; omega), ⟨rfl, rfl, rfl, rfl, rfl, rfl, rfl, rfl, trivial⟩⟩
      · -- else
        refine AW.skip ?_
        refine nrm_and ?_
        refine AW.reg ?_
        refine AL.val rfl (.inl rfl) (HV.mv rfl) ?_
        refine AL.val rfl (.inl rfl) (HV.mv rfl) ?_
        obtain ⟨g175, z176, cs177, hz178, hK179, hC180, hg181, hP182⟩ := OwnK.ix (q := (i : Int)) hoL sl24 (by omega) (by first | omega | (simp only [List.length_set]; omega))
        have X183 := Ext.refl H10
        obtain rfl : cs177 = [.int .i64 z176] := hK179
        refine AL.val rfl (.inl rfl) (hP182 rfl rfl) ?_
        refine AL.val rfl (.inl rfl) (HV.ld rfl va2 (cells_first hC180 rfl)) ?_
        refine AL.val rfl (.inl rfl) (HV.mv rfl) ?_
        have e50 := (updF_at (by rw [← hk]; exact hz178)).trans rep_at
        refine AL.val rfl (.inl rfl) (HV.rem rfl rfl (by omega)) ?_
        obtain ⟨g184, z185, cs186, hz187, hK188, hC189, hg190, hP191⟩ := OwnK.ix (q := (i : Int)) hoL sl24 (by omega) (by first | omega | (simp only [List.length_set]; omega))
        obtain rfl : cs186 = [.int .i64 z185] := hK188
        refine AL.val rfl (.inl rfl) (hP191 rfl rfl) ?_
        refine AL.w0 (.inl rfl) (WV.stK (okx := fun _ => False) (x' := z176 % p) hoL hg190 rfl rfl va2 (by first | omega | (simp only [List.length_set]; omega)) rfl (fun _ h => h.elim)) ?_
        rintro _ H192 ⟨hx193, ho194⟩
        have X195 := Ext.thru X11 hx193 (fun b hb => Nat.le_trans o3 (hoL.blk b hb).1)
        have ho197 := ho194.okk (ok' := fun b => H.bd ≤ b) (fun b hb _ => hb.elim id False.elim)
        refine AL.nil ?_
        refine nrm_blk (nrm_and ?_)
        refine AW.reg ?_
        refine AL.val rfl (.inl rfl) (HV.add rfl rfl (by omega)) ?_
        refine AL.val rfl (.inl rfl) (HV.mv rfl) ?_
        refine AL.nil ?_
        refine nrm_and ?_
        exact ⟨(i + 1, (k.set ((i : Int) : Int).toNat (z176 % p))), ⟨X195, by omega, by (try simp only [List.set_set]); rw [hk]; exact updF_set (by unfold addAt; rw [(getD_ge (by omega) : la.getD i 0 = 0), (getD_ge (by omega) : lb.getD i 0 = 0)]; exact congrArg (fun q => q % p) (by omega)), by simp [hk2], ho197, trivial⟩, by first | omega | (dsimp only; omega), ⟨rfl, rfl, rfl, rfl, rfl, rfl, rfl, rfl, trivial⟩⟩
  · -- else
    refine AW.exit ?_
    refine ex_and (ex_and (ex_blk ?_))
    refine nrm_and ?_
    refine AW.rs ?_
    refine AL.val rfl (.inl rfl) (HV.mv rfl) ?_
    refine AL.val rfl (.inl rfl) (HV.as rfl) ?_
    refine AL.nx ?_
    refine AW.ret ?_
    refine post_one rfl rfl ?_ (.inr rfl)
    exact ⟨X11, by have e : k = addC p 1 la lb := (by rw [hk, updF_end (by rw [hNl]; omega), hNl, hN]; rfl); rw [← e]; exact hoL.okk (fun b hb _ => Nat.le_trans o3 hb)⟩

set_option maxRecDepth 100000 in
theorem strip_ok {v : Value} {l : List Int} {ok : Nat → Prop} (hr : RdK kI W H ok v l) : ACalls Try.prog W 108 #[v] H (fun r H' => RdK kI W H' (fun _ => True) r (stripM l) ∧ Ext H H') := by
  refine ACalls.of (args := [v]) Try.func108 rfl rfl ?_
  have X0 := Ext.refl H
  have hm1 := hr.max
  refine AW.rs ?_
  refine AL.val rfl (.inl rfl) (HV.as rfl) ?_
  refine AL.nx ?_
  refine AW.seq ?_
  refine AW.block ?_
  refine AW.loop (σ := Nat × Value × List Int) (fun ⟨i, vv, m⟩ => [(2, (.slice none 0 0)), (0, vv)]) (fun ⟨i, vv, m⟩ H' => Ext H H' ∧ i ≤ l.length ∧ m = l.take i ∧ cutTo l i = stripM l ∧ RdK kI W H' (fun _ => True) vv m ∧ True) (fun ⟨i, vv, m⟩ => i) (l.length, v, l) ⟨X0, Nat.le_refl _, List.take_length.symm, rfl, hr.okk (fun _ _ _ => trivial), trivial⟩ ⟨rfl, rfl, trivial⟩ ?_
  rintro ⟨i, vv, m⟩ H2 ⟨X3, hi, hm, hcut, hrv, _⟩
  have X4 := Ext.refl H2
  have hml : m.length = i := by rw [hm, List.length_take]; omega
  refine AW.seq ?_
  refine AW.rs ?_
  refine AL.val rfl (.inl rfl) (HV.mv rfl) ?_
  refine AL.val rfl (.inl rfl) (HV.len Try.underlying24 rfl hrv.isSl) ?_
  refine AL.val rfl (.inl rfl) (HV.gti rfl rfl) ?_
  refine AL.val rfl (.inl rfl) (HV.mv rfl) ?_
  by_cases c5 : (m.length : Int) > 0
  · -- true
    have c5_ : decide ((m.length : Int) > 0) = true := decide_eq_true c5
    rw [c5_]
    refine AL.val rfl (.inr ⟨_, _, _, rfl, rfl, rfl⟩) (HV.mv rfl) ?_
    refine AL.val rfl (.inr ⟨_, _, _, rfl, rfl, rfl⟩) (HV.mv rfl) ?_
    refine AL.val rfl (.inr ⟨_, _, _, rfl, rfl, rfl⟩) (HV.len Try.underlying24 rfl hrv.isSl) ?_
    refine AL.val rfl (.inr ⟨_, _, _, rfl, rfl, rfl⟩) (HV.sub rfl rfl (by omega)) ?_
    obtain ⟨p6, z7, cs8, hz9, hK10, hC11, hP12⟩ := RdK.ix (q := (m.length : Int) - 1) hrv sl24 (by omega) (by omega)
    obtain rfl : cs8 = [.int .i64 z7] := hK10
    refine AL.val rfl (.inr ⟨_, _, _, rfl, rfl, rfl⟩) (hP12 rfl rfl) ?_
    refine AL.val rfl (.inr ⟨_, _, _, rfl, rfl, rfl⟩) (HV.ld rfl va2 (cells_first hC11 rfl)) ?_
    refine AL.val rfl (.inr ⟨_, _, _, rfl, rfl, rfl⟩) (HV.eqi rfl rfl) ?_
    refine AL.val rfl (.inl rfl) (HV.pickT rfl rfl) ?_
    refine AL.nx ?_
    refine AW.ifd rfl (fun c13 => ?_) (fun c13 => ?_)
    · -- then
      refine AW.skip ?_
      refine nrm_and ?_
      refine AW.block ?_
      refine AW.reg ?_
      refine AL.val rfl (.inl rfl) (HV.mv rfl) ?_
      refine AL.val rfl (.inl rfl) (HV.mv rfl) ?_
      refine AL.val rfl (.inl rfl) (HV.len Try.underlying24 rfl hrv.isSl) ?_
      refine AL.val rfl (.inl rfl) (HV.sub rfl rfl (by omega)) ?_
      obtain ⟨v14, hr15, hP16⟩ := RdK.cutH (q := (m.length : Int) - 1) hrv sl24 (by omega) (by omega)
      refine AL.val rfl (.inl rfl) (hP16 rfl rfl) ?_
      refine AL.val rfl (.inl rfl) (HV.as rfl) ?_
      refine AL.nil ?_
      refine nrm_blk (nrm_and ?_)
      have hz11_ : m[i - 1]? = some z7 := by have q := hz9; rwa [show ((m.length : Int) - 1).toNat = i - 1 by omega] at q
      rw [hm] at hz11_
      have hc0 := cut_succ (l := l) (i := i - 1) ((take_getD hz11_).trans (by omega))
      rw [show i - 1 + 1 = i by omega] at hc0
      exact ⟨(i - 1, v14, (m.take ((m.length : Int) - 1 : Int).toNat)), ⟨X3, by omega, by rw [show ((m.length : Int) - 1).toNat = i - 1 by omega, hm, List.take_take, show min (i - 1) i = i - 1 by omega], hc0.symm.trans hcut, (hr15).okk (fun _ _ _ => trivial), trivial⟩, by first | omega | (dsimp only; omega), ⟨rfl, rfl, trivial⟩⟩
    · -- else
      refine AW.exit ?_
      refine ex_and (ex_and (ex_blk ?_))
      refine nrm_and ?_
      refine AW.rs ?_
      refine AL.val rfl (.inl rfl) (HV.mv rfl) ?_
      refine AL.val rfl (.inl rfl) (HV.as rfl) ?_
      refine AL.nx ?_
      refine AW.ret ?_
      refine post_one rfl rfl ?_ (.inr rfl)
      have hz11_ : m[i - 1]? = some z7 := (by have q := hz9; rwa [show ((m.length : Int) - 1).toNat = i - 1 by omega] at q); rw [hm] at hz11_; exact ⟨by have e : stripM l = m := (by rw [hm, ← hcut]; exact cut_stop (.inr (by rw [take_getD hz11_]; assumption))); rw [e]; exact hrv, X3⟩
  · -- false
    have c5_ : decide ((m.length : Int) > 0) = false := decide_eq_false c5
    rw [c5_]
    refine AL.off rfl rfl (by decide) rfl ?_
    refine AL.off rfl rfl (by decide) rfl ?_
    refine AL.off rfl rfl (by decide) rfl ?_
    refine AL.off rfl rfl (by decide) rfl ?_
    refine AL.off rfl rfl (by decide) rfl ?_
    refine AL.off rfl rfl (by decide) rfl ?_
    refine AL.off rfl rfl (by decide) rfl ?_
    refine AL.val rfl (.inl rfl) (HV.pickF rfl rfl) ?_
    refine AL.nx ?_
    refine AW.cond rfl (fun h => by cases h) (fun _ => ?_)
    refine AW.exit ?_
    refine ex_and (ex_and (ex_blk ?_))
    refine nrm_and ?_
    refine AW.rs ?_
    refine AL.val rfl (.inl rfl) (HV.mv rfl) ?_
    refine AL.val rfl (.inl rfl) (HV.as rfl) ?_
    refine AL.nx ?_
    refine AW.ret ?_
    refine post_one rfl rfl ?_ (.inr rfl)
    exact ⟨by have e : stripM l = m := (by rw [hm, ← hcut]; exact cut_stop (.inl (by omega))); rw [e]; exact hrv, X3⟩

set_option maxRecDepth 100000 in
theorem cutS_ok {v : Value} {l : List Int} {ok : Nat → Prop} (hr : RdK kI W H ok v l) (hl : l.length ≤ 1048576) : ACalls Try.prog W 100 #[v] H (fun r H' => Ext H H' ∧ OwnK kI 2 W H' (fun b => H.bd ≤ b) r (stripM l)) := by
  refine ACalls.of (args := [v]) Try.func100 rfl rfl ?_
  have X0 := Ext.refl H
  have hm1 := hr.max
  refine AW.rs ?_
  refine AL.val rfl (.inl rfl) (HV.as rfl) ?_
  refine AL.nx ?_
  refine AW.rs ?_
  refine AL.val rfl (.inl rfl) (HV.mv rfl) ?_
  refine AL.val rfl (.inl rfl) (HV.len Try.underlying24 rfl hr.isSl) ?_
  refine AL.val rfl (.inl rfl) (HV.as rfl) ?_
  refine AL.nx ?_
  refine AW.seq ?_
  refine AW.block ?_
  refine AW.loop (σ := Nat × Int) (fun ⟨i, x⟩ => [(0, v), (2, (.slice none 0 0)), (3, .int .i64 x)]) (fun ⟨i, x⟩ H' => Ext H H' ∧ i ≤ l.length ∧ x = (i : Int) ∧ cutTo l i = stripM l ∧ True) (fun ⟨i, x⟩ => i) (l.length, (l.length : Int)) ⟨X0, Nat.le_refl _, rfl, rfl, trivial⟩ ⟨rfl, rfl, rfl, trivial⟩ ?_
  rintro ⟨i, x⟩ H2 ⟨X3, hi, hx, hcut, _⟩
  refine AW.seq ?_
  refine AW.rs ?_
  refine AL.val rfl (.inl rfl) (HV.mv rfl) ?_
  refine AL.val rfl (.inl rfl) (HV.gti rfl rfl) ?_
  refine AL.val rfl (.inl rfl) (HV.mv rfl) ?_
  by_cases c4 : x > 0
  · -- true
    have c4_ : decide (x > 0) = true := decide_eq_true c4
    rw [c4_]
    refine AL.val rfl (.inr ⟨_, _, _, rfl, rfl, rfl⟩) (HV.mv rfl) ?_
    refine AL.val rfl (.inr ⟨_, _, _, rfl, rfl, rfl⟩) (HV.mv rfl) ?_
    refine AL.val rfl (.inr ⟨_, _, _, rfl, rfl, rfl⟩) (HV.sub rfl rfl (by omega)) ?_
    obtain ⟨p5, z6, cs7, hz8, hK9, hC10, hP11⟩ := RdK.ix (q := x - 1) hr sl24 (by omega) (by omega)
    obtain rfl : cs7 = [.int .i64 z6] := hK9
    refine AL.val rfl (.inr ⟨_, _, _, rfl, rfl, rfl⟩) (hP11 rfl rfl) ?_
    refine AL.val rfl (.inr ⟨_, _, _, rfl, rfl, rfl⟩) (HV.ld rfl va2 (cells_first (hC10.ext X3) rfl)) ?_
    refine AL.val rfl (.inr ⟨_, _, _, rfl, rfl, rfl⟩) (HV.eqi rfl rfl) ?_
    refine AL.val rfl (.inl rfl) (HV.pickT rfl rfl) ?_
    refine AL.nx ?_
    refine AW.ifd rfl (fun c12 => ?_) (fun c12 => ?_)
    · -- then
      refine AW.skip ?_
      refine nrm_and ?_
      refine AW.block ?_
      refine AW.reg ?_
      refine AL.val rfl (.inl rfl) (HV.mv rfl) ?_
      refine AL.val rfl (.inl rfl) (HV.sub rfl rfl (by omega)) ?_
      refine AL.val rfl (.inl rfl) (HV.as rfl) ?_
      refine AL.nil ?_
      refine nrm_blk (nrm_and ?_)
      exact ⟨(i - 1, x - 1), ⟨X3, by omega, by omega, by have h0 : l.getD (i - 1) 0 = 0 := (gd hz8 (by omega)).trans (by omega); have q := cut_succ h0; rw [show i - 1 + 1 = i by omega] at q; exact q.symm.trans hcut, trivial⟩, by first | omega | (dsimp only; omega), ⟨rfl, rfl, rfl, trivial⟩⟩
    · -- else
      refine AW.exit ?_
      refine ex_and (ex_and (ex_blk ?_))
      refine nrm_and ?_
      refine AW.rs ?_
      refine AL.val rfl (.inl rfl) (HV.mv rfl) ?_
      refine AL.val rfl (.inl rfl) (HV.mv rfl) ?_
      have X16 := Ext.refl H2
      obtain ⟨v13, hr14, hP15⟩ := RdK.cutH (q := x) (hr.ext X3) sl24 (by omega) (by omega)
      refine AL.val rfl (.inl rfl) (hP15 rfl rfl) ?_
      have o17 := X3.bd
      have o18 := X16.bd
      refine AL.w rfl (.inl rfl) (WV.call fn89 rfl (l00Own_ok hr14 (by simp; omega))) ?_
      rintro v19 H20 ⟨hx21, ho22⟩
      have X23 := Ext.trans X3 hx21
      have X24 := Ext.trans X16 hx21
      refine AL.val rfl (.inl rfl) (HV.as rfl) ?_
      refine AL.nx ?_
      refine AW.ret ?_
      refine post_one rfl rfl ?_ (.inr rfl)
      exact ⟨X23, by have e : stripM l = l.take i := (hcut.symm.trans (cut_stop (.inr (by rw [(gd hz8 (by omega) : l.getD (i - 1) 0 = z6)]; assumption)))); have q := ho22.okk (fun b hb _ => Nat.le_trans o17 hb); rw [hx, Int.toNat_natCast] at q; rw [e]; exact q⟩
  · -- false
    have c4_ : decide (x > 0) = false := decide_eq_false c4
    rw [c4_]
    refine AL.off rfl rfl (by decide) rfl ?_
    refine AL.off rfl rfl (by decide) rfl ?_
    refine AL.off rfl rfl (by decide) rfl ?_
    refine AL.off rfl rfl (by decide) rfl ?_
    refine AL.off rfl rfl (by decide) rfl ?_
    refine AL.off rfl rfl (by decide) rfl ?_
    refine AL.val rfl (.inl rfl) (HV.pickF rfl rfl) ?_
    refine AL.nx ?_
    refine AW.cond rfl (fun h => by cases h) (fun _ => ?_)
    refine AW.exit ?_
    refine ex_and (ex_and (ex_blk ?_))
    refine nrm_and ?_
    refine AW.rs ?_
    refine AL.val rfl (.inl rfl) (HV.mv rfl) ?_
    refine AL.val rfl (.inl rfl) (HV.mv rfl) ?_
    have X30 := Ext.refl H2
    obtain ⟨v27, hr28, hP29⟩ := RdK.cutH (q := x) (hr.ext X3) sl24 (by omega) (by omega)
    refine AL.val rfl (.inl rfl) (hP29 rfl rfl) ?_
    have o31 := X3.bd
    have o32 := X30.bd
    refine AL.w rfl (.inl rfl) (WV.call fn89 rfl (l00Own_ok hr28 (by simp; omega))) ?_
    rintro v33 H34 ⟨hx35, ho36⟩
    have X37 := Ext.trans X3 hx35
    have X38 := Ext.trans X30 hx35
    refine AL.val rfl (.inl rfl) (HV.as rfl) ?_
    refine AL.nx ?_
    refine AW.ret ?_
    refine post_one rfl rfl ?_ (.inr rfl)
    exact ⟨X37, by have e : stripM l = l.take i := (hcut.symm.trans (cut_stop (.inl (by omega)))); have q := ho36.okk (fun b hb _ => Nat.le_trans o31 hb); rw [hx, Int.toNat_natCast] at q; rw [e]; exact q⟩

set_option maxRecDepth 100000 in
theorem scaled_ok {v : Value} {l : List Int} {ok : Nat → Prop} {p t : Int} (ho : OwnK kI 2 W H ok v l) (hp : 2 ≤ p ∧ p ≤ 31) (hle : elems p l) (ht : 0 ≤ t ∧ t ≤ p - 1) : ACalls Try.prog W 110 #[.int .i64 p, v, .int .i64 t] H (fun r H' => But (fun b => some b = v.ownBlock) H H' ∧ OwnK kI 2 W H' ok v (scl p t l)) := by
  refine ACalls.of (args := [.int .i64 p, v, .int .i64 t]) Try.func110 rfl rfl ?_
  have X0 := Ext.refl H
  have B0 := But.refl (fun b => some b = v.ownBlock) H
  have hmL := ho.rd.max
  refine AW.rs ?_
  refine AL.val rfl (.inl rfl) (HV.mv rfl) ?_
  refine AL.val rfl (.inl rfl) (HV.len Try.underlying24 rfl ho.rd.isSl) ?_
  refine AL.val rfl (.inl rfl) (HV.mv rfl) ?_
  refine AL.nx ?_
  refine AW.block ?_
  refine AW.loop (σ := Nat × List Int) (fun ⟨i, k⟩ => [(0, .int .i64 p), (1, v), (2, .int .i64 t), (8, .int .i64 (l.length : Int)), (1, v), (9, .int .i64 (i : Int))]) (fun ⟨i, k⟩ H' => i ≤ l.length ∧ k = updF 0 (fun j => l.getD j 0 * t % p) l i ∧ k.length = l.length ∧ OwnK kI 2 W H' ok v k ∧ But (fun b => some b = v.ownBlock) H H' ∧ True) (fun ⟨i, k⟩ => l.length - i) (0, l) ⟨Nat.zero_le _, (updF_zero _ _ _).symm, rfl, ho, B0, trivial⟩ ⟨rfl, rfl, rfl, rfl, rfl, rfl, trivial⟩ ?_
  rintro ⟨i, k⟩ H1 ⟨hi, hk, hk2, hoL, hB, _⟩
  refine AW.rs ?_
  refine AL.val rfl (.inl rfl) (HV.lti rfl rfl) ?_
  refine AL.nx ?_
  refine AW.seq ?_
  refine AW.ifd rfl (fun c2 => ?_) (fun c2 => ?_)
  · -- then
    refine AW.skip ?_
    refine nrm_and ?_
    refine AW.seq ?_
    refine AW.block ?_
    refine AW.rs ?_
    refine AL.val rfl (.inl rfl) (HV.mv rfl) ?_
    refine AL.val rfl (.inl rfl) (HV.as rfl) ?_
    refine AL.nx ?_
    refine AW.reg ?_
    refine AL.val rfl (.inl rfl) (HV.mv rfl) ?_
    refine AL.val rfl (.inl rfl) (HV.mv rfl) ?_
    refine AL.val rfl (.inl rfl) (HV.mv rfl) ?_
    refine AL.val rfl (.inl rfl) (HV.mv rfl) ?_
    obtain ⟨g3, z4, cs5, hz6, hK7, hC8, hg9, hP10⟩ := OwnK.ix (q := (i : Int)) hoL sl24 (by omega) (by omega)
    have X11 := Ext.refl H1
    obtain rfl : cs5 = [.int .i64 z4] := hK7
    refine AL.val rfl (.inl rfl) (hP10 rfl rfl) ?_
    refine AL.val rfl (.inl rfl) (HV.ld rfl va2 (cells_first hC8 rfl)) ?_
    refine AL.val rfl (.inl rfl) (HV.mv rfl) ?_
    have e16 : z4 = l.getD i 0 := updF_at (by rw [← hk]; exact hz6)
    have b16 := getD_in hle (show 0 < p by omega) i
    have q16 := mul31 (a := z4) (b := t) (by omega) (by omega) (by omega) (by omega)
    refine AL.val rfl (.inl rfl) (HV.mul rfl rfl (by omega)) ?_
    refine AL.val rfl (.inl rfl) (HV.mv rfl) ?_
    refine AL.val rfl (.inl rfl) (HV.rem rfl rfl (by omega)) ?_
    obtain ⟨g12, z13, cs14, hz15, hK16, hC17, hg18, hP19⟩ := OwnK.ix (q := (i : Int)) hoL sl24 (by omega) (by omega)
    obtain rfl : cs14 = [.int .i64 z13] := hK16
    refine AL.val rfl (.inl rfl) (hP19 rfl rfl) ?_
    refine AL.w0 (.inl rfl) (WV.stK (okx := fun _ => False) (x' := (z4 * t) % p) hoL hg18 rfl rfl va2 (by omega) rfl (fun _ h => h.elim)) ?_
    rintro _ H20 ⟨hx21, ho22⟩
    have B24 := But.trans hB hx21
    have ho25 := ho22.okk (ok' := ok) (fun b hb _ => hb.elim id False.elim)
    refine AL.nil ?_
    refine nrm_blk (nrm_and ?_)
    refine AW.reg ?_
    refine AL.val rfl (.inl rfl) (HV.add rfl rfl (by omega)) ?_
    refine AL.val rfl (.inl rfl) (HV.mv rfl) ?_
    refine AL.nil ?_
    refine nrm_and ?_
    exact ⟨(i + 1, (k.set ((i : Int) : Int).toNat ((z4 * t) % p))), ⟨by omega, by rw [hk]; exact updF_set (by rw [e16]), by simp [hk2], ho25, B24, trivial⟩, by first | omega | (dsimp only; omega), ⟨rfl, rfl, rfl, rfl, rfl, rfl, trivial⟩⟩
  · -- else
    refine AW.exit ?_
    refine ex_and (ex_and (ex_blk ?_))
    refine post_none rfl ?_ (.inl rfl)
    exact ⟨hB, by have e : k = scl p t l := (by rw [hk, updF_end (by omega)]; rfl); rw [← e]; exact hoL⟩

set_option maxRecDepth 100000 in
theorem takeOff_ok {v vb : Value} {lo l : List Int} {ok ok2 : Nat → Prop} {p x : Int} {n : Nat} (ho : OwnK kI 2 W H ok v lo) (hr : RdK kI W H ok2 vb l) (hne : ∀ b, ok2 b → some b = v.ownBlock → False) (hp : 2 ≤ p ∧ p ≤ 31) (he : lo = 0 :: l) (hle : elems p l) (hx : 0 ≤ x ∧ x ≤ p - 1) (hn : l.length ≤ n) (hl : l.length ≤ 1000) : ACalls Try.prog W 118 #[.int .i64 p, (cutv v n), vb, .int .i64 x] H (fun r H' => But (fun b => some b = v.ownBlock) H H' ∧ OwnK kI 2 W H' ok v (mulLin p l x)) := by
  refine ACalls.of (args := [.int .i64 p, (cutv v n), vb, .int .i64 x]) Try.func118 rfl rfl ?_
  have X0 := Ext.refl H
  have B0 := But.refl (fun b => some b = v.ownBlock) H
  have hmL := ho.rd.max
  have hll : lo.length = l.length + 1 := by rw [he]; rfl
  have hlo : elems p lo := by rw [he]; exact zcons_in (by omega) hle
  refine AW.rs ?_
  refine AL.val rfl (.inl rfl) (HV.mv rfl) ?_
  refine AL.val rfl (.inl rfl) (HV.len Try.underlying24 rfl hr.isSl) ?_
  refine AL.val rfl (.inl rfl) (HV.mv rfl) ?_
  refine AL.nx ?_
  refine AW.block ?_
  refine AW.loop (σ := Nat × List Int) (fun ⟨i, k⟩ => [(0, .int .i64 p), (1, (cutv v n)), (3, .int .i64 x), (10, vb), (11, .int .i64 (l.length : Int)), (1, (cutv v n)), (12, .int .i64 (i : Int))]) (fun ⟨i, k⟩ H' => RdK kI W H' (ok2) vb l ∧ i ≤ l.length ∧ k = updF 0 (offF p x lo l) lo i ∧ k.length = lo.length ∧ OwnK kI 2 W H' ok v k ∧ But (fun b => some b = v.ownBlock) H H' ∧ True) (fun ⟨i, k⟩ => l.length - i) (0, lo) ⟨hr, Nat.zero_le _, (updF_zero _ _ _).symm, rfl, ho, B0, trivial⟩ ⟨rfl, rfl, rfl, rfl, rfl, rfl, rfl, trivial⟩ ?_
  rintro ⟨i, k⟩ H1 ⟨ho2, hi, hk, hk2, hoL, hB, _⟩
  refine AW.rs ?_
  refine AL.val rfl (.inl rfl) (HV.lti rfl rfl) ?_
  refine AL.nx ?_
  refine AW.seq ?_
  refine AW.ifd rfl (fun c3 => ?_) (fun c3 => ?_)
  · -- then
    refine AW.skip ?_
    refine nrm_and ?_
    refine AW.seq ?_
    refine AW.block ?_
    refine AW.rs ?_
    refine AL.val rfl (.inl rfl) (HV.mv rfl) ?_
    have X11 := Ext.refl H1
    obtain ⟨p4, z5, cs6, hz7, hK8, hC9, hP10⟩ := RdK.ix (q := (i : Int)) ho2 sl24 (by omega) (by omega)
    obtain rfl : cs6 = [.int .i64 z5] := hK8
    refine AL.val rfl (.inl rfl) (hP10 rfl rfl) ?_
    refine AL.val rfl (.inl rfl) (HV.ld rfl va2 (cells_first hC9 rfl)) ?_
    refine AL.val rfl (.inl rfl) (HV.as rfl) ?_
    refine AL.val rfl (.inl rfl) (HV.as rfl) ?_
    refine AL.nx ?_
    refine AW.reg ?_
    refine AL.val rfl (.inl rfl) (HV.mv rfl) ?_
    refine AL.val rfl (.inl rfl) (HV.mv rfl) ?_
    refine AL.val rfl (.inl rfl) (HV.mv rfl) ?_
    refine AL.val rfl (.inl rfl) (HV.mv rfl) ?_
    obtain ⟨g12, z13, cs14, hz15, hK16, hC17, hg18, hP19⟩ := OwnK.ixA (n := n) (q := (i : Int)) hoL sl24 (by omega) (by omega) (by omega)
    obtain rfl : cs14 = [.int .i64 z13] := hK16
    refine AL.val rfl (.inl rfl) (hP19 rfl rfl) ?_
    refine AL.val rfl (.inl rfl) (HV.ld rfl va2 (cells_first hC17 rfl)) ?_
    refine AL.val rfl (.inl rfl) (HV.mv rfl) ?_
    refine AL.val rfl (.inl rfl) (HV.mv rfl) ?_
    refine AL.val rfl (.inl rfl) (HV.sub rfl rfl (by omega)) ?_
    refine AL.val rfl (.inl rfl) (HV.mv rfl) ?_
    have e21 : z13 = lo.getD i 0 := updF_at (by rw [← hk]; exact hz15)
    have b21 := getD_in hlo (show 0 < p by omega) i
    have b15 := elem_at hle hz7
    have q15 := mul31 (a := p - x) (b := z5) (by omega) (by omega) (by omega) (by omega)
    refine AL.val rfl (.inl rfl) (HV.mul rfl rfl (by omega)) ?_
    refine AL.val rfl (.inl rfl) (HV.add rfl rfl (by omega)) ?_
    refine AL.val rfl (.inl rfl) (HV.mv rfl) ?_
    refine AL.val rfl (.inl rfl) (HV.rem rfl rfl (by omega)) ?_
    obtain ⟨g20, z21, cs22, hz23, hK24, hC25, hg26, hP27⟩ := OwnK.ixA (n := n) (q := (i : Int)) hoL sl24 (by omega) (by omega) (by omega)
    obtain rfl : cs22 = [.int .i64 z21] := hK24
    refine AL.val rfl (.inl rfl) (hP27 rfl rfl) ?_
    refine AL.w0 (.inl rfl) (WV.stK (okx := fun _ => False) (x' := (z13 + ((p - x) * z5)) % p) hoL hg26 rfl rfl va2 (by omega) rfl (fun _ h => h.elim)) ?_
    rintro _ H28 ⟨hx29, ho30⟩
    have B32 := But.trans hB hx29
    have ho33 := ho2.but hx29 (fun b h1 _ e => hne b h1 e) (fun b hb => (hoL.blk b hb).2.2)
    have ho34 := ho30.okk (ok' := ok) (fun b hb _ => hb.elim id False.elim)
    refine AL.nil ?_
    refine nrm_blk (nrm_and ?_)
    refine AW.reg ?_
    refine AL.val rfl (.inl rfl) (HV.add rfl rfl (by omega)) ?_
    refine AL.val rfl (.inl rfl) (HV.mv rfl) ?_
    refine AL.nil ?_
    refine nrm_and ?_
    exact ⟨(i + 1, (k.set ((i : Int) : Int).toNat ((z13 + ((p - x) * z5)) % p))), ⟨ho33, by omega, by rw [hk]; exact updF_set (by unfold offF; rw [e21, (gd hz7 rfl : l.getD i 0 = z5)]), by simp [hk2], ho34, B32, trivial⟩, by first | omega | (dsimp only; omega), ⟨rfl, rfl, rfl, rfl, rfl, rfl, rfl, trivial⟩⟩
  · -- else
    refine AW.exit ?_
    refine ex_and (ex_and (ex_blk ?_))
    refine post_none rfl ?_ (.inl rfl)
    exact ⟨hB, by have e : k = mulLin p l x := (by rw [hk, show i = l.length by omega, he]; exact off_mul (by omega) hle); rw [← e]; exact hoL⟩

set_option maxRecDepth 100000 in
theorem through_ok {v : Value} {l : List (Int × Int)} {ok : Nat → Prop} (hr : RdK (kP kI kI) W H ok v l) {p : Int} (hv : vS p l) : ACalls Try.prog W 77 #[.int .i64 p, v] H (fun r H' => RdK kI W H' (fun _ => True) r (throughM p (l.map Prod.fst) (l.map Prod.snd)) ∧ Ext H H') := by
  refine ACalls.of (args := [.int .i64 p, v]) Try.func77 rfl rfl ?_
  have X0 := Ext.refl H
  have hm1 := hr.max
  have hp := hv.1.1
  have hq := isPr_of hv.1
  have hl10 := vS_len hv
  refine AW.rs ?_
  refine AL.val rfl (.inl rfl) (HV.as rfl) ?_
  refine AL.nx ?_
  refine AW.rs ?_
  have o2 := X0.bd
  refine AL.w rfl (.inl rfl) (WV.bsK (K := kI) (l := ([] : List Int)) (css := []) sl24 rfl rfl (by first | rfl | (simp [Instr.fill, Value.cells, kI, kB, kU, kS, Kd.sc]; done) | (simp [Instr.fill, Value.cells, kI, kB, kU, kS, Kd.sc, rng1, rng2, rng3, rng4, kP])) rfl segs_nil) ?_
  rintro v3 H4 ⟨hx5, ho6⟩
  have X7 := Ext.trans X0 hx5
  refine AL.val rfl (.inl rfl) (HV.as rfl) ?_
  refine AL.nx ?_
  refine AW.seq ?_
  refine AW.rs ?_
  refine AL.val rfl (.inl rfl) (HV.mv rfl) ?_
  refine AL.val rfl (.inl rfl) (HV.len Try.underlying27 rfl hr.isSl) ?_
  refine AL.val rfl (.inl rfl) (HV.mv rfl) ?_
  refine AL.nx ?_
  refine AW.block ?_
  refine AW.loop (σ := Nat × Value × List Int) (fun ⟨i, vo, o⟩ => [(0, .int .i64 p), (1, v), (4, (.slice none 0 0)), (14, v), (15, .int .i64 (l.length : Int)), (5, vo), (16, .int .i64 (i : Int))]) (fun ⟨i, vo, o⟩ H' => Ext H H' ∧ i ≤ l.length ∧ o = thr p l i ∧ RdK kI W H' (fun _ => True) vo o ∧ True) (fun ⟨i, vo, o⟩ => l.length - i) (0, v3, []) ⟨X7, Nat.zero_le _, rfl, ho6.rd.okk (fun _ _ _ => trivial), trivial⟩ ⟨rfl, rfl, rfl, rfl, rfl, rfl, rfl, trivial⟩ ?_
  rintro ⟨i, vo, o⟩ H9 ⟨X10, hi, hov, hro, _⟩
  have X11 := Ext.refl H9
  refine AW.rs ?_
  refine AL.val rfl (.inl rfl) (HV.lti rfl rfl) ?_
  refine AL.nx ?_
  refine AW.seq ?_
  refine AW.ifd rfl (fun c12 => ?_) (fun c12 => ?_)
  · -- then
    refine AW.skip ?_
    refine nrm_and ?_
    refine AW.seq ?_
    refine AW.block ?_
    refine AW.rs ?_
    refine AL.val rfl (.inl rfl) (HV.mv rfl) ?_
    obtain ⟨p13, z14, cs15, hz16, hK17, hC18, hP19⟩ := RdK.ix (q := (i : Int)) hr sl27 (by omega) (by omega)
    obtain ⟨cs20, cs21, rfl, hK22, hK23⟩ := hK17
    obtain rfl : cs20 = [.int .i64 z14.1] := hK22
    obtain rfl : cs21 = [.int .i64 z14.2] := hK23
    refine AL.val rfl (.inl rfl) (hP19 rfl rfl) ?_
    refine AL.val rfl (.inl rfl) (HV.lda (cs := [.int .i64 z14.1, .int .i64 z14.2]) rfl va68 (hC18.ext X10)) ?_
    refine AL.w rfl (.inl rfl) (WV.al ze68 rfl) ?_
    rintro _ H25 ⟨b24, rfl, hx26, hn27, hb28⟩
    have o29 := Nat.le_trans X10.bd hn27
    have o30 := Nat.le_trans X11.bd hn27
    have X31 := Ext.trans X10 hx26
    have X32 := Ext.trans X11 hx26
    have X33 := Ext.refl H25
    refine AL.val rfl (.inl rfl) (HV.as rfl) ?_
    refine AL.w0 (.inl rfl) (WV.st rfl rfl va68 rfl hb28 (Nat.le_of_ble_eq_true rfl) (one_cons rfl (one_cons rfl one_nil))) ?_
    rintro _ H34 ⟨hx35, hb36⟩
    have X37 := Ext.thru X31 hx35 (fun z_ hz_ => by rw [hz_]; exact o29)
    have X38 := Ext.thru X32 hx35 (fun z_ hz_ => by rw [hz_]; exact o30)
    have hb40 : At W H34 b24 ⟨68, [.int .i64 z14.1, .int .i64 z14.2], 2⟩ := hb36
    refine AL.nx ?_
    refine AW.rs ?_
    have X41 := Ext.refl H34
    have y42 := hb40.lt
    have o43 := X37.bd
    have o44 := X38.bd
    have o45 := X41.bd
    refine AL.w rfl (.inl rfl) (WV.bsK (K := kI) (l := ([1] : List Int)) (css := [[.int .i64 1]]) sl24 rfl rfl (by first | rfl | (simp [Instr.fill, Value.cells, kI, kB, kU, kS, Kd.sc]; done) | (simp [Instr.fill, Value.cells, kI, kB, kU, kS, Kd.sc, rng1, rng2, rng3, rng4, kP])) rfl (segs_cons rfl segs_nil)) ?_
    rintro v46 H47 ⟨hx48, ho49⟩
    have X50 := Ext.trans X37 hx48
    have X51 := Ext.trans X38 hx48
    have X52 := Ext.trans X41 hx48
    have hb53 := hb40.ext hx48
    refine AL.val rfl (.inl rfl) (HV.as rfl) ?_
    refine AL.val rfl (.inl rfl) (HV.as rfl) ?_
    refine AL.nx ?_
    refine AW.seq ?_
    refine AW.rs ?_
    refine AL.val rfl (.inl rfl) (HV.mv rfl) ?_
    refine AL.val rfl (.inl rfl) (HV.len Try.underlying27 rfl hr.isSl) ?_
    refine AL.val rfl (.inl rfl) (HV.mv rfl) ?_
    refine AL.nx ?_
    refine AW.block ?_
    have hz19_ := hz16
    have ho55 := ho49.narrow (ok' := fun b => H34.bd ≤ b ∧ some b = v46.ownBlock) kI_flat (fun b q => ⟨(ho49.blk b q).1, q⟩)
    refine AW.loop (σ := Nat × Value × List Int × Int) (fun ⟨j, vk, k, d⟩ => [(0, .int .i64 p), (1, v), (4, (.slice none 0 0)), (5, vo), (6, .int .i64 (i : Int)), (7, .pointer (some ⟨b24, 0, none⟩)), (14, v), (15, .int .i64 (l.length : Int)), (16, .int .i64 (i : Int)), (17, .bool (decide ((i : Int) < (l.length : Int)))), (18, .int .i64 (i : Int)), (19, .pointer (some p13)), (20, .agg #[.int .i64 z14.1, .int .i64 z14.2]), (21, v46), (22, v), (23, .int .i64 (l.length : Int)), (8, vk), (9, .int .i64 d), (24, .int .i64 (j : Int))]) (fun ⟨j, vk, k, d⟩ H' => Ext H H' ∧ Ext H9 H' ∧ Ext H34 H' ∧ At W H' b24 ⟨68, [.int .i64 z14.1, .int .i64 z14.2], 2⟩ ∧ j ≤ l.length ∧ k = prt p l i j ∧ d = den p l i j ∧ OwnK kI 2 W H' (fun b => H34.bd ≤ b ∧ some b = vk.ownBlock) vk k ∧ True) (fun ⟨j, vk, k, d⟩ => l.length - j) (0, v46, [1], 1) ⟨X50, X51, X52, hb53, Nat.zero_le _, rfl, rfl, ho55, trivial⟩ ⟨rfl, rfl, rfl, rfl, rfl, rfl, rfl, rfl, rfl, rfl, rfl, rfl, rfl, rfl, rfl, rfl, rfl, rfl, rfl, trivial⟩ ?_
    rintro ⟨j, vk, k, d⟩ H56 ⟨X57, X58, X59, hb60, hj, hkp, hdp, hoL, _⟩
    have hkl := prt_len p l i j
    rw [← hkp] at hkl
    have hdb := den_in hv (show i < l.length by omega) j hj
    rw [← hdp] at hdb
    have hke : elems p k := by rw [hkp]; exact prt_in (by omega) l i j
    refine AW.rs ?_
    refine AL.val rfl (.inl rfl) (HV.lti rfl rfl) ?_
    refine AL.nx ?_
    refine AW.seq ?_
    refine AW.ifd rfl (fun c61 => ?_) (fun c61 => ?_)
    · -- then
      refine AW.skip ?_
      refine nrm_and ?_
      refine AW.seq ?_
      refine AW.block ?_
      refine AW.rs ?_
      refine AL.val rfl (.inl rfl) (HV.mv rfl) ?_
      obtain ⟨p62, z63, cs64, hz65, hK66, hC67, hP68⟩ := RdK.ix (q := (j : Int)) hr sl27 (by omega) (by omega)
      obtain ⟨cs69, cs70, rfl, hK71, hK72⟩ := hK66
      obtain rfl : cs69 = [.int .i64 z63.1] := hK71
      obtain rfl : cs70 = [.int .i64 z63.2] := hK72
      refine AL.val rfl (.inl rfl) (hP68 rfl rfl) ?_
      refine AL.val rfl (.inl rfl) (HV.lda (cs := [.int .i64 z63.1, .int .i64 z63.2]) rfl va68 (hC67.ext X57)) ?_
      have a78 := hoL.ltb
      refine AL.w rfl (.inl rfl) (WV.al ze68 rfl) ?_
      rintro _ H74 ⟨b73, rfl, hx75, hn76, hb77⟩
      have o79 := Nat.le_trans X57.bd hn76
      have o80 := Nat.le_trans X58.bd hn76
      have o81 := Nat.le_trans X59.bd hn76
      have a82 : ∀ b', some b' = vk.ownBlock → b' = b73 → False := fun b' h1 h2 => by have x1 := a78 b' h1; have x2 := hn76; omega
      have ne83 : b24 ≠ b73 := by have := hb60.lt; omega
      have X84 := Ext.trans X57 hx75
      have X85 := Ext.trans X58 hx75
      have X86 := Ext.trans X59 hx75
      have ho87 := hoL.ext hx75
      have hb88 := hb60.ext hx75
      have X89 := Ext.refl H74
      refine AL.val rfl (.inl rfl) (HV.as rfl) ?_
      refine AL.w0 (.inl rfl) (WV.st rfl rfl va68 rfl hb77 (Nat.le_of_ble_eq_true rfl) (one_cons rfl (one_cons rfl one_nil))) ?_
      rintro _ H90 ⟨hx91, hb92⟩
      have X93 := Ext.thru X84 hx91 (fun z_ hz_ => by rw [hz_]; exact o79)
      have X94 := Ext.thru X85 hx91 (fun z_ hz_ => by rw [hz_]; exact o80)
      have X95 := Ext.thru X86 hx91 (fun z_ hz_ => by rw [hz_]; exact o81)
      have ho97 := ho87.but hx91 (fun b hb _ e => a82 b hb.2 e) (fun z_ hz_ => by rw [hz_]; exact hb77.w)
      have hb98 := hb88.but hx91 ne83
      have hb99 : At W H90 b73 ⟨68, [.int .i64 z63.1, .int .i64 z63.2], 2⟩ := hb92
      refine AL.nx ?_
      refine AW.seq ?_
      refine AW.rs ?_
      refine AL.val rfl (.inl rfl) (HV.mv rfl) ?_
      refine AL.val rfl (.inl rfl) (HV.mv rfl) ?_
      refine AL.val rfl (.inl rfl) (HV.eqi rfl rfl) ?_
      refine AL.nx ?_
      refine AW.ifd rfl (fun c100 => ?_) (fun c100 => ?_)
      · -- then
        refine AW.exit ?_
        refine ex_and (ex_blk ?_)
        refine nrm_and ?_
        refine AW.reg ?_
        refine AL.val rfl (.inl rfl) (HV.add rfl rfl (by omega)) ?_
        refine AL.val rfl (.inl rfl) (HV.mv rfl) ?_
        refine AL.nil ?_
        refine nrm_and ?_
        exact ⟨(j + 1, vk, k, d), ⟨X93, X94, X95, hb98, by omega, by rw [prt_succ, if_pos (by omega)]; exact hkp, by rw [den_succ, if_pos (by omega)]; exact hdp, ho97, trivial⟩, by first | omega | (dsimp only; omega), ⟨rfl, rfl, rfl, rfl, rfl, rfl, rfl, rfl, rfl, rfl, rfl, rfl, rfl, rfl, rfl, rfl, rfl, rfl, rfl, trivial⟩⟩
      · -- else
        refine AW.skip ?_
        refine nrm_and ?_
        refine AW.rs ?_
        have X101 := Ext.refl H90
        have hr102 := ho97.rd.lo
        have y19 := vS_px hv (show i < l.length by omega)
        rw [px_at hz19_] at y19
        have y27 := vS_px hv (show j < l.length by omega)
        rw [px_at hz65] at y27
        have y103 := hb98.lt
        have y104 := hb99.lt
        have o105 := X93.bd
        have o106 := X94.bd
        have o107 := X95.bd
        have o108 := X101.bd
        have a109 := ho97.ltb
        refine AL.w rfl (.inl rfl) (WV.bsK (K := kI) (l := ([0] : List Int)) (css := [[.int .i64 0]]) sl24 rfl rfl (by first | rfl | (simp [Instr.fill, Value.cells, kI, kB, kU, kS, Kd.sc]; done) | (simp [Instr.fill, Value.cells, kI, kB, kU, kS, Kd.sc, rng1, rng2, rng3, rng4, kP])) rfl (segs_cons rfl segs_nil)) ?_
        rintro v110 H111 ⟨hx112, ho113⟩
        have X114 := Ext.trans X93 hx112
        have X115 := Ext.trans X94 hx112
        have X116 := Ext.trans X95 hx112
        have X117 := Ext.trans X101 hx112
        have ho118 := ho97.ext hx112
        have hb119 := hb98.ext hx112
        have hb120 := hb99.ext hx112
        refine AL.val rfl (.inl rfl) (HV.mv rfl) ?_
        have X122 := Ext.refl H111
        refine AL.w rfl (.inl rfl) (WV.apk sl24 rfl rfl ho113 (hr102.lo.ext X117) (by simp; omega) (by simp; omega) (fun b hb _ e => by have h1 : H90.bd ≤ b := (ho113.blk b e).1; have h2 : b < H90.bd := hb; have h3 := o108; omega)) ?_
        rintro v123 H124 ⟨hx125, ho126, hb127⟩
        have ho128 := ho126.narrow (ok' := fun b => H90.bd ≤ b) kI_flat (fun b q => (hb127 b q).elim (fun e => (ho113.blk b e).1) (fun e => Nat.le_trans X117.bd e))
        have X129 := Ext.thru X114 hx125 (fun b hb => Nat.le_trans o105 (ho113.blk b hb).1)
        have X130 := Ext.thru X115 hx125 (fun b hb => Nat.le_trans o106 (ho113.blk b hb).1)
        have X131 := Ext.thru X116 hx125 (fun b hb => Nat.le_trans o107 (ho113.blk b hb).1)
        have X132 := Ext.thru X117 hx125 (fun b hb => Nat.le_trans o108 (ho113.blk b hb).1)
        have ho134 := ho118.but hx125 (fun b hb _ e => by have h1 := a109 b hb.2; have h2 : H90.bd ≤ b := (ho113.blk b e).1; omega) (fun b hb => (ho113.blk b hb).2.2)
        have hb135 := hb119.but hx125 (fun e => by have q : H90.bd ≤ _ := (ho113.blk _ e).1; omega)
        have hb136 := hb120.but hx125 (fun e => by have q : H90.bd ≤ _ := (ho113.blk _ e).1; omega)
        refine AL.val rfl (.inl rfl) (HV.as rfl) ?_
        refine AL.nx ?_
        refine AW.seq ?_
        refine AW.draw' [0, 0, 0, 4, 14, 0, 0, 64, 255] mixed (by rfl) ?_
        refine Dr.read 0 _ 35 _ rfl rfl rfl rfl rfl (RV.of (by intro _ _ h; cases h) (.inl rfl) (fun _ xd => HV.mv rfl)) ?_
        refine Dr.read 1 _ 36 _ rfl rfl rfl rfl rfl (RV.of (by intro _ _ h; cases h) (.inl rfl) (fun _ xd => HV.mv rfl)) ?_
        refine Dr.read 2 _ 37 _ rfl rfl rfl rfl rfl (RV.of (by intro _ _ h; cases h) (.inl rfl) (fun _ xd => HV.mv rfl)) ?_
        refine Dr.read 3 _ 38 _ rfl rfl rfl rfl rfl (RV.of (by intro _ _ h; cases h) (.inl rfl) (fun _ xd => HV.len Try.underlying24 rfl hr102.isSl)) ?_
        refine Dr.read 4 _ 39 _ rfl rfl rfl rfl rfl (RV.of (by intro _ _ h; cases h) (.inl rfl) (fun _ xd => (OwnK.cutA (q := (k.length : Int)) ho128 sl24 (by omega) (by simp only [List.length_append]; omega)) rfl rfl)) ?_
        refine Dr.read 5 _ 40 _ rfl rfl rfl rfl rfl (RV.of (by intro _ _ h; cases h) (.inl rfl) (fun _ xd => HV.mv rfl)) ?_
        refine Dr.read 6 _ 41 _ rfl rfl rfl rfl rfl (RV.of (by intro _ _ h; cases h) (.inl rfl) (fun _ xd => HV.fa fl68_0 rfl)) ?_
        refine Dr.read 7 _ 42 _ rfl rfl rfl rfl rfl (RV.of (by intro _ _ h; cases h) (.inl rfl) (fun _ xd => HV.ld rfl va2 (rdc_ext xd (at_cell hb136 rfl)))) ?_
        refine Dr.eff 8 _ _ rfl (by intro d h; cases h; exact ⟨rfl, rfl⟩) rfl rfl rfl (EC.of (by intro _ _ h; cases h) (.inl rfl) (WV.call fn118 rfl (takeOff_ok (n := ((k.length : Int) : Int).toNat) ho128 (hr102.ext X132) (fun b h1 e => by have h1' : b < H90.bd := h1; have h2 : H90.bd ≤ b := (ho128.blk b e).1; omega) hp rfl hke (by omega) (by omega) (by omega)))) (fun v H' h => .inr (.inl rfl)) ?_
        rintro _ H137 ⟨hx138, ho139⟩
        have X140 := Ext.thru X129 hx138 (fun b hb => Nat.le_trans o105 (ho128.blk b hb).1)
        have X141 := Ext.thru X130 hx138 (fun b hb => Nat.le_trans o106 (ho128.blk b hb).1)
        have X142 := Ext.thru X131 hx138 (fun b hb => Nat.le_trans o107 (ho128.blk b hb).1)
        have X143 := Ext.thru X132 hx138 (fun b hb => Nat.le_trans o108 (ho128.blk b hb).1)
        have ho144 := ho134.but hx138 (fun b hb _ e => by have h1 := a109 b hb.2; have h2 : H90.bd ≤ b := (ho128.blk b e).1; omega) (fun b hb => (ho128.blk b hb).2.2)
        have hb145 := hb135.but hx138 (fun e => by have q : H90.bd ≤ _ := (ho128.blk _ e).1; omega)
        have hb146 := hb136.but hx138 (fun e => by have q : H90.bd ≤ _ := (ho128.blk _ e).1; omega)
        refine Dr.fin rfl ?_
        refine nrm_and ?_
        refine AW.rs ?_
        refine AL.val rfl (.inl rfl) (HV.mv rfl) ?_
        refine AL.val rfl (.inl rfl) (HV.as rfl) ?_
        refine AL.nx ?_
        refine AW.reg ?_
        refine AL.val rfl (.inl rfl) (HV.mv rfl) ?_
        refine AL.val rfl (.inl rfl) (HV.fa fl68_0 rfl) ?_
        refine AL.val rfl (.inl rfl) (HV.ld rfl va2 (at_cell hb145 rfl)) ?_
        refine AL.val rfl (.inl rfl) (HV.fa fl68_0 rfl) ?_
        refine AL.val rfl (.inl rfl) (HV.ld rfl va2 (at_cell hb146 rfl)) ?_
        refine AL.val rfl (.inl rfl) (HV.sub rfl rfl (by omega)) ?_
        refine AL.val rfl (.inl rfl) (HV.mv rfl) ?_
        refine AL.val rfl (.inl rfl) (HV.add rfl rfl (by omega)) ?_
        have q53 := mul62 (a := d) (b := z14.1 - z63.1 + p) (by omega) (by omega) (by omega) (by omega)
        refine AL.val rfl (.inl rfl) (HV.mul rfl rfl (by omega)) ?_
        refine AL.val rfl (.inl rfl) (HV.mv rfl) ?_
        refine AL.val rfl (.inl rfl) (HV.rem rfl rfl (by omega)) ?_
        refine AL.val rfl (.inl rfl) (HV.as rfl) ?_
        refine AL.nil ?_
        refine nrm_blk (nrm_and ?_)
        refine AW.reg ?_
        refine AL.val rfl (.inl rfl) (HV.add rfl rfl (by omega)) ?_
        refine AL.val rfl (.inl rfl) (HV.mv rfl) ?_
        refine AL.nil ?_
        refine nrm_and ?_
        exact ⟨(j + 1, v123, (mulLin p k z63.1), (d * ((z14.1 - z63.1) + p)) % p), ⟨X140, X141, X142, hb145, by omega, by rw [prt_succ, if_neg (by omega), px_at hz65, ← hkp], by rw [den_succ, if_neg (by omega), px_at hz19_, px_at hz65, ← hdp], ho139.narrow kI_flat (fun b q => ⟨Nat.le_trans o107 (ho139.blk b q).1, q⟩), trivial⟩, by first | omega | (dsimp only; omega), ⟨rfl, rfl, rfl, rfl, rfl, rfl, rfl, rfl, rfl, rfl, rfl, rfl, rfl, rfl, rfl, rfl, rfl, rfl, rfl, trivial⟩⟩
    · -- else
      refine AW.exit ?_
      refine ex_and (ex_and (ex_blk ?_))
      refine nrm_and ?_
      refine AW.seq ?_
      refine AW.draw' [0, 0, 0, 0, 12, 0, 32, 124, 0, 508, 1023] mixed (by rfl) ?_
      refine Dr.read 0 _ 57 _ rfl rfl rfl rfl rfl (RV.of (by intro _ _ h; cases h) (.inl rfl) (fun _ xd => HV.mv rfl)) ?_
      refine Dr.read 1 _ 58 _ rfl rfl rfl rfl rfl (RV.of (by intro _ _ h; cases h) (.inl rfl) (fun _ xd => HV.mv rfl)) ?_
      refine Dr.read 2 _ 59 _ rfl rfl rfl rfl rfl (RV.of (by intro _ _ h; cases h) (.inl rfl) (fun _ xd => HV.mv rfl)) ?_
      refine Dr.read 3 _ 60 _ rfl rfl rfl rfl rfl (RV.of (by intro _ _ h; cases h) (.inl rfl) (fun _ xd => HV.mv rfl)) ?_
      refine Dr.read 5 _ 62 _ rfl rfl rfl rfl rfl (RV.of (by intro _ _ h; cases h) (.inl rfl) (fun _ xd => HV.fa fl68_1 rfl)) ?_
      refine Dr.read 6 _ 63 _ rfl rfl rfl rfl rfl (RV.of (by intro _ _ h; cases h) (.inl rfl) (fun _ xd => HV.ld rfl va2 (rdc_ext xd (at_cell_add hb60 rfl)))) ?_
      refine Dr.read 8 _ 65 _ rfl rfl rfl rfl rfl (RV.of (by intro _ _ h; cases h) (.inl rfl) (fun _ xd => HV.mv rfl)) ?_
      have y20 := vS_py hv (show i < l.length by omega)
      rw [gd hz19_ rfl] at y20
      have q61 := invM_spec hq hdb.1 hdb.2
      have q64 := mul31 (a := invM p d) (b := z14.2) (by omega) (by omega) (by omega) (by omega)
      refine Dr.eff 4 _ _ rfl (by intro d h; cases h; exact ⟨rfl, rfl⟩) rfl rfl rfl (EC.of (by intro _ _ h; cases h) (.inl rfl) (WV.call fn119 rfl (inverse_ok (W := W) p d hq (by omega) (by omega)))) (fun v H' h => .inl (h.2)) ?_
      rintro _ H147 ⟨rfl, hx148⟩
      have X149 := Ext.trans X57 hx148
      have X150 := Ext.trans X58 hx148
      have X151 := Ext.trans X59 hx148
      have ho152 := hoL.ext hx148
      have hb153 := hb60.ext hx148
      refine Dr.read 7 _ 64 _ rfl rfl rfl rfl rfl (RV.of (by intro _ _ h; cases h) (.inl rfl) (fun _ xd => HV.mul rfl rfl (by omega))) ?_
      refine Dr.read 9 _ 66 _ rfl rfl rfl rfl rfl (RV.of (by intro _ _ h; cases h) (.inl rfl) (fun _ xd => HV.rem rfl rfl (by omega))) ?_
      refine Dr.eff 10 _ _ rfl (by intro d h; cases h; exact ⟨rfl, rfl⟩) rfl rfl rfl (EC.of (by intro _ _ h; cases h) (.inl rfl) (WV.call fn110 rfl (scaled_ok ho152 hp hke (by have := emod_bd (show 0 < p by omega) (invM p d * z14.2); omega)))) (fun v H' h => .inr (.inl rfl)) ?_
      rintro _ H154 ⟨hx155, ho156⟩
      have X157 := Ext.thru X149 hx155 (fun b hb => Nat.le_trans o43 (ho152.blk b hb).1.1)
      have X158 := Ext.thru X150 hx155 (fun b hb => Nat.le_trans o44 (ho152.blk b hb).1.1)
      have X159 := Ext.thru X151 hx155 (fun b hb => Nat.le_trans o45 (ho152.blk b hb).1.1)
      have hb160 := hb153.but hx155 (fun e => by have q : H34.bd ≤ _ := (ho152.blk _ e).1.1; omega)
      refine Dr.fin rfl ?_
      refine nrm_and ?_
      refine AW.reg ?_
      refine AL.val rfl (.inl rfl) (HV.mv rfl) ?_
      refine AL.val rfl (.inl rfl) (HV.mv rfl) ?_
      refine AL.val rfl (.inl rfl) (HV.mv rfl) ?_
      have X161 := Ext.refl H154
      have y162 := hb160.lt
      have o163 := X157.bd
      have o164 := X158.bd
      have o165 := X159.bd
      have o166 := X161.bd
      have a167 := ho156.ltb
      refine AL.w rfl (.inl rfl) (WV.call fn109 rfl (addCu_ok (hro.ext X158) ho156.rd hp (by rw [hov]; exact thr_in (by omega) l i) (scl_in (by omega) _ _) ⟨by rw [hov]; have := thr_len p l i; omega, by rw [scl_len]; omega⟩)) ?_
      rintro v168 H169 ⟨hx170, ho171⟩
      have X172 := Ext.trans X157 hx170
      have X173 := Ext.trans X158 hx170
      have X174 := Ext.trans X159 hx170
      have X175 := Ext.trans X161 hx170
      have ho176 := ho156.ext hx170
      have hb177 := hb160.ext hx170
      refine AL.val rfl (.inl rfl) (HV.as rfl) ?_
      refine AL.nil ?_
      refine nrm_blk (nrm_and ?_)
      refine AW.reg ?_
      refine AL.val rfl (.inl rfl) (HV.add rfl rfl (by omega)) ?_
      refine AL.val rfl (.inl rfl) (HV.mv rfl) ?_
      refine AL.nil ?_
      refine nrm_and ?_
      exact ⟨(i + 1, v168, (addC p 1 o (scl p (((invM p d) * z14.2) % p) k))), ⟨X172, by omega, by have hj2 : j = l.length := (by omega); rw [thr_succ, ← hj2, ← hkp, ← hdp, ← hov, (gd hz19_ rfl : l.getD i (0, 0) = z14)], (ho171.rd).okk (fun _ _ _ => trivial), trivial⟩, by first | omega | (dsimp only; omega), ⟨rfl, rfl, rfl, rfl, rfl, rfl, rfl, trivial⟩⟩
  · -- else
    refine AW.exit ?_
    refine ex_and (ex_and (ex_blk ?_))
    refine nrm_and ?_
    refine AW.rs ?_
    refine AL.val rfl (.inl rfl) (HV.mv rfl) ?_
    refine AL.w rfl (.inl rfl) (WV.call fn108 rfl (strip_ok hro)) ?_
    rintro v179 H180 ⟨hr182, hx181⟩
    have X183 := Ext.trans X10 hx181
    have X184 := Ext.trans X11 hx181
    have X185 := Ext.refl H180
    refine AL.val rfl (.inl rfl) (HV.as rfl) ?_
    refine AL.nx ?_
    refine AW.ret ?_
    refine post_one rfl rfl ?_ (.inr rfl)
    exact ⟨by have e : o = thr p l l.length := (by rw [hov, show i = l.length by omega]); have q := hr182; rw [e, thr_through hv] at q; exact q, X183⟩

set_option maxRecDepth 100000 in
theorem cuThr_ok {v : Value} {l : List (Int × Int)} {ok : Nat → Prop} (hr : RdK (kP kI kI) W H ok v l) {p : Int} (hv : vS p l) (h7 : (throughM p (l.map Prod.fst) (l.map Prod.snd)).length ≤ 7) : ACalls Try.prog W 25 #[.int .i64 p, v] H (fun r H' => (∃ v, r = .tuple #[v, .int .i64 0] ∧ RdK kI W H' (fun _ => True) v (throughM p (l.map Prod.fst) (l.map Prod.snd))) ∧ Ext H H') := by
  refine ACalls.of (args := [.int .i64 p, v]) Try.func25 rfl rfl ?_
  have X0 := Ext.refl H
  have hm1 := hr.max
  have hl10 := vS_len hv
  refine AW.rs ?_
  refine AL.val rfl (.inl rfl) (HV.as rfl) ?_
  refine AL.val rfl (.inl rfl) (HV.as rfl) ?_
  refine AL.nx ?_
  refine AW.seq ?_
  refine AW.rs ?_
  refine AL.val rfl (.inl rfl) (HV.mv rfl) ?_
  refine AL.val rfl (.inl rfl) (HV.mv rfl) ?_
  refine AL.w rfl (.inl rfl) (WV.call fn62 rfl (implVS_ok hr p (by omega))) ?_
  rintro _ H2 ⟨rfl, hx3⟩
  have X4 := Ext.trans X0 hx3
  refine AL.val rfl (.inl rfl) (HV.not rfl) ?_
  refine AL.nx ?_
  refine AW.ifn rfl (fun c5 => ?_) (fun c5 => ?_)
  · -- then
    refine AW.rs ?_
    refine AL.val rfl (.inl rfl) (HV.as rfl) ?_
    refine AL.val rfl (.inl rfl) (HV.as rfl) ?_
    refine AL.nx ?_
    refine AW.ret ?_
    refine ret_and ?_
    refine post_two rfl rfl rfl ?_ (.inr rfl)
    exfalso; first | omega | exact c5 hv
  · -- else
    refine AW.skip ?_
    refine nrm_and ?_
    refine AW.rs ?_
    refine AL.val rfl (.inl rfl) (HV.mv rfl) ?_
    refine AL.val rfl (.inl rfl) (HV.mv rfl) ?_
    refine AL.w rfl (.inl rfl) (WV.call fn77 rfl (through_ok (hr.ext X4) (by assumption))) ?_
    rintro v6 H7 ⟨hr9, hx8⟩
    have X10 := Ext.trans X4 hx8
    have X11 := Ext.refl H7
    refine AL.val rfl (.inl rfl) (HV.as rfl) ?_
    refine AL.nx ?_
    refine AW.seq ?_
    refine AW.rs ?_
    refine AL.val rfl (.inl rfl) (HV.mv rfl) ?_
    refine AL.val rfl (.inl rfl) (HV.len Try.underlying24 rfl hr9.isSl) ?_
    refine AL.val rfl (.inl rfl) (HV.gti rfl rfl) ?_
    refine AL.nx ?_
    refine AW.ifd rfl (fun c12 => ?_) (fun c12 => ?_)
    · -- then
      refine AW.rs ?_
      refine AL.val rfl (.inl rfl) (HV.as rfl) ?_
      refine AL.val rfl (.inl rfl) (HV.as rfl) ?_
      refine AL.nx ?_
      refine AW.ret ?_
      refine ret_and ?_
      refine post_two rfl rfl rfl ?_ (.inr rfl)
      exfalso; first | omega | exact c12 hv
    · -- else
      refine AW.skip ?_
      refine nrm_and ?_
      refine AW.rs ?_
      refine AL.val rfl (.inl rfl) (HV.mv rfl) ?_
      refine AL.val rfl (.inl rfl) (HV.as rfl) ?_
      refine AL.val rfl (.inl rfl) (HV.as rfl) ?_
      refine AL.nx ?_
      refine AW.ret ?_
      refine post_two rfl rfl rfl ?_ (.inr rfl)
      exact ⟨⟨_, rfl, (hr9)⟩, X10⟩

set_option maxRecDepth 100000 in
theorem liesOn_ok {v : Value} {l : List (Int × Int)} {ok : Nat → Prop} (hr : RdK (kP kI kI) W H ok v l) {p : Int} (hv : vS p l) (n : Int) (hn : -1 ≤ n ∧ n ≤ 6) : ACalls Try.prog W 64 #[.int .i64 p, v, .int .i64 n] H (fun r H' => r = .tuple #[.bool (decide ((((throughM p (l.map Prod.fst) (l.map Prod.snd)).length : Nat) : Int) ≤ n + 1)), .int .i64 0] ∧ Ext H H') := by
  refine ACalls.of (args := [.int .i64 p, v, .int .i64 n]) Try.func64 rfl rfl ?_
  have X0 := Ext.refl H
  have hm1 := hr.max
  have hl10 := vS_len hv
  refine AW.rs ?_
  refine AL.val rfl (.inl rfl) (HV.as rfl) ?_
  refine AL.val rfl (.inl rfl) (HV.as rfl) ?_
  refine AL.nx ?_
  refine AW.seq ?_
  refine AW.rs ?_
  refine AL.val rfl (.inl rfl) (HV.mv rfl) ?_
  refine AL.val rfl (.inl rfl) (HV.mv rfl) ?_
  refine AL.w rfl (.inl rfl) (WV.call fn62 rfl (implVS_ok hr p (by omega))) ?_
  rintro _ H2 ⟨rfl, hx3⟩
  have X4 := Ext.trans X0 hx3
  refine AL.val rfl (.inl rfl) (HV.not rfl) ?_
  refine AL.nx ?_
  refine AW.ifn rfl (fun c5 => ?_) (fun c5 => ?_)
  · -- then
    refine AW.rs ?_
    refine AL.val rfl (.inl rfl) (HV.as rfl) ?_
    refine AL.val rfl (.inl rfl) (HV.as rfl) ?_
    refine AL.nx ?_
    refine AW.ret ?_
    refine ret_and ?_
    refine post_two rfl rfl rfl ?_ (.inr rfl)
    exfalso; first | exact c5 hv | exact c5 hn
  · -- else
    refine AW.skip ?_
    refine nrm_and ?_
    refine AW.seq ?_
    refine AW.rs ?_
    refine AL.val rfl (.inl rfl) (HV.mv rfl) ?_
    refine AL.w rfl (.inl rfl) (WV.call fn73 rfl (within_ok (W := W) n (-1) 6)) ?_
    rintro _ H6 ⟨rfl, hx7⟩
    have X8 := Ext.trans X4 hx7
    refine AL.val rfl (.inl rfl) (HV.not rfl) ?_
    refine AL.nx ?_
    refine AW.ifn rfl (fun c9 => ?_) (fun c9 => ?_)
    · -- then
      refine AW.rs ?_
      refine AL.val rfl (.inl rfl) (HV.as rfl) ?_
      refine AL.val rfl (.inl rfl) (HV.as rfl) ?_
      refine AL.nx ?_
      refine AW.ret ?_
      refine ret_and ?_
      refine post_two rfl rfl rfl ?_ (.inr rfl)
      exfalso; first | exact c9 hv | exact c9 hn
    · -- else
      refine AW.skip ?_
      refine nrm_and ?_
      refine AW.rs ?_
      refine AL.val rfl (.inl rfl) (HV.mv rfl) ?_
      refine AL.val rfl (.inl rfl) (HV.mv rfl) ?_
      refine AL.w rfl (.inl rfl) (WV.call fn77 rfl (through_ok (hr.ext X8) (by assumption))) ?_
      rintro v10 H11 ⟨hr13, hx12⟩
      have X14 := Ext.trans X8 hx12
      have X15 := Ext.refl H11
      refine AL.val rfl (.inl rfl) (HV.len Try.underlying24 rfl hr13.isSl) ?_
      refine AL.val rfl (.inl rfl) (HV.mv rfl) ?_
      refine AL.val rfl (.inl rfl) (HV.add rfl rfl (by omega)) ?_
      refine AL.val rfl (.inl rfl) (HV.lei rfl rfl) ?_
      refine AL.val rfl (.inl rfl) (HV.as rfl) ?_
      refine AL.val rfl (.inl rfl) (HV.as rfl) ?_
      refine AL.nx ?_
      refine AW.ret ?_
      refine post_two rfl rfl rfl ?_ (.inr rfl)
      exact ⟨rfl, X14⟩

set_option maxRecDepth 100000 in
theorem dot_ok {va vb : Value} {la lb : List Int} {ok ok2 : Nat → Prop} {p : Int} (hr : RdK kI W H ok va la) (hr2 : RdK kI W H ok2 vb lb) (hp : 2 ≤ p ∧ p ≤ 31) (hla : elems p la) (hlb : elems p lb) (hl : la.length = lb.length ∧ la.length ≤ 10) : ACalls Try.prog W 115 #[.int .i64 p, va, vb] H (fun r H' => r = .int .i64 (dotI la lb la.length % p) ∧ Ext H H') := by
  refine ACalls.of (args := [.int .i64 p, va, vb]) Try.func115 rfl rfl ?_
  have X0 := Ext.refl H
  have hm1 := hr.max
  have hm2 := hr2.max
  refine AW.rs ?_
  refine AL.val rfl (.inl rfl) (HV.as rfl) ?_
  refine AL.nx ?_
  refine AW.rs ?_
  refine AL.val rfl (.inl rfl) (HV.as rfl) ?_
  refine AL.nx ?_
  refine AW.seq ?_
  refine AW.rs ?_
  refine AL.val rfl (.inl rfl) (HV.mv rfl) ?_
  refine AL.val rfl (.inl rfl) (HV.len Try.underlying24 rfl hr.isSl) ?_
  refine AL.val rfl (.inl rfl) (HV.mv rfl) ?_
  refine AL.nx ?_
  refine AW.block ?_
  refine AW.loop (σ := Nat × Int) (fun ⟨i, s⟩ => [(0, .int .i64 p), (2, vb), (6, .int .i64 0), (10, va), (11, .int .i64 (la.length : Int)), (7, .int .i64 s), (12, .int .i64 (i : Int))]) (fun ⟨i, s⟩ H' => Ext H H' ∧ i ≤ la.length ∧ s = dotI la lb i ∧ True) (fun ⟨i, s⟩ => la.length - i) (0, 0) ⟨X0, Nat.zero_le _, rfl, trivial⟩ ⟨rfl, rfl, rfl, rfl, rfl, rfl, rfl, trivial⟩ ?_
  rintro ⟨i, s⟩ H3 ⟨X4, hi, hs, _⟩
  have hsb := dotI_in (show p ≤ 31 by omega) hla hlb hl.1 i hi
  rw [← hs] at hsb
  refine AW.rs ?_
  refine AL.val rfl (.inl rfl) (HV.lti rfl rfl) ?_
  refine AL.nx ?_
  refine AW.seq ?_
  refine AW.ifd rfl (fun c5 => ?_) (fun c5 => ?_)
  · -- then
    refine AW.skip ?_
    refine nrm_and ?_
    refine AW.seq ?_
    refine AW.block ?_
    refine AW.rs ?_
    refine AL.val rfl (.inl rfl) (HV.mv rfl) ?_
    obtain ⟨p6, z7, cs8, hz9, hK10, hC11, hP12⟩ := RdK.ix (q := (i : Int)) hr sl24 (by omega) (by omega)
    obtain rfl : cs8 = [.int .i64 z7] := hK10
    refine AL.val rfl (.inl rfl) (hP12 rfl rfl) ?_
    refine AL.val rfl (.inl rfl) (HV.ld rfl va2 (cells_first (hC11.ext X4) rfl)) ?_
    refine AL.val rfl (.inl rfl) (HV.as rfl) ?_
    refine AL.val rfl (.inl rfl) (HV.as rfl) ?_
    refine AL.nx ?_
    refine AW.reg ?_
    refine AL.val rfl (.inl rfl) (HV.mv rfl) ?_
    refine AL.val rfl (.inl rfl) (HV.mv rfl) ?_
    refine AL.val rfl (.inl rfl) (HV.mv rfl) ?_
    refine AL.val rfl (.inl rfl) (HV.mv rfl) ?_
    obtain ⟨p13, z14, cs15, hz16, hK17, hC18, hP19⟩ := RdK.ix (q := (i : Int)) hr2 sl24 (by omega) (by omega)
    obtain rfl : cs15 = [.int .i64 z14] := hK17
    refine AL.val rfl (.inl rfl) (hP19 rfl rfl) ?_
    refine AL.val rfl (.inl rfl) (HV.ld rfl va2 (cells_first (hC18.ext X4) rfl)) ?_
    have b15 := elem_at hla hz9
    have b21 := elem_at hlb hz16
    have q23 := mul31 (a := z7) (b := z14) (by omega) (by omega) (by omega) (by omega)
    refine AL.val rfl (.inl rfl) (HV.mul rfl rfl (by omega)) ?_
    refine AL.val rfl (.inl rfl) (HV.add rfl rfl (by omega)) ?_
    refine AL.val rfl (.inl rfl) (HV.as rfl) ?_
    refine AL.nil ?_
    refine nrm_blk (nrm_and ?_)
    refine AW.reg ?_
    refine AL.val rfl (.inl rfl) (HV.add rfl rfl (by omega)) ?_
    refine AL.val rfl (.inl rfl) (HV.mv rfl) ?_
    refine AL.nil ?_
    refine nrm_and ?_
    exact ⟨(i + 1, s + (z7 * z14)), ⟨X4, by omega, by rw [dotI_succ, (gd hz9 rfl : la.getD i 0 = z7), (gd hz16 rfl : lb.getD i 0 = z14), hs], trivial⟩, by first | omega | (dsimp only; omega), ⟨rfl, rfl, rfl, rfl, rfl, rfl, rfl, trivial⟩⟩
  · -- else
    refine AW.exit ?_
    refine ex_and (ex_and (ex_blk ?_))
    refine nrm_and ?_
    refine AW.rs ?_
    refine AL.val rfl (.inl rfl) (HV.mv rfl) ?_
    refine AL.val rfl (.inl rfl) (HV.mv rfl) ?_
    refine AL.val rfl (.inl rfl) (HV.rem rfl rfl (by omega)) ?_
    refine AL.val rfl (.inl rfl) (HV.as rfl) ?_
    refine AL.nx ?_
    refine AW.ret ?_
    refine post_one rfl rfl ?_ (.inr rfl)
    exact ⟨by have e : s = dotI la lb la.length := (by rw [hs, show i = la.length by omega]); rw [e], X4⟩

set_option maxRecDepth 100000 in
theorem openAt_ok {v : Value} {l : List (Int × Int)} {ok : Nat → Prop} (hr : RdK (kP kI kI) W H ok v l) {p : Int} (hv : vS p l) (x : Int) (hx : 0 ≤ x ∧ x ≤ p - 1) : ACalls Try.prog W 74 #[.int .i64 p, v, .int .i64 x] H (fun r H' => r = .int .i64 (opV p l x) ∧ Ext H H') := by
  refine ACalls.of (args := [.int .i64 p, v, .int .i64 x]) Try.func74 rfl rfl ?_
  have X0 := Ext.refl H
  have hm1 := hr.max
  have hl10 := vS_len hv
  have hp := hv.1.1
  have hq := isPr_of hv.1
  have hml : (l.map Prod.fst).length = l.length := List.length_map _
  have hml2 : (l.map Prod.snd).length = l.length := List.length_map _
  refine AW.rs ?_
  refine AL.val rfl (.inl rfl) (HV.as rfl) ?_
  refine AL.nx ?_
  refine AW.rs ?_
  refine AL.val rfl (.inl rfl) (HV.mv rfl) ?_
  refine AL.w rfl (.inl rfl) (WV.call fn93 rfl (ptsOf_ok hr (by omega))) ?_
  rintro _ H4 ⟨⟨u2, v3, rfl, hr6, hr7⟩, hx5⟩
  have X8 := Ext.trans X0 hx5
  have X9 := Ext.refl H4
  refine AL.val rfl (.inl rfl) (HV.mv rfl) ?_
  refine AL.val rfl (.inl rfl) (HV.ex rfl rfl) ?_
  refine AL.val rfl (.inl rfl) (HV.ex rfl rfl) ?_
  refine AL.val rfl (.inl rfl) (HV.as rfl) ?_
  refine AL.val rfl (.inl rfl) (HV.as rfl) ?_
  refine AL.nx ?_
  refine AW.rs ?_
  refine AL.val rfl (.inl rfl) (HV.mv rfl) ?_
  refine AL.val rfl (.inl rfl) (HV.mv rfl) ?_
  refine AL.val rfl (.inl rfl) (HV.mv rfl) ?_
  refine AL.val rfl (.inl rfl) (HV.mv rfl) ?_
  refine AL.w rfl (.inl rfl) (WV.call fn94 rfl (weights_ok p x hr6 hq hx hv.2.2.2 (by omega))) ?_
  rintro v10 H11 ⟨hx12, ho13⟩
  have X15 := Ext.trans X8 hx12
  have X16 := Ext.trans X9 hx12
  have X17 := Ext.refl H11
  have hr14 : RdK kI W H11 _ v10 (wts p (l.map Prod.fst) x (l.map Prod.fst).length) := ho13.rd
  refine AL.val rfl (.inl rfl) (HV.mv rfl) ?_
  refine AL.w rfl (.inl rfl) (WV.call fn115 rfl (dot_ok hr14 (hr7.ext X16) hp (wts_in hp.1 _ _ _) hv.2.1 ⟨by rw [wts_len]; omega, by rw [wts_len]; omega⟩)) ?_
  rintro _ H18 ⟨rfl, hx19⟩
  have X20 := Ext.trans X15 hx19
  have X21 := Ext.trans X16 hx19
  have X22 := Ext.trans X17 hx19
  refine AL.val rfl (.inl rfl) (HV.as rfl) ?_
  refine AL.nx ?_
  refine AW.ret ?_
  refine post_one rfl rfl ?_ (.inr rfl)
  exact ⟨rfl, X20⟩

set_option maxRecDepth 100000 in
theorem openA_ok {v : Value} {l : List (Int × Int)} {ok : Nat → Prop} (hr : RdK (kP kI kI) W H ok v l) {p : Int} (hv : vS p l) (x : Int) (hx : 0 ≤ x ∧ x ≤ p - 1) : ACalls Try.prog W 63 #[.int .i64 p, v, .int .i64 x] H (fun r H' => r = .tuple #[.int .i64 (if (l.length : Int) = 0 then 0 else opV p l x), .int .i64 (if (l.length : Int) = 0 then 4 else 0)] ∧ Ext H H') := by
  refine ACalls.of (args := [.int .i64 p, v, .int .i64 x]) Try.func63 rfl rfl ?_
  have X0 := Ext.refl H
  have hm1 := hr.max
  have hl10 := vS_len hv
  refine AW.rs ?_
  refine AL.val rfl (.inl rfl) (HV.as rfl) ?_
  refine AL.val rfl (.inl rfl) (HV.as rfl) ?_
  refine AL.nx ?_
  refine AW.seq ?_
  refine AW.block ?_
  refine AW.rs ?_
  refine AL.val rfl (.inl rfl) (HV.mv rfl) ?_
  refine AL.val rfl (.inl rfl) (HV.mv rfl) ?_
  refine AL.w rfl (.inl rfl) (WV.call fn62 rfl (implVS_ok hr p (by omega))) ?_
  rintro _ H2 ⟨rfl, hx3⟩
  have X4 := Ext.trans X0 hx3
  refine AL.val rfl (.inl rfl) (HV.not rfl) ?_
  refine AL.val rfl (.inl rfl) (HV.as rfl) ?_
  refine AL.nx ?_
  refine AW.ifn rfl (fun c5 => ?_) (fun c5 => ?_)
  · -- then
    refine AW.rs ?_
    refine AL.val rfl (.inl rfl) (HV.as rfl) ?_
    refine AL.val rfl (.inl rfl) (HV.as rfl) ?_
    refine AL.nx ?_
    refine AW.ret ?_
    refine ret_blk (ret_and ?_)
    refine post_two rfl rfl rfl ?_ (.inr rfl)
    exfalso; first | exact c5 hv | exact c5 ⟨hv.1, elems_one.2 hx⟩
  · -- else
    refine AW.rs ?_
    refine AL.val rfl (.inl rfl) (HV.mv rfl) ?_
    refine AL.val rfl (.inl rfl) (HV.mv rfl) ?_
    have X6 := Ext.refl H2
    have o7 := X4.bd
    have o8 := X6.bd
    refine AL.w rfl (.inl rfl) (WV.bsK (K := kI) (l := ([x] : List Int)) (css := [[.int .i64 x]]) sl24 rfl rfl (by first | rfl | (simp [Instr.fill, Value.cells, kI, kB, kU, kS, Kd.sc]; done) | (simp [Instr.fill, Value.cells, kI, kB, kU, kS, Kd.sc, rng1, rng2, rng3, rng4, kP])) rfl (segs_cons rfl segs_nil)) ?_
    rintro v9 H10 ⟨hx11, ho12⟩
    have X13 := Ext.trans X4 hx11
    have X14 := Ext.trans X6 hx11
    refine AL.w rfl (.inl rfl) (WV.call fn90 rfl (areEl_ok p ho12.rd)) ?_
    rintro _ H16 ⟨rfl, hx17⟩
    have X18 := Ext.trans X13 hx17
    have X19 := Ext.trans X14 hx17
    have ho20 := ho12.ext hx17
    refine AL.val rfl (.inl rfl) (HV.not rfl) ?_
    refine AL.val rfl (.inl rfl) (HV.as rfl) ?_
    refine AL.nx ?_
    refine AW.ifn rfl (fun c21 => ?_) (fun c21 => ?_)
    · -- then
      refine AW.rs ?_
      refine AL.val rfl (.inl rfl) (HV.as rfl) ?_
      refine AL.val rfl (.inl rfl) (HV.as rfl) ?_
      refine AL.nx ?_
      refine AW.ret ?_
      refine ret_blk (ret_and ?_)
      refine post_two rfl rfl rfl ?_ (.inr rfl)
      exfalso; first | exact c21 hv | exact c21 ⟨hv.1, elems_one.2 hx⟩
    · -- else
      refine AW.rs ?_
      refine AL.val rfl (.inl rfl) (HV.mv rfl) ?_
      refine AL.val rfl (.inl rfl) (HV.len Try.underlying27 rfl hr.isSl) ?_
      refine AL.val rfl (.inl rfl) (HV.eqi rfl rfl) ?_
      refine AL.val rfl (.inl rfl) (HV.as rfl) ?_
      refine AL.nx ?_
      refine AW.ifd rfl (fun c22 => ?_) (fun c22 => ?_)
      · -- then
        refine AW.rs ?_
        refine AL.val rfl (.inl rfl) (HV.as rfl) ?_
        refine AL.val rfl (.inl rfl) (HV.as rfl) ?_
        refine AL.nx ?_
        refine AW.ret ?_
        refine ret_blk (ret_and ?_)
        refine post_two rfl rfl rfl ?_ (.inr rfl)
        exact ⟨by rw [if_pos (by assumption), if_pos (by assumption)], X18⟩
      · -- else
        refine AW.skip ?_
        refine nrm_blk (nrm_and ?_)
        refine AW.rs ?_
        refine AL.val rfl (.inl rfl) (HV.mv rfl) ?_
        refine AL.val rfl (.inl rfl) (HV.mv rfl) ?_
        refine AL.val rfl (.inl rfl) (HV.mv rfl) ?_
        refine AL.w rfl (.inl rfl) (WV.call fn74 rfl (openAt_ok (hr.ext X18) hv x hx)) ?_
        rintro _ H23 ⟨rfl, hx24⟩
        have X25 := Ext.trans X18 hx24
        have X26 := Ext.trans X19 hx24
        have ho27 := ho20.ext hx24
        refine AL.val rfl (.inl rfl) (HV.as rfl) ?_
        refine AL.val rfl (.inl rfl) (HV.as rfl) ?_
        refine AL.nx ?_
        refine AW.ret ?_
        refine post_two rfl rfl rfl ?_ (.inr rfl)
        exact ⟨by rw [if_neg (by assumption), if_neg (by assumption)], X25⟩

set_option maxRecDepth 100000 in
theorem addCurves_ok {va vb : Value} {la lb : List Int} {ok ok2 : Nat → Prop} {p : Int} (hr : RdK kI W H ok va la) (hr2 : RdK kI W H ok2 vb lb) (hc1 : primeI p ∧ curveI p la) (hc2 : curveI p lb) : ACalls Try.prog W 56 #[.int .i64 p, va, vb] H (fun r H' => (∃ v, r = .tuple #[v, .int .i64 0] ∧ RdK kI W H' (fun _ => True) v (stripM (addC p 1 la lb))) ∧ Ext H H') := by
  refine ACalls.of (args := [.int .i64 p, va, vb]) Try.func56 rfl rfl ?_
  have X0 := Ext.refl H
  have hm1 := hr.max
  have hm2 := hr2.max
  refine AW.rs ?_
  refine AL.val rfl (.inl rfl) (HV.as rfl) ?_
  refine AL.val rfl (.inl rfl) (HV.as rfl) ?_
  refine AL.nx ?_
  refine AW.seq ?_
  refine AW.rs ?_
  refine AL.val rfl (.inl rfl) (HV.mv rfl) ?_
  refine AL.val rfl (.inl rfl) (HV.mv rfl) ?_
  refine AL.w rfl (.inl rfl) (WV.call fn59 rfl (validCu_ok (p := p) hr)) ?_
  rintro _ H3 ⟨rfl, hx4⟩
  have X5 := Ext.trans X0 hx4
  refine AL.val rfl (.inl rfl) (HV.not rfl) ?_
  refine AL.val rfl (.inl rfl) (HV.mv rfl) ?_
  by_cases c6 : primeI p ∧ curveI p la
  · -- false
    have c6_ : (!decide (primeI p ∧ curveI p la)) = false := by rw [decide_eq_true c6]; rfl
    rw [c6_]
    refine AL.val rfl (.inr ⟨_, _, _, rfl, rfl, rfl⟩) (HV.mv rfl) ?_
    refine AL.val rfl (.inr ⟨_, _, _, rfl, rfl, rfl⟩) (HV.mv rfl) ?_
    refine AL.w rfl (.inr ⟨_, _, _, rfl, rfl, rfl⟩) (WV.call fn59 rfl (validCu_ok (p := p) (hr2.ext X5))) ?_
    rintro _ H7 ⟨rfl, hx8⟩
    have X9 := Ext.trans X5 hx8
    refine AL.val rfl (.inr ⟨_, _, _, rfl, rfl, rfl⟩) (HV.not rfl) ?_
    refine AL.val rfl (.inl rfl) (HV.pickF rfl rfl) ?_
    refine AL.nx ?_
    refine AW.ifn rfl (fun c10 => ?_) (fun c10 => ?_)
    · -- then
      refine AW.rs ?_
      refine AL.val rfl (.inl rfl) (HV.as rfl) ?_
      refine AL.val rfl (.inl rfl) (HV.as rfl) ?_
      refine AL.nx ?_
      refine AW.ret ?_
      refine ret_and ?_
      refine post_two rfl rfl rfl ?_ (.inr rfl)
      exfalso; first | exact c10 hc1 | exact c10 ⟨hc1.1, hc2⟩
    · -- else
      refine AW.skip ?_
      refine nrm_and ?_
      refine AW.rs ?_
      refine AL.val rfl (.inl rfl) (HV.mv rfl) ?_
      refine AL.val rfl (.inl rfl) (HV.mv rfl) ?_
      refine AL.val rfl (.inl rfl) (HV.mv rfl) ?_
      have X11 := Ext.refl H7
      have o12 := X9.bd
      have o13 := X11.bd
      refine AL.w rfl (.inl rfl) (WV.call fn109 rfl (addCu_ok (hr.ext X9) (hr2.ext X9) hc1.1.1 hc1.2.2.1 hc2.2.1 ⟨by have := hc1.2.1; omega, by have := hc2.1; omega⟩)) ?_
      rintro v14 H15 ⟨hx16, ho17⟩
      have X18 := Ext.trans X9 hx16
      have X19 := Ext.trans X11 hx16
      refine AL.w rfl (.inl rfl) (WV.call fn108 rfl (strip_ok ho17.rd)) ?_
      rintro v21 H22 ⟨hr24, hx23⟩
      have X25 := Ext.trans X18 hx23
      have X26 := Ext.trans X19 hx23
      have ho27 := ho17.ext hx23
      have X28 := Ext.refl H22
      refine AL.val rfl (.inl rfl) (HV.as rfl) ?_
      refine AL.val rfl (.inl rfl) (HV.as rfl) ?_
      refine AL.nx ?_
      refine AW.ret ?_
      refine post_two rfl rfl rfl ?_ (.inr rfl)
      exact ⟨⟨_, rfl, (hr24).okk (fun _ _ _ => trivial)⟩, X25⟩
  · -- true
    have c6_ : (!decide (primeI p ∧ curveI p la)) = true := by rw [decide_eq_false c6]; rfl
    rw [c6_]
    refine AL.off rfl rfl (by decide) rfl ?_
    refine AL.off rfl rfl (by decide) rfl ?_
    refine AL.off rfl rfl (by decide) rfl ?_
    refine AL.off rfl rfl (by decide) rfl ?_
    refine AL.val rfl (.inl rfl) (HV.pickT rfl rfl) ?_
    refine AL.nx ?_
    refine AW.cond rfl (fun _ => ?_) (fun h => by cases h)
    refine AW.rs ?_
    refine AL.val rfl (.inl rfl) (HV.as rfl) ?_
    refine AL.val rfl (.inl rfl) (HV.as rfl) ?_
    refine AL.nx ?_
    refine AW.ret ?_
    refine ret_and ?_
    refine post_two rfl rfl rfl ?_ (.inr rfl)
    exfalso; first | exact c6 hc1 | exact c6 ⟨hc1.1, hc2⟩

set_option maxRecDepth 100000 in
theorem l05Sum_ok {va vb : Value} {la lb : List Int} {ok ok2 : Nat → Prop} {p : Int} (hr : RdK kI W H ok va la) (hr2 : RdK kI W H ok2 vb lb) (t : Int) (hp : 2 ≤ p ∧ p ≤ 31) (ht : 0 ≤ t ∧ t ≤ p - 1) (hla : elems p la) (hlb : elems p lb) (hl : la.length ≤ 1000 ∧ lb.length ≤ 1000) : ACalls Try.prog W 111 #[.int .i64 p, va, vb, .int .i64 t] H (fun r H' => Ext H H' ∧ OwnK kI 2 W H' (fun b => H.bd ≤ b) r (stripM (addC p t la lb))) := by
  refine ACalls.of (args := [.int .i64 p, va, vb, .int .i64 t]) Try.func111 rfl rfl ?_
  have X0 := Ext.refl H
  have hm1 := hr.max
  have hm2 := hr2.max
  refine AW.rs ?_
  refine AL.val rfl (.inl rfl) (HV.as rfl) ?_
  refine AL.nx ?_
  refine AW.rs ?_
  refine AL.val rfl (.inl rfl) (HV.mv rfl) ?_
  have o3 := X0.bd
  refine AL.w rfl (.inl rfl) (WV.call fn89 rfl (l00Own_ok hr (by omega))) ?_
  rintro v4 H5 ⟨hx6, ho7⟩
  have X8 := Ext.trans X0 hx6
  refine AL.val rfl (.inl rfl) (HV.as rfl) ?_
  refine AL.nx ?_
  refine AW.seq ?_
  refine AW.rs ?_
  refine AL.val rfl (.inl rfl) (HV.as rfl) ?_
  refine AL.nx ?_
  refine AW.block ?_
  refine AW.loop (σ := Nat × Value × List Int) (fun ⟨i, vv, k⟩ => [(0, .int .i64 p), (2, vb), (3, .int .i64 t), (8, (.slice none 0 0)), (9, vv), (10, .int .i64 (i : Int))]) (fun ⟨i, vv, k⟩ H' => Ext H H' ∧ i ≤ lb.length ∧ k = (sumT p t la lb i) ∧ k.length = max la.length i ∧ OwnK kI 2 W H' (fun b => H.bd ≤ b) vv k ∧ True) (fun ⟨i, vv, k⟩ => lb.length - i) (0, v4, la) ⟨X8, Nat.zero_le _, (sumT_zero _ _ _ _).symm, by omega, ho7, trivial⟩ ⟨rfl, rfl, rfl, rfl, rfl, rfl, trivial⟩ ?_
  rintro ⟨i, vv, k⟩ H10 ⟨X11, hi, hk, hk2, hoL, _⟩
  refine AW.seq ?_
  refine AW.rs ?_
  refine AL.val rfl (.inl rfl) (HV.mv rfl) ?_
  refine AL.val rfl (.inl rfl) (HV.mv rfl) ?_
  refine AL.val rfl (.inl rfl) (HV.len Try.underlying24 rfl hr2.isSl) ?_
  refine AL.val rfl (.inl rfl) (HV.lti rfl rfl) ?_
  refine AL.nx ?_
  refine AW.ifd rfl (fun c12 => ?_) (fun c12 => ?_)
  · -- then
    refine AW.skip ?_
    refine nrm_and ?_
    refine AW.seq ?_
    refine AW.block ?_
    refine AW.seq ?_
    refine AW.rs ?_
    refine AL.val rfl (.inl rfl) (HV.mv rfl) ?_
    refine AL.val rfl (.inl rfl) (HV.mv rfl) ?_
    refine AL.val rfl (.inl rfl) (HV.len Try.underlying24 rfl hoL.rd.isSl) ?_
    refine AL.val rfl (.inl rfl) (HV.eqi rfl rfl) ?_
    refine AL.nx ?_
    refine AW.ifd rfl (fun c13 => ?_) (fun c13 => ?_)
    · -- then
      refine AW.reg ?_
      refine AL.val rfl (.inl rfl) (HV.mv rfl) ?_
      have X14 := Ext.refl H10
      have o15 := X11.bd
      have o16 := X14.bd
      have a17 := hoL.ltb
      refine AL.w rfl (.inl rfl) (WV.bsK (K := kI) (l := ([0] : List Int)) (css := [[.int .i64 0]]) sl24 rfl rfl (by first | rfl | (simp [Instr.fill, Value.cells, kI, kB, kU, kS, Kd.sc]; done) | (simp [Instr.fill, Value.cells, kI, kB, kU, kS, Kd.sc, rng1, rng2, rng3, rng4, kP])) rfl (segs_cons rfl segs_nil)) ?_
      rintro v18 H19 ⟨hx20, ho21⟩
      have X22 := Ext.trans X11 hx20
      have X23 := Ext.trans X14 hx20
      have ho24 := hoL.ext hx20
      have X26 := Ext.refl H19
      refine AL.w rfl (.inl rfl) (WV.apk sl24 rfl rfl ho24 ho21.rd (by simp; omega) (by simp; omega) (fun b hb _ e => Nat.lt_irrefl _ (Nat.lt_of_lt_of_le (a17 b e) hb))) ?_
      rintro v27 H28 ⟨hx29, ho30, hb31⟩
      have ho32 := ho30.narrow (ok' := fun b => H.bd ≤ b) kI_flat (fun b q => (hb31 b q).elim (fun e => (ho24.blk b e).1) (fun e => Nat.le_trans X22.bd e))
      have X33 := Ext.thru X22 hx29 (fun b hb => Nat.le_trans o3 (ho24.blk b hb).1)
      refine AL.val rfl (.inl rfl) (HV.as rfl) ?_
      refine AL.nil ?_
      refine nrm_and ?_
      refine AW.draw' [0, 0, 0, 0, 12, 28, 0, 0, 192, 448, 0, 1984, 4092, 0, 16380, 32767, 65535] mixed (by rfl) ?_
      refine Dr.read 0 _ 26 _ rfl rfl rfl rfl rfl (RV.of (by intro _ _ h; cases h) (.inl rfl) (fun _ xd => HV.mv rfl)) ?_
      refine Dr.read 1 _ 27 _ rfl rfl rfl rfl rfl (RV.of (by intro _ _ h; cases h) (.inl rfl) (fun _ xd => HV.mv rfl)) ?_
      refine Dr.read 2 _ 28 _ rfl rfl rfl rfl rfl (RV.of (by intro _ _ h; cases h) (.inl rfl) (fun _ xd => HV.mv rfl)) ?_
      refine Dr.read 3 _ 29 _ rfl rfl rfl rfl rfl (RV.of (by intro _ _ h; cases h) (.inl rfl) (fun _ xd => HV.mv rfl)) ?_
      obtain ⟨g37, z38, cs39, hz40, hK41, hC42, hg43, hP44⟩ := OwnK.ix (q := (i : Int)) ho32 sl24 (by omega) (by first | omega | (simp only [List.length_append, List.length_singleton]; omega))
      have X45 := Ext.refl H28
      obtain rfl : cs39 = [.int .i64 z38] := hK41
      refine Dr.read 4 _ 30 _ rfl rfl rfl rfl rfl (RV.of (by intro _ _ h; cases h) (.inl rfl) (fun _ xd => hP44 rfl rfl)) ?_
      refine Dr.read 5 _ 31 _ rfl rfl rfl rfl rfl (RV.of (by intro _ _ h; cases h) (.inl rfl) (fun _ xd => HV.ld rfl va2 (rdc_ext xd (cells_first hC42 rfl)))) ?_
      refine Dr.read 6 _ 32 _ rfl rfl rfl rfl rfl (RV.of (by intro _ _ h; cases h) (.inl rfl) (fun _ xd => HV.mv rfl)) ?_
      refine Dr.read 7 _ 33 _ rfl rfl rfl rfl rfl (RV.of (by intro _ _ h; cases h) (.inl rfl) (fun _ xd => HV.mv rfl)) ?_
      obtain ⟨p46, z47, cs48, hz49, hK50, hC51, hP52⟩ := RdK.ix (q := (i : Int)) hr2 sl24 (by omega) (by omega)
      obtain rfl : cs48 = [.int .i64 z47] := hK50
      refine Dr.read 8 _ 34 _ rfl rfl rfl rfl rfl (RV.of (by intro _ _ h; cases h) (.inl rfl) (fun _ xd => hP52 rfl rfl)) ?_
      refine Dr.read 9 _ 35 _ rfl rfl rfl rfl rfl (RV.of (by intro _ _ h; cases h) (.inl rfl) (fun _ xd => HV.ld rfl va2 (rdc_ext xd (cells_first (hC51.ext X33) rfl)))) ?_
      refine Dr.read 10 _ 36 _ rfl rfl rfl rfl rfl (RV.of (by intro _ _ h; cases h) (.inl rfl) (fun _ xd => HV.mv rfl)) ?_
      have e30 : z38 = la.getD i 0 := sumT_app (p := p) (t := t) (la := la) (lb := lb) (by rw [← hk]; omega) (by rw [← hk]; exact hz40)
      have b30 := getD_in hla (show 0 < p by omega) i
      have b34 := elem_at hlb hz49
      have q37 := mul31 (a := z47) (b := t) (by omega) (by omega) (by omega) (by omega)
      refine Dr.read 11 _ 37 _ rfl rfl rfl rfl rfl (RV.of (by intro _ _ h; cases h) (.inl rfl) (fun _ xd => HV.mul rfl rfl (by omega))) ?_
      refine Dr.read 12 _ 38 _ rfl rfl rfl rfl rfl (RV.of (by intro _ _ h; cases h) (.inl rfl) (fun _ xd => HV.add rfl rfl (by omega))) ?_
      refine Dr.read 13 _ 39 _ rfl rfl rfl rfl rfl (RV.of (by intro _ _ h; cases h) (.inl rfl) (fun _ xd => HV.mv rfl)) ?_
      refine Dr.read 14 _ 40 _ rfl rfl rfl rfl rfl (RV.of (by intro _ _ h; cases h) (.inl rfl) (fun _ xd => HV.rem rfl rfl (by omega))) ?_
      obtain ⟨g53, z54, cs55, hz56, hK57, hC58, hg59, hP60⟩ := OwnK.ix (q := (i : Int)) ho32 sl24 (by omega) (by first | omega | (simp only [List.length_append, List.length_singleton]; omega))
      obtain rfl : cs55 = [.int .i64 z54] := hK57
      refine Dr.read 15 _ 41 _ rfl rfl rfl rfl rfl (RV.of (by intro _ _ h; cases h) (.inl rfl) (fun _ xd => hP60 rfl rfl)) ?_
      refine Dr.eff 16 _ _ rfl (by intro d h; cases h) rfl rfl rfl (EC.of (by intro _ _ h; cases h) (.inl rfl) (WV.stK (okx := fun _ => False) (x' := (z38 + (z47 * t)) % p) ho32 hg59 rfl rfl va2 (by first | omega | (simp only [List.length_append, List.length_singleton]; omega)) rfl (fun _ h => h.elim))) (fun v H' h => .inr (.inl rfl)) ?_
      rintro _ H61 ⟨hx62, ho63⟩
      have X64 := Ext.thru X33 hx62 (fun b hb => Nat.le_trans o3 (ho32.blk b hb).1)
      have ho66 := ho63.okk (ok' := fun b => H.bd ≤ b) (fun b hb _ => hb.elim id False.elim)
      refine Dr.fin rfl ?_
      refine nrm_blk (nrm_and ?_)
      refine AW.reg ?_
      refine AL.val rfl (.inl rfl) (HV.mv rfl) ?_
      refine AL.val rfl (.inl rfl) (HV.add rfl rfl (by omega)) ?_
      refine AL.val rfl (.inl rfl) (HV.as rfl) ?_
      refine AL.nil ?_
      refine nrm_and ?_
      exact ⟨(i + 1, v27, ((k ++ (([0] : List Int) : List Int)).set ((i : Int) : Int).toNat ((z38 + (z47 * t)) % p))), ⟨X64, by omega, by rw [hk]; exact sumT_set2 (by rw [← hk]; omega) (by unfold addAt; rw [e30, (gd hz49 rfl : lb.getD i 0 = z47)]), by first | (simp only [List.length_set, List.length_append, List.length_singleton]; omega), ho66, trivial⟩, by first | omega | (dsimp only; omega), ⟨rfl, rfl, rfl, rfl, rfl, rfl, trivial⟩⟩
    · -- else
      refine AW.skip ?_
      refine nrm_and ?_
      refine AW.draw' [0, 0, 0, 0, 12, 28, 0, 0, 192, 448, 0, 1984, 4092, 0, 16380, 32767, 65535] mixed (by rfl) ?_
      refine Dr.read 0 _ 26 _ rfl rfl rfl rfl rfl (RV.of (by intro _ _ h; cases h) (.inl rfl) (fun _ xd => HV.mv rfl)) ?_
      refine Dr.read 1 _ 27 _ rfl rfl rfl rfl rfl (RV.of (by intro _ _ h; cases h) (.inl rfl) (fun _ xd => HV.mv rfl)) ?_
      refine Dr.read 2 _ 28 _ rfl rfl rfl rfl rfl (RV.of (by intro _ _ h; cases h) (.inl rfl) (fun _ xd => HV.mv rfl)) ?_
      refine Dr.read 3 _ 29 _ rfl rfl rfl rfl rfl (RV.of (by intro _ _ h; cases h) (.inl rfl) (fun _ xd => HV.mv rfl)) ?_
      obtain ⟨g67, z68, cs69, hz70, hK71, hC72, hg73, hP74⟩ := OwnK.ix (q := (i : Int)) hoL sl24 (by omega) (by first | omega | (simp only [List.length_append, List.length_singleton]; omega))
      have X75 := Ext.refl H10
      obtain rfl : cs69 = [.int .i64 z68] := hK71
      refine Dr.read 4 _ 30 _ rfl rfl rfl rfl rfl (RV.of (by intro _ _ h; cases h) (.inl rfl) (fun _ xd => hP74 rfl rfl)) ?_
      refine Dr.read 5 _ 31 _ rfl rfl rfl rfl rfl (RV.of (by intro _ _ h; cases h) (.inl rfl) (fun _ xd => HV.ld rfl va2 (rdc_ext xd (cells_first hC72 rfl)))) ?_
      refine Dr.read 6 _ 32 _ rfl rfl rfl rfl rfl (RV.of (by intro _ _ h; cases h) (.inl rfl) (fun _ xd => HV.mv rfl)) ?_
      refine Dr.read 7 _ 33 _ rfl rfl rfl rfl rfl (RV.of (by intro _ _ h; cases h) (.inl rfl) (fun _ xd => HV.mv rfl)) ?_
      obtain ⟨p76, z77, cs78, hz79, hK80, hC81, hP82⟩ := RdK.ix (q := (i : Int)) hr2 sl24 (by omega) (by omega)
      obtain rfl : cs78 = [.int .i64 z77] := hK80
      refine Dr.read 8 _ 34 _ rfl rfl rfl rfl rfl (RV.of (by intro _ _ h; cases h) (.inl rfl) (fun _ xd => hP82 rfl rfl)) ?_
      refine Dr.read 9 _ 35 _ rfl rfl rfl rfl rfl (RV.of (by intro _ _ h; cases h) (.inl rfl) (fun _ xd => HV.ld rfl va2 (rdc_ext xd (cells_first (hC81.ext X11) rfl)))) ?_
      refine Dr.read 10 _ 36 _ rfl rfl rfl rfl rfl (RV.of (by intro _ _ h; cases h) (.inl rfl) (fun _ xd => HV.mv rfl)) ?_
      have e30 : z68 = la.getD i 0 := sumT_get (by rw [← hk]; exact hz70)
      have b30 := getD_in hla (show 0 < p by omega) i
      have b34 := elem_at hlb hz79
      have q37 := mul31 (a := z77) (b := t) (by omega) (by omega) (by omega) (by omega)
      refine Dr.read 11 _ 37 _ rfl rfl rfl rfl rfl (RV.of (by intro _ _ h; cases h) (.inl rfl) (fun _ xd => HV.mul rfl rfl (by omega))) ?_
      refine Dr.read 12 _ 38 _ rfl rfl rfl rfl rfl (RV.of (by intro _ _ h; cases h) (.inl rfl) (fun _ xd => HV.add rfl rfl (by omega))) ?_
      refine Dr.read 13 _ 39 _ rfl rfl rfl rfl rfl (RV.of (by intro _ _ h; cases h) (.inl rfl) (fun _ xd => HV.mv rfl)) ?_
      refine Dr.read 14 _ 40 _ rfl rfl rfl rfl rfl (RV.of (by intro _ _ h; cases h) (.inl rfl) (fun _ xd => HV.rem rfl rfl (by omega))) ?_
      obtain ⟨g83, z84, cs85, hz86, hK87, hC88, hg89, hP90⟩ := OwnK.ix (q := (i : Int)) hoL sl24 (by omega) (by first | omega | (simp only [List.length_append, List.length_singleton]; omega))
      obtain rfl : cs85 = [.int .i64 z84] := hK87
      refine Dr.read 15 _ 41 _ rfl rfl rfl rfl rfl (RV.of (by intro _ _ h; cases h) (.inl rfl) (fun _ xd => hP90 rfl rfl)) ?_
      refine Dr.eff 16 _ _ rfl (by intro d h; cases h) rfl rfl rfl (EC.of (by intro _ _ h; cases h) (.inl rfl) (WV.stK (okx := fun _ => False) (x' := (z68 + (z77 * t)) % p) hoL hg89 rfl rfl va2 (by first | omega | (simp only [List.length_append, List.length_singleton]; omega)) rfl (fun _ h => h.elim))) (fun v H' h => .inr (.inl rfl)) ?_
      rintro _ H91 ⟨hx92, ho93⟩
      have X94 := Ext.thru X11 hx92 (fun b hb => Nat.le_trans o3 (hoL.blk b hb).1)
      have ho96 := ho93.okk (ok' := fun b => H.bd ≤ b) (fun b hb _ => hb.elim id False.elim)
      refine Dr.fin rfl ?_
      refine nrm_blk (nrm_and ?_)
      refine AW.reg ?_
      refine AL.val rfl (.inl rfl) (HV.mv rfl) ?_
      refine AL.val rfl (.inl rfl) (HV.add rfl rfl (by omega)) ?_
      refine AL.val rfl (.inl rfl) (HV.as rfl) ?_
      refine AL.nil ?_
      refine nrm_and ?_
      exact ⟨(i + 1, vv, (k.set ((i : Int) : Int).toNat ((z68 + (z77 * t)) % p))), ⟨X94, by omega, by rw [hk]; exact sumT_set (by rw [← hk]; omega) (by unfold addAt; rw [e30, (gd hz79 rfl : lb.getD i 0 = z77)]), by first | (simp only [List.length_set, List.length_append, List.length_singleton]; omega), ho96, trivial⟩, by first | omega | (dsimp only; omega), ⟨rfl, rfl, rfl, rfl, rfl, rfl, trivial⟩⟩
  · -- else
    refine AW.exit ?_
    refine ex_and (ex_and (ex_blk ?_))
    refine nrm_and ?_
    refine AW.rs ?_
    refine AL.val rfl (.inl rfl) (HV.mv rfl) ?_
    have X97 := Ext.refl H10
    have o98 := X11.bd
    have o99 := X97.bd
    have a100 := hoL.ltb
    refine AL.w rfl (.inl rfl) (WV.call fn100 rfl (cutS_ok hoL.rd (by omega))) ?_
    rintro v101 H102 ⟨hx103, ho104⟩
    have X105 := Ext.trans X11 hx103
    have X106 := Ext.trans X97 hx103
    have ho107 := hoL.ext hx103
    refine AL.val rfl (.inl rfl) (HV.as rfl) ?_
    refine AL.nx ?_
    refine AW.ret ?_
    refine post_one rfl rfl ?_ (.inr rfl)
    exact ⟨X105, by have e : k = addC p t la lb := (by rw [hk, show i = lb.length by omega]; exact sumT_end (by omega) hla); rw [← e]; exact ho104.okk (fun b hb _ => Nat.le_trans o98 hb)⟩

set_option maxRecDepth 100000 in
theorem specAdd_ok {va vb : Value} {la lb : List Int} {ok ok2 : Nat → Prop} {p : Int} (hr : RdK kI W H ok va la) (hr2 : RdK kI W H ok2 vb lb) (hc1 : primeI p ∧ curveI p la) (hc2 : curveI p lb) : ACalls Try.prog W 58 #[.int .i64 p, va, vb] H (fun r H' => (∃ v, r = .tuple #[v, .int .i64 0] ∧ RdK kI W H' (fun _ => True) v (stripM (addC p 1 la lb))) ∧ Ext H H') := by
  refine ACalls.of (args := [.int .i64 p, va, vb]) Try.func58 rfl rfl ?_
  have X0 := Ext.refl H
  have hm1 := hr.max
  have hm2 := hr2.max
  refine AW.rs ?_
  refine AL.val rfl (.inl rfl) (HV.as rfl) ?_
  refine AL.val rfl (.inl rfl) (HV.as rfl) ?_
  refine AL.nx ?_
  refine AW.seq ?_
  refine AW.rs ?_
  refine AL.val rfl (.inl rfl) (HV.mv rfl) ?_
  refine AL.val rfl (.inl rfl) (HV.mv rfl) ?_
  refine AL.w rfl (.inl rfl) (WV.call fn106 rfl (specVC_ok (p := p) hr)) ?_
  rintro _ H3 ⟨rfl, hx4⟩
  have X5 := Ext.trans X0 hx4
  refine AL.val rfl (.inl rfl) (HV.not rfl) ?_
  refine AL.val rfl (.inl rfl) (HV.mv rfl) ?_
  by_cases c6 : primeI p ∧ curveI p la
  · -- false
    have c6_ : (!decide (primeI p ∧ curveI p la)) = false := by rw [decide_eq_true c6]; rfl
    rw [c6_]
    refine AL.val rfl (.inr ⟨_, _, _, rfl, rfl, rfl⟩) (HV.mv rfl) ?_
    refine AL.val rfl (.inr ⟨_, _, _, rfl, rfl, rfl⟩) (HV.mv rfl) ?_
    refine AL.w rfl (.inr ⟨_, _, _, rfl, rfl, rfl⟩) (WV.call fn106 rfl (specVC_ok (p := p) (hr2.ext X5))) ?_
    rintro _ H7 ⟨rfl, hx8⟩
    have X9 := Ext.trans X5 hx8
    refine AL.val rfl (.inr ⟨_, _, _, rfl, rfl, rfl⟩) (HV.not rfl) ?_
    refine AL.val rfl (.inl rfl) (HV.pickF rfl rfl) ?_
    refine AL.nx ?_
    refine AW.ifn rfl (fun c10 => ?_) (fun c10 => ?_)
    · -- then
      refine AW.rs ?_
      have X11 := Ext.refl H7
      have o12 := X9.bd
      have o13 := X11.bd
      refine AL.w rfl (.inl rfl) (WV.bsK (K := kI) (l := ([] : List Int)) (css := []) sl24 rfl rfl (by first | rfl | (simp [Instr.fill, Value.cells, kI, kB, kU, kS, Kd.sc]; done) | (simp [Instr.fill, Value.cells, kI, kB, kU, kS, Kd.sc, rng1, rng2, rng3, rng4, kP])) rfl segs_nil) ?_
      rintro v14 H15 ⟨hx16, ho17⟩
      have X18 := Ext.trans X9 hx16
      have X19 := Ext.trans X11 hx16
      refine AL.val rfl (.inl rfl) (HV.as rfl) ?_
      refine AL.val rfl (.inl rfl) (HV.as rfl) ?_
      refine AL.nx ?_
      refine AW.ret ?_
      refine ret_and ?_
      refine post_two rfl rfl rfl ?_ (.inr rfl)
      exfalso; first | exact c10 hc1 | exact c10 ⟨hc1.1, hc2⟩
    · -- else
      refine AW.skip ?_
      refine nrm_and ?_
      refine AW.rs ?_
      refine AL.val rfl (.inl rfl) (HV.mv rfl) ?_
      refine AL.val rfl (.inl rfl) (HV.mv rfl) ?_
      refine AL.val rfl (.inl rfl) (HV.mv rfl) ?_
      have X21 := Ext.refl H7
      have o22 := X9.bd
      have o23 := X21.bd
      refine AL.w rfl (.inl rfl) (WV.call fn111 rfl (l05Sum_ok (hr.ext X9) (hr2.ext X9) 1 hc1.1.1 (by have := hc1.1.1; omega) hc1.2.2.1 hc2.2.1 ⟨by have := hc1.2.1; omega, by have := hc2.1; omega⟩)) ?_
      rintro v24 H25 ⟨hx26, ho27⟩
      have X28 := Ext.trans X9 hx26
      have X29 := Ext.trans X21 hx26
      refine AL.val rfl (.inl rfl) (HV.as rfl) ?_
      refine AL.val rfl (.inl rfl) (HV.as rfl) ?_
      refine AL.nx ?_
      refine AW.ret ?_
      refine post_two rfl rfl rfl ?_ (.inr rfl)
      exact ⟨⟨_, rfl, (ho27.rd).okk (fun _ _ _ => trivial)⟩, X28⟩
  · -- true
    have c6_ : (!decide (primeI p ∧ curveI p la)) = true := by rw [decide_eq_false c6]; rfl
    rw [c6_]
    refine AL.off rfl rfl (by decide) rfl ?_
    refine AL.off rfl rfl (by decide) rfl ?_
    refine AL.off rfl rfl (by decide) rfl ?_
    refine AL.off rfl rfl (by decide) rfl ?_
    refine AL.val rfl (.inl rfl) (HV.pickT rfl rfl) ?_
    refine AL.nx ?_
    refine AW.cond rfl (fun _ => ?_) (fun h => by cases h)
    refine AW.rs ?_
    have X32 := Ext.refl H3
    have o33 := X5.bd
    have o34 := X32.bd
    refine AL.w rfl (.inl rfl) (WV.bsK (K := kI) (l := ([] : List Int)) (css := []) sl24 rfl rfl (by first | rfl | (simp [Instr.fill, Value.cells, kI, kB, kU, kS, Kd.sc]; done) | (simp [Instr.fill, Value.cells, kI, kB, kU, kS, Kd.sc, rng1, rng2, rng3, rng4, kP])) rfl segs_nil) ?_
    rintro v35 H36 ⟨hx37, ho38⟩
    have X39 := Ext.trans X5 hx37
    have X40 := Ext.trans X32 hx37
    refine AL.val rfl (.inl rfl) (HV.as rfl) ?_
    refine AL.val rfl (.inl rfl) (HV.as rfl) ?_
    refine AL.nx ?_
    refine AW.ret ?_
    refine ret_and ?_
    refine post_two rfl rfl rfl ?_ (.inr rfl)
    exfalso; first | exact c6 hc1 | exact c6 ⟨hc1.1, hc2⟩

set_option maxRecDepth 100000 in
theorem scaleCu_ok {v : Value} {l : List Int} {ok : Nat → Prop} {p : Int} (hr : RdK kI W H ok v l) (t : Int) (hc1 : primeI p ∧ curveI p l) (ht : 0 ≤ t ∧ t ≤ p - 1) : ACalls Try.prog W 57 #[.int .i64 p, v, .int .i64 t] H (fun r H' => (∃ v, r = .tuple #[v, .int .i64 0] ∧ RdK kI W H' (fun _ => True) v (stripM (scl p t l))) ∧ Ext H H') := by
  refine ACalls.of (args := [.int .i64 p, v, .int .i64 t]) Try.func57 rfl rfl ?_
  have X0 := Ext.refl H
  have hm1 := hr.max
  refine AW.rs ?_
  refine AL.val rfl (.inl rfl) (HV.as rfl) ?_
  refine AL.val rfl (.inl rfl) (HV.as rfl) ?_
  refine AL.nx ?_
  refine AW.seq ?_
  refine AW.rs ?_
  refine AL.val rfl (.inl rfl) (HV.mv rfl) ?_
  refine AL.val rfl (.inl rfl) (HV.mv rfl) ?_
  refine AL.w rfl (.inl rfl) (WV.call fn59 rfl (validCu_ok (p := p) hr)) ?_
  rintro _ H2 ⟨rfl, hx3⟩
  have X4 := Ext.trans X0 hx3
  refine AL.val rfl (.inl rfl) (HV.not rfl) ?_
  refine AL.nx ?_
  refine AW.ifn rfl (fun c5 => ?_) (fun c5 => ?_)
  · -- then
    refine AW.rs ?_
    refine AL.val rfl (.inl rfl) (HV.as rfl) ?_
    refine AL.val rfl (.inl rfl) (HV.as rfl) ?_
    refine AL.nx ?_
    refine AW.ret ?_
    refine ret_and ?_
    refine post_two rfl rfl rfl ?_ (.inr rfl)
    exfalso; first | exact c5 hc1 | exact c5 ⟨hc1.1, elems_one.2 ht⟩
  · -- else
    refine AW.skip ?_
    refine nrm_and ?_
    refine AW.seq ?_
    refine AW.rs ?_
    refine AL.val rfl (.inl rfl) (HV.mv rfl) ?_
    refine AL.val rfl (.inl rfl) (HV.mv rfl) ?_
    have X6 := Ext.refl H2
    have o7 := X4.bd
    have o8 := X6.bd
    refine AL.w rfl (.inl rfl) (WV.bsK (K := kI) (l := ([t] : List Int)) (css := [[.int .i64 t]]) sl24 rfl rfl (by first | rfl | (simp [Instr.fill, Value.cells, kI, kB, kU, kS, Kd.sc]; done) | (simp [Instr.fill, Value.cells, kI, kB, kU, kS, Kd.sc, rng1, rng2, rng3, rng4, kP])) rfl (segs_cons rfl segs_nil)) ?_
    rintro v9 H10 ⟨hx11, ho12⟩
    have X13 := Ext.trans X4 hx11
    have X14 := Ext.trans X6 hx11
    refine AL.w rfl (.inl rfl) (WV.call fn90 rfl (areEl_ok p ho12.rd)) ?_
    rintro _ H16 ⟨rfl, hx17⟩
    have X18 := Ext.trans X13 hx17
    have X19 := Ext.trans X14 hx17
    have ho20 := ho12.ext hx17
    refine AL.val rfl (.inl rfl) (HV.not rfl) ?_
    refine AL.nx ?_
    refine AW.ifn rfl (fun c21 => ?_) (fun c21 => ?_)
    · -- then
      refine AW.rs ?_
      refine AL.val rfl (.inl rfl) (HV.as rfl) ?_
      refine AL.val rfl (.inl rfl) (HV.as rfl) ?_
      refine AL.nx ?_
      refine AW.ret ?_
      refine ret_and ?_
      refine post_two rfl rfl rfl ?_ (.inr rfl)
      exfalso; first | exact c21 hc1 | exact c21 ⟨hc1.1, elems_one.2 ht⟩
    · -- else
      refine AW.skip ?_
      refine nrm_and ?_
      refine AW.rs ?_
      refine AL.val rfl (.inl rfl) (HV.mv rfl) ?_
      have X22 := Ext.refl H16
      have o23 := X18.bd
      have o24 := X19.bd
      have o25 := X22.bd
      have a26 := ho20.ltb
      refine AL.w rfl (.inl rfl) (WV.call fn95 rfl (cloneI_ok (hr.ext X18) (by have := hc1.2.1; omega))) ?_
      rintro v27 H28 ⟨hx29, ho30⟩
      have X31 := Ext.trans X18 hx29
      have X32 := Ext.trans X19 hx29
      have X33 := Ext.trans X22 hx29
      have ho34 := ho20.ext hx29
      refine AL.val rfl (.inl rfl) (HV.as rfl) ?_
      refine AL.nx ?_
      refine AW.rs ?_
      refine AL.val rfl (.inl rfl) (HV.mv rfl) ?_
      refine AL.val rfl (.inl rfl) (HV.mv rfl) ?_
      refine AL.val rfl (.inl rfl) (HV.mv rfl) ?_
      refine AL.w rfl (.inl rfl) (WV.call fn110 rfl (scaled_ok ho30 hc1.1.1 hc1.2.2.1 ht)) ?_
      rintro _ H36 ⟨hx37, ho38⟩
      have X39 := Ext.thru X31 hx37 (fun b hb => Nat.le_trans o23 (ho30.blk b hb).1)
      have X40 := Ext.thru X32 hx37 (fun b hb => Nat.le_trans o24 (ho30.blk b hb).1)
      have X41 := Ext.thru X33 hx37 (fun b hb => Nat.le_trans o25 (ho30.blk b hb).1)
      refine AL.nx ?_
      refine AW.rs ?_
      refine AL.val rfl (.inl rfl) (HV.mv rfl) ?_
      refine AL.w rfl (.inl rfl) (WV.call fn108 rfl (strip_ok ho38.rd)) ?_
      rintro v43 H44 ⟨hr46, hx45⟩
      have X47 := Ext.trans X39 hx45
      have X48 := Ext.trans X40 hx45
      have X49 := Ext.trans X41 hx45
      have ho50 := ho38.ext hx45
      have X51 := Ext.refl H44
      refine AL.val rfl (.inl rfl) (HV.as rfl) ?_
      refine AL.val rfl (.inl rfl) (HV.as rfl) ?_
      refine AL.nx ?_
      refine AW.ret ?_
      refine post_two rfl rfl rfl ?_ (.inr rfl)
      exact ⟨⟨_, rfl, hr46⟩, X47⟩

set_option maxRecDepth 100000 in
theorem dealI_ok {v vp : Value} {l pts : List Int} {ok ok3 : Nat → Prop} (p : Int) (hr : RdK kI W H ok v l) (hr3 : RdK kI W H ok3 vp pts) (hq : primeI p ∧ curveI p l) (hpt : ptsI p pts) : ACalls Try.prog W 60 #[.int .i64 p, v, vp] H (fun r H' => (∃ v, r = .tuple #[v, .int .i64 0] ∧ OwnK (kP kI kI) 68 W H' (fun b => H.bd ≤ b) v (pts.map (fun x => (x, val p l x)))) ∧ Ext H H') := by
  refine ACalls.of (args := [.int .i64 p, v, vp]) Try.func60 rfl rfl ?_
  have X0 := Ext.refl H
  have hm1 := hr.max
  have hm2 := hr3.max
  have hp := hq.1.1
  have hc := hq.2.2.1
  have hl10 := hpt.1
  refine AW.rs ?_
  refine AL.val rfl (.inl rfl) (HV.as rfl) ?_
  refine AL.val rfl (.inl rfl) (HV.as rfl) ?_
  refine AL.nx ?_
  refine AW.seq ?_
  refine AW.rs ?_
  refine AL.val rfl (.inl rfl) (HV.mv rfl) ?_
  refine AL.val rfl (.inl rfl) (HV.mv rfl) ?_
  refine AL.w rfl (.inl rfl) (WV.call fn59 rfl (validCu_ok (p := p) hr)) ?_
  rintro _ H3 ⟨rfl, hx4⟩
  have X5 := Ext.trans X0 hx4
  refine AL.val rfl (.inl rfl) (HV.not rfl) ?_
  refine AL.nx ?_
  refine AW.ifn rfl (fun c6 => ?_) (fun c6 => ?_)
  · -- then
    refine AW.rs ?_
    refine AL.val rfl (.inl rfl) (HV.as rfl) ?_
    refine AL.val rfl (.inl rfl) (HV.as rfl) ?_
    refine AL.nx ?_
    refine AW.ret ?_
    refine ret_and ?_
    refine post_two rfl rfl rfl ?_ (.inr rfl)
    exfalso; first | exact c6 hq | exact c6 hpt
  · -- else
    refine AW.skip ?_
    refine nrm_and ?_
    refine AW.seq ?_
    refine AW.rs ?_
    refine AL.val rfl (.inl rfl) (HV.mv rfl) ?_
    refine AL.val rfl (.inl rfl) (HV.mv rfl) ?_
    refine AL.w rfl (.inl rfl) (WV.call fn97 rfl (arePts_ok (hr3.ext X5) hq.1.1)) ?_
    rintro _ H7 ⟨rfl, hx8⟩
    have X9 := Ext.trans X5 hx8
    refine AL.val rfl (.inl rfl) (HV.not rfl) ?_
    refine AL.nx ?_
    refine AW.ifn rfl (fun c10 => ?_) (fun c10 => ?_)
    · -- then
      refine AW.rs ?_
      refine AL.val rfl (.inl rfl) (HV.as rfl) ?_
      refine AL.val rfl (.inl rfl) (HV.as rfl) ?_
      refine AL.nx ?_
      refine AW.ret ?_
      refine ret_and ?_
      refine post_two rfl rfl rfl ?_ (.inr rfl)
      exfalso; first | exact c10 hq | exact c10 hpt
    · -- else
      refine AW.skip ?_
      refine nrm_and ?_
      refine AW.rs ?_
      have X11 := Ext.refl H7
      have o12 := X9.bd
      have o13 := X11.bd
      refine AL.w rfl (.inl rfl) (WV.bsK (K := (kP kI kI)) (l := ([] : List (Int × Int))) (css := []) sl27 rfl rfl (by first | rfl | (simp [Instr.fill, Value.cells, kI, kB, kU, kS, Kd.sc]; done) | (simp [Instr.fill, Value.cells, kI, kB, kU, kS, Kd.sc, rng1, rng2, rng3, rng4, kP])) rfl segs_nil) ?_
      rintro v14 H15 ⟨hx16, ho17⟩
      have X18 := Ext.trans X9 hx16
      have X19 := Ext.trans X11 hx16
      refine AL.val rfl (.inl rfl) (HV.as rfl) ?_
      refine AL.nx ?_
      refine AW.seq ?_
      refine AW.rs ?_
      refine AL.val rfl (.inl rfl) (HV.mv rfl) ?_
      refine AL.val rfl (.inl rfl) (HV.len Try.underlying24 rfl hr3.isSl) ?_
      refine AL.val rfl (.inl rfl) (HV.mv rfl) ?_
      refine AL.nx ?_
      refine AW.block ?_
      refine AW.loop (σ := Nat × Value × List (Int × Int)) (fun ⟨i, vv, k⟩ => [(0, .int .i64 p), (1, v), (6, (.slice none 0 0)), (7, .int .i64 0), (20, vp), (21, .int .i64 (pts.length : Int)), (8, vv), (22, .int .i64 (i : Int))]) (fun ⟨i, vv, k⟩ H' => Ext H H' ∧ Ext H7 H' ∧ i ≤ pts.length ∧ k = (pts.take i).map (fun x => (x, val p l x)) ∧ k.length = i ∧ OwnK (kP kI kI) 68 W H' (fun b => H7.bd ≤ b) vv k ∧ True) (fun ⟨i, vv, k⟩ => pts.length - i) (0, v14, (([] : List (Int × Int)) : List (Int × Int))) ⟨X18, X19, Nat.zero_le _, rfl, rfl, ho17, trivial⟩ ⟨rfl, rfl, rfl, rfl, rfl, rfl, rfl, rfl, trivial⟩ ?_
      rintro ⟨i, vv, k⟩ H21 ⟨X22, X23, hi, hk, hk2, hoL, _⟩
      refine AW.rs ?_
      refine AL.val rfl (.inl rfl) (HV.lti rfl rfl) ?_
      refine AL.nx ?_
      refine AW.seq ?_
      refine AW.ifd rfl (fun c24 => ?_) (fun c24 => ?_)
      · -- then
        refine AW.skip ?_
        refine nrm_and ?_
        refine AW.seq ?_
        refine AW.block ?_
        refine AW.rs ?_
        obtain ⟨p25, z26, cs27, hz28, hK29, hC30, hP31⟩ := RdK.ix (q := (i : Int)) hr3 sl24 (by omega) (by omega)
        obtain rfl : cs27 = [.int .i64 z26] := hK29
        refine AL.val rfl (.inl rfl) (hP31 rfl rfl) ?_
        refine AL.val rfl (.inl rfl) (HV.ld rfl va2 (cells_first (hC30.ext X22) rfl)) ?_
        refine AL.val rfl (.inl rfl) (HV.as rfl) ?_
        refine AL.nx ?_
        refine AW.reg ?_
        refine AL.val rfl (.inl rfl) (HV.mv rfl) ?_
        refine AL.val rfl (.inl rfl) (HV.mv rfl) ?_
        refine AL.val rfl (.inl rfl) (HV.mv rfl) ?_
        refine AL.val rfl (.inl rfl) (HV.mv rfl) ?_
        refine AL.val rfl (.inl rfl) (HV.mv rfl) ?_
        refine AL.w rfl (.inl rfl) (WV.call fn83 rfl (curveAt_ok (hr.ext X22) z26 hp (by have q := ris_at hpt.2 hz28; omega) hc)) ?_
        rintro _ H32 ⟨rfl, hx33⟩
        have X34 := Ext.trans X22 hx33
        have X35 := Ext.trans X23 hx33
        have ho36 := hoL.ext hx33
        refine AL.val rfl (.inl rfl) (HV.bd rfl (bd68_0_1 z26 (val p l z26))) ?_
        have X37 := Ext.refl H32
        have o38 := X34.bd
        have o39 := X35.bd
        have o40 := X37.bd
        have a41 := ho36.ltb
        refine AL.w rfl (.inl rfl) (WV.bsK (K := (kP kI kI)) (l := ([((z26, val p l z26) : (Int × Int))] : List (Int × Int))) (css := [[.int .i64 z26, .int .i64 (val p l z26)]]) sl27 rfl rfl (by first | rfl | (simp [Instr.fill, Value.cells, kI, kB, kU, kS, Kd.sc]; done) | (simp [Instr.fill, Value.cells, kI, kB, kU, kS, Kd.sc, rng1, rng2, rng3, rng4, kP])) rfl (segs_cons ⟨[.int .i64 z26], [.int .i64 (val p l z26)], rfl, rfl, rfl⟩ segs_nil)) ?_
        rintro v42 H43 ⟨hx44, ho45⟩
        have X46 := Ext.trans X34 hx44
        have X47 := Ext.trans X35 hx44
        have X48 := Ext.trans X37 hx44
        have ho49 := ho36.ext hx44
        have X51 := Ext.refl H43
        refine AL.w rfl (.inl rfl) (WV.apk sl27 rfl rfl ho49 ho45.rd (by rw [hk2]; simp; omega) (by rw [hk2]; simp; omega) (fun b hb _ e => Nat.lt_irrefl _ (Nat.lt_of_lt_of_le (a41 b e) hb))) ?_
        rintro v52 H53 ⟨hx54, ho55, hb56⟩
        have ho57 := ho55.narrow (ok' := fun b => H7.bd ≤ b) (kP_flat kI_flat kI_flat) (fun b q => (hb56 b q).elim (fun e => (ho49.blk b e).1) (fun e => Nat.le_trans X47.bd e))
        have X58 := Ext.thru X46 hx54 (fun b hb => Nat.le_trans o12 (ho49.blk b hb).1)
        have X59 := Ext.thru X47 hx54 (fun b hb => Nat.le_trans o13 (ho49.blk b hb).1)
        refine AL.val rfl (.inl rfl) (HV.as rfl) ?_
        refine AL.nil ?_
        refine nrm_blk (nrm_and ?_)
        refine AW.reg ?_
        refine AL.val rfl (.inl rfl) (HV.add rfl rfl (by omega)) ?_
        refine AL.val rfl (.inl rfl) (HV.mv rfl) ?_
        refine AL.nil ?_
        refine nrm_and ?_
        exact ⟨(i + 1, v52, (k ++ (([((z26, val p l z26) : (Int × Int))] : List (Int × Int)) : List (Int × Int)))), ⟨X58, X59, by omega, by rw [mapS_snoc hz28, hk], by simp [hk2], ho57, trivial⟩, by first | omega | (dsimp only; omega), ⟨rfl, rfl, rfl, rfl, rfl, rfl, rfl, rfl, trivial⟩⟩
      · -- else
        refine AW.exit ?_
        refine ex_and (ex_and (ex_blk ?_))
        refine nrm_and ?_
        refine AW.rs ?_
        refine AL.val rfl (.inl rfl) (HV.mv rfl) ?_
        refine AL.val rfl (.inl rfl) (HV.as rfl) ?_
        refine AL.val rfl (.inl rfl) (HV.as rfl) ?_
        refine AL.nx ?_
        refine AW.ret ?_
        refine post_two rfl rfl rfl ?_ (.inr rfl)
        exact ⟨⟨_, rfl, by have e : pts.take i = pts := List.take_of_length_le (by omega); have q := hoL.okk (fun b hb _ => Nat.le_trans o12 hb); rw [hk, e] at q; exact q⟩, X22⟩

set_option maxRecDepth 100000 in
theorem f6sh_ok {va vb : Value} {l m : List (Int × Int)} {ok ok2 : Nat → Prop} (hr : RdK (kP kI kI) W H ok va l) (hr2 : RdK (kP kI kI) W H ok2 vb m) : ACalls Try.prog W 61 #[va, vb] H (fun r H' => r = .bool (decide (l = m)) ∧ Ext H H') := by
  refine ACalls.of (args := [va, vb]) Try.func61 rfl rfl ?_
  have X0 := Ext.refl H
  have hm1 := hr.max
  have hm2 := hr2.max
  refine AW.rs ?_
  refine AL.val rfl (.inl rfl) (HV.as rfl) ?_
  refine AL.nx ?_
  refine AW.seq ?_
  refine AW.rs ?_
  refine AL.val rfl (.inl rfl) (HV.mv rfl) ?_
  refine AL.val rfl (.inl rfl) (HV.len Try.underlying27 rfl hr.isSl) ?_
  refine AL.val rfl (.inl rfl) (HV.mv rfl) ?_
  refine AL.val rfl (.inl rfl) (HV.len Try.underlying27 rfl hr2.isSl) ?_
  refine AL.val rfl (.inl rfl) (HV.nei rfl rfl) ?_
  refine AL.nx ?_
  refine AW.ifd rfl (fun c3 => ?_) (fun c3 => ?_)
  · -- then
    refine AW.rs ?_
    refine AL.val rfl (.inl rfl) (HV.as rfl) ?_
    refine AL.nx ?_
    refine AW.ret ?_
    refine ret_and ?_
    refine post_one rfl rfl ?_ (.inr rfl)
    exact ⟨dec_f (fun e => by subst e; omega), X0⟩
  · -- else
    refine AW.skip ?_
    refine nrm_and ?_
    refine AW.seq ?_
    refine AW.rs ?_
    refine AL.val rfl (.inl rfl) (HV.as rfl) ?_
    refine AL.nx ?_
    refine AW.block ?_
    refine AW.loop (σ := Nat) (fun i => [(0, va), (1, vb), (5, .int .i64 (i : Int))]) (fun i H' => Ext H H' ∧ i ≤ l.length ∧ (∀ j, j < i → l.getD j (0, 0) = m.getD j (0, 0)) ∧ True) (fun i => l.length - i) 0 ⟨X0, Nat.zero_le _, fun j hj => absurd hj (Nat.not_lt_zero _), trivial⟩ ⟨rfl, rfl, rfl, trivial⟩ ?_
    rintro i H4 ⟨X5, hi, he, _⟩
    refine AW.seq ?_
    refine AW.rs ?_
    refine AL.val rfl (.inl rfl) (HV.mv rfl) ?_
    refine AL.val rfl (.inl rfl) (HV.mv rfl) ?_
    refine AL.val rfl (.inl rfl) (HV.len Try.underlying27 rfl hr.isSl) ?_
    refine AL.val rfl (.inl rfl) (HV.lti rfl rfl) ?_
    refine AL.nx ?_
    refine AW.ifd rfl (fun c6 => ?_) (fun c6 => ?_)
    · -- then
      refine AW.skip ?_
      refine nrm_and ?_
      refine AW.seq ?_
      refine AW.block ?_
      refine AW.seq ?_
      refine AW.draw' [0, 0, 3, 7, 0, 0, 48, 112, 255] mixed (by rfl) ?_
      refine Dr.read 0 _ 17 _ rfl rfl rfl rfl rfl (RV.of (by intro _ _ h; cases h) (.inl rfl) (fun _ xd => HV.mv rfl)) ?_
      refine Dr.read 1 _ 18 _ rfl rfl rfl rfl rfl (RV.of (by intro _ _ h; cases h) (.inl rfl) (fun _ xd => HV.mv rfl)) ?_
      obtain ⟨p7, z8, cs9, hz10, hK11, hC12, hP13⟩ := RdK.ix (q := (i : Int)) hr sl27 (by omega) (by omega)
      obtain ⟨cs14, cs15, rfl, hK16, hK17⟩ := hK11
      obtain rfl : cs14 = [.int .i64 z8.1] := hK16
      obtain rfl : cs15 = [.int .i64 z8.2] := hK17
      refine Dr.read 2 _ 19 _ rfl rfl rfl rfl rfl (RV.of (by intro _ _ h; cases h) (.inl rfl) (fun _ xd => hP13 rfl rfl)) ?_
      refine Dr.read 3 _ 20 _ rfl rfl rfl rfl rfl (RV.of (by intro _ _ h; cases h) (.inl rfl) (fun _ xd => HV.lda (cs := [.int .i64 z8.1, .int .i64 z8.2]) rfl va68 (fun j u hu => rdc_ext xd ((hC12.ext X5) j u hu)))) ?_
      refine Dr.read 4 _ 21 _ rfl rfl rfl rfl rfl (RV.of (by intro _ _ h; cases h) (.inl rfl) (fun _ xd => HV.mv rfl)) ?_
      refine Dr.read 5 _ 22 _ rfl rfl rfl rfl rfl (RV.of (by intro _ _ h; cases h) (.inl rfl) (fun _ xd => HV.mv rfl)) ?_
      obtain ⟨p18, z19, cs20, hz21, hK22, hC23, hP24⟩ := RdK.ix (q := (i : Int)) hr2 sl27 (by omega) (by omega)
      obtain ⟨cs25, cs26, rfl, hK27, hK28⟩ := hK22
      obtain rfl : cs25 = [.int .i64 z19.1] := hK27
      obtain rfl : cs26 = [.int .i64 z19.2] := hK28
      refine Dr.read 6 _ 23 _ rfl rfl rfl rfl rfl (RV.of (by intro _ _ h; cases h) (.inl rfl) (fun _ xd => hP24 rfl rfl)) ?_
      refine Dr.read 7 _ 24 _ rfl rfl rfl rfl rfl (RV.of (by intro _ _ h; cases h) (.inl rfl) (fun _ xd => HV.lda (cs := [.int .i64 z19.1, .int .i64 z19.2]) rfl va68 (fun j u hu => rdc_ext xd ((hC23.ext X5) j u hu)))) ?_
      refine Dr.read 8 _ 25 _ rfl rfl rfl rfl rfl (RV.of (by intro _ _ h; cases h) (.inl rfl) (fun _ xd => HV.neSh rfl rfl)) ?_
      refine Dr.fin rfl ?_
      refine nrm_and ?_
      refine AW.ifd rfl (fun c29 => ?_) (fun c29 => ?_)
      · -- then
        refine AW.rs ?_
        refine AL.val rfl (.inl rfl) (HV.as rfl) ?_
        refine AL.nx ?_
        refine AW.ret ?_
        refine ret_blk (ret_and (ret_and (ret_blk (ret_and ?_))))
        refine post_one rfl rfl ?_ (.inr rfl)
        exact ⟨dec_f (fun e => by subst e; have g19 : l.getD i (0, 0) = z8 := gd hz10 (by omega); have g23 : l.getD i (0, 0) = z19 := gd hz21 (by omega); exact c29 ⟨congrArg Prod.fst (g19.symm.trans g23), congrArg Prod.snd (g19.symm.trans g23)⟩), X5⟩
      · -- else
        refine AW.skip ?_
        refine nrm_blk (nrm_and ?_)
        refine AW.reg ?_
        refine AL.val rfl (.inl rfl) (HV.mv rfl) ?_
        refine AL.val rfl (.inl rfl) (HV.add rfl rfl (by omega)) ?_
        refine AL.val rfl (.inl rfl) (HV.as rfl) ?_
        refine AL.nil ?_
        refine nrm_and ?_
        exact ⟨i + 1, ⟨X5, by omega, fun j hj => by
      rcases Nat.lt_or_ge j i with h1 | h1
      · exact he j h1
      · obtain rfl : j = i := by omega
        have g19 : l.getD j (0, 0) = z8 := gd hz10 (by omega); have g23 : m.getD j (0, 0) = z19 := gd hz21 (by omega); rw [g19, g23]; exact Prod.ext (Decidable.not_not.1 c29).1 (Decidable.not_not.1 c29).2, trivial⟩, by first | omega | (dsimp only; omega), ⟨rfl, rfl, rfl, trivial⟩⟩
    · -- else
      refine AW.exit ?_
      refine ex_and (ex_and (ex_blk ?_))
      refine nrm_and ?_
      refine AW.rs ?_
      refine AL.val rfl (.inl rfl) (HV.as rfl) ?_
      refine AL.nx ?_
      refine AW.ret ?_
      refine post_one rfl rfl ?_ (.inr rfl)
      exact ⟨dec_t (list_eq (d := (0, 0)) (by omega) (fun j hj => he j (by omega))), X5⟩
end Go.Proofs.Ytonpikcbmgmchaa.VC
