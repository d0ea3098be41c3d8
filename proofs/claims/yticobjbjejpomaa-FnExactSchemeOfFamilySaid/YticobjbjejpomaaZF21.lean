/- Walks. -/
import Derived.Test.YticobjbjejpomaaZF12
import Derived.Test.YticobjbjejpomaaZTR
import Derived.Test.YticobjbjejpomaaZMK
set_option linter.unusedVariables false
set_option linter.unusedSimpArgs false
namespace Go.Proofs.Yticobjbjejpomaa.VC
open Go Go.RowKit
theorem emod_bd {p : Int} (hp : 0 < p) (a : Int) : 0 ≤ a % p ∧ a % p < p := ⟨Int.emod_nonneg _ (by omega), Int.emod_lt_of_pos _ hp⟩
def powM (p a : Int) : Nat → Int
  | 0 => 1 % p
  | k + 1 => powM p a k * a % p
theorem powM_in {p a : Int} (hp : 0 < p) : ∀ k, 0 ≤ powM p a k ∧ powM p a k < p
  | 0 => emod_bd hp 1
  | k + 1 => emod_bd hp _
theorem getD_ge {α : Type} {a : List α} {d : α} {j : Nat} (h : ¬ j < a.length) : a.getD j d = d := by
  rw [List.getD_eq_getElem?_getD, List.getElem?_eq_none (by omega)]; rfl
theorem setI_getD {l : List Int} {n k : Nat} {x : Int} : (l.set n x).getD k 0 = if k = n ∧ n < l.length then x else l.getD k 0 := by
  simp only [List.getD_eq_getElem?_getD, List.getElem?_set]
  by_cases h : n = k
  · subst h
    by_cases g : n < l.length
    · simp [g]
    · simp [g]
  · have h' : ¬ k = n := fun e => h e.symm
    simp [h, h']
/-! ### Schemes of gates: what both ways make -/
/-- The same numbers, but for zeros behind. -/
def Sim (a b : List Int) : Prop := ∀ j, a.getD j 0 = b.getD j 0
theorem padL_len {n : Nat} {a : List Int} (h : a.length ≤ n) : (padL n a).length = n := by simp [padL]; omega
theorem padL_get (n : Nat) (a : List Int) (j : Nat) : (padL n a).getD j 0 = a.getD j 0 := by
  unfold padL
  rw [List.getD_eq_getElem?_getD, List.getElem?_append]
  split
  · rw [← List.getD_eq_getElem?_getD]
  · rename_i h
    rw [getD_ge h, List.getElem?_replicate]
    split <;> rfl
theorem padL_eq {n : Nat} {a b : List Int} (h : Sim a b) (ha : a.length ≤ n) (hb : b.length ≤ n) : padL n a = padL n b :=
  list_eq (d := 0) (by rw [padL_len ha, padL_len hb]) (fun j _ => by rw [padL_get, padL_get]; exact h j)
/-- Powers of a kid's number. -/
def powT (p : Int) (i m : Nat) : List Int := (List.range m).map (fun k => powM p ((i : Int) + 1) (k + 1))
theorem powT_len (p : Int) (i m : Nat) : (powT p i m).length = m := by simp [powT]
theorem powT_succ (p : Int) (i m : Nat) : powT p i (m + 1) = powT p i m ++ [powM p ((i : Int) + 1) (m + 1)] := by simp [powT, List.range_succ]
theorem powT_get {p : Int} {i m j : Nat} (h : j < m) : (powT p i m).getD j 0 = powM p ((i : Int) + 1) (j + 1) := by simp [powT, h]
/-- A kid's list: the reference's, the program's. -/
def kidS (p : Int) (f m : Nat) (x : List Int) (i : Nat) : List Int := padL f x ++ powT p i m
def kidI (p : Int) (C f : Nat) (x : List Int) (i : Nat) : Nat → List Int
  | 0 => padL C x
  | j + 1 => (kidI p C f x i j).set (f + j) (powM p ((i : Int) + 1) (j + 1))
theorem kidI_len {p : Int} {C f i : Nat} {x : List Int} (h : x.length ≤ C) : ∀ j, (kidI p C f x i j).length = C
  | 0 => padL_len h
  | j + 1 => by rw [kidI, List.length_set]; exact kidI_len h j
theorem set_getD {l : List Int} {n k : Nat} {x : Int} (h : n < l.length) : (l.set n x).getD k 0 = if k = n then x else l.getD k 0 := by
  rw [setI_getD]
  by_cases e : k = n
  · rw [if_pos ⟨e, h⟩, if_pos e]
  · rw [if_neg (fun q => e q.1), if_neg e]
theorem kidI_get {p : Int} {C f i : Nat} {x : List Int} (h : x.length ≤ C) : ∀ j, f + j ≤ C → ∀ q, (kidI p C f x i j).getD q 0 = if f ≤ q ∧ q < f + j then powM p ((i : Int) + 1) (q - f + 1) else x.getD q 0
  | 0, _, q => by
    rw [if_neg (by omega)]; exact padL_get _ _ _
  | j + 1, hj, q => by
    rw [kidI, set_getD (by rw [kidI_len h]; omega), kidI_get h j (by omega) q]
    by_cases e : q = f + j
    · rw [if_pos e, if_pos (by omega), show q - f = j by omega]
    · rw [if_neg e]
      by_cases e2 : f ≤ q ∧ q < f + j
      · rw [if_pos e2, if_pos (by omega)]
      · rw [if_neg e2, if_neg (by omega)]
theorem kidS_get {p : Int} {f m i : Nat} {x : List Int} (h : x.length ≤ f) (q : Nat) : (kidS p f m x i).getD q 0 = if f ≤ q ∧ q < f + m then powM p ((i : Int) + 1) (q - f + 1) else x.getD q 0 := by
  unfold kidS
  rw [List.getD_eq_getElem?_getD, List.getElem?_append]
  split
  · rename_i hq
    rw [padL_len h] at hq
    rw [← List.getD_eq_getElem?_getD, padL_get, if_neg (by omega)]
  · rename_i hq
    rw [padL_len h] at hq ⊢
    rw [← List.getD_eq_getElem?_getD]
    by_cases e : q < f + m
    · rw [powT_get (by omega), if_pos (by omega)]
    · rw [getD_ge (by rw [powT_len]; omega), if_neg (by omega), getD_ge (by omega)]
theorem kidS_len {p : Int} {f m i : Nat} {x : List Int} (h : x.length ≤ f) : (kidS p f m x i).length = f + m := by unfold kidS; rw [List.length_append, padL_len h, powT_len]
theorem kid_sim {p : Int} {C f m i : Nat} {x y : List Int} (h : Sim x y) (hx : x.length ≤ f) (hy : y.length ≤ f) (hC : f + m ≤ C) : Sim (kidS p f m x i) (kidI p C f y i m) := fun q => by
  rw [kidS_get hx, kidI_get (by omega) m hC, h q]
def foldK {d : Nat} (step : GT d → Nat → MS → MS) (ks : List (GT d)) (i : Nat) (s : MS) : MS := (ks.take i).zipIdx.foldl (fun s q => step q.1 q.2 s) s
theorem foldK_succ {d : Nat} {step : GT d → Nat → MS → MS} {ks : List (GT d)} {i : Nat} {s : MS} {z : GT d} (h : ks[i]? = some z) : foldK step ks (i + 1) s = step z i (foldK step ks i s) := by
  obtain ⟨hi, rfl⟩ := List.getElem?_eq_some_iff.1 h
  unfold foldK
  rw [List.take_succ_eq_append_getElem hi, List.zipIdx_append, List.foldl_append]
  simp [Nat.min_eq_left (Nat.le_of_lt hi)]
theorem foldK_zero {d : Nat} (step : GT d → Nat → MS → MS) (ks : List (GT d)) (s : MS) : foldK step ks 0 s = s := rfl
/-- The rows of a gate; kid: what a kid's list is, by the columns that there are, those before, how many come in, the list, the kid's number. -/
def nodeG (kid : Nat → Nat → Nat → List Int → Nat → List Int) : (d : Nat) → GT d → List Int → MS → MS
  | 0, _, _, s => s
  | d + 1, (h, l, ks), x, s => if ks.length = 0 then (s.1, s.2.1 ++ [h], s.2.2 ++ [x]) else foldK (fun z i t => nodeG kid d z (kid t.1 s.1 (l - 1).toNat x i) t) ks ks.length (s.1 + (l - 1).toNat, s.2)
theorem nodeG_leaf {kid : Nat → Nat → Nat → List Int → Nat → List Int} {d : Nat} {h l : Int} {ks : List (GT d)} {x : List Int} {s : MS} (e : ks.length = 0) : nodeG kid (d + 1) (h, l, ks) x s = (s.1, s.2.1 ++ [h], s.2.2 ++ [x]) := if_pos e
theorem nodeG_node {kid : Nat → Nat → Nat → List Int → Nat → List Int} {d : Nat} {h l : Int} {ks : List (GT d)} {x : List Int} {s : MS} (e : ¬ ks.length = 0) : nodeG kid (d + 1) (h, l, ks) x s = foldK (fun z i t => nodeG kid d z (kid t.1 s.1 (l - 1).toNat x i) t) ks ks.length (s.1 + (l - 1).toNat, s.2) := if_neg e
theorem szL_more {d : Nat} (ks : List (GT d)) (i : Nat) (h : i ≤ ks.length) : szL d (ks.take i) + (ks.length - i) ≤ szL d ks := by
  have h1 : szL d ks = szL d (ks.take i) + szL d (ks.drop i) := by
    unfold szL
    rw [← List.sum_append_nat, ← List.map_append, List.take_append_drop]
  have h2 := szL_len (ks.drop i)
  rw [List.length_drop] at h2
  omega
/-- The reference's; the program's. -/
def kdS (p : Int) : Nat → Nat → Nat → List Int → Nat → List Int := fun _ f m x i => kidS p f m x i
def kdI (p : Int) : Nat → Nat → Nat → List Int → Nat → List Int := fun C f m x i => kidI p C f x i m
structure SimM (s t : MS) : Prop where
  c : s.1 = t.1
  o : s.2.1 = t.2.1
  n : s.2.2.length = t.2.2.length
  sim : ∀ j, Sim (s.2.2.getD j []) (t.2.2.getD j [])
  bs : ∀ r ∈ s.2.2, r.length ≤ s.1
  bt : ∀ r ∈ t.2.2, r.length ≤ t.1
theorem sim_snoc {s t : MS} (h : SimM s t) {x y : List Int} (hs : Sim x y) (hx : x.length ≤ s.1) (hy : y.length ≤ t.1) (a : Int) : SimM (s.1, s.2.1 ++ [a], s.2.2 ++ [x]) (t.1, t.2.1 ++ [a], t.2.2 ++ [y]) := by
  refine ⟨h.c, by show s.2.1 ++ [a] = _; rw [h.o], by show (s.2.2 ++ [x]).length = _; rw [List.length_append, List.length_append, h.n]; rfl, fun j => ?_, fun r hr => ?_, fun r hr => ?_⟩
  · show Sim ((s.2.2 ++ [x]).getD j []) ((t.2.2 ++ [y]).getD j [])
    have hn := h.n
    rw [List.getD_eq_getElem?_getD, List.getD_eq_getElem?_getD, List.getElem?_append, List.getElem?_append, hn]
    split
    · have := h.sim j
      rw [List.getD_eq_getElem?_getD, List.getD_eq_getElem?_getD] at this
      exact this
    · by_cases e : j - t.2.2.length = 0
      · rw [e]; exact hs
      · rw [List.getElem?_eq_none (by simp; omega), List.getElem?_eq_none (by simp; omega)]
        intro k; rfl
  · rcases List.mem_append.1 hr with q | q
    · exact h.bs r q
    · rw [List.mem_singleton.1 q]; exact hx
  · rcases List.mem_append.1 hr with q | q
    · exact h.bt r q
    · rw [List.mem_singleton.1 q]; exact hy
/-- How much comes in. -/
structure Inc (s t : MS) (n : Nat) : Prop where
  lo : s.1 ≤ t.1
  c : t.1 + 1 ≤ s.1 + n
  o : t.2.1.length ≤ s.2.1.length + n
  r : t.2.2.length ≤ s.2.2.length + n
mutual
theorem node_inc {kid : Nat → Nat → Nat → List Int → Nat → List Int} {n : Int} : ∀ (d : Nat) (z : GT d) (x : List Int) (s : MS), fmG n d z → Inc s (nodeG kid d z x s) (szG d z)
  | 0, z, _, _, _ => (gt0 z).elim
  | d + 1, (h, l, ks), x, s, hf => by
    rw [fmG_succ] at hf
    by_cases e : ks.length = 0
    · rw [nodeG_leaf e, szG_succ]
      exact ⟨Nat.le_refl _, by show s.1 + 1 ≤ _; omega, by show (s.2.1 ++ [h]).length ≤ _; rw [List.length_append, List.length_singleton]; omega, by show (s.2.2 ++ [x]).length ≤ _; rw [List.length_append, List.length_singleton]; omega⟩
    · rw [if_neg e] at hf
      have key := fun i hi => fold_inc (kid := kid) (n := n) (d := d) (ks := ks) (x := x) (s := s) (m := (l - 1).toNat) hf.2 i hi
      rw [nodeG_node e, szG_succ]
      have h3 := key ks.length (Nat.le_refl _)
      rw [List.take_length] at h3
      exact ⟨by have := h3.1; omega, by have := h3.2.1; omega, by have := h3.2.2.1; omega, by have := h3.2.2.2; omega⟩
theorem fold_inc {kid : Nat → Nat → Nat → List Int → Nat → List Int} {n : Int} {d : Nat} {ks : List (GT d)} {x : List Int} {s : MS} {m : Nat} (hf : ∀ z ∈ ks, fmG n d z) : ∀ i, i ≤ ks.length →
    s.1 + m ≤ (foldK (fun z i t => nodeG kid d z (kid t.1 s.1 m x i) t) ks i (s.1 + m, s.2)).1 ∧ (foldK (fun z i t => nodeG kid d z (kid t.1 s.1 m x i) t) ks i (s.1 + m, s.2)).1 + i ≤ s.1 + m + szL d (ks.take i) ∧
    (foldK (fun z i t => nodeG kid d z (kid t.1 s.1 m x i) t) ks i (s.1 + m, s.2)).2.1.length ≤ s.2.1.length + szL d (ks.take i) ∧ (foldK (fun z i t => nodeG kid d z (kid t.1 s.1 m x i) t) ks i (s.1 + m, s.2)).2.2.length ≤ s.2.2.length + szL d (ks.take i)
  | 0, _ => by rw [foldK_zero]; exact ⟨Nat.le_refl _, by simp, by simp, by simp⟩
  | i + 1, hi => by
    obtain ⟨h1, h2, h3, h4⟩ := fold_inc (kid := kid) (x := x) (s := s) (m := m) hf i (by omega)
    have hz : ks[i]? = some ks[i] := List.getElem?_eq_getElem (by omega)
    rw [foldK_succ hz, szL_snoc hz]
    have h5 := node_inc (kid := kid) d ks[i] (kid (foldK (fun z i t => nodeG kid d z (kid t.1 s.1 m x i) t) ks i (s.1 + m, s.2)).1 s.1 m x i) (foldK (fun z i t => nodeG kid d z (kid t.1 s.1 m x i) t) ks i (s.1 + m, s.2)) (hf _ (List.getElem_mem _))
    exact ⟨by have := h5.lo; omega, by have := h5.c; omega, by have := h5.o; omega, by have := h5.r; omega⟩
end
theorem node_sim {p : Int} {n : Int} : ∀ (d : Nat) (z : GT d) (x y : List Int) (s t : MS), fmG n d z → SimM s t → Sim x y → x.length ≤ s.1 → y.length ≤ s.1 → SimM (nodeG (kdS p) d z x s) (nodeG (kdI p) d z y t)
  | 0, z, _, _, _, _, _, _, _, _, _ => (gt0 z).elim
  | d + 1, (h, l, ks), x, y, s, t, hf, hst, hxy, hx, hy => by
    rw [fmG_succ] at hf
    by_cases e : ks.length = 0
    · rw [nodeG_leaf e, nodeG_leaf e]
      exact sim_snoc hst hxy hx (by rw [← hst.c]; exact hy) h
    · rw [if_neg e] at hf
      rw [nodeG_node e, nodeG_node e]
      have key : ∀ i, i ≤ ks.length → s.1 + (l - 1).toNat ≤ (foldK (fun z i t => nodeG (kdS p) d z (kdS p t.1 s.1 (l - 1).toNat x i) t) ks i (s.1 + (l - 1).toNat, s.2)).1 ∧ SimM (foldK (fun z i t => nodeG (kdS p) d z (kdS p t.1 s.1 (l - 1).toNat x i) t) ks i (s.1 + (l - 1).toNat, s.2)) (foldK (fun z i t' => nodeG (kdI p) d z (kdI p t'.1 t.1 (l - 1).toNat y i) t') ks i (t.1 + (l - 1).toNat, t.2)) := fun i => by
        induction i with
        | zero =>
          intro _
          rw [foldK_zero, foldK_zero]
          refine ⟨Nat.le_refl _, by show s.1 + _ = t.1 + _; rw [hst.c], hst.o, hst.n, hst.sim, fun r hr => ?_, fun r hr => ?_⟩
          · have := hst.bs r hr; show r.length ≤ s.1 + _; omega
          · have := hst.bt r hr; show r.length ≤ t.1 + _; omega
        | succ i ih =>
          intro hi
          obtain ⟨h1, h2⟩ := ih (by omega)
          have hz : ks[i]? = some ks[i] := List.getElem?_eq_getElem (by omega)
          rw [foldK_succ hz, foldK_succ hz]
          have hfk := hf.2 _ (List.getElem_mem (show i < ks.length by omega))
          have h3 := node_inc (kid := kdS p) d ks[i] (kdS p (foldK (fun z i t => nodeG (kdS p) d z (kdS p t.1 s.1 (l - 1).toNat x i) t) ks i (s.1 + (l - 1).toNat, s.2)).1 s.1 (l - 1).toNat x i) (foldK (fun z i t => nodeG (kdS p) d z (kdS p t.1 s.1 (l - 1).toNat x i) t) ks i (s.1 + (l - 1).toNat, s.2)) hfk
          refine ⟨by have := h3.lo; omega, node_sim d ks[i] _ _ _ _ hfk h2 ?_ ?_ ?_⟩
          · show Sim (kidS p s.1 (l - 1).toNat x i) (kidI p _ t.1 y i (l - 1).toNat)
            rw [← h2.c, ← hst.c]
            exact kid_sim hxy hx hy h1
          · show (kidS p s.1 (l - 1).toNat x i).length ≤ _
            rw [kidS_len hx]; exact h1
          · show (kidI p _ t.1 y i (l - 1).toNat).length ≤ _
            rw [kidI_len (by rw [← h2.c]; omega), ← h2.c]; exact Nat.le_refl _
      exact (key ks.length (Nat.le_refl _)).2
/-- Both ways fill up to the same rows. -/
theorem node_rows {p n : Int} {d : Nat} {z : GT d} (hf : fmG n d z) : (nodeG (kdS p) d z [1] (1, [], [])).1 = (nodeG (kdI p) d z [1] (1, [], [])).1 ∧ (nodeG (kdS p) d z [1] (1, [], [])).2.1 = (nodeG (kdI p) d z [1] (1, [], [])).2.1 ∧
    (nodeG (kdS p) d z [1] (1, [], [])).2.2.map (padL (nodeG (kdS p) d z [1] (1, [], [])).1) = (nodeG (kdI p) d z [1] (1, [], [])).2.2.map (padL (nodeG (kdI p) d z [1] (1, [], [])).1) ∧ (∀ r ∈ (nodeG (kdS p) d z [1] (1, [], [])).2.2, r.length ≤ (nodeG (kdS p) d z [1] (1, [], [])).1) ∧ ∀ r ∈ (nodeG (kdI p) d z [1] (1, [], [])).2.2, r.length ≤ (nodeG (kdI p) d z [1] (1, [], [])).1 := by
  have h := node_sim (p := p) d z [1] [1] (1, [], []) (1, [], []) hf ⟨rfl, rfl, rfl, fun _ _ => rfl, (fun r hr => absurd hr (by simp)), (fun r hr => absurd hr (by simp))⟩ (fun _ => rfl) (Nat.le_refl _) (Nat.le_refl _)
  generalize nodeG (kdS p) d z [1] (1, [], []) = S at *
  generalize nodeG (kdI p) d z [1] (1, [], []) = T at *
  refine ⟨h.c, h.o, ?_, h.bs, h.bt⟩
  have hc := h.c
  rw [← hc]
  apply List.ext_getElem
  · rw [List.length_map, List.length_map]; exact h.n
  · intro j h1 h2
    rw [List.length_map] at h1 h2
    rw [List.getElem_map, List.getElem_map]
    have hs := h.sim j
    rw [List.getD_eq_getElem?_getD, List.getD_eq_getElem?_getD, List.getElem?_eq_getElem h1, List.getElem?_eq_getElem h2] at hs
    exact padL_eq hs (h.bs _ (List.getElem_mem h1)) (Nat.le_trans (h.bt _ (List.getElem_mem h2)) (Nat.le_of_eq hc.symm))
/-- A node has so many kids. -/
def wdG (p : Int) : (d : Nat) → GT d → Prop
  | 0, _ => False
  | d + 1, (_, _, ks) => p ≤ (ks.length : Int) ∨ ∃ z ∈ ks, wdG p d z
theorem wdG_succ {p : Int} {d : Nat} {h l : Int} {ks : List (GT d)} : wdG p (d + 1) (h, l, ks) ↔ p ≤ (ks.length : Int) ∨ ∃ z ∈ ks, wdG p d z := Iff.rfl
noncomputable instance (p : Int) (d : Nat) (z : GT d) : Decidable (wdG p d z) := Classical.propDecidable _
/-- What comes out: owners, columns, rows, a code. -/
def gsO (p : Int) (d : Nat) (z : GT d) : List Int := (nodeG (kdS p) d z [1] (1, [], [])).2.1
def gsK (p : Int) (d : Nat) (z : GT d) : Nat := (nodeG (kdS p) d z [1] (1, [], [])).1
def gsL (p : Int) (d : Nat) (z : GT d) : List (List Int) := (nodeG (kdS p) d z [1] (1, [], [])).2.2.map (padL (gsK p d z))
noncomputable def lgC (n p : Int) (d : Nat) (z : GT d) : Int := if wdG p d z then 4 else if okSc n (gsO p d z) p (gsK p d z : Int) (gsL p d z) then 0 else 3
noncomputable def sgC (n p : Int) (d : Nat) (z : GT d) : Int := if primeI p ∧ 1 ≤ n ∧ n ≤ 7 then if vG n d z then lgC n p d z else 1 else 2
theorem lgC_w {n p : Int} {d : Nat} {z : GT d} (h : wdG p d z) : lgC n p d z = 4 := if_pos h
theorem lgC_0 {n p : Int} {d : Nat} {z : GT d} (h : ¬ wdG p d z) (h2 : okSc n (gsO p d z) p (gsK p d z : Int) (gsL p d z)) : lgC n p d z = 0 := by unfold lgC; rw [if_neg h, if_pos h2]
theorem lgC_3 {n p : Int} {d : Nat} {z : GT d} (h : ¬ wdG p d z) (h2 : ¬ okSc n (gsO p d z) p (gsK p d z : Int) (gsL p d z)) : lgC n p d z = 3 := by unfold lgC; rw [if_neg h, if_neg h2]
theorem sgC_l {n p : Int} {d : Nat} {z : GT d} (h : primeI p ∧ 1 ≤ n ∧ n ≤ 7) (h2 : vG n d z) : sgC n p d z = lgC n p d z := by unfold sgC; rw [if_pos h, if_pos h2]
theorem sgC_1 {n p : Int} {d : Nat} {z : GT d} (h : primeI p ∧ 1 ≤ n ∧ n ≤ 7) (h2 : ¬ vG n d z) : sgC n p d z = 1 := by unfold sgC; rw [if_pos h, if_neg h2]
theorem sgC_2 {n p : Int} {d : Nat} {z : GT d} (h : ¬ (primeI p ∧ 1 ≤ n ∧ n ≤ 7)) : sgC n p d z = 2 := if_neg h
/-- The program makes the same. -/
theorem gs_I {p n : Int} {d : Nat} {z : GT d} (hf : fmG n d z) : (nodeG (kdI p) d z [1] (1, [], [])).1 = gsK p d z ∧ (nodeG (kdI p) d z [1] (1, [], [])).2.1 = gsO p d z ∧ (nodeG (kdI p) d z [1] (1, [], [])).2.2.map (padL (nodeG (kdI p) d z [1] (1, [], [])).1) = gsL p d z := by
  obtain ⟨h1, h2, h3, _⟩ := node_rows (p := p) hf
  exact ⟨h1.symm, h2.symm, h3.symm⟩
variable {W : World} {H : Hp}

set_option maxRecDepth 100000 in
theorem l02Left_of {d : Nat} (ih : ∀ {p : Addr} {W : World} {H : Hp} {ok : Nat → Prop} {z : GT d} {a l : Int} {v : Value} (hK : (kG d).rd W H ok z [.int .i64 a, .int .i64 l, v]) (hc : Cells W H p [.int .i64 a, .int .i64 l, v]) (q : Int) (hq : 0 ≤ q ∧ q ≤ 60), ACalls Try.prog W 151 #[.pointer (some p), .int .i64 q] H (fun r H' => r = .int .i64 (max (q - (szG d z : Int)) (-1)) ∧ Ext H H')) {p : Addr} {h l : Int} {v : Value} {ks : List (GT d)} {ok : Nat → Prop} (hr : RdK (kG d) W H ok v ks) (hc : Cells W H p [.int .i64 h, .int .i64 l, v]) (q : Int) (hq : 0 ≤ q ∧ q ≤ 60) : ACalls Try.prog W 151 #[.pointer (some p), .int .i64 q] H (fun r H' => r = .int .i64 (max (q - (szG (d + 1) (h, l, ks) : Int)) (-1)) ∧ Ext H H') := by
  refine ACalls.of (args := [.pointer (some p), .int .i64 q]) Try.func151 rfl rfl ?_
  have X0 := Ext.refl H
  have hmx := hr.max
  have sl59 : SlT Try.prog 59 61 (.agg #[(.int .i64 0), (.int .i64 0), (.slice none 0 0)]) (kG d).sz 40 := by rw [kG_sz]; exact sl59
  refine AW.rs ?_
  refine AL.val rfl (.inl rfl) (HV.as rfl) ?_
  refine AL.nx ?_
  refine AW.rs ?_
  refine AL.val rfl (.inl rfl) (HV.mv rfl) ?_
  refine AL.val rfl (.inl rfl) (HV.sub rfl rfl (by omega)) ?_
  refine AL.val rfl (.inl rfl) (HV.as rfl) ?_
  refine AL.nx ?_
  refine AW.seq ?_
  refine AW.rs ?_
  refine AL.val rfl (.inl rfl) (HV.as rfl) ?_
  refine AL.nx ?_
  refine AW.block ?_
  refine AW.loop (σ := Nat × Int) (fun ⟨i, a⟩ => [(0, .pointer (some p)), (4, .int .i64 0), (1, .int .i64 a), (5, .int .i64 (i : Int))]) (fun ⟨i, a⟩ H' => Ext H H' ∧ i ≤ ks.length ∧ a = max (q - 1 - (szL d (ks.take i) : Int)) (-1) ∧ True) (fun ⟨i, a⟩ => ks.length - i) (0, (q - 1)) ⟨X0, Nat.zero_le _, by show _ = max (_ - ((0 : Nat) : Int)) _; omega, trivial⟩ ⟨rfl, rfl, rfl, rfl, trivial⟩ ?_
  rintro ⟨i, a⟩ H1 ⟨X2, hi, ha, _⟩
  refine AW.seq ?_
  refine AW.rs ?_
  refine AL.val rfl (.inl rfl) (HV.mv rfl) ?_
  refine AL.val rfl (.inl rfl) (HV.mv rfl) ?_
  refine AL.val rfl (.inl rfl) (HV.nc rfl) ?_
  refine AL.val rfl (.inl rfl) (HV.fa fl61_2 rfl) ?_
  refine AL.val rfl (.inl rfl) (HV.ld rfl va59 (cells_at (hc.ext X2) rfl)) ?_
  refine AL.val rfl (.inl rfl) (HV.len Try.underlying59 rfl hr.isSl) ?_
  refine AL.val rfl (.inl rfl) (HV.lti rfl rfl) ?_
  refine AL.val rfl (.inl rfl) (HV.mv rfl) ?_
  by_cases c3 : (i : Int) < (ks.length : Int)
  · -- true
    have c3_ : decide ((i : Int) < (ks.length : Int)) = true := decide_eq_true c3
    rw [c3_]
    refine AL.val rfl (.inr ⟨_, _, _, rfl, rfl, rfl⟩) (HV.mv rfl) ?_
    refine AL.val rfl (.inr ⟨_, _, _, rfl, rfl, rfl⟩) (HV.gei rfl rfl) ?_
    refine AL.val rfl (.inl rfl) (HV.pickT rfl rfl) ?_
    refine AL.nx ?_
    refine AW.ifd rfl (fun c4 => ?_) (fun c4 => ?_)
    · -- then
      refine AW.skip ?_
      refine nrm_and ?_
      refine AW.seq ?_
      refine AW.block ?_
      refine AW.reg ?_
      refine AL.val rfl (.inl rfl) (HV.mv rfl) ?_
      refine AL.val rfl (.inl rfl) (HV.nc rfl) ?_
      refine AL.val rfl (.inl rfl) (HV.fa fl61_2 rfl) ?_
      refine AL.val rfl (.inl rfl) (HV.ld rfl va59 (cells_at (hc.ext X2) rfl)) ?_
      refine AL.val rfl (.inl rfl) (HV.mv rfl) ?_
      obtain ⟨p5, z6, cs7, hz8, hK9, hC10, hP11⟩ := RdK.ix (q := (i : Int)) hr sl59 (by omega) (by omega)
      obtain ⟨a12, l13, v14, n15, rfl, isl16⟩ := kG_cells hK9
      refine AL.val rfl (.inl rfl) (hP11 rfl rfl) ?_
      refine AL.val rfl (.inl rfl) (HV.mv rfl) ?_
      refine AL.w rfl (.inl rfl) (WV.call fn151 rfl (ih (Kd.ext (kG d) hK9 X2) (hC10.ext X2) a (by omega))) ?_
      rintro _ H17 ⟨rfl, hx18⟩
      have X19 := Ext.trans X2 hx18
      refine AL.val rfl (.inl rfl) (HV.as rfl) ?_
      refine AL.nil ?_
      refine nrm_blk (nrm_and ?_)
      refine AW.reg ?_
      refine AL.val rfl (.inl rfl) (HV.mv rfl) ?_
      refine AL.val rfl (.inl rfl) (HV.add rfl rfl (by omega)) ?_
      refine AL.val rfl (.inl rfl) (HV.as rfl) ?_
      refine AL.nil ?_
      refine nrm_and ?_
      exact ⟨(i + 1, max (a - (szG d z6 : Int)) (-1)), ⟨X19, by omega, by rw [szL_snoc (getq hz8 rfl)]; omega, trivial⟩, by first | omega | (dsimp only; omega), ⟨rfl, rfl, rfl, rfl, trivial⟩⟩
    · -- else
      refine AW.exit ?_
      refine ex_and (ex_and (ex_blk ?_))
      refine nrm_and ?_
      refine AW.rs ?_
      refine AL.val rfl (.inl rfl) (HV.mv rfl) ?_
      refine AL.val rfl (.inl rfl) (HV.as rfl) ?_
      refine AL.nx ?_
      refine AW.ret ?_
      refine post_one rfl rfl ?_ (.inr rfl)
      exact ⟨congrArg (Value.int .i64) (by rw [szG_succ]; have h9 := szL_take ks i (d := d); omega), X2⟩
  · -- false
    have c3_ : decide ((i : Int) < (ks.length : Int)) = false := decide_eq_false c3
    rw [c3_]
    refine AL.off rfl rfl (by decide) rfl ?_
    refine AL.off rfl rfl (by decide) rfl ?_
    refine AL.val rfl (.inl rfl) (HV.pickF rfl rfl) ?_
    refine AL.nx ?_
    refine AW.cond rfl (fun h => by cases h) (fun _ => ?_)
    refine AW.exit ?_
    refine ex_and (ex_and (ex_blk ?_))
    refine nrm_and ?_
    refine AW.rs ?_
    refine AL.val rfl (.inl rfl) (HV.mv rfl) ?_
    refine AL.val rfl (.inl rfl) (HV.as rfl) ?_
    refine AL.nx ?_
    refine AW.ret ?_
    refine post_one rfl rfl ?_ (.inr rfl)
    exact ⟨congrArg (Value.int .i64) (by rw [szG_succ]; have h9 := szL_take ks i (d := d); rw [List.take_of_length_le (by omega)] at ha; omega), X2⟩

theorem l02Left_all (d : Nat) : ∀ {p : Addr} {W : World} {H : Hp} {ok : Nat → Prop} {z : GT d} {a l : Int} {v : Value} (hK : (kG d).rd W H ok z [.int .i64 a, .int .i64 l, v]) (hc : Cells W H p [.int .i64 a, .int .i64 l, v]) (q : Int) (hq : 0 ≤ q ∧ q ≤ 60), ACalls Try.prog W 151 #[.pointer (some p), .int .i64 q] H (fun r H' => r = .int .i64 (max (q - (szG d z : Int)) (-1)) ∧ Ext H H') := by
  induction d with
  | zero => intro p W H ok z a l v hK hc q hq; exact hK.elim
  | succ d ih =>
    intro p W H ok z a l v hK hc q hq
    obtain ⟨h', l', ks⟩ := z
    obtain ⟨v', e, hr⟩ := kG_succ.1 hK
    simp only [List.cons.injEq, Value.int.injEq, true_and, and_true] at e
    obtain ⟨rfl, rfl, rfl⟩ := e
    exact l02Left_of ih hr hc q hq

set_option maxRecDepth 100000 in
theorem max_ok (a b : Int) : ACalls Try.prog W 171 #[.int .i64 a, .int .i64 b] H (fun r H' => r = .int .i64 (max a b) ∧ Ext H H') := by
  refine ACalls.of (args := [.int .i64 a, .int .i64 b]) Try.func171 rfl rfl ?_
  have X0 := Ext.refl H
  refine AW.rs ?_
  refine AL.val rfl (.inl rfl) (HV.as rfl) ?_
  refine AL.nx ?_
  refine AW.seq ?_
  refine AW.rs ?_
  refine AL.val rfl (.inl rfl) (HV.mv rfl) ?_
  refine AL.val rfl (.inl rfl) (HV.mv rfl) ?_
  refine AL.val rfl (.inl rfl) (HV.gti rfl rfl) ?_
  refine AL.nx ?_
  refine AW.ifd rfl (fun c1 => ?_) (fun c1 => ?_)
  · -- then
    refine AW.rs ?_
    refine AL.val rfl (.inl rfl) (HV.mv rfl) ?_
    refine AL.val rfl (.inl rfl) (HV.as rfl) ?_
    refine AL.nx ?_
    refine AW.ret ?_
    refine ret_and ?_
    refine post_one rfl rfl ?_ (.inr rfl)
    exact ⟨congrArg (Value.int .i64) (by omega), X0⟩
  · -- else
    refine AW.skip ?_
    refine nrm_and ?_
    refine AW.rs ?_
    refine AL.val rfl (.inl rfl) (HV.mv rfl) ?_
    refine AL.val rfl (.inl rfl) (HV.as rfl) ?_
    refine AL.nx ?_
    refine AW.ret ?_
    refine post_one rfl rfl ?_ (.inr rfl)
    exact ⟨congrArg (Value.int .i64) (by omega), X0⟩

set_option maxRecDepth 100000 in
theorem l02Depth_of {d : Nat} (ih : ∀ {p : Addr} {W : World} {H : Hp} {ok : Nat → Prop} {z : GT d} {a l : Int} {v : Value} (hK : (kG d).rd W H ok z [.int .i64 a, .int .i64 l, v]) (hc : Cells W H p [.int .i64 a, .int .i64 l, v]) (hs : szG d z ≤ 60), ACalls Try.prog W 152 #[.pointer (some p)] H (fun r H' => r = .int .i64 (dpG d z : Int) ∧ Ext H H')) {p : Addr} {h l : Int} {v : Value} {ks : List (GT d)} {ok : Nat → Prop} (hr : RdK (kG d) W H ok v ks) (hc : Cells W H p [.int .i64 h, .int .i64 l, v]) (hs : szG (d + 1) (h, l, ks) ≤ 60) : ACalls Try.prog W 152 #[.pointer (some p)] H (fun r H' => r = .int .i64 (dpG (d + 1) (h, l, ks) : Int) ∧ Ext H H') := by
  refine ACalls.of (args := [.pointer (some p)]) Try.func152 rfl rfl ?_
  have X0 := Ext.refl H
  have hmx := hr.max
  have sl59 : SlT Try.prog 59 61 (.agg #[(.int .i64 0), (.int .i64 0), (.slice none 0 0)]) (kG d).sz 40 := by rw [kG_sz]; exact sl59
  rw [szG_succ] at hs
  refine AW.rs ?_
  refine AL.val rfl (.inl rfl) (HV.as rfl) ?_
  refine AL.nx ?_
  refine AW.rs ?_
  refine AL.val rfl (.inl rfl) (HV.as rfl) ?_
  refine AL.nx ?_
  refine AW.seq ?_
  refine AW.rs ?_
  refine AL.val rfl (.inl rfl) (HV.as rfl) ?_
  refine AL.nx ?_
  refine AW.block ?_
  refine AW.loop (σ := Nat × Int) (fun ⟨i, a⟩ => [(0, .pointer (some p)), (2, .int .i64 0), (3, .int .i64 a), (4, .int .i64 (i : Int))]) (fun ⟨i, a⟩ H' => Ext H H' ∧ i ≤ ks.length ∧ a = ((mxL ((ks.take i).map (dpG d)) : Nat) : Int) ∧ True) (fun ⟨i, a⟩ => ks.length - i) (0, 0) ⟨X0, Nat.zero_le _, rfl, trivial⟩ ⟨rfl, rfl, rfl, rfl, trivial⟩ ?_
  rintro ⟨i, a⟩ H1 ⟨X2, hi, ha, _⟩
  have hmm := mx_take ks i (d := d)
  refine AW.seq ?_
  refine AW.rs ?_
  refine AL.val rfl (.inl rfl) (HV.mv rfl) ?_
  refine AL.val rfl (.inl rfl) (HV.mv rfl) ?_
  refine AL.val rfl (.inl rfl) (HV.nc rfl) ?_
  refine AL.val rfl (.inl rfl) (HV.fa fl61_2 rfl) ?_
  refine AL.val rfl (.inl rfl) (HV.ld rfl va59 (cells_at (hc.ext X2) rfl)) ?_
  refine AL.val rfl (.inl rfl) (HV.len Try.underlying59 rfl hr.isSl) ?_
  refine AL.val rfl (.inl rfl) (HV.lti rfl rfl) ?_
  refine AL.nx ?_
  refine AW.ifd rfl (fun c3 => ?_) (fun c3 => ?_)
  · -- then
    refine AW.skip ?_
    refine nrm_and ?_
    refine AW.seq ?_
    refine AW.block ?_
    refine AW.reg ?_
    refine AL.val rfl (.inl rfl) (HV.mv rfl) ?_
    refine AL.val rfl (.inl rfl) (HV.mv rfl) ?_
    refine AL.val rfl (.inl rfl) (HV.nc rfl) ?_
    refine AL.val rfl (.inl rfl) (HV.fa fl61_2 rfl) ?_
    refine AL.val rfl (.inl rfl) (HV.ld rfl va59 (cells_at (hc.ext X2) rfl)) ?_
    refine AL.val rfl (.inl rfl) (HV.mv rfl) ?_
    obtain ⟨p4, z5, cs6, hz7, hK8, hC9, hP10⟩ := RdK.ix (q := (i : Int)) hr sl59 (by omega) (by omega)
    obtain ⟨a11, l12, v13, n14, rfl, isl15⟩ := kG_cells hK8
    refine AL.val rfl (.inl rfl) (hP10 rfl rfl) ?_
    refine AL.w rfl (.inl rfl) (WV.call fn152 rfl (ih (Kd.ext (kG d) hK8 X2) (hC9.ext X2) (by have := szL_mem (List.mem_of_getElem? hz7); omega))) ?_
    rintro _ H16 ⟨rfl, hx17⟩
    have X18 := Ext.trans X2 hx17
    refine AL.w rfl (.inl rfl) (WV.call fn171 rfl (max_ok (W := W) a (dpG d z5 : Int))) ?_
    rintro _ H19 ⟨rfl, hx20⟩
    have X21 := Ext.trans X18 hx20
    refine AL.val rfl (.inl rfl) (HV.as rfl) ?_
    refine AL.nil ?_
    refine nrm_blk (nrm_and ?_)
    refine AW.reg ?_
    refine AL.val rfl (.inl rfl) (HV.mv rfl) ?_
    refine AL.val rfl (.inl rfl) (HV.add rfl rfl (by omega)) ?_
    refine AL.val rfl (.inl rfl) (HV.as rfl) ?_
    refine AL.nil ?_
    refine nrm_and ?_
    exact ⟨(i + 1, max a (dpG d z5 : Int)), ⟨X21, by omega, by rw [dpG_snoc (getq hz7 rfl)]; omega, trivial⟩, by first | omega | (dsimp only; omega), ⟨rfl, rfl, rfl, rfl, trivial⟩⟩
  · -- else
    refine AW.exit ?_
    refine ex_and (ex_and (ex_blk ?_))
    refine nrm_and ?_
    refine AW.rs ?_
    refine AL.val rfl (.inl rfl) (HV.mv rfl) ?_
    refine AL.val rfl (.inl rfl) (HV.add rfl rfl (by omega)) ?_
    refine AL.val rfl (.inl rfl) (HV.as rfl) ?_
    refine AL.nx ?_
    refine AW.ret ?_
    refine post_one rfl rfl ?_ (.inr rfl)
    exact ⟨congrArg (Value.int .i64) (by rw [dpG_succ]; rw [List.take_of_length_le (by omega)] at ha; omega), X2⟩

theorem l02Depth_all (d : Nat) : ∀ {p : Addr} {W : World} {H : Hp} {ok : Nat → Prop} {z : GT d} {a l : Int} {v : Value} (hK : (kG d).rd W H ok z [.int .i64 a, .int .i64 l, v]) (hc : Cells W H p [.int .i64 a, .int .i64 l, v]) (hs : szG d z ≤ 60), ACalls Try.prog W 152 #[.pointer (some p)] H (fun r H' => r = .int .i64 (dpG d z : Int) ∧ Ext H H') := by
  induction d with
  | zero => intro p W H ok z a l v hK hc hs; exact hK.elim
  | succ d ih =>
    intro p W H ok z a l v hK hc hs
    obtain ⟨h', l', ks⟩ := z
    obtain ⟨v', e, hr⟩ := kG_succ.1 hK
    simp only [List.cons.injEq, Value.int.injEq, true_and, and_true] at e
    obtain ⟨rfl, rfl, rfl⟩ := e
    exact l02Depth_of ih hr hc hs

set_option maxRecDepth 100000 in
theorem l02Form_of {d : Nat} (ih : ∀ {p : Addr} {W : World} {H : Hp} {ok : Nat → Prop} {z : GT d} {a l : Int} {v : Value} (hK : (kG d).rd W H ok z [.int .i64 a, .int .i64 l, v]) (hc : Cells W H p [.int .i64 a, .int .i64 l, v]) (n : Int) (hn : 1 ≤ n ∧ n ≤ 7), ACalls Try.prog W 153 #[.int .i64 n, .pointer (some p)] H (fun r H' => r = .bool (decide (fmG n d z)) ∧ Ext H H')) {p : Addr} {h l : Int} {v : Value} {ks : List (GT d)} {ok : Nat → Prop} (hr : RdK (kG d) W H ok v ks) (hc : Cells W H p [.int .i64 h, .int .i64 l, v]) (n : Int) (hn : 1 ≤ n ∧ n ≤ 7) : ACalls Try.prog W 153 #[.int .i64 n, .pointer (some p)] H (fun r H' => r = .bool (@decide (fmG n (d + 1) (h, l, ks)) (Classical.propDecidable _)) ∧ Ext H H') := by
  refine ACalls.of (args := [.int .i64 n, .pointer (some p)]) Try.func153 rfl rfl ?_
  have X0 := Ext.refl H
  have hmx := hr.max
  have sl59 : SlT Try.prog 59 61 (.agg #[(.int .i64 0), (.int .i64 0), (.slice none 0 0)]) (kG d).sz 40 := by rw [kG_sz]; exact sl59
  refine AW.rs ?_
  refine AL.val rfl (.inl rfl) (HV.as rfl) ?_
  refine AL.nx ?_
  refine AW.seq ?_
  refine AW.rs ?_
  refine AL.val rfl (.inl rfl) (HV.mv rfl) ?_
  refine AL.val rfl (.inl rfl) (HV.nc rfl) ?_
  refine AL.val rfl (.inl rfl) (HV.fa fl61_2 rfl) ?_
  refine AL.val rfl (.inl rfl) (HV.ld rfl va59 (cells_at hc rfl)) ?_
  refine AL.val rfl (.inl rfl) (HV.len Try.underlying59 rfl hr.isSl) ?_
  refine AL.val rfl (.inl rfl) (HV.eqi rfl rfl) ?_
  refine AL.nx ?_
  refine AW.ifd rfl (fun c1 => ?_) (fun c1 => ?_)
  · -- then
    refine AW.rs ?_
    refine AL.val rfl (.inl rfl) (HV.mv rfl) ?_
    refine AL.val rfl (.inl rfl) (HV.nc rfl) ?_
    refine AL.val rfl (.inl rfl) (HV.fa fl61_1 rfl) ?_
    refine AL.val rfl (.inl rfl) (HV.ld rfl va2 (cells_at hc rfl)) ?_
    refine AL.val rfl (.inl rfl) (HV.eqi rfl rfl) ?_
    refine AL.val rfl (.inl rfl) (HV.mv rfl) ?_
    by_cases c2 : l = 0
    · -- true
      have c2_ : decide (l = 0) = true := decide_eq_true c2
      rw [c2_]
      refine AL.val rfl (.inr ⟨_, _, _, rfl, rfl, rfl⟩) (HV.mv rfl) ?_
      refine AL.val rfl (.inr ⟨_, _, _, rfl, rfl, rfl⟩) (HV.nc rfl) ?_
      refine AL.val rfl (.inr ⟨_, _, _, rfl, rfl, rfl⟩) (HV.fa fl61_0 rfl) ?_
      refine AL.val rfl (.inr ⟨_, _, _, rfl, rfl, rfl⟩) (HV.ld rfl va2 (cells_first hc rfl)) ?_
      refine AL.val rfl (.inr ⟨_, _, _, rfl, rfl, rfl⟩) (HV.mv rfl) ?_
      refine AL.val rfl (.inr ⟨_, _, _, rfl, rfl, rfl⟩) (HV.sub rfl rfl (by omega)) ?_
      refine AL.w rfl (.inr ⟨_, _, _, rfl, rfl, rfl⟩) (WV.call fn84 rfl (l00In_ok (W := W) h 0 (n - 1))) ?_
      rintro _ H3 ⟨rfl, hx4⟩
      have X5 := Ext.trans X0 hx4
      refine AL.val rfl (.inl rfl) (HV.pickT rfl rfl) ?_
      refine AL.val rfl (.inl rfl) (HV.as rfl) ?_
      refine AL.nx ?_
      refine AW.ret ?_
      refine ret_and ?_
      refine post_one rfl rfl ?_ (.inr rfl)
      exact ⟨congrArg Value.bool (decide_eq_decide.2 (by rw [fmG_succ, if_pos (by omega)]; omega)), X5⟩
    · -- false
      have c2_ : decide (l = 0) = false := decide_eq_false c2
      rw [c2_]
      refine AL.off rfl rfl (by decide) rfl ?_
      refine AL.off rfl rfl (by decide) rfl ?_
      refine AL.off rfl rfl (by decide) rfl ?_
      refine AL.off rfl rfl (by decide) rfl ?_
      refine AL.off rfl rfl (by decide) rfl ?_
      refine AL.off rfl rfl (by decide) rfl ?_
      refine AL.off rfl rfl (by decide) rfl ?_
      refine AL.val rfl (.inl rfl) (HV.pickF rfl rfl) ?_
      refine AL.val rfl (.inl rfl) (HV.as rfl) ?_
      refine AL.nx ?_
      refine AW.ret ?_
      refine ret_and ?_
      refine post_one rfl rfl ?_ (.inr rfl)
      exact ⟨@dec_f _ (Classical.propDecidable _) (by rw [fmG_succ, if_pos (by omega)]; omega), X0⟩
  · -- else
    refine AW.skip ?_
    refine nrm_and ?_
    refine AW.seq ?_
    refine AW.rs ?_
    refine AL.val rfl (.inl rfl) (HV.as rfl) ?_
    refine AL.nx ?_
    refine AW.block ?_
    refine AW.loop (σ := Nat) (fun i => [(0, .int .i64 n), (1, .pointer (some p)), (5, .int .i64 (i : Int))]) (fun i H' => Ext H H' ∧ i ≤ ks.length ∧ (∀ (j : Nat) (z : GT d), j < i → ks[j]? = some z → fmG n d z) ∧ True) (fun i => ks.length - i) 0 ⟨X0, Nat.zero_le _, fun j z hj => absurd hj (Nat.not_lt_zero _), trivial⟩ ⟨rfl, rfl, rfl, trivial⟩ ?_
    rintro i H6 ⟨X7, hi, he, _⟩
    refine AW.seq ?_
    refine AW.rs ?_
    refine AL.val rfl (.inl rfl) (HV.mv rfl) ?_
    refine AL.val rfl (.inl rfl) (HV.mv rfl) ?_
    refine AL.val rfl (.inl rfl) (HV.nc rfl) ?_
    refine AL.val rfl (.inl rfl) (HV.fa fl61_2 rfl) ?_
    refine AL.val rfl (.inl rfl) (HV.ld rfl va59 (cells_at (hc.ext X7) rfl)) ?_
    refine AL.val rfl (.inl rfl) (HV.len Try.underlying59 rfl hr.isSl) ?_
    refine AL.val rfl (.inl rfl) (HV.lti rfl rfl) ?_
    refine AL.nx ?_
    refine AW.ifd rfl (fun c8 => ?_) (fun c8 => ?_)
    · -- then
      refine AW.skip ?_
      refine nrm_and ?_
      refine AW.seq ?_
      refine AW.block ?_
      refine AW.rs ?_
      refine AL.val rfl (.inl rfl) (HV.mv rfl) ?_
      refine AL.val rfl (.inl rfl) (HV.mv rfl) ?_
      refine AL.val rfl (.inl rfl) (HV.nc rfl) ?_
      refine AL.val rfl (.inl rfl) (HV.fa fl61_2 rfl) ?_
      refine AL.val rfl (.inl rfl) (HV.ld rfl va59 (cells_at (hc.ext X7) rfl)) ?_
      refine AL.val rfl (.inl rfl) (HV.mv rfl) ?_
      obtain ⟨p9, z10, cs11, hz12, hK13, hC14, hP15⟩ := RdK.ix (q := (i : Int)) hr sl59 (by omega) (by omega)
      obtain ⟨a16, l17, v18, n19, rfl, isl20⟩ := kG_cells hK13
      refine AL.val rfl (.inl rfl) (hP15 rfl rfl) ?_
      refine AL.w rfl (.inl rfl) (WV.call fn153 rfl (ih (Kd.ext (kG d) hK13 X7) (hC14.ext X7) n (by first | assumption | omega))) ?_
      rintro _ H21 ⟨rfl, hx22⟩
      have X23 := Ext.trans X7 hx22
      refine AL.val rfl (.inl rfl) (HV.not rfl) ?_
      refine AL.nx ?_
      refine AW.ifn rfl (fun c24 => ?_) (fun c24 => ?_)
      · -- then
        refine AW.rs ?_
        refine AL.val rfl (.inl rfl) (HV.as rfl) ?_
        refine AL.nx ?_
        refine AW.ret ?_
        refine ret_blk (ret_and (ret_and (ret_blk (ret_and ?_))))
        refine post_one rfl rfl ?_ (.inr rfl)
        exact ⟨@dec_f _ (Classical.propDecidable _) (fun q => by rw [fmG_succ, if_neg (by omega)] at q; exact c24 (q.2 _ (List.mem_of_getElem? hz12))), X23⟩
      · -- else
        refine AW.skip ?_
        refine nrm_blk (nrm_and ?_)
        refine AW.reg ?_
        refine AL.val rfl (.inl rfl) (HV.mv rfl) ?_
        refine AL.val rfl (.inl rfl) (HV.add rfl rfl (by omega)) ?_
        refine AL.val rfl (.inl rfl) (HV.as rfl) ?_
        refine AL.nil ?_
        refine nrm_and ?_
        exact ⟨i + 1, ⟨X23, by omega, fun j z hj h1 => by
      rcases Nat.lt_or_ge j i with q | q
      · exact he j z q h1
      · obtain rfl : j = i := by omega
        have ez : z = z10 := Option.some.inj (h1.symm.trans (getq hz12 rfl))
        rw [ez]; exact c24, trivial⟩, by first | omega | (dsimp only; omega), ⟨rfl, rfl, rfl, trivial⟩⟩
    · -- else
      refine AW.exit ?_
      refine ex_and (ex_and (ex_blk ?_))
      refine nrm_and ?_
      refine AW.seq ?_
      refine AW.draw' [0, 1, 3, 7, 15, 31, 63, 127, 255, 511, 63, 1087, 3135, 7231, 15423, 32767, 65535, 131071] mixed (by rfl) ?_
      refine Dr.read 0 _ 44 _ rfl rfl rfl rfl rfl (RV.of (by intro _ _ h; cases h) (.inl rfl) (fun _ xd => HV.mv rfl)) ?_
      refine Dr.read 1 _ 45 _ rfl rfl rfl rfl rfl (RV.of (by intro _ _ h; cases h) (.inl rfl) (fun _ xd => HV.nc rfl)) ?_
      refine Dr.read 2 _ 46 _ rfl rfl rfl rfl rfl (RV.of (by intro _ _ h; cases h) (.inl rfl) (fun _ xd => HV.fa fl61_0 rfl)) ?_
      refine Dr.read 3 _ 47 _ rfl rfl rfl rfl rfl (RV.of (by intro _ _ h; cases h) (.inl rfl) (fun _ xd => HV.ld rfl va2 (rdc_ext xd (cells_first (hc.ext X7) rfl)))) ?_
      refine Dr.read 4 _ 48 _ rfl rfl rfl rfl rfl (RV.of (by intro _ _ h; cases h) (.inl rfl) (fun _ xd => HV.eqi rfl rfl)) ?_
      refine Dr.read 5 _ 49 _ rfl rfl rfl rfl rfl (RV.of (by intro _ _ h; cases h) (.inl rfl) (fun _ xd => HV.mv rfl)) ?_
      by_cases c25 : h = (-1)
      · -- true
        have c25_ : decide (h = (-1)) = true := decide_eq_true c25
        rw [c25_]
        refine Dr.read 6 _ 50 _ rfl rfl rfl rfl rfl (RV.of (by intro _ _ h; cases h) (.inr ⟨_, _, _, rfl, rfl, rfl⟩) (fun _ xd => HV.mv rfl)) ?_
        refine Dr.read 7 _ 51 _ rfl rfl rfl rfl rfl (RV.of (by intro _ _ h; cases h) (.inr ⟨_, _, _, rfl, rfl, rfl⟩) (fun _ xd => HV.nc rfl)) ?_
        refine Dr.read 8 _ 52 _ rfl rfl rfl rfl rfl (RV.of (by intro _ _ h; cases h) (.inr ⟨_, _, _, rfl, rfl, rfl⟩) (fun _ xd => HV.fa fl61_1 rfl)) ?_
        refine Dr.read 9 _ 53 _ rfl rfl rfl rfl rfl (RV.of (by intro _ _ h; cases h) (.inr ⟨_, _, _, rfl, rfl, rfl⟩) (fun _ xd => HV.ld rfl va2 (rdc_ext xd (cells_at (hc.ext X7) rfl)))) ?_
        refine Dr.read 10 _ 54 _ rfl rfl rfl rfl rfl (RV.of (by intro _ _ h; cases h) (.inr ⟨_, _, _, rfl, rfl, rfl⟩) (fun _ xd => HV.mv rfl)) ?_
        refine Dr.read 11 _ 55 _ rfl rfl rfl rfl rfl (RV.of (by intro _ _ h; cases h) (.inr ⟨_, _, _, rfl, rfl, rfl⟩) (fun _ xd => HV.nc rfl)) ?_
        refine Dr.read 12 _ 56 _ rfl rfl rfl rfl rfl (RV.of (by intro _ _ h; cases h) (.inr ⟨_, _, _, rfl, rfl, rfl⟩) (fun _ xd => HV.fa fl61_2 rfl)) ?_
        refine Dr.read 13 _ 57 _ rfl rfl rfl rfl rfl (RV.of (by intro _ _ h; cases h) (.inr ⟨_, _, _, rfl, rfl, rfl⟩) (fun _ xd => HV.ld rfl va59 (rdc_ext xd (cells_at (hc.ext X7) rfl)))) ?_
        refine Dr.read 14 _ 58 _ rfl rfl rfl rfl rfl (RV.of (by intro _ _ h; cases h) (.inr ⟨_, _, _, rfl, rfl, rfl⟩) (fun _ xd => HV.len Try.underlying59 rfl hr.isSl)) ?_
        refine Dr.eff 15 _ _ rfl (by intro d h; cases h; exact ⟨rfl, rfl⟩) rfl rfl rfl (EC.of (by intro _ _ h; cases h) (.inr ⟨_, _, _, rfl, rfl, rfl⟩) (WV.call fn84 rfl (l00In_ok (W := W) l 1 (ks.length : Int)))) (fun v H' h => .inl (h.2)) ?_
        rintro _ H26 ⟨rfl, hx27⟩
        have X28 := Ext.trans X7 hx27
        refine Dr.read 16 _ 60 _ rfl rfl rfl rfl rfl (RV.of (by intro _ _ h; cases h) (.inl rfl) (fun _ xd => HV.pickT rfl rfl)) ?_
        refine Dr.read 17 _ 4 _ rfl rfl rfl rfl rfl (RV.of (by intro _ _ h; cases h) (.inl rfl) (fun _ xd => HV.as rfl)) ?_
        refine Dr.fin rfl ?_
        refine nrm_and ?_
        refine AW.ret ?_
        refine post_one rfl rfl ?_ (.inr rfl)
        exact ⟨congrArg Value.bool (decide_eq_decide.2 (by rw [fmG_succ, if_neg (by omega)]; exact ⟨fun q => ⟨⟨by omega, q⟩, fun z hz => by obtain ⟨j, hj, rfl⟩ := List.getElem_of_mem hz; exact he j _ (by omega) (List.getElem?_eq_getElem hj)⟩, fun q => q.1.2⟩)), X28⟩
      · -- false
        have c25_ : decide (h = (-1)) = false := decide_eq_false c25
        rw [c25_]
        refine Dr.read 6 _ 50 _ rfl rfl rfl rfl rfl (RV.off (by intro _ _ h; cases h) rfl rfl (by decide)) ?_
        refine Dr.read 7 _ 51 _ rfl rfl rfl rfl rfl (RV.off (by intro _ _ h; cases h) rfl rfl (by decide)) ?_
        refine Dr.read 8 _ 52 _ rfl rfl rfl rfl rfl (RV.off (by intro _ _ h; cases h) rfl rfl (by decide)) ?_
        refine Dr.read 9 _ 53 _ rfl rfl rfl rfl rfl (RV.off (by intro _ _ h; cases h) rfl rfl (by decide)) ?_
        refine Dr.read 10 _ 54 _ rfl rfl rfl rfl rfl (RV.off (by intro _ _ h; cases h) rfl rfl (by decide)) ?_
        refine Dr.read 11 _ 55 _ rfl rfl rfl rfl rfl (RV.off (by intro _ _ h; cases h) rfl rfl (by decide)) ?_
        refine Dr.read 12 _ 56 _ rfl rfl rfl rfl rfl (RV.off (by intro _ _ h; cases h) rfl rfl (by decide)) ?_
        refine Dr.read 13 _ 57 _ rfl rfl rfl rfl rfl (RV.off (by intro _ _ h; cases h) rfl rfl (by decide)) ?_
        refine Dr.read 14 _ 58 _ rfl rfl rfl rfl rfl (RV.off (by intro _ _ h; cases h) rfl rfl (by decide)) ?_
        refine Dr.read 15 _ 59 _ rfl rfl rfl rfl rfl (RV.off (by intro _ _ h; cases h) rfl rfl (by decide)) ?_
        refine Dr.read 16 _ 60 _ rfl rfl rfl rfl rfl (RV.of (by intro _ _ h; cases h) (.inl rfl) (fun _ xd => HV.pickF rfl rfl)) ?_
        refine Dr.read 17 _ 4 _ rfl rfl rfl rfl rfl (RV.of (by intro _ _ h; cases h) (.inl rfl) (fun _ xd => HV.as rfl)) ?_
        refine Dr.fin rfl ?_
        refine nrm_and ?_
        refine AW.ret ?_
        refine post_one rfl rfl ?_ (.inr rfl)
        exact ⟨@dec_f _ (Classical.propDecidable _) (fun q => by rw [fmG_succ, if_neg (by omega)] at q; have := q.1.1; omega), X7⟩

theorem l02Form_all (d : Nat) : ∀ {p : Addr} {W : World} {H : Hp} {ok : Nat → Prop} {z : GT d} {a l : Int} {v : Value} (hK : (kG d).rd W H ok z [.int .i64 a, .int .i64 l, v]) (hc : Cells W H p [.int .i64 a, .int .i64 l, v]) (n : Int) (hn : 1 ≤ n ∧ n ≤ 7), ACalls Try.prog W 153 #[.int .i64 n, .pointer (some p)] H (fun r H' => r = .bool (decide (fmG n d z)) ∧ Ext H H') := by
  induction d with
  | zero => intro p W H ok z a l v hK hc n hn; exact hK.elim
  | succ d ih =>
    intro p W H ok z a l v hK hc n hn
    obtain ⟨h', l', ks⟩ := z
    obtain ⟨v', e, hr⟩ := kG_succ.1 hK
    simp only [List.cons.injEq, Value.int.injEq, true_and, and_true] at e
    obtain ⟨rfl, rfl, rfl⟩ := e
    exact l02Form_of ih hr hc n hn

set_option maxRecDepth 100000 in
theorem isLeaf_ok {d : Nat} {h l : Int} {v : Value} {ks : List (GT d)} {ok : Nat → Prop} (hr : RdK (kG d) W H ok v ks) : ACalls Try.prog W 160 #[.agg #[.int .i64 h, .int .i64 l, v]] H (fun r H' => r = .bool (decide ((ks.length : Int) = 0)) ∧ Ext H H') := by
  refine ACalls.of (args := [.agg #[.int .i64 h, .int .i64 l, v]]) Try.func160 rfl rfl ?_
  have X0 := Ext.refl H
  have hm1 := hr.max
  refine AW.rs ?_
  refine AL.w rfl (.inl rfl) (WV.bx rfl rfl) ?_
  rintro _ H3 ⟨b2, rfl, hx4, hn5, hb6⟩
  have o7 := Nat.le_trans X0.bd hn5
  have X8 := Ext.trans X0 hx4
  have X9 := Ext.refl H3
  refine AL.val rfl (.inl rfl) (HV.as rfl) ?_
  refine AL.nx ?_
  refine AW.rs ?_
  refine AL.val rfl (.inl rfl) (HV.fa fl61_2 rfl) ?_
  refine AL.val rfl (.inl rfl) (HV.ld rfl va59 (at_cell_add (j := 2) hb6 rfl)) ?_
  refine AL.val rfl (.inl rfl) (HV.len Try.underlying59 rfl hr.isSl) ?_
  refine AL.val rfl (.inl rfl) (HV.eqi rfl rfl) ?_
  refine AL.val rfl (.inl rfl) (HV.as rfl) ?_
  refine AL.nx ?_
  refine AW.ret ?_
  refine post_one rfl rfl ?_ (.inr rfl)
  exact ⟨rfl, X8⟩

set_option maxRecDepth 100000 in
theorem GateSize_of {d : Nat} (ih : ∀ {W : World} {H : Hp} {ok : Nat → Prop} {z : GT d} {a l : Int} {v : Value} (hK : (kG d).rd W H ok z [.int .i64 a, .int .i64 l, v]) (hs : szG d z ≤ 2000000), ACalls Try.prog W 157 #[.agg #[.int .i64 a, .int .i64 l, v]] H (fun r H' => r = .int .i64 (szG d z : Int) ∧ Ext H H')) {h l : Int} {v : Value} {ks : List (GT d)} {ok : Nat → Prop} (hr : RdK (kG d) W H ok v ks) (hs : szG (d + 1) (h, l, ks) ≤ 2000000) : ACalls Try.prog W 157 #[.agg #[.int .i64 h, .int .i64 l, v]] H (fun r H' => r = .int .i64 (szG (d + 1) (h, l, ks) : Int) ∧ Ext H H') := by
  refine ACalls.of (args := [.agg #[.int .i64 h, .int .i64 l, v]]) Try.func157 rfl rfl ?_
  have X0 := Ext.refl H
  have hm1 := hr.max
  have sl59 : SlT Try.prog 59 61 (.agg #[(.int .i64 0), (.int .i64 0), (.slice none 0 0)]) (kG d).sz 40 := by rw [kG_sz]; exact sl59
  rw [szG_succ] at hs
  refine AW.rs ?_
  refine AL.w rfl (.inl rfl) (WV.bx rfl rfl) ?_
  rintro _ H3 ⟨b2, rfl, hx4, hn5, hb6⟩
  have o7 := Nat.le_trans X0.bd hn5
  have X8 := Ext.trans X0 hx4
  have X9 := Ext.refl H3
  refine AL.val rfl (.inl rfl) (HV.as rfl) ?_
  refine AL.nx ?_
  refine AW.rs ?_
  refine AL.val rfl (.inl rfl) (HV.as rfl) ?_
  refine AL.nx ?_
  refine AW.seq ?_
  refine AW.rs ?_
  refine AL.val rfl (.inl rfl) (HV.fa fl61_2 rfl) ?_
  refine AL.val rfl (.inl rfl) (HV.ld rfl va59 (at_cell_add (j := 2) hb6 rfl)) ?_
  refine AL.val rfl (.inl rfl) (HV.len Try.underlying59 rfl hr.isSl) ?_
  refine AL.val rfl (.inl rfl) (HV.mv rfl) ?_
  refine AL.nx ?_
  refine AW.block ?_
  refine AW.loop (σ := Nat × Int) (fun ⟨i, a⟩ => [(2, .int .i64 0), (7, v), (8, .int .i64 (ks.length : Int)), (3, .int .i64 a), (9, .int .i64 (i : Int))]) (fun ⟨i, a⟩ H' => Ext H H' ∧ Ext H3 H' ∧ At W H' b2 ⟨61, [.int .i64 h, .int .i64 l, v], 3⟩ ∧ i ≤ ks.length ∧ a = 1 + (szL d (ks.take i) : Int) ∧ True) (fun ⟨i, a⟩ => ks.length - i) (0, 1) ⟨X8, X9, hb6, Nat.zero_le _, rfl, trivial⟩ ⟨rfl, rfl, rfl, rfl, rfl, trivial⟩ ?_
  rintro ⟨i, a⟩ H10 ⟨X11, X12, hb13, hi, ha, _⟩
  have hmm := szL_take ks i (d := d)
  refine AW.rs ?_
  refine AL.val rfl (.inl rfl) (HV.lti rfl rfl) ?_
  refine AL.nx ?_
  refine AW.seq ?_
  refine AW.ifd rfl (fun c14 => ?_) (fun c14 => ?_)
  · -- then
    refine AW.skip ?_
    refine nrm_and ?_
    refine AW.seq ?_
    refine AW.block ?_
    refine AW.rs ?_
    obtain ⟨p15, z16, cs17, hz18, hK19, hC20, hP21⟩ := RdK.ix (q := (i : Int)) hr sl59 (by omega) (by omega)
    obtain ⟨a22, l23, v24, n25, rfl, isl26⟩ := kG_cells hK19
    refine AL.val rfl (.inl rfl) (hP21 rfl rfl) ?_
    refine AL.val rfl (.inl rfl) (HV.lda (cs := [.int .i64 a22, .int .i64 l23, v24]) rfl va61 (hC20.ext X11)) ?_
    refine AL.w rfl (.inl rfl) (WV.al ze61 rfl) ?_
    rintro _ H28 ⟨b27, rfl, hx29, hn30, hb31⟩
    have o32 := Nat.le_trans X11.bd hn30
    have o33 := Nat.le_trans X12.bd hn30
    have ne34 : b2 ≠ b27 := by have := hb13.lt; omega
    have X35 := Ext.trans X11 hx29
    have X36 := Ext.trans X12 hx29
    have hb37 := hb13.ext hx29
    have X38 := Ext.refl H28
    refine AL.w0 (.inl rfl) (WV.st rfl rfl va61 rfl hb31 (Nat.le_of_ble_eq_true rfl) (one_cons rfl (one_cons rfl (one_cons (sl_one1 (isl26.ext X35).isSl) one_nil)))) ?_
    rintro _ H39 ⟨hx40, hb41⟩
    have X42 := Ext.thru X35 hx40 (fun z_ hz_ => by rw [hz_]; exact o32)
    have X43 := Ext.thru X36 hx40 (fun z_ hz_ => by rw [hz_]; exact o33)
    have hb45 := hb37.but hx40 ne34
    have hb46 : At W H39 b27 ⟨61, [.int .i64 a22, .int .i64 l23, v24], 3⟩ := hb41
    refine AL.nx ?_
    refine AW.reg ?_
    refine AL.val rfl (.inl rfl) (HV.mv rfl) ?_
    refine AL.val rfl (.inl rfl) (HV.lda (cs := [.int .i64 a22, .int .i64 l23, v24]) rfl va61 (at_cells hb46 rfl)) ?_
    refine AL.w rfl (.inl rfl) (WV.call fn157 rfl (ih (Kd.ext (kG d) hK19 X42) (by have := szL_mem (List.mem_of_getElem? hz18); omega))) ?_
    rintro _ H47 ⟨rfl, hx48⟩
    have X49 := Ext.trans X42 hx48
    have X50 := Ext.trans X43 hx48
    have hb51 := hb45.ext hx48
    have hb52 := hb46.ext hx48
    refine AL.val rfl (.inl rfl) (HV.add rfl rfl (by have h9 := szL_snoc (getq hz18 rfl); have h8 := szL_take ks (i + 1) (d := d); omega)) ?_
    refine AL.val rfl (.inl rfl) (HV.as rfl) ?_
    refine AL.nil ?_
    refine nrm_blk (nrm_and ?_)
    refine AW.reg ?_
    refine AL.val rfl (.inl rfl) (HV.add rfl rfl (by omega)) ?_
    refine AL.val rfl (.inl rfl) (HV.mv rfl) ?_
    refine AL.nil ?_
    refine nrm_and ?_
    exact ⟨(i + 1, a + (szG d z16 : Int)), ⟨X49, X50, hb51, by omega, by rw [szL_snoc (getq hz18 rfl)]; omega, trivial⟩, by first | omega | (dsimp only; omega), ⟨rfl, rfl, rfl, rfl, rfl, trivial⟩⟩
  · -- else
    refine AW.exit ?_
    refine ex_and (ex_and (ex_blk ?_))
    refine nrm_and ?_
    refine AW.rs ?_
    refine AL.val rfl (.inl rfl) (HV.mv rfl) ?_
    refine AL.val rfl (.inl rfl) (HV.as rfl) ?_
    refine AL.nx ?_
    refine AW.ret ?_
    refine post_one rfl rfl ?_ (.inr rfl)
    exact ⟨congrArg (Value.int .i64) (by rw [szG_succ]; rw [List.take_of_length_le (by omega)] at ha; omega), X11⟩

theorem GateSize_all (d : Nat) : ∀ {W : World} {H : Hp} {ok : Nat → Prop} {z : GT d} {a l : Int} {v : Value} (hK : (kG d).rd W H ok z [.int .i64 a, .int .i64 l, v]) (hs : szG d z ≤ 2000000), ACalls Try.prog W 157 #[.agg #[.int .i64 a, .int .i64 l, v]] H (fun r H' => r = .int .i64 (szG d z : Int) ∧ Ext H H') := by
  induction d with
  | zero => intro W H ok z a l v hK hs; exact hK.elim
  | succ d ih =>
    intro W H ok z a l v hK hs
    obtain ⟨h', l', ks⟩ := z
    obtain ⟨v', e, hr⟩ := kG_succ.1 hK
    simp only [List.cons.injEq, Value.int.injEq, true_and, and_true] at e
    obtain ⟨rfl, rfl, rfl⟩ := e
    exact GateSize_of ih hr hs

set_option maxRecDepth 100000 in
theorem fm1_ok {d : Nat} (ih : ∀ {W : World} {H : Hp} {ok : Nat → Prop} {z : GT d} {a l : Int} {v : Value} (hK : (kG d).rd W H ok z [.int .i64 a, .int .i64 l, v]) (n : Int) (k : Nat) (hn : 1 ≤ n ∧ n ≤ 7) (hk : k ≤ 12), ACalls Try.prog W 156 #[.agg #[.int .i64 a, .int .i64 l, v], .int .i64 n, .int .i64 (k : Int)] H (fun r H' => r = .bool (decide (fdG n d z k)) ∧ Ext H H')) {ok : Nat → Prop} {z : GT d} {a l : Int} {v : Value} (hK : (kG d).rd W H ok z [.int .i64 a, .int .i64 l, v]) {b b2 : Nat} {n : Int} {k : Nat} (hn : 1 ≤ n ∧ n ≤ 7) (hk : 1 ≤ k ∧ k ≤ 12) (hb : At W H b ⟨2, [.int .i64 n], 1⟩) (hb2 : At W H b2 ⟨3, [.int .i64 (k : Int)], 1⟩) : ACalls Try.prog W 198 #[.agg #[.int .i64 a, .int .i64 l, v], .pointer (some ⟨b, 0, none⟩), .pointer (some ⟨b2, 0, none⟩)] H (fun r H' => r = .bool (!decide (fdG n d z (k - 1))) ∧ Ext H H') := by
  refine ACalls.of (args := [.agg #[.int .i64 a, .int .i64 l, v], .pointer (some ⟨b, 0, none⟩), .pointer (some ⟨b2, 0, none⟩)]) Try.func198 rfl rfl ?_
  have X0 := Ext.refl H
  obtain ⟨_, isl0⟩ := gk_isl hK
  refine AW.rs ?_
  refine AL.w rfl (.inl rfl) (WV.bx rfl rfl) ?_
  rintro _ H2 ⟨b1, rfl, hx3, hn4, hb5⟩
  have o6 := Nat.le_trans X0.bd hn4
  have ne7 : b ≠ b1 := by have := hb.lt; omega
  have ne8 : b2 ≠ b1 := by have := hb2.lt; omega
  have X9 := Ext.trans X0 hx3
  have hb10 := hb.ext hx3
  have hb11 := hb2.ext hx3
  have X12 := Ext.refl H2
  refine AL.val rfl (.inl rfl) (HV.as rfl) ?_
  refine AL.nx ?_
  refine AW.rs ?_
  refine AL.val rfl (.inl rfl) (HV.lda (cs := [.int .i64 a, .int .i64 l, v]) rfl va61 (at_cells hb5 rfl)) ?_
  refine AL.val rfl (.inl rfl) (HV.ld rfl va2 (at_cell hb10 rfl)) ?_
  refine AL.val rfl (.inl rfl) (HV.ld rfl va3 (at_cell hb11 rfl)) ?_
  refine AL.val rfl (.inl rfl) (HV.sub rfl rfl (by omega)) ?_
  rw [show ((k : Int) - 1) = ((k - 1 : Nat) : Int) from by omega]
  refine AL.w rfl (.inl rfl) (WV.call fn156 rfl (ih (Kd.ext (kG d) hK X9) n (k - 1) hn (by omega))) ?_
  rintro _ H13 ⟨rfl, hx14⟩
  have X15 := Ext.trans X9 hx14
  have X16 := Ext.trans X12 hx14
  have hb17 := hb10.ext hx14
  have hb18 := hb11.ext hx14
  have hb19 := hb5.ext hx14
  refine AL.val rfl (.inl rfl) (HV.not rfl) ?_
  refine AL.val rfl (.inl rfl) (HV.as rfl) ?_
  refine AL.nx ?_
  refine AW.ret ?_
  refine post_one rfl rfl ?_ (.inr rfl)
  exact ⟨rfl, X15⟩

set_option maxRecDepth 100000 in
theorem ixG_ok {d : Nat} (ih : ∀ {W : World} {H : Hp} {ok : Nat → Prop} {z : GT d} {a l : Int} {v : Value} (hK : (kG d).rd W H ok z [.int .i64 a, .int .i64 l, v]) (n : Int) (k : Nat) (hn : 1 ≤ n ∧ n ≤ 7) (hk : k ≤ 12), ACalls Try.prog W 156 #[.agg #[.int .i64 a, .int .i64 l, v], .int .i64 n, .int .i64 (k : Int)] H (fun r H' => r = .bool (decide (fdG n d z k)) ∧ Ext H H')) {v : Value} {ks : List (GT d)} {ok : Nat → Prop} (hr : RdK (kG d) W H ok v ks) {b b2 : Nat} {n : Int} {k : Nat} (hn : 1 ≤ n ∧ n ≤ 7) (hk : 1 ≤ k ∧ k ≤ 12) (hb : At W H b ⟨2, [.int .i64 n], 1⟩) (hb2 : At W H b2 ⟨3, [.int .i64 (k : Int)], 1⟩) : ACalls Try.prog W 199 #[v, (.func (.func 198) #[] #[.pointer (some ⟨b, 0, none⟩), .pointer (some ⟨b2, 0, none⟩)])] H (fun r H' => (∃ i : Int, r = .int .i64 i ∧ (0 ≤ i ↔ ¬ ∀ z ∈ ks, fdG n d z (k - 1))) ∧ Ext H H') := by
  refine ACalls.of (args := [v, (.func (.func 198) #[] #[.pointer (some ⟨b, 0, none⟩), .pointer (some ⟨b2, 0, none⟩)])]) Try.func199 rfl rfl ?_
  have X0 := Ext.refl H
  have hm1 := hr.max
  have sl59 : SlT Try.prog 59 61 (.agg #[(.int .i64 0), (.int .i64 0), (.slice none 0 0)]) (kG d).sz 40 := by rw [kG_sz]; exact sl59
  refine AW.rs ?_
  refine AL.val rfl (.inl rfl) (HV.as rfl) ?_
  refine AL.nx ?_
  refine AW.seq ?_
  refine AW.rs ?_
  refine AL.val rfl (.inl rfl) (HV.mv rfl) ?_
  refine AL.val rfl (.inl rfl) (HV.len Try.underlying59 rfl hr.isSl) ?_
  refine AL.val rfl (.inl rfl) (HV.mv rfl) ?_
  refine AL.nx ?_
  refine AW.block ?_
  refine AW.loop (σ := Nat) (fun i => [(0, v), (1, (.func (.func 198) #[] #[.pointer (some ⟨b, 0, none⟩), .pointer (some ⟨b2, 0, none⟩)])), (7, .int .i64 (ks.length : Int)), (8, .int .i64 (i : Int))]) (fun i H' => Ext H H' ∧ At W H' b ⟨2, [.int .i64 n], 1⟩ ∧ At W H' b2 ⟨3, [.int .i64 (k : Int)], 1⟩ ∧ i ≤ ks.length ∧ (∀ (j : Nat) (z : GT d), j < i → ks[j]? = some z → fdG n d z (k - 1)) ∧ True) (fun i => ks.length - i) 0 ⟨X0, hb, hb2, Nat.zero_le _, fun j z hj => absurd hj (Nat.not_lt_zero _), trivial⟩ ⟨rfl, rfl, rfl, rfl, trivial⟩ ?_
  rintro i H2 ⟨X3, hb4, hb5, hi, he, _⟩
  refine AW.rs ?_
  refine AL.val rfl (.inl rfl) (HV.lti rfl rfl) ?_
  refine AL.nx ?_
  refine AW.seq ?_
  refine AW.ifd rfl (fun c6 => ?_) (fun c6 => ?_)
  · -- then
    refine AW.skip ?_
    refine nrm_and ?_
    refine AW.seq ?_
    refine AW.block ?_
    refine AW.rs ?_
    refine AL.val rfl (.inl rfl) (HV.mv rfl) ?_
    refine AL.val rfl (.inl rfl) (HV.as rfl) ?_
    refine AL.nx ?_
    refine AW.rs ?_
    refine AL.val rfl (.inl rfl) (HV.mv rfl) ?_
    refine AL.val rfl (.inl rfl) (HV.mv rfl) ?_
    refine AL.val rfl (.inl rfl) (HV.mv rfl) ?_
    obtain ⟨p7, z8, cs9, hz10, hK11, hC12, hP13⟩ := RdK.ix (q := (i : Int)) hr sl59 (by omega) (by omega)
    obtain ⟨a14, l15, v16, n17, rfl, isl18⟩ := kG_cells hK11
    refine AL.val rfl (.inl rfl) (hP13 rfl rfl) ?_
    refine AL.val rfl (.inl rfl) (HV.lda (cs := [.int .i64 a14, .int .i64 l15, v16]) rfl va61 (hC12.ext X3)) ?_
    refine AL.w rfl (.inl rfl) (WV.callv fn198 rfl rfl (fm1_ok ih (Kd.ext (kG d) hK11 X3) hn hk hb4 hb5)) ?_
    rintro _ H19 ⟨rfl, hx20⟩
    have X21 := Ext.trans X3 hx20
    have hb22 := hb4.ext hx20
    have hb23 := hb5.ext hx20
    refine AL.nx ?_
    refine AW.ifn rfl (fun c24 => ?_) (fun c24 => ?_)
    · -- then
      refine AW.rs ?_
      refine AL.val rfl (.inl rfl) (HV.mv rfl) ?_
      refine AL.val rfl (.inl rfl) (HV.as rfl) ?_
      refine AL.nx ?_
      refine AW.ret ?_
      refine ret_blk (ret_and (ret_and (ret_blk (ret_and ?_))))
      refine post_one rfl rfl ?_ (.inr rfl)
      exact ⟨⟨_, rfl, fun _ q => c24 (q _ (List.mem_of_getElem? hz10)), fun _ => by omega⟩, X21⟩
    · -- else
      refine AW.skip ?_
      refine nrm_blk (nrm_and ?_)
      refine AW.reg ?_
      refine AL.val rfl (.inl rfl) (HV.add rfl rfl (by omega)) ?_
      refine AL.val rfl (.inl rfl) (HV.mv rfl) ?_
      refine AL.nil ?_
      refine nrm_and ?_
      exact ⟨i + 1, ⟨X21, hb22, hb23, by omega, fun j z hj h1 => by
      rcases Nat.lt_or_ge j i with q | q
      · exact he j z q h1
      · obtain rfl : j = i := by omega
        have ez : z = z8 := Option.some.inj (h1.symm.trans (getq hz10 rfl))
        rw [ez]; exact c24, trivial⟩, by first | omega | (dsimp only; omega), ⟨rfl, rfl, rfl, rfl, trivial⟩⟩
  · -- else
    refine AW.exit ?_
    refine ex_and (ex_and (ex_blk ?_))
    refine nrm_and ?_
    refine AW.rs ?_
    refine AL.val rfl (.inl rfl) (HV.as rfl) ?_
    refine AL.nx ?_
    refine AW.ret ?_
    refine post_one rfl rfl ?_ (.inr rfl)
    exact ⟨⟨_, rfl, fun q => absurd q (by decide), fun q => absurd (fun z hz => by obtain ⟨j, hj, rfl⟩ := List.getElem_of_mem hz; exact he j _ (by omega) (List.getElem?_eq_getElem hj)) q⟩, X3⟩

set_option maxRecDepth 100000 in
theorem coG_ok {d : Nat} (ih : ∀ {W : World} {H : Hp} {ok : Nat → Prop} {z : GT d} {a l : Int} {v : Value} (hK : (kG d).rd W H ok z [.int .i64 a, .int .i64 l, v]) (n : Int) (k : Nat) (hn : 1 ≤ n ∧ n ≤ 7) (hk : k ≤ 12), ACalls Try.prog W 156 #[.agg #[.int .i64 a, .int .i64 l, v], .int .i64 n, .int .i64 (k : Int)] H (fun r H' => r = .bool (decide (fdG n d z k)) ∧ Ext H H')) {v : Value} {ks : List (GT d)} {ok : Nat → Prop} (hr : RdK (kG d) W H ok v ks) {b b2 : Nat} {n : Int} {k : Nat} (hn : 1 ≤ n ∧ n ≤ 7) (hk : 1 ≤ k ∧ k ≤ 12) (hb : At W H b ⟨2, [.int .i64 n], 1⟩) (hb2 : At W H b2 ⟨3, [.int .i64 (k : Int)], 1⟩) : ACalls Try.prog W 158 #[v, (.func (.func 198) #[] #[.pointer (some ⟨b, 0, none⟩), .pointer (some ⟨b2, 0, none⟩)])] H (fun r H' => r = .bool (decide (¬ ∀ z ∈ ks, fdG n d z (k - 1))) ∧ Ext H H') := by
  refine ACalls.of (args := [v, (.func (.func 198) #[] #[.pointer (some ⟨b, 0, none⟩), .pointer (some ⟨b2, 0, none⟩)])]) Try.func158 rfl rfl ?_
  have X0 := Ext.refl H
  have hm1 := hr.max
  refine AW.rs ?_
  refine AL.val rfl (.inl rfl) (HV.as rfl) ?_
  refine AL.nx ?_
  refine AW.rs ?_
  refine AL.val rfl (.inl rfl) (HV.mv rfl) ?_
  refine AL.val rfl (.inl rfl) (HV.mv rfl) ?_
  refine AL.w rfl (.inl rfl) (WV.call fn199 rfl (ixG_ok ih hr hn hk hb hb2)) ?_
  rintro _ H2 ⟨⟨q4, rfl, he5⟩, hx3⟩
  have X6 := Ext.trans X0 hx3
  have hb7 := hb.ext hx3
  have hb8 := hb2.ext hx3
  refine AL.val rfl (.inl rfl) (HV.gei rfl rfl) ?_
  refine AL.val rfl (.inl rfl) (HV.as rfl) ?_
  refine AL.nx ?_
  refine AW.ret ?_
  refine post_one rfl rfl ?_ (.inr rfl)
  exact ⟨congrArg Value.bool (decide_eq_decide.2 he5), X6⟩

set_option maxRecDepth 100000 in
theorem isFormed_of {d : Nat} (ih : ∀ {W : World} {H : Hp} {ok : Nat → Prop} {z : GT d} {a l : Int} {v : Value} (hK : (kG d).rd W H ok z [.int .i64 a, .int .i64 l, v]) (n : Int) (k : Nat) (hn : 1 ≤ n ∧ n ≤ 7) (hk : k ≤ 12), ACalls Try.prog W 156 #[.agg #[.int .i64 a, .int .i64 l, v], .int .i64 n, .int .i64 (k : Int)] H (fun r H' => r = .bool (decide (fdG n d z k)) ∧ Ext H H')) {h l : Int} {v : Value} {ks : List (GT d)} {ok : Nat → Prop} (hr : RdK (kG d) W H ok v ks) (n : Int) (k : Nat) (hn : 1 ≤ n ∧ n ≤ 7) (hk : k ≤ 12) : ACalls Try.prog W 156 #[.agg #[.int .i64 h, .int .i64 l, v], .int .i64 n, .int .i64 (k : Int)] H (fun r H' => r = .bool (@decide (fdG n (d + 1) (h, l, ks) k) (Classical.propDecidable _)) ∧ Ext H H') := by
  refine ACalls.of (args := [.agg #[.int .i64 h, .int .i64 l, v], .int .i64 n, .int .i64 (k : Int)]) Try.func156 rfl rfl ?_
  have X0 := Ext.refl H
  have hm1 := hr.max
  refine AW.rs ?_
  refine AL.w rfl (.inl rfl) (WV.bx rfl rfl) ?_
  rintro _ H3 ⟨b2, rfl, hx4, hn5, hb6⟩
  have o7 := Nat.le_trans X0.bd hn5
  have X8 := Ext.trans X0 hx4
  have X9 := Ext.refl H3
  refine AL.w rfl (.inl rfl) (WV.bx rfl rfl) ?_
  rintro _ H11 ⟨b10, rfl, hx12, hn13, hb14⟩
  have o15 := Nat.le_trans X8.bd hn13
  have o16 := Nat.le_trans X9.bd hn13
  have ne17 : b2 ≠ b10 := by have := hb6.lt; omega
  have X18 := Ext.trans X8 hx12
  have X19 := Ext.trans X9 hx12
  have hb20 := hb6.ext hx12
  have X21 := Ext.refl H11
  refine AL.w rfl (.inl rfl) (WV.bx rfl rfl) ?_
  rintro _ H23 ⟨b22, rfl, hx24, hn25, hb26⟩
  have o27 := Nat.le_trans X18.bd hn25
  have o28 := Nat.le_trans X19.bd hn25
  have o29 := Nat.le_trans X21.bd hn25
  have ne30 : b2 ≠ b22 := by have := hb20.lt; omega
  have ne31 : b10 ≠ b22 := by have := hb14.lt; omega
  have X32 := Ext.trans X18 hx24
  have X33 := Ext.trans X19 hx24
  have X34 := Ext.trans X21 hx24
  have hb35 := hb20.ext hx24
  have hb36 := hb14.ext hx24
  have X37 := Ext.refl H23
  refine AL.val rfl (.inl rfl) (HV.as rfl) ?_
  refine AL.nx ?_
  refine AW.seq ?_
  refine AW.block ?_
  refine AW.rs ?_
  refine AL.val rfl (.inl rfl) (HV.ld rfl va3 (at_cell hb26 rfl)) ?_
  refine AL.val rfl (.inl rfl) (HV.eqi rfl rfl) ?_
  refine AL.val rfl (.inl rfl) (HV.as rfl) ?_
  refine AL.nx ?_
  refine AW.ifd rfl (fun c38 => ?_) (fun c38 => ?_)
  · -- then
    refine AW.rs ?_
    refine AL.val rfl (.inl rfl) (HV.as rfl) ?_
    refine AL.nx ?_
    refine AW.ret ?_
    refine ret_blk (ret_and ?_)
    refine post_one rfl rfl ?_ (.inr rfl)
    exact ⟨@dec_f _ (Classical.propDecidable _) (fun q => by rw [fdG_succ] at q; exact q.1 (by omega)), X32⟩
  · -- else
    refine AW.rs ?_
    refine AL.val rfl (.inl rfl) (HV.lda (cs := [.int .i64 h, .int .i64 l, v]) rfl va61 (at_cells hb35 rfl)) ?_
    refine AL.w rfl (.inl rfl) (WV.call fn160 rfl (isLeaf_ok (hr.ext X32))) ?_
    rintro _ H39 ⟨rfl, hx40⟩
    have X41 := Ext.trans X32 hx40
    have X42 := Ext.trans X33 hx40
    have X43 := Ext.trans X34 hx40
    have X44 := Ext.trans X37 hx40
    have hb45 := hb35.ext hx40
    have hb46 := hb36.ext hx40
    have hb47 := hb26.ext hx40
    refine AL.val rfl (.inl rfl) (HV.as rfl) ?_
    refine AL.nx ?_
    refine AW.ifd rfl (fun c48 => ?_) (fun c48 => ?_)
    · -- then
      refine AW.rs ?_
      refine AL.val rfl (.inl rfl) (HV.fa fl61_0 rfl) ?_
      refine AL.val rfl (.inl rfl) (HV.ld rfl va2 (at_cell hb45 rfl)) ?_
      refine AL.val rfl (.inl rfl) (HV.ld rfl va2 (at_cell hb46 rfl)) ?_
      refine AL.val rfl (.inl rfl) (HV.sub rfl rfl (by omega)) ?_
      refine AL.w rfl (.inl rfl) (WV.call fn104 rfl (within_ok (W := W) h 0 (n - 1))) ?_
      rintro _ H49 ⟨rfl, hx50⟩
      have X51 := Ext.trans X41 hx50
      have X52 := Ext.trans X42 hx50
      have X53 := Ext.trans X43 hx50
      have X54 := Ext.trans X44 hx50
      have hb55 := hb45.ext hx50
      have hb56 := hb46.ext hx50
      have hb57 := hb47.ext hx50
      refine AL.val rfl (.inl rfl) (HV.mv rfl) ?_
      by_cases c58 : 0 ≤ h ∧ h ≤ (n - 1)
      · -- true
        have c58_ : decide (0 ≤ h ∧ h ≤ (n - 1)) = true := decide_eq_true c58
        rw [c58_]
        refine AL.val rfl (.inr ⟨_, _, _, rfl, rfl, rfl⟩) (HV.fa fl61_1 rfl) ?_
        refine AL.val rfl (.inr ⟨_, _, _, rfl, rfl, rfl⟩) (HV.ld rfl va2 (at_cell_add (j := 1) hb55 rfl)) ?_
        refine AL.val rfl (.inr ⟨_, _, _, rfl, rfl, rfl⟩) (HV.eqi rfl rfl) ?_
        refine AL.val rfl (.inl rfl) (HV.pickT rfl rfl) ?_
        refine AL.val rfl (.inl rfl) (HV.as rfl) ?_
        refine AL.nx ?_
        refine AW.ret ?_
        refine ret_blk (ret_and ?_)
        refine post_one rfl rfl ?_ (.inr rfl)
        exact ⟨congrArg Value.bool (decide_eq_decide.2 (by rw [fdG_succ, if_pos (by omega)]; omega)), X51⟩
      · -- false
        have c58_ : decide (0 ≤ h ∧ h ≤ (n - 1)) = false := decide_eq_false c58
        rw [c58_]
        refine AL.off rfl rfl (by decide) rfl ?_
        refine AL.off rfl rfl (by decide) rfl ?_
        refine AL.off rfl rfl (by decide) rfl ?_
        refine AL.val rfl (.inl rfl) (HV.pickF rfl rfl) ?_
        refine AL.val rfl (.inl rfl) (HV.as rfl) ?_
        refine AL.nx ?_
        refine AW.ret ?_
        refine ret_blk (ret_and ?_)
        refine post_one rfl rfl ?_ (.inr rfl)
        exact ⟨@dec_f _ (Classical.propDecidable _) (by rw [fdG_succ, if_pos (by omega)]; omega), X51⟩
    · -- else
      refine AW.rs ?_
      refine AL.val rfl (.inl rfl) (HV.fa fl61_0 rfl) ?_
      refine AL.val rfl (.inl rfl) (HV.ld rfl va2 (at_cell hb45 rfl)) ?_
      refine AL.val rfl (.inl rfl) (HV.nei rfl rfl) ?_
      refine AL.val rfl (.inl rfl) (HV.mv rfl) ?_
      by_cases c59 : h ≠ (-1)
      · -- true
        have c59_ : decide (h ≠ (-1)) = true := decide_eq_true c59
        rw [c59_]
        refine AL.off rfl rfl (by decide) rfl ?_
        refine AL.off rfl rfl (by decide) rfl ?_
        refine AL.off rfl rfl (by decide) rfl ?_
        refine AL.off rfl rfl (by decide) rfl ?_
        refine AL.off rfl rfl (by decide) rfl ?_
        refine AL.off rfl rfl (by decide) rfl ?_
        refine AL.off rfl rfl (by decide) rfl ?_
        refine AL.val rfl (.inl rfl) (HV.pickT rfl rfl) ?_
        refine AL.val rfl (.inl rfl) (HV.as rfl) ?_
        refine AL.nx ?_
        refine AW.cond rfl (fun _ => ?_) (fun h => by cases h)
        refine AW.rs ?_
        refine AL.val rfl (.inl rfl) (HV.as rfl) ?_
        refine AL.nx ?_
        refine AW.ret ?_
        refine ret_blk (ret_and ?_)
        refine post_one rfl rfl ?_ (.inr rfl)
        exact ⟨@dec_f _ (Classical.propDecidable _) (fun q => by rw [fdG_succ, if_neg (by omega)] at q; have := q.2.1; omega), X41⟩
      · -- false
        have c59_ : decide (h ≠ (-1)) = false := decide_eq_false c59
        rw [c59_]
        refine AL.val rfl (.inr ⟨_, _, _, rfl, rfl, rfl⟩) (HV.fa fl61_1 rfl) ?_
        refine AL.val rfl (.inr ⟨_, _, _, rfl, rfl, rfl⟩) (HV.ld rfl va2 (at_cell_add (j := 1) hb45 rfl)) ?_
        refine AL.val rfl (.inr ⟨_, _, _, rfl, rfl, rfl⟩) (HV.fa fl61_2 rfl) ?_
        refine AL.val rfl (.inr ⟨_, _, _, rfl, rfl, rfl⟩) (HV.ld rfl va59 (at_cell_add (j := 2) hb45 rfl)) ?_
        refine AL.val rfl (.inr ⟨_, _, _, rfl, rfl, rfl⟩) (HV.len Try.underlying59 rfl hr.isSl) ?_
        refine AL.w rfl (.inr ⟨_, _, _, rfl, rfl, rfl⟩) (WV.call fn104 rfl (within_ok (W := W) l 1 (ks.length : Int))) ?_
        rintro _ H61 ⟨rfl, hx62⟩
        have X63 := Ext.trans X41 hx62
        have X64 := Ext.trans X42 hx62
        have X65 := Ext.trans X43 hx62
        have X66 := Ext.trans X44 hx62
        have hb67 := hb45.ext hx62
        have hb68 := hb46.ext hx62
        have hb69 := hb47.ext hx62
        refine AL.val rfl (.inr ⟨_, _, _, rfl, rfl, rfl⟩) (HV.not rfl) ?_
        refine AL.val rfl (.inl rfl) (HV.pickF rfl rfl) ?_
        refine AL.val rfl (.inl rfl) (HV.as rfl) ?_
        refine AL.nx ?_
        refine AW.ifn rfl (fun c70 => ?_) (fun c70 => ?_)
        · -- then
          refine AW.rs ?_
          refine AL.val rfl (.inl rfl) (HV.as rfl) ?_
          refine AL.nx ?_
          refine AW.ret ?_
          refine ret_blk (ret_and ?_)
          refine post_one rfl rfl ?_ (.inr rfl)
          exact ⟨@dec_f _ (Classical.propDecidable _) (fun q => by rw [fdG_succ, if_neg (by omega)] at q; have := q.2.1; omega), X63⟩
        · -- else
          refine AW.skip ?_
          refine nrm_blk (nrm_and ?_)
          refine AW.rs ?_
          refine AL.val rfl (.inl rfl) (HV.fa fl61_2 rfl) ?_
          refine AL.val rfl (.inl rfl) (HV.ld rfl va59 (at_cell_add (j := 2) hb67 rfl)) ?_
          refine AL.val rfl (.inl rfl) (HV.fn rfl rfl) ?_
          refine AL.w rfl (.inl rfl) (WV.call fn158 rfl (coG_ok ih (hr.ext X63) hn (by omega) hb68 hb69)) ?_
          rintro _ H71 ⟨rfl, hx72⟩
          have X73 := Ext.trans X63 hx72
          have X74 := Ext.trans X64 hx72
          have X75 := Ext.trans X65 hx72
          have X76 := Ext.trans X66 hx72
          have hb77 := hb67.ext hx72
          have hb78 := hb68.ext hx72
          have hb79 := hb69.ext hx72
          refine AL.val rfl (.inl rfl) (HV.not rfl) ?_
          refine AL.val rfl (.inl rfl) (HV.as rfl) ?_
          refine AL.nx ?_
          refine AW.ret ?_
          refine post_one rfl rfl ?_ (.inr rfl)
          exact ⟨congrArg Value.bool (by rw [Bool.eq_iff_iff]; simp only [Bool.not_eq_true', decide_eq_false_iff_not, Classical.not_not, decide_eq_true_eq]; rw [fdG_succ, if_neg (by omega)]; exact ⟨fun q => ⟨by omega, ⟨by omega, by omega, by omega⟩, q⟩, fun q => q.2.2⟩), X73⟩

theorem isFormed_all (d : Nat) : ∀ {W : World} {H : Hp} {ok : Nat → Prop} {z : GT d} {a l : Int} {v : Value} (hK : (kG d).rd W H ok z [.int .i64 a, .int .i64 l, v]) (n : Int) (k : Nat) (hn : 1 ≤ n ∧ n ≤ 7) (hk : k ≤ 12), ACalls Try.prog W 156 #[.agg #[.int .i64 a, .int .i64 l, v], .int .i64 n, .int .i64 (k : Int)] H (fun r H' => r = .bool (decide (fdG n d z k)) ∧ Ext H H') := by
  induction d with
  | zero => intro W H ok z a l v hK n k hn hk; exact hK.elim
  | succ d ih =>
    intro W H ok z a l v hK n k hn hk
    obtain ⟨h', l', ks⟩ := z
    obtain ⟨v', e, hr⟩ := kG_succ.1 hK
    simp only [List.cons.injEq, Value.int.injEq, true_and, and_true] at e
    obtain ⟨rfl, rfl, rfl⟩ := e
    exact isFormed_of ih hr n k hn hk

set_option maxRecDepth 100000 in
theorem ValidGate_ok {d : Nat} {ok : Nat → Prop} {z : GT d} {a l : Int} {v : Value} (hK : (kG d).rd W H ok z [.int .i64 a, .int .i64 l, v]) (n : Int) (hs : szG d z ≤ 2000000) : ACalls Try.prog W 105 #[.int .i64 n, .agg #[.int .i64 a, .int .i64 l, v]] H (fun r H' => r = .bool (decide (vG n d z)) ∧ Ext H H') := by
  refine ACalls.of (args := [.int .i64 n, .agg #[.int .i64 a, .int .i64 l, v]]) Try.func105 rfl rfl ?_
  have X0 := Ext.refl H
  obtain ⟨_, isl0⟩ := gk_isl hK
  refine AW.rs ?_
  refine AL.w rfl (.inl rfl) (WV.bx rfl rfl) ?_
  rintro _ H2 ⟨b1, rfl, hx3, hn4, hb5⟩
  have o6 := Nat.le_trans X0.bd hn4
  have X7 := Ext.trans X0 hx3
  have X8 := Ext.refl H2
  refine AL.val rfl (.inl rfl) (HV.as rfl) ?_
  refine AL.nx ?_
  refine AW.rs ?_
  refine AL.val rfl (.inl rfl) (HV.mv rfl) ?_
  refine AL.w rfl (.inl rfl) (WV.call fn104 rfl (within_ok (W := W) n 1 7)) ?_
  rintro _ H9 ⟨rfl, hx10⟩
  have X11 := Ext.trans X7 hx10
  have X12 := Ext.trans X8 hx10
  have hb13 := hb5.ext hx10
  refine AL.val rfl (.inl rfl) (HV.mv rfl) ?_
  by_cases c14 : 1 ≤ n ∧ n ≤ 7
  · -- true
    have c14_ : decide (1 ≤ n ∧ n ≤ 7) = true := decide_eq_true c14
    rw [c14_]
    refine AL.val rfl (.inr ⟨_, _, _, rfl, rfl, rfl⟩) (HV.lda (cs := [.int .i64 a, .int .i64 l, v]) rfl va61 (at_cells hb13 rfl)) ?_
    refine AL.val rfl (.inr ⟨_, _, _, rfl, rfl, rfl⟩) (HV.mv rfl) ?_
    refine AL.w rfl (.inr ⟨_, _, _, rfl, rfl, rfl⟩) (WV.call fn156 rfl (isFormed_all d (Kd.ext (kG d) hK X11) n 12 (by assumption : 1 ≤ n ∧ n ≤ 7) (by decide))) ?_
    rintro _ H15 ⟨rfl, hx16⟩
    have X17 := Ext.trans X11 hx16
    have X18 := Ext.trans X12 hx16
    have hb19 := hb13.ext hx16
    refine AL.val rfl (.inl rfl) (HV.pickT rfl rfl) ?_
    refine AL.val rfl (.inl rfl) (HV.mv rfl) ?_
    by_cases c20 : fdG n d z 12
    · -- true
      have c20_ : decide (fdG n d z 12) = true := decide_eq_true c20
      rw [c20_]
      refine AL.val rfl (.inr ⟨_, _, _, rfl, rfl, rfl⟩) (HV.lda (cs := [.int .i64 a, .int .i64 l, v]) rfl va61 (at_cells hb19 rfl)) ?_
      refine AL.w rfl (.inr ⟨_, _, _, rfl, rfl, rfl⟩) (WV.call fn157 rfl (GateSize_all d (Kd.ext (kG d) hK X17) hs)) ?_
      rintro _ H21 ⟨rfl, hx22⟩
      have X23 := Ext.trans X17 hx22
      have X24 := Ext.trans X18 hx22
      have hb25 := hb19.ext hx22
      refine AL.val rfl (.inr ⟨_, _, _, rfl, rfl, rfl⟩) (HV.lei rfl rfl) ?_
      refine AL.val rfl (.inl rfl) (HV.pickT rfl rfl) ?_
      refine AL.val rfl (.inl rfl) (HV.as rfl) ?_
      refine AL.nx ?_
      refine AW.ret ?_
      refine post_one rfl rfl ?_ (.inr rfl)
      exact ⟨congrArg Value.bool (decide_eq_decide.2 (by have h1 : 1 ≤ n ∧ n ≤ 7 := (by assumption); have h2 := (fd_iff z 12).1 (by assumption); exact ⟨fun q => ⟨h1, by omega, h2.2, h2.1⟩, fun q => by have := q.2.1; omega⟩)), X23⟩
    · -- false
      have c20_ : decide (fdG n d z 12) = false := decide_eq_false c20
      rw [c20_]
      refine AL.off rfl rfl (by decide) rfl ?_
      refine AL.off rfl rfl (by decide) rfl ?_
      refine AL.off rfl rfl (by decide) rfl ?_
      refine AL.val rfl (.inl rfl) (HV.pickF rfl rfl) ?_
      refine AL.val rfl (.inl rfl) (HV.as rfl) ?_
      refine AL.nx ?_
      refine AW.ret ?_
      refine post_one rfl rfl ?_ (.inr rfl)
      exact ⟨dec_f (fun q => absurd ((fd_iff z 12).2 ⟨q.2.2.2, q.2.2.1⟩) (by assumption)), X17⟩
  · -- false
    have c14_ : decide (1 ≤ n ∧ n ≤ 7) = false := decide_eq_false c14
    rw [c14_]
    refine AL.off rfl rfl (by decide) rfl ?_
    refine AL.off rfl rfl (by decide) rfl ?_
    refine AL.off rfl rfl (by decide) rfl ?_
    refine AL.val rfl (.inl rfl) (HV.pickF rfl rfl) ?_
    refine AL.val rfl (.inl rfl) (HV.mv rfl) ?_
    refine AL.off rfl rfl (by decide) rfl ?_
    refine AL.off rfl rfl (by decide) rfl ?_
    refine AL.off rfl rfl (by decide) rfl ?_
    refine AL.val rfl (.inl rfl) (HV.pickF rfl rfl) ?_
    refine AL.val rfl (.inl rfl) (HV.as rfl) ?_
    refine AL.nx ?_
    refine AW.ret ?_
    refine post_one rfl rfl ?_ (.inr rfl)
    exact ⟨dec_f (fun q => absurd q.1 (by assumption)), X11⟩

set_option maxRecDepth 100000 in
theorem l02Ok_ok {d : Nat} {p : Addr} {ok : Nat → Prop} {z : GT d} {a l : Int} {v : Value} (hK : (kG d).rd W H ok z [.int .i64 a, .int .i64 l, v]) (hc : Cells W H p [.int .i64 a, .int .i64 l, v]) (n : Int) : ACalls Try.prog W 100 #[.int .i64 n, .pointer (some p)] H (fun r H' => r = .bool (decide (vG n d z)) ∧ Ext H H') := by
  refine ACalls.of (args := [.int .i64 n, .pointer (some p)]) Try.func100 rfl rfl ?_
  have X0 := Ext.refl H
  obtain ⟨_, isl0⟩ := gk_isl hK
  refine AW.rs ?_
  refine AL.val rfl (.inl rfl) (HV.as rfl) ?_
  refine AL.nx ?_
  refine AW.rs ?_
  refine AL.val rfl (.inl rfl) (HV.mv rfl) ?_
  refine AL.w rfl (.inl rfl) (WV.call fn84 rfl (l00In_ok (W := W) n 1 7)) ?_
  rintro _ H1 ⟨rfl, hx2⟩
  have X3 := Ext.trans X0 hx2
  refine AL.val rfl (.inl rfl) (HV.mv rfl) ?_
  by_cases c4 : 1 ≤ n ∧ n ≤ 7
  · -- true
    have c4_ : decide (1 ≤ n ∧ n ≤ 7) = true := decide_eq_true c4
    rw [c4_]
    refine AL.val rfl (.inr ⟨_, _, _, rfl, rfl, rfl⟩) (HV.mv rfl) ?_
    refine AL.w rfl (.inr ⟨_, _, _, rfl, rfl, rfl⟩) (WV.call fn151 rfl (l02Left_all d (Kd.ext (kG d) hK X3) (hc.ext X3) 60 (by omega))) ?_
    rintro _ H5 ⟨rfl, hx6⟩
    have X7 := Ext.trans X3 hx6
    refine AL.val rfl (.inr ⟨_, _, _, rfl, rfl, rfl⟩) (HV.gei rfl rfl) ?_
    refine AL.val rfl (.inl rfl) (HV.pickT rfl rfl) ?_
    refine AL.val rfl (.inl rfl) (HV.mv rfl) ?_
    by_cases c8 : (max (60 - (szG d z : Int)) (-1)) ≥ 0
    · -- true
      have c8_ : decide ((max (60 - (szG d z : Int)) (-1)) ≥ 0) = true := decide_eq_true c8
      rw [c8_]
      refine AL.val rfl (.inr ⟨_, _, _, rfl, rfl, rfl⟩) (HV.mv rfl) ?_
      refine AL.w rfl (.inr ⟨_, _, _, rfl, rfl, rfl⟩) (WV.call fn152 rfl (l02Depth_all d (Kd.ext (kG d) hK X7) (hc.ext X7) (by omega))) ?_
      rintro _ H9 ⟨rfl, hx10⟩
      have X11 := Ext.trans X7 hx10
      refine AL.val rfl (.inr ⟨_, _, _, rfl, rfl, rfl⟩) (HV.lei rfl rfl) ?_
      refine AL.val rfl (.inl rfl) (HV.pickT rfl rfl) ?_
      refine AL.val rfl (.inl rfl) (HV.mv rfl) ?_
      by_cases c12 : (dpG d z : Int) ≤ 12
      · -- true
        have c12_ : decide ((dpG d z : Int) ≤ 12) = true := decide_eq_true c12
        rw [c12_]
        refine AL.val rfl (.inr ⟨_, _, _, rfl, rfl, rfl⟩) (HV.mv rfl) ?_
        refine AL.val rfl (.inr ⟨_, _, _, rfl, rfl, rfl⟩) (HV.mv rfl) ?_
        refine AL.w rfl (.inr ⟨_, _, _, rfl, rfl, rfl⟩) (WV.call fn153 rfl (l02Form_all d (Kd.ext (kG d) hK X11) (hc.ext X11) n (by first | assumption | omega))) ?_
        rintro _ H13 ⟨rfl, hx14⟩
        have X15 := Ext.trans X11 hx14
        refine AL.val rfl (.inl rfl) (HV.pickT rfl rfl) ?_
        refine AL.val rfl (.inl rfl) (HV.as rfl) ?_
        refine AL.nx ?_
        refine AW.ret ?_
        refine post_one rfl rfl ?_ (.inr rfl)
        exact ⟨congrArg Value.bool (decide_eq_decide.2 ⟨fun q => ⟨by assumption, by omega, by omega, q⟩, fun q => q.2.2.2⟩), X15⟩
      · -- false
        have c12_ : decide ((dpG d z : Int) ≤ 12) = false := decide_eq_false c12
        rw [c12_]
        refine AL.off rfl rfl (by decide) rfl ?_
        refine AL.off rfl rfl (by decide) rfl ?_
        refine AL.off rfl rfl (by decide) rfl ?_
        refine AL.val rfl (.inl rfl) (HV.pickF rfl rfl) ?_
        refine AL.val rfl (.inl rfl) (HV.as rfl) ?_
        refine AL.nx ?_
        refine AW.ret ?_
        refine post_one rfl rfl ?_ (.inr rfl)
        exact ⟨dec_f (fun q => by have := q.2.2.1; omega), X11⟩
    · -- false
      have c8_ : decide ((max (60 - (szG d z : Int)) (-1)) ≥ 0) = false := decide_eq_false c8
      rw [c8_]
      refine AL.off rfl rfl (by decide) rfl ?_
      refine AL.off rfl rfl (by decide) rfl ?_
      refine AL.off rfl rfl (by decide) rfl ?_
      refine AL.val rfl (.inl rfl) (HV.pickF rfl rfl) ?_
      refine AL.val rfl (.inl rfl) (HV.mv rfl) ?_
      refine AL.off rfl rfl (by decide) rfl ?_
      refine AL.off rfl rfl (by decide) rfl ?_
      refine AL.off rfl rfl (by decide) rfl ?_
      refine AL.val rfl (.inl rfl) (HV.pickF rfl rfl) ?_
      refine AL.val rfl (.inl rfl) (HV.as rfl) ?_
      refine AL.nx ?_
      refine AW.ret ?_
      refine post_one rfl rfl ?_ (.inr rfl)
      exact ⟨dec_f (fun q => by have := q.2.1; omega), X7⟩
  · -- false
    have c4_ : decide (1 ≤ n ∧ n ≤ 7) = false := decide_eq_false c4
    rw [c4_]
    refine AL.off rfl rfl (by decide) rfl ?_
    refine AL.off rfl rfl (by decide) rfl ?_
    refine AL.off rfl rfl (by decide) rfl ?_
    refine AL.val rfl (.inl rfl) (HV.pickF rfl rfl) ?_
    refine AL.val rfl (.inl rfl) (HV.mv rfl) ?_
    refine AL.off rfl rfl (by decide) rfl ?_
    refine AL.off rfl rfl (by decide) rfl ?_
    refine AL.off rfl rfl (by decide) rfl ?_
    refine AL.val rfl (.inl rfl) (HV.pickF rfl rfl) ?_
    refine AL.val rfl (.inl rfl) (HV.mv rfl) ?_
    refine AL.off rfl rfl (by decide) rfl ?_
    refine AL.off rfl rfl (by decide) rfl ?_
    refine AL.off rfl rfl (by decide) rfl ?_
    refine AL.val rfl (.inl rfl) (HV.pickF rfl rfl) ?_
    refine AL.val rfl (.inl rfl) (HV.as rfl) ?_
    refine AL.nx ?_
    refine AW.ret ?_
    refine post_one rfl rfl ?_ (.inr rfl)
    exact ⟨dec_f (fun q => absurd q.1 (by assumption)), X3⟩

set_option maxRecDepth 100000 in
theorem wd1_ok {d : Nat} (ih : ∀ {W : World} {H : Hp} {ok : Nat → Prop} {z : GT d} {a l : Int} {v : Value} (hK : (kG d).rd W H ok z [.int .i64 a, .int .i64 l, v]) (p : Int), ACalls Try.prog W 106 #[.agg #[.int .i64 a, .int .i64 l, v], .int .i64 p] H (fun r H' => r = .bool (decide (wdG p d z)) ∧ Ext H H')) {ok : Nat → Prop} {z : GT d} {a l : Int} {v : Value} (hK : (kG d).rd W H ok z [.int .i64 a, .int .i64 l, v]) {b : Nat} {p : Int} (hb : At W H b ⟨2, [.int .i64 p], 1⟩) : ACalls Try.prog W 159 #[.agg #[.int .i64 a, .int .i64 l, v], .pointer (some ⟨b, 0, none⟩)] H (fun r H' => r = .bool (decide (wdG p d z)) ∧ Ext H H') := by
  refine ACalls.of (args := [.agg #[.int .i64 a, .int .i64 l, v], .pointer (some ⟨b, 0, none⟩)]) Try.func159 rfl rfl ?_
  have X0 := Ext.refl H
  obtain ⟨_, isl0⟩ := gk_isl hK
  refine AW.rs ?_
  refine AL.w rfl (.inl rfl) (WV.bx rfl rfl) ?_
  rintro _ H2 ⟨b1, rfl, hx3, hn4, hb5⟩
  have o6 := Nat.le_trans X0.bd hn4
  have ne7 : b ≠ b1 := by have := hb.lt; omega
  have X8 := Ext.trans X0 hx3
  have hb9 := hb.ext hx3
  have X10 := Ext.refl H2
  refine AL.val rfl (.inl rfl) (HV.as rfl) ?_
  refine AL.nx ?_
  refine AW.rs ?_
  refine AL.val rfl (.inl rfl) (HV.lda (cs := [.int .i64 a, .int .i64 l, v]) rfl va61 (at_cells hb5 rfl)) ?_
  refine AL.val rfl (.inl rfl) (HV.ld rfl va2 (at_cell hb9 rfl)) ?_
  refine AL.w rfl (.inl rfl) (WV.call fn106 rfl (ih (Kd.ext (kG d) hK X8) p)) ?_
  rintro _ H11 ⟨rfl, hx12⟩
  have X13 := Ext.trans X8 hx12
  have X14 := Ext.trans X10 hx12
  have hb15 := hb9.ext hx12
  have hb16 := hb5.ext hx12
  refine AL.val rfl (.inl rfl) (HV.as rfl) ?_
  refine AL.nx ?_
  refine AW.ret ?_
  refine post_one rfl rfl ?_ (.inr rfl)
  exact ⟨rfl, X13⟩

set_option maxRecDepth 100000 in
theorem ixW_ok {d : Nat} (ih : ∀ {W : World} {H : Hp} {ok : Nat → Prop} {z : GT d} {a l : Int} {v : Value} (hK : (kG d).rd W H ok z [.int .i64 a, .int .i64 l, v]) (p : Int), ACalls Try.prog W 106 #[.agg #[.int .i64 a, .int .i64 l, v], .int .i64 p] H (fun r H' => r = .bool (decide (wdG p d z)) ∧ Ext H H')) {v : Value} {ks : List (GT d)} {ok : Nat → Prop} (hr : RdK (kG d) W H ok v ks) {b : Nat} {p : Int} (hb : At W H b ⟨2, [.int .i64 p], 1⟩) : ACalls Try.prog W 199 #[v, (.func (.func 159) #[] #[.pointer (some ⟨b, 0, none⟩)])] H (fun r H' => (∃ i : Int, r = .int .i64 i ∧ (0 ≤ i ↔ ∃ z ∈ ks, wdG p d z)) ∧ Ext H H') := by
  refine ACalls.of (args := [v, (.func (.func 159) #[] #[.pointer (some ⟨b, 0, none⟩)])]) Try.func199 rfl rfl ?_
  have X0 := Ext.refl H
  have hm1 := hr.max
  have sl59 : SlT Try.prog 59 61 (.agg #[(.int .i64 0), (.int .i64 0), (.slice none 0 0)]) (kG d).sz 40 := by rw [kG_sz]; exact sl59
  refine AW.rs ?_
  refine AL.val rfl (.inl rfl) (HV.as rfl) ?_
  refine AL.nx ?_
  refine AW.seq ?_
  refine AW.rs ?_
  refine AL.val rfl (.inl rfl) (HV.mv rfl) ?_
  refine AL.val rfl (.inl rfl) (HV.len Try.underlying59 rfl hr.isSl) ?_
  refine AL.val rfl (.inl rfl) (HV.mv rfl) ?_
  refine AL.nx ?_
  refine AW.block ?_
  refine AW.loop (σ := Nat) (fun i => [(0, v), (1, (.func (.func 159) #[] #[.pointer (some ⟨b, 0, none⟩)])), (7, .int .i64 (ks.length : Int)), (8, .int .i64 (i : Int))]) (fun i H' => Ext H H' ∧ At W H' b ⟨2, [.int .i64 p], 1⟩ ∧ i ≤ ks.length ∧ (∀ (j : Nat) (z : GT d), j < i → ks[j]? = some z → ¬ wdG p d z) ∧ True) (fun i => ks.length - i) 0 ⟨X0, hb, Nat.zero_le _, fun j z hj => absurd hj (Nat.not_lt_zero _), trivial⟩ ⟨rfl, rfl, rfl, rfl, trivial⟩ ?_
  rintro i H2 ⟨X3, hb4, hi, he, _⟩
  refine AW.rs ?_
  refine AL.val rfl (.inl rfl) (HV.lti rfl rfl) ?_
  refine AL.nx ?_
  refine AW.seq ?_
  refine AW.ifd rfl (fun c5 => ?_) (fun c5 => ?_)
  · -- then
    refine AW.skip ?_
    refine nrm_and ?_
    refine AW.seq ?_
    refine AW.block ?_
    refine AW.rs ?_
    refine AL.val rfl (.inl rfl) (HV.mv rfl) ?_
    refine AL.val rfl (.inl rfl) (HV.as rfl) ?_
    refine AL.nx ?_
    refine AW.rs ?_
    refine AL.val rfl (.inl rfl) (HV.mv rfl) ?_
    refine AL.val rfl (.inl rfl) (HV.mv rfl) ?_
    refine AL.val rfl (.inl rfl) (HV.mv rfl) ?_
    obtain ⟨p6, z7, cs8, hz9, hK10, hC11, hP12⟩ := RdK.ix (q := (i : Int)) hr sl59 (by omega) (by omega)
    obtain ⟨a13, l14, v15, n16, rfl, isl17⟩ := kG_cells hK10
    refine AL.val rfl (.inl rfl) (hP12 rfl rfl) ?_
    refine AL.val rfl (.inl rfl) (HV.lda (cs := [.int .i64 a13, .int .i64 l14, v15]) rfl va61 (hC11.ext X3)) ?_
    refine AL.w rfl (.inl rfl) (WV.callv fn159 rfl rfl (wd1_ok ih (Kd.ext (kG d) hK10 X3) hb4)) ?_
    rintro _ H18 ⟨rfl, hx19⟩
    have X20 := Ext.trans X3 hx19
    have hb21 := hb4.ext hx19
    refine AL.nx ?_
    refine AW.ifd rfl (fun c22 => ?_) (fun c22 => ?_)
    · -- then
      refine AW.rs ?_
      refine AL.val rfl (.inl rfl) (HV.mv rfl) ?_
      refine AL.val rfl (.inl rfl) (HV.as rfl) ?_
      refine AL.nx ?_
      refine AW.ret ?_
      refine ret_blk (ret_and (ret_and (ret_blk (ret_and ?_))))
      refine post_one rfl rfl ?_ (.inr rfl)
      exact ⟨⟨_, rfl, fun _ => ⟨_, List.mem_of_getElem? hz9, c22⟩, fun _ => by omega⟩, X20⟩
    · -- else
      refine AW.skip ?_
      refine nrm_blk (nrm_and ?_)
      refine AW.reg ?_
      refine AL.val rfl (.inl rfl) (HV.add rfl rfl (by omega)) ?_
      refine AL.val rfl (.inl rfl) (HV.mv rfl) ?_
      refine AL.nil ?_
      refine nrm_and ?_
      exact ⟨i + 1, ⟨X20, hb21, by omega, fun j z hj h1 => by
      rcases Nat.lt_or_ge j i with q | q
      · exact he j z q h1
      · obtain rfl : j = i := by omega
        have ez : z = z7 := Option.some.inj (h1.symm.trans (getq hz9 rfl))
        rw [ez]; exact c22, trivial⟩, by first | omega | (dsimp only; omega), ⟨rfl, rfl, rfl, rfl, trivial⟩⟩
  · -- else
    refine AW.exit ?_
    refine ex_and (ex_and (ex_blk ?_))
    refine nrm_and ?_
    refine AW.rs ?_
    refine AL.val rfl (.inl rfl) (HV.as rfl) ?_
    refine AL.nx ?_
    refine AW.ret ?_
    refine post_one rfl rfl ?_ (.inr rfl)
    exact ⟨⟨_, rfl, fun q => absurd q (by decide), fun q => by obtain ⟨z, hz, hw⟩ := q; obtain ⟨j, hj, rfl⟩ := List.getElem_of_mem hz; exact absurd hw (he j _ (by omega) (List.getElem?_eq_getElem hj))⟩, X3⟩

set_option maxRecDepth 100000 in
theorem coW_ok {d : Nat} (ih : ∀ {W : World} {H : Hp} {ok : Nat → Prop} {z : GT d} {a l : Int} {v : Value} (hK : (kG d).rd W H ok z [.int .i64 a, .int .i64 l, v]) (p : Int), ACalls Try.prog W 106 #[.agg #[.int .i64 a, .int .i64 l, v], .int .i64 p] H (fun r H' => r = .bool (decide (wdG p d z)) ∧ Ext H H')) {v : Value} {ks : List (GT d)} {ok : Nat → Prop} (hr : RdK (kG d) W H ok v ks) {b : Nat} {p : Int} (hb : At W H b ⟨2, [.int .i64 p], 1⟩) : ACalls Try.prog W 158 #[v, (.func (.func 159) #[] #[.pointer (some ⟨b, 0, none⟩)])] H (fun r H' => r = .bool (decide (∃ z ∈ ks, wdG p d z)) ∧ Ext H H') := by
  refine ACalls.of (args := [v, (.func (.func 159) #[] #[.pointer (some ⟨b, 0, none⟩)])]) Try.func158 rfl rfl ?_
  have X0 := Ext.refl H
  have hm1 := hr.max
  refine AW.rs ?_
  refine AL.val rfl (.inl rfl) (HV.as rfl) ?_
  refine AL.nx ?_
  refine AW.rs ?_
  refine AL.val rfl (.inl rfl) (HV.mv rfl) ?_
  refine AL.val rfl (.inl rfl) (HV.mv rfl) ?_
  refine AL.w rfl (.inl rfl) (WV.call fn199 rfl (ixW_ok ih hr hb)) ?_
  rintro _ H2 ⟨⟨q4, rfl, he5⟩, hx3⟩
  have X6 := Ext.trans X0 hx3
  have hb7 := hb.ext hx3
  refine AL.val rfl (.inl rfl) (HV.gei rfl rfl) ?_
  refine AL.val rfl (.inl rfl) (HV.as rfl) ?_
  refine AL.nx ?_
  refine AW.ret ?_
  refine post_one rfl rfl ?_ (.inr rfl)
  exact ⟨congrArg Value.bool (decide_eq_decide.2 he5), X6⟩

set_option maxRecDepth 100000 in
theorem widest_of {d : Nat} (ih : ∀ {W : World} {H : Hp} {ok : Nat → Prop} {z : GT d} {a l : Int} {v : Value} (hK : (kG d).rd W H ok z [.int .i64 a, .int .i64 l, v]) (p : Int), ACalls Try.prog W 106 #[.agg #[.int .i64 a, .int .i64 l, v], .int .i64 p] H (fun r H' => r = .bool (decide (wdG p d z)) ∧ Ext H H')) {h l : Int} {v : Value} {ks : List (GT d)} {ok : Nat → Prop} (hr : RdK (kG d) W H ok v ks) (p : Int) : ACalls Try.prog W 106 #[.agg #[.int .i64 h, .int .i64 l, v], .int .i64 p] H (fun r H' => r = .bool (@decide (wdG p (d + 1) (h, l, ks)) (Classical.propDecidable _)) ∧ Ext H H') := by
  refine ACalls.of (args := [.agg #[.int .i64 h, .int .i64 l, v], .int .i64 p]) Try.func106 rfl rfl ?_
  have X0 := Ext.refl H
  have hm1 := hr.max
  refine AW.rs ?_
  refine AL.w rfl (.inl rfl) (WV.bx rfl rfl) ?_
  rintro _ H3 ⟨b2, rfl, hx4, hn5, hb6⟩
  have o7 := Nat.le_trans X0.bd hn5
  have X8 := Ext.trans X0 hx4
  have X9 := Ext.refl H3
  refine AL.w rfl (.inl rfl) (WV.bx rfl rfl) ?_
  rintro _ H11 ⟨b10, rfl, hx12, hn13, hb14⟩
  have o15 := Nat.le_trans X8.bd hn13
  have o16 := Nat.le_trans X9.bd hn13
  have ne17 : b2 ≠ b10 := by have := hb6.lt; omega
  have X18 := Ext.trans X8 hx12
  have X19 := Ext.trans X9 hx12
  have hb20 := hb6.ext hx12
  have X21 := Ext.refl H11
  refine AL.val rfl (.inl rfl) (HV.as rfl) ?_
  refine AL.nx ?_
  refine AW.rs ?_
  refine AL.val rfl (.inl rfl) (HV.fa fl61_2 rfl) ?_
  refine AL.val rfl (.inl rfl) (HV.ld rfl va59 (at_cell_add (j := 2) hb20 rfl)) ?_
  refine AL.val rfl (.inl rfl) (HV.len Try.underlying59 rfl hr.isSl) ?_
  refine AL.val rfl (.inl rfl) (HV.ld rfl va2 (at_cell hb14 rfl)) ?_
  refine AL.val rfl (.inl rfl) (HV.gei rfl rfl) ?_
  refine AL.val rfl (.inl rfl) (HV.mv rfl) ?_
  by_cases c22 : (ks.length : Int) ≥ p
  · -- true
    have c22_ : decide ((ks.length : Int) ≥ p) = true := decide_eq_true c22
    rw [c22_]
    refine AL.off rfl rfl (by decide) rfl ?_
    refine AL.off rfl rfl (by decide) rfl ?_
    refine AL.off rfl rfl (by decide) rfl ?_
    refine AL.off rfl rfl (by decide) rfl ?_
    refine AL.val rfl (.inl rfl) (HV.pickT rfl rfl) ?_
    refine AL.val rfl (.inl rfl) (HV.as rfl) ?_
    refine AL.nx ?_
    refine AW.ret ?_
    refine post_one rfl rfl ?_ (.inr rfl)
    exact ⟨@dec_t _ (Classical.propDecidable _) (by rw [wdG_succ]; exact .inl (by omega)), X18⟩
  · -- false
    have c22_ : decide ((ks.length : Int) ≥ p) = false := decide_eq_false c22
    rw [c22_]
    refine AL.val rfl (.inr ⟨_, _, _, rfl, rfl, rfl⟩) (HV.fa fl61_2 rfl) ?_
    refine AL.val rfl (.inr ⟨_, _, _, rfl, rfl, rfl⟩) (HV.ld rfl va59 (at_cell_add (j := 2) hb20 rfl)) ?_
    refine AL.val rfl (.inr ⟨_, _, _, rfl, rfl, rfl⟩) (HV.fn rfl rfl) ?_
    refine AL.w rfl (.inr ⟨_, _, _, rfl, rfl, rfl⟩) (WV.call fn158 rfl (coW_ok ih (hr.ext X18) hb14)) ?_
    rintro _ H23 ⟨rfl, hx24⟩
    have X25 := Ext.trans X18 hx24
    have X26 := Ext.trans X19 hx24
    have X27 := Ext.trans X21 hx24
    have hb28 := hb20.ext hx24
    have hb29 := hb14.ext hx24
    refine AL.val rfl (.inl rfl) (HV.pickF rfl rfl) ?_
    refine AL.val rfl (.inl rfl) (HV.as rfl) ?_
    refine AL.nx ?_
    refine AW.ret ?_
    refine post_one rfl rfl ?_ (.inr rfl)
    exact ⟨congrArg Value.bool (decide_eq_decide.2 (by rw [wdG_succ]; exact ⟨fun q => .inr q, fun q => q.resolve_left (by omega)⟩)), X25⟩

theorem widest_all (d : Nat) : ∀ {W : World} {H : Hp} {ok : Nat → Prop} {z : GT d} {a l : Int} {v : Value} (hK : (kG d).rd W H ok z [.int .i64 a, .int .i64 l, v]) (p : Int), ACalls Try.prog W 106 #[.agg #[.int .i64 a, .int .i64 l, v], .int .i64 p] H (fun r H' => r = .bool (decide (wdG p d z)) ∧ Ext H H') := by
  induction d with
  | zero => intro W H ok z a l v hK p; exact hK.elim
  | succ d ih =>
    intro W H ok z a l v hK p
    obtain ⟨h', l', ks⟩ := z
    obtain ⟨v', e, hr⟩ := kG_succ.1 hK
    simp only [List.cons.injEq, Value.int.injEq, true_and, and_true] at e
    obtain ⟨rfl, rfl, rfl⟩ := e
    exact widest_of ih hr p

set_option maxRecDepth 100000 in
theorem l04Wide_of {d : Nat} (ih : ∀ {p : Addr} {W : World} {H : Hp} {ok : Nat → Prop} {z : GT d} {a l : Int} {v : Value} (hK : (kG d).rd W H ok z [.int .i64 a, .int .i64 l, v]) (hc : Cells W H p [.int .i64 a, .int .i64 l, v]) (t : Int), ACalls Try.prog W 154 #[.pointer (some p), .int .i64 t] H (fun r H' => r = .bool (decide (wdG t d z)) ∧ Ext H H')) {p : Addr} {h l : Int} {v : Value} {ks : List (GT d)} {ok : Nat → Prop} (hr : RdK (kG d) W H ok v ks) (hc : Cells W H p [.int .i64 h, .int .i64 l, v]) (t : Int) : ACalls Try.prog W 154 #[.pointer (some p), .int .i64 t] H (fun r H' => r = .bool (@decide (wdG t (d + 1) (h, l, ks)) (Classical.propDecidable _)) ∧ Ext H H') := by
  refine ACalls.of (args := [.pointer (some p), .int .i64 t]) Try.func154 rfl rfl ?_
  have X0 := Ext.refl H
  have hmx := hr.max
  have sl59 : SlT Try.prog 59 61 (.agg #[(.int .i64 0), (.int .i64 0), (.slice none 0 0)]) (kG d).sz 40 := by rw [kG_sz]; exact sl59
  refine AW.rs ?_
  refine AL.val rfl (.inl rfl) (HV.as rfl) ?_
  refine AL.nx ?_
  refine AW.seq ?_
  refine AW.rs ?_
  refine AL.val rfl (.inl rfl) (HV.mv rfl) ?_
  refine AL.val rfl (.inl rfl) (HV.nc rfl) ?_
  refine AL.val rfl (.inl rfl) (HV.fa fl61_2 rfl) ?_
  refine AL.val rfl (.inl rfl) (HV.ld rfl va59 (cells_at hc rfl)) ?_
  refine AL.val rfl (.inl rfl) (HV.len Try.underlying59 rfl hr.isSl) ?_
  refine AL.val rfl (.inl rfl) (HV.mv rfl) ?_
  refine AL.val rfl (.inl rfl) (HV.gei rfl rfl) ?_
  refine AL.nx ?_
  refine AW.ifd rfl (fun c1 => ?_) (fun c1 => ?_)
  · -- then
    refine AW.rs ?_
    refine AL.val rfl (.inl rfl) (HV.as rfl) ?_
    refine AL.nx ?_
    refine AW.ret ?_
    refine ret_and ?_
    refine post_one rfl rfl ?_ (.inr rfl)
    exact ⟨@dec_t _ (Classical.propDecidable _) (by rw [wdG_succ]; exact .inl (by omega)), X0⟩
  · -- else
    refine AW.skip ?_
    refine nrm_and ?_
    refine AW.seq ?_
    refine AW.rs ?_
    refine AL.val rfl (.inl rfl) (HV.as rfl) ?_
    refine AL.nx ?_
    refine AW.block ?_
    refine AW.loop (σ := Nat) (fun i => [(0, .pointer (some p)), (1, .int .i64 t), (5, .int .i64 (i : Int))]) (fun i H' => Ext H H' ∧ i ≤ ks.length ∧ (∀ (j : Nat) (z : GT d), j < i → ks[j]? = some z → ¬ wdG t d z) ∧ True) (fun i => ks.length - i) 0 ⟨X0, Nat.zero_le _, fun j z hj => absurd hj (Nat.not_lt_zero _), trivial⟩ ⟨rfl, rfl, rfl, trivial⟩ ?_
    rintro i H2 ⟨X3, hi, he, _⟩
    refine AW.seq ?_
    refine AW.rs ?_
    refine AL.val rfl (.inl rfl) (HV.mv rfl) ?_
    refine AL.val rfl (.inl rfl) (HV.mv rfl) ?_
    refine AL.val rfl (.inl rfl) (HV.nc rfl) ?_
    refine AL.val rfl (.inl rfl) (HV.fa fl61_2 rfl) ?_
    refine AL.val rfl (.inl rfl) (HV.ld rfl va59 (cells_at (hc.ext X3) rfl)) ?_
    refine AL.val rfl (.inl rfl) (HV.len Try.underlying59 rfl hr.isSl) ?_
    refine AL.val rfl (.inl rfl) (HV.lti rfl rfl) ?_
    refine AL.nx ?_
    refine AW.ifd rfl (fun c4 => ?_) (fun c4 => ?_)
    · -- then
      refine AW.skip ?_
      refine nrm_and ?_
      refine AW.seq ?_
      refine AW.block ?_
      refine AW.rs ?_
      refine AL.val rfl (.inl rfl) (HV.mv rfl) ?_
      refine AL.val rfl (.inl rfl) (HV.nc rfl) ?_
      refine AL.val rfl (.inl rfl) (HV.fa fl61_2 rfl) ?_
      refine AL.val rfl (.inl rfl) (HV.ld rfl va59 (cells_at (hc.ext X3) rfl)) ?_
      refine AL.val rfl (.inl rfl) (HV.mv rfl) ?_
      obtain ⟨p5, z6, cs7, hz8, hK9, hC10, hP11⟩ := RdK.ix (q := (i : Int)) hr sl59 (by omega) (by omega)
      obtain ⟨a12, l13, v14, n15, rfl, isl16⟩ := kG_cells hK9
      refine AL.val rfl (.inl rfl) (hP11 rfl rfl) ?_
      refine AL.val rfl (.inl rfl) (HV.mv rfl) ?_
      refine AL.w rfl (.inl rfl) (WV.call fn154 rfl (ih (Kd.ext (kG d) hK9 X3) (hC10.ext X3) t)) ?_
      rintro _ H17 ⟨rfl, hx18⟩
      have X19 := Ext.trans X3 hx18
      refine AL.nx ?_
      refine AW.ifd rfl (fun c20 => ?_) (fun c20 => ?_)
      · -- then
        refine AW.rs ?_
        refine AL.val rfl (.inl rfl) (HV.as rfl) ?_
        refine AL.nx ?_
        refine AW.ret ?_
        refine ret_blk (ret_and (ret_and (ret_blk (ret_and ?_))))
        refine post_one rfl rfl ?_ (.inr rfl)
        exact ⟨@dec_t _ (Classical.propDecidable _) (by rw [wdG_succ]; exact .inr ⟨_, List.mem_of_getElem? hz8, c20⟩), X19⟩
      · -- else
        refine AW.skip ?_
        refine nrm_blk (nrm_and ?_)
        refine AW.reg ?_
        refine AL.val rfl (.inl rfl) (HV.mv rfl) ?_
        refine AL.val rfl (.inl rfl) (HV.add rfl rfl (by omega)) ?_
        refine AL.val rfl (.inl rfl) (HV.as rfl) ?_
        refine AL.nil ?_
        refine nrm_and ?_
        exact ⟨i + 1, ⟨X19, by omega, fun j z hj h1 => by
      rcases Nat.lt_or_ge j i with q | q
      · exact he j z q h1
      · obtain rfl : j = i := by omega
        have ez : z = z6 := Option.some.inj (h1.symm.trans (getq hz8 rfl))
        rw [ez]; exact c20, trivial⟩, by first | omega | (dsimp only; omega), ⟨rfl, rfl, rfl, trivial⟩⟩
    · -- else
      refine AW.exit ?_
      refine ex_and (ex_and (ex_blk ?_))
      refine nrm_and ?_
      refine AW.rs ?_
      refine AL.val rfl (.inl rfl) (HV.as rfl) ?_
      refine AL.nx ?_
      refine AW.ret ?_
      refine post_one rfl rfl ?_ (.inr rfl)
      exact ⟨@dec_f _ (Classical.propDecidable _) (by rw [wdG_succ]; rintro (q | ⟨z, hz, hw⟩); (omega); (obtain ⟨j, hj, rfl⟩ := List.getElem_of_mem hz; exact absurd hw (he j _ (by omega) (List.getElem?_eq_getElem hj)))), X3⟩

theorem l04Wide_all (d : Nat) : ∀ {p : Addr} {W : World} {H : Hp} {ok : Nat → Prop} {z : GT d} {a l : Int} {v : Value} (hK : (kG d).rd W H ok z [.int .i64 a, .int .i64 l, v]) (hc : Cells W H p [.int .i64 a, .int .i64 l, v]) (t : Int), ACalls Try.prog W 154 #[.pointer (some p), .int .i64 t] H (fun r H' => r = .bool (decide (wdG t d z)) ∧ Ext H H') := by
  induction d with
  | zero => intro p W H ok z a l v hK hc t; exact hK.elim
  | succ d ih =>
    intro p W H ok z a l v hK hc t
    obtain ⟨h', l', ks⟩ := z
    obtain ⟨v', e, hr⟩ := kG_succ.1 hK
    simp only [List.cons.injEq, Value.int.injEq, true_and, and_true] at e
    obtain ⟨rfl, rfl, rfl⟩ := e
    exact l04Wide_of ih hr hc t
end Go.Proofs.Yticobjbjejpomaa.VC

