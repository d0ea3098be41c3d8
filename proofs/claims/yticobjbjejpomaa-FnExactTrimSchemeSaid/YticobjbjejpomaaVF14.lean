/- Walks. -/
import Derived.Test.YticobjbjejpomaaVF13
import Derived.Test.YticobjbjejpomaaVSO
set_option linter.unusedVariables false
set_option linter.unusedSimpArgs false
namespace Go.Proofs.Yticobjbjejpomaa.VC
open Go Go.RowKit
theorem shl_u {j : Nat} (h : j < 7) : IntKind.u64.wrap (1 * 2 ^ min ((j : Int)).toNat IntKind.u64.bits) = ((2 ^ j : Nat) : Int) := by
  have : j = 0 ∨ j = 1 ∨ j = 2 ∨ j = 3 ∨ j = 4 ∨ j = 5 ∨ j = 6 := by omega
  rcases this with rfl | rfl | rfl | rfl | rfl | rfl | rfl <;> rfl
/-- A vector is made by rows. -/
def MadeF (p : Int) (A : List (List Int)) (C : Nat) (t : Nat → Int) : Prop := ∃ x : Nat → Int, ∀ c, c < C → Cg p (mix A x A.length c) (t c)
theorem MadeF.cg {p : Int} {A : List (List Int)} {C : Nat} {t u : Nat → Int} (h : MadeF p A C t) (e : ∀ c, c < C → Cg p (t c) (u c)) : MadeF p A C u := by
  obtain ⟨x, hx⟩ := h
  exact ⟨x, fun c hc => (hx c hc).trans (e c hc)⟩
theorem mix_two (rows : List (List Int)) (x y : Nat → Int) (a : Int) (c : Nat) : ∀ m, mix rows (fun j => x j + a * y j) m c = mix rows x m c + a * mix rows y m c
  | 0 => by simp [mix, sumZ]
  | m + 1 => by
    have h := mix_two rows x y a c m
    unfold mix at h ⊢
    simp only [sumZ]
    rw [h]
    grind
theorem MadeF.add {p : Int} {A : List (List Int)} {C : Nat} {t u : Nat → Int} (h : MadeF p A C t) (h2 : MadeF p A C u) (a : Int) : MadeF p A C (fun c => t c + a * u c) := by
  obtain ⟨x, hx⟩ := h
  obtain ⟨y, hy⟩ := h2
  refine ⟨fun j => x j + a * y j, fun c hc => ?_⟩
  rw [mix_two]
  exact (hx c hc).add ((Cg.refl p a).mul (hy c hc))
theorem mix_app {A : List (List Int)} {z : List Int} {x : Nat → Int} {c : Nat} : mix (A ++ [z]) x (A ++ [z]).length c = mix A x A.length c + x A.length * z.getD c 0 := by
  have e : (A ++ [z]).length = A.length + 1 := by simp
  rw [e]
  have h1 : ∀ m, m ≤ A.length → mix (A ++ [z]) x m c = mix A x m c := fun m hm => by
    unfold mix
    exact sumZ_congr (fun j hj => by
      rw [show (A ++ [z]).getD j [] = A.getD j [] by rw [List.getD_eq_getElem?_getD, List.getElem?_append_left (by omega), ← List.getD_eq_getElem?_getD]])
  have h2 : mix (A ++ [z]) x (A.length + 1) c = mix (A ++ [z]) x A.length c + x A.length * ((A ++ [z]).getD A.length []).getD c 0 := by unfold mix; rfl
  rw [h2, h1 _ (Nat.le_refl _)]
  simp
theorem MadeF.snoc {p : Int} {A : List (List Int)} {C : Nat} {z : List Int} {t : Nat → Int} : MadeF p (A ++ [z]) C t ↔ ∃ a : Int, MadeF p A C (fun c => t c - a * z.getD c 0) := by
  constructor
  · rintro ⟨x, hx⟩
    refine ⟨x A.length, x, fun c hc => ?_⟩
    have := hx c hc
    rw [mix_app] at this
    have h2 := this.sub (Cg.refl p (x A.length * z.getD c 0))
    exact (Cg.of_eq (by omega)).trans h2
  · rintro ⟨a, x, hx⟩
    refine ⟨fun j => if j = A.length then a else x j, fun c hc => ?_⟩
    rw [mix_app]
    have e : mix A (fun j => if j = A.length then a else x j) A.length c = mix A x A.length c := by
      unfold mix
      exact sumZ_congr (fun j hj => by
        show (if j = A.length then a else x j) * _ = _
        rw [if_neg (by omega)])
    rw [e]
    simp only [if_true]
    have h2 := (hx c hc).add (Cg.refl p (a * z.getD c 0))
    exact h2.trans (Cg.of_eq (by show t c - a * z.getD c 0 + a * z.getD c 0 = t c; omega))
theorem MadeF.one {p : Int} {A : List (List Int)} {C : Nat} {z : List Int} (hz : MadeF p A C (fun c => z.getD c 0)) {t : Nat → Int} : MadeF p (A ++ [z]) C t ↔ MadeF p A C t := by
  rw [MadeF.snoc]
  constructor
  · rintro ⟨a, h⟩
    exact (h.add hz a).cg (fun c _ => Cg.of_eq (by omega))
  · intro h
    exact ⟨0, h.cg (fun c _ => Cg.of_eq (by omega))⟩
theorem comb_made {p : Int} {C : Nat} {rows : List (List Int)} {tg : List Int} (hp : isPr p = true) (h : rect p C rows) (ht : elems p tg) (htl : tg.length = C) : (combI p rows tg).2 = true ↔ MadeF p rows C (fun c => tg.getD c 0) := by
  obtain ⟨h1, h2⟩ := combI_end hp h ht htl
  constructor
  · intro q
    exact ⟨_, (h1 q).2.2.1⟩
  · rintro ⟨x, hx⟩
    cases e : (combI p rows tg).2 with
    | true => rfl
    | false => exact absurd hx ((h2 e).2 x)
/-- The rows that are kept, each asked of those kept before. -/
def keptL (p : Int) (l : List (List Int)) : Nat → List (List Int)
  | 0 => []
  | i + 1 => if (combI p (keptL p l i) (l.getD i [])).2 = true then keptL p l i else keptL p l i ++ [l.getD i []]
theorem take_snoc {α : Type} {l : List α} {i : Nat} (h : i < l.length) (d : α) : l.take (i + 1) = l.take i ++ [l.getD i d] := by
  rw [List.take_add_one]
  simp [h]
theorem rect_tk {p : Int} {K : Nat} {l : List (List Int)} (h : rect p K l) (i : Nat) : rect p K (l.take i) := by
  have := rect_take h i
  rwa [Int.toNat_natCast] at this
theorem rect_sn {p : Int} {K : Nat} {l : List (List Int)} {x : List Int} (h : rect p K l) (hx : x.length = K ∧ elems p x) : rect p K (l ++ [x]) := fun i hi => by
  rcases Nat.lt_or_ge i l.length with h1 | h1
  · rw [List.getD_eq_getElem?_getD, List.getElem?_append_left h1, ← List.getD_eq_getElem?_getD]; exact h i h1
  · have e : i = l.length := by rw [List.length_append] at hi; simp only [List.length_singleton] at hi; omega
    subst e
    simpa using hx
/-- What is made by the kept rows is what is made by all. -/
theorem kept_ok {p : Int} {C : Nat} {l : List (List Int)} (hp : isPr p = true) (h : rect p C l) : ∀ i : Nat, i ≤ l.length → rect p C (keptL p l i) ∧ (∀ t, MadeF p (keptL p l i) C t ↔ MadeF p (l.take i) C t) ∧ keptL p l i = partL l (freshL p l i)
  | 0, _ => ⟨fun j hj => absurd hj (Nat.not_lt_zero _), fun t => Iff.rfl, rfl⟩
  | i + 1, hi => by
    obtain ⟨h1, h2, h3⟩ := kept_ok hp h i (by omega)
    have hz := h i (by omega)
    have e1 := comb_made hp h1 hz.2 hz.1
    have e2 := comb_made hp (rect_tk h i) hz.2 hz.1
    have e3 : (combI p (keptL p l i) (l.getD i [])).2 = true ↔ (combI p (l.take i) (l.getD i [])).2 = true := by rw [e1, e2]; exact h2 _
    rw [take_snoc (show i < l.length by omega) []]
    simp only [keptL, freshL]
    by_cases q : (combI p (l.take i) (l.getD i [])).2 = true
    · rw [if_pos q, if_pos (e3.2 q)]
      exact ⟨h1, fun t => (h2 t).trans (MadeF.one (e2.1 q)).symm, h3⟩
    · rw [if_neg q, if_neg (fun q2 => q (e3.1 q2))]
      refine ⟨rect_sn h1 hz, fun t => ?_, ?_⟩
      · rw [MadeF.snoc, MadeF.snoc]
        exact ⟨fun ⟨a, ha⟩ => ⟨a, (h2 _).1 ha⟩, fun ⟨a, ha⟩ => ⟨a, (h2 _).2 ha⟩⟩
      · rw [h3]
        unfold partL
        rw [List.map_append]
        simp
def owH (h : Int) (x : Int) : Bool := decide (x = h)
def befR (o : List Int) (l : List (List Int)) (i : Nat) : List (List Int) := partL l (idxB (owH (o.getD i 0)) o i)
/-- The rows that are kept, by their order. -/
def kpS (p : Int) (o : List Int) (l : List (List Int)) : Nat → List Int
  | 0 => []
  | i + 1 => if (combI p (befR o l i) (l.getD i [])).2 = true then kpS p o l i else kpS p o l i ++ [(i : Int)]
/-- .. by their holders. -/
def keepH (p : Int) (o : List Int) (l : List (List Int)) (h : Int) : List Int := (freshL p (partL l (idxB (owH h) o o.length)) (idxB (owH h) o o.length).length).map (fun t => (idxB (owH h) o o.length).getD t.toNat 0)
def kCat (p : Int) (o : List Int) (l : List (List Int)) : Nat → List Int
  | 0 => []
  | h + 1 => kCat p o l h ++ keepH p o l (h : Int)
theorem kpS_mem {p : Int} {o : List Int} {l : List (List Int)} {x : Int} : ∀ n : Nat, x ∈ kpS p o l n ↔ ∃ i : Nat, i < n ∧ x = i ∧ ¬ (combI p (befR o l i) (l.getD i [])).2 = true
  | 0 => ⟨(fun h => by cases h), fun ⟨i, h, _⟩ => absurd h (Nat.not_lt_zero _)⟩
  | n + 1 => by
    have ih := kpS_mem (p := p) (o := o) (l := l) (x := x) n
    simp only [kpS]
    split
    · rename_i q
      rw [ih]
      exact ⟨fun ⟨i, h1, h2⟩ => ⟨i, by omega, h2⟩, fun ⟨i, h1, h2, h3⟩ => ⟨i, by rcases Nat.lt_or_ge i n with g | g; exact g; exact absurd (show i = n by omega ▸ q) (fun _ => h3 (by rw [show i = n by omega]; exact q)), h2, h3⟩⟩
    · rename_i q
      rw [List.mem_append, ih]
      constructor
      · rintro (⟨i, h1, h2⟩ | h)
        · exact ⟨i, by omega, h2⟩
        · exact ⟨n, by omega, by simpa using h, q⟩
      · rintro ⟨i, h1, h2, h3⟩
        rcases Nat.lt_or_ge i n with g | g
        · exact .inl ⟨i, g, h2, h3⟩
        · exact .inr (by simp; omega)
theorem fresh_mem {p : Int} {l : List (List Int)} {x : Int} : ∀ n : Nat, x ∈ freshL p l n ↔ ∃ i : Nat, i < n ∧ x = i ∧ ¬ (combI p (l.take i) (l.getD i [])).2 = true
  | 0 => ⟨(fun h => by cases h), fun ⟨i, h, _⟩ => absurd h (Nat.not_lt_zero _)⟩
  | n + 1 => by
    have ih := fresh_mem (p := p) (l := l) (x := x) n
    simp only [freshL]
    split
    · rename_i q
      rw [ih]
      refine ⟨fun ⟨i, h1, h2⟩ => ⟨i, by omega, h2⟩, fun ⟨i, h1, h2, h3⟩ => ⟨i, ?_, h2, h3⟩⟩
      rcases Nat.lt_or_ge i n with g | g
      · exact g
      · exact absurd (by rw [show i = n by omega]; exact q) h3
    · rename_i q
      rw [List.mem_append, ih]
      constructor
      · rintro (⟨i, h1, h2⟩ | h)
        · exact ⟨i, by omega, h2⟩
        · exact ⟨n, by omega, by simpa using h, q⟩
      · rintro ⟨i, h1, h2, h3⟩
        rcases Nat.lt_or_ge i n with g | g
        · exact .inl ⟨i, g, h2, h3⟩
        · exact .inr (by simp; omega)
theorem idx_pre {f : Int → Bool} {o : List Int} {i : Nat} : ∀ n : Nat, i ≤ n → ∃ s, idxB f o n = idxB f o i ++ s
  | 0, h => ⟨[], by rw [show i = 0 by omega]; rfl⟩
  | n + 1, h => by
    rcases Nat.lt_or_ge n i with g | g
    · exact ⟨[], by rw [show i = n + 1 by omega]; simp⟩
    · obtain ⟨s, e⟩ := idx_pre (f := f) (o := o) n g
      simp only [idxB]
      split
      · exact ⟨s ++ [(n : Int)], by rw [e, List.append_assoc]⟩
      · exact ⟨s, e⟩
theorem idx_at {f : Int → Bool} {o : List Int} : ∀ (n : Nat) {t : Nat} {x : Int}, (idxB f o n)[t]? = some x → ∃ i : Nat, i < n ∧ x = i ∧ f (o.getD i 0) = true ∧ t = (idxB f o i).length
  | 0, t, x, h => by cases h
  | n + 1, t, x, h => by
    simp only [idxB] at h
    split at h
    · rename_i q
      rcases Nat.lt_or_ge t (idxB f o n).length with g | g
      · rw [List.getElem?_append_left g] at h
        obtain ⟨i, h1, h2⟩ := idx_at n h
        exact ⟨i, by omega, h2⟩
      · rw [List.getElem?_append_right g] at h
        have ht : t - (idxB f o n).length = 0 := by
          have := (List.getElem?_eq_some_iff.1 h).1
          simpa using this
        rw [ht] at h
        cases h
        exact ⟨n, by omega, rfl, q, by omega⟩
    · obtain ⟨i, h1, h2⟩ := idx_at n h
      exact ⟨i, by omega, h2⟩
theorem idx_of {f : Int → Bool} {o : List Int} {n i : Nat} (hi : i < n) (h : f (o.getD i 0) = true) : (idxB f o n)[(idxB f o i).length]? = some (i : Int) := by
  obtain ⟨s, e⟩ := idx_pre (f := f) (o := o) (i := i + 1) n (by omega)
  have e2 : idxB f o (i + 1) = idxB f o i ++ [(i : Int)] := by simp only [idxB]; rw [if_pos h]
  rw [e, e2]
  simp
theorem idx_take {f : Int → Bool} {o : List Int} {n i : Nat} (hi : i ≤ n) : (idxB f o n).take (idxB f o i).length = idxB f o i := by
  obtain ⟨s, e⟩ := idx_pre (f := f) (o := o) n hi
  rw [e, List.take_left]
theorem idx_inc {f : Int → Bool} {o : List Int} : ∀ n : Nat, (idxB f o n).Pairwise (· < ·)
  | 0 => List.Pairwise.nil
  | n + 1 => by
    simp only [idxB]
    split
    · rw [List.pairwise_append]
      exact ⟨idx_inc n, List.pairwise_singleton _ _, fun a ha b hb => by
        have := idxB_in n a ha
        have : b = (n : Int) := by simpa using hb
        omega⟩
    · exact idx_inc n
theorem fresh_inc {p : Int} {l : List (List Int)} : ∀ n : Nat, (freshL p l n).Pairwise (· < ·)
  | 0 => List.Pairwise.nil
  | n + 1 => by
    simp only [freshL]
    split
    · exact fresh_inc n
    · rw [List.pairwise_append]
      exact ⟨fresh_inc n, List.pairwise_singleton _ _, fun a ha b hb => by
        obtain ⟨i, h1, h2, _⟩ := (fresh_mem n).1 ha
        have : b = (n : Int) := by simpa using hb
        omega⟩
theorem kpS_inc {p : Int} {o : List Int} {l : List (List Int)} : ∀ n : Nat, (kpS p o l n).Pairwise (· < ·)
  | 0 => List.Pairwise.nil
  | n + 1 => by
    simp only [kpS]
    split
    · exact kpS_inc n
    · rw [List.pairwise_append]
      exact ⟨kpS_inc n, List.pairwise_singleton _ _, fun a ha b hb => by
        obtain ⟨i, h1, h2, _⟩ := (kpS_mem n).1 ha
        have : b = (n : Int) := by simpa using hb
        omega⟩
theorem keepH_mem {p : Int} {o : List Int} {l : List (List Int)} {h x : Int} : x ∈ keepH p o l h ↔ ∃ i : Nat, i < o.length ∧ x = i ∧ o.getD i 0 = h ∧ ¬ (combI p (befR o l i) (l.getD i [])).2 = true := by
  have hrow : ∀ i : Nat, i < o.length → o.getD i 0 = h → (partL l (idxB (owH h) o o.length)).take (idxB (owH h) o i).length = befR o l i ∧ (partL l (idxB (owH h) o o.length)).getD (idxB (owH h) o i).length [] = l.getD i [] := fun i hi he => by
    have h1 : owH h (o.getD i 0) = true := by unfold owH; simpa using he
    have h2 := idx_of hi h1
    constructor
    · unfold befR partL
      rw [he, ← List.map_take, idx_take (by omega)]
    · unfold partL
      rw [List.getD_eq_getElem?_getD, List.getElem?_map, h2]
      simp
  unfold keepH
  rw [List.mem_map]
  constructor
  · rintro ⟨t, ht, rfl⟩
    obtain ⟨τ, h1, rfl, h3⟩ := (fresh_mem _).1 ht
    have hx : (idxB (owH h) o o.length)[τ]? = some ((idxB (owH h) o o.length)[τ]) := List.getElem?_eq_getElem h1
    obtain ⟨i, i1, i2, i3, i4⟩ := idx_at _ hx
    have he : o.getD i 0 = h := by unfold owH at i3; simpa using i3
    obtain ⟨r1, r2⟩ := hrow i i1 he
    refine ⟨i, i1, ?_, he, ?_⟩
    · rw [Int.toNat_natCast, List.getD_eq_getElem?_getD, hx]; exact i2
    · rw [i4, r1, r2] at h3
      exact h3
  · rintro ⟨i, i1, rfl, he, h3⟩
    have h1 : owH h (o.getD i 0) = true := by unfold owH; simpa using he
    have h2 := idx_of i1 h1
    obtain ⟨r1, r2⟩ := hrow i i1 he
    refine ⟨((idxB (owH h) o i).length : Int), (fresh_mem _).2 ⟨_, (List.getElem?_eq_some_iff.1 h2).1, rfl, by rw [r1, r2]; exact h3⟩, ?_⟩
    rw [Int.toNat_natCast, List.getD_eq_getElem?_getD, h2]; rfl
theorem keepH_inc {p : Int} {o : List Int} {l : List (List Int)} {h : Int} : (keepH p o l h).Pairwise (· < ·) := by
  unfold keepH
  rw [List.pairwise_map]
  refine List.Pairwise.imp_of_mem (fun {a b} ha hb hlt => ?_) (fresh_inc _)
  obtain ⟨i, h1, rfl, _⟩ := (fresh_mem _).1 ha
  obtain ⟨j, h2, rfl, _⟩ := (fresh_mem _).1 hb
  have hI := List.pairwise_iff_getElem.1 (idx_inc (f := owH h) (o := o) o.length) i j h1 h2 (by omega)
  rw [Int.toNat_natCast, Int.toNat_natCast, List.getD_eq_getElem?_getD, List.getD_eq_getElem?_getD, List.getElem?_eq_getElem h1, List.getElem?_eq_getElem h2]
  exact hI
theorem kCat_mem {p : Int} {o : List Int} {l : List (List Int)} {x : Int} : ∀ n : Nat, x ∈ kCat p o l n ↔ ∃ i : Nat, i < o.length ∧ x = i ∧ (0 ≤ o.getD i 0 ∧ o.getD i 0 < n) ∧ ¬ (combI p (befR o l i) (l.getD i [])).2 = true
  | 0 => ⟨(fun h => by cases h), fun ⟨i, _, _, h, _⟩ => by omega⟩
  | n + 1 => by
    simp only [kCat]
    rw [List.mem_append, kCat_mem n, keepH_mem]
    constructor
    · rintro (⟨i, h1, h2, h3, h4⟩ | ⟨i, h1, h2, h3, h4⟩)
      · exact ⟨i, h1, h2, by omega, h4⟩
      · exact ⟨i, h1, h2, by omega, h4⟩
    · rintro ⟨i, h1, h2, h3, h4⟩
      by_cases q : o.getD i 0 = (n : Int)
      · exact .inr ⟨i, h1, h2, q, h4⟩
      · exact .inl ⟨i, h1, h2, by omega, h4⟩
theorem kCat_nodup {p : Int} {o : List Int} {l : List (List Int)} : ∀ n : Nat, (kCat p o l n).Pairwise (· ≠ ·)
  | 0 => List.Pairwise.nil
  | n + 1 => by
    simp only [kCat]
    rw [List.pairwise_append]
    refine ⟨kCat_nodup n, keepH_inc.imp (fun h => by omega), fun a ha b hb => ?_⟩
    obtain ⟨i, h1, h2, h3, _⟩ := (kCat_mem n).1 ha
    obtain ⟨j, g1, g2, g3, _⟩ := keepH_mem.1 hb
    intro e
    have : i = j := by omega
    subst this
    omega
theorem inc_eq : ∀ {a b : List Int}, a.Pairwise (· < ·) → b.Pairwise (· < ·) → (∀ x, x ∈ a ↔ x ∈ b) → a = b
  | [], [], _, _, _ => rfl
  | [], y :: b, _, _, h => by have := (h y).2 (List.mem_cons_self ..); cases this
  | x :: a, [], _, _, h => by have := (h x).1 (List.mem_cons_self ..); cases this
  | x :: a, y :: b, ha, hb, h => by
    rw [List.pairwise_cons] at ha hb
    have e : x = y := by
      rcases List.mem_cons.1 ((h x).1 (List.mem_cons_self ..)) with e | e
      · exact e
      · rcases List.mem_cons.1 ((h y).2 (List.mem_cons_self ..)) with e2 | e2
        · exact e2.symm
        · have := hb.1 x e; have := ha.1 y e2; omega
    subst e
    rw [inc_eq ha.2 hb.2 (fun z => ⟨fun hz => by
      rcases List.mem_cons.1 ((h z).1 (List.mem_cons_of_mem _ hz)) with e | e
      · have := ha.1 z hz; omega
      · exact e, fun hz => by
      rcases List.mem_cons.1 ((h z).2 (List.mem_cons_of_mem _ hz)) with e | e
      · have := hb.1 z hz; omega
      · exact e⟩)]
/-- Sorted, both are one. -/
theorem kCat_sort {p n : Int} {o : List Int} {l : List (List Int)} (ho : ∀ x ∈ o, 0 ≤ x ∧ x ≤ n - 1) (hn : 0 ≤ n) : (kCat p o l n.toNat).mergeSort (fun x y => decide (x ≤ y)) = kpS p o l o.length := by
  have hp := List.mergeSort_perm (kCat p o l n.toNat) (fun x y => decide (x ≤ y))
  have hs := List.pairwise_mergeSort (le := fun (x y : Int) => decide (x ≤ y)) (by intro a b c h1 h2; simp only [decide_eq_true_eq] at *; omega) (by intro a b; simp only [Bool.or_eq_true, decide_eq_true_eq]; omega) (kCat p o l n.toNat)
  have hd : ((kCat p o l n.toNat).mergeSort (fun x y => decide (x ≤ y))).Pairwise (· ≠ ·) := (hp.pairwise_iff (fun h => h.symm)).2 (kCat_nodup _)
  have hlt : ((kCat p o l n.toNat).mergeSort (fun x y => decide (x ≤ y))).Pairwise (· < ·) := (hs.and hd).imp (fun h => by have h1 := h.1; simp only [decide_eq_true_eq] at h1; have := h.2; omega)
  refine inc_eq hlt (kpS_inc _) (fun x => ?_)
  rw [hp.mem_iff, kCat_mem, kpS_mem]
  constructor
  · rintro ⟨i, h1, h2, h3, h4⟩
    exact ⟨i, h1, h2, h4⟩
  · rintro ⟨i, h1, h2, h4⟩
    have := ho (o.getD i 0) (by rw [List.getD_eq_getElem?_getD, List.getElem?_eq_getElem h1]; exact List.getElem_mem h1)
    exact ⟨i, h1, h2, by omega, h4⟩
theorem bit_ow : ∀ h x : Fin 7, decide (2 ^ h.val / 2 ^ x.val % 2 = 1) = decide (x = h) := by decide +kernel
theorem inS_ow {h : Nat} (hh : h < 7) {x : Int} (hx : 0 ≤ x ∧ x ≤ 6) : inS (2 ^ h) x = owH (h : Int) x := by
  obtain ⟨j, rfl⟩ : ∃ j : Nat, x = (j : Int) := ⟨x.toNat, by omega⟩
  have := bit_ow ⟨h, hh⟩ ⟨j, by omega⟩
  unfold inS owH
  rw [Int.toNat_natCast]
  simp only at this
  rw [this]
  apply decide_eq_decide.2
  constructor
  · intro e; have : j = h := congrArg Fin.val e; omega
  · intro e; exact Fin.ext (by show j = h; omega)
theorem idx_ow {h : Nat} (hh : h < 7) {o : List Int} (ho : ∀ x ∈ o, 0 ≤ x ∧ x ≤ 6) : idxB (inS (2 ^ h)) o o.length = idxB (owH (h : Int)) o o.length := idxB_congr _ (Nat.le_refl _) (fun x hx => inS_ow hh (ho x hx))
theorem kCat_len {p : Int} {o : List Int} {l : List (List Int)} {n : Nat} : (kCat p o l n).length ≤ o.length ∧ ∀ x ∈ kCat p o l n, 0 ≤ x ∧ x < o.length := by
  have h2 : ∀ x ∈ kCat p o l n, 0 ≤ x ∧ x < o.length := fun x hx => by obtain ⟨i, h1, h3, _⟩ := (kCat_mem n).1 hx; omega
  have e : (kCat p o l n).length = ((kCat p o l n).mergeSort (fun x y => decide (x ≤ y))).length := (List.length_mergeSort _).symm
  refine ⟨?_, h2⟩
  have hp := List.mergeSort_perm (kCat p o l n) (fun x y => decide (x ≤ y))
  have hs := List.pairwise_mergeSort (le := fun (x y : Int) => decide (x ≤ y)) (by intro a b c h1 h2; simp only [decide_eq_true_eq] at *; omega) (by intro a b; simp only [Bool.or_eq_true, decide_eq_true_eq]; omega) (kCat p o l n)
  have hd : ((kCat p o l n).mergeSort (fun x y => decide (x ≤ y))).Pairwise (· ≠ ·) := (hp.pairwise_iff (fun h => h.symm)).2 (kCat_nodup _)
  have hlt : ((kCat p o l n).mergeSort (fun x y => decide (x ≤ y))).Pairwise (· < ·) := (hs.and hd).imp (fun h => by have h1 := h.1; simp only [decide_eq_true_eq] at h1; have := h.2; omega)
  rw [e]
  have hb : ∀ x ∈ (kCat p o l n).mergeSort (fun x y => decide (x ≤ y)), 0 ≤ x ∧ x < o.length := fun x hx => h2 x (hp.mem_iff.1 hx)
  generalize (kCat p o l n).mergeSort (fun x y => decide (x ≤ y)) = m at hlt hb
  have key : ∀ (i : Nat) (hi : i < m.length), (i : Int) ≤ m[i] := fun i => by
    induction i with
    | zero => intro hi; exact (hb _ (List.getElem_mem hi)).1
    | succ i ih =>
      intro hi
      have h1 := ih (by omega)
      have := List.pairwise_iff_getElem.1 hlt i (i + 1) (by omega) hi (by omega)
      omega
  rcases Nat.eq_zero_or_pos m.length with h0 | h0
  · omega
  · have h1 := key (m.length - 1) (by omega)
    have h2 := (hb _ (List.getElem_mem (show m.length - 1 < m.length by omega))).2
    omega
theorem kpS_in {p : Int} {o : List Int} {l : List (List Int)} (n : Nat) : (kpS p o l n).length ≤ n ∧ ∀ x ∈ kpS p o l n, 0 ≤ x ∧ x < n := by
  refine ⟨?_, fun x hx => by obtain ⟨i, h1, h2, _⟩ := (kpS_mem n).1 hx; omega⟩
  induction n with
  | zero => exact Nat.le_refl _
  | succ n ih =>
    simp only [kpS]
    split
    · omega
    · rw [List.length_append]; simp only [List.length_singleton]; omega
theorem keepH_take {p : Int} {o : List Int} {l : List (List Int)} {h : Int} {j : Nat} {t : Int} {x : Int} (ht : (freshL p (partL l (idxB (owH h) o o.length)) (idxB (owH h) o o.length).length)[(j : Int).toNat]? = some t) (hx : (idxB (owH h) o o.length)[t.toNat]? = some x) :
    (keepH p o l h).take (j + 1) = (keepH p o l h).take j ++ [x] := by
  have e : (keepH p o l h)[(j : Int).toNat]? = some x := by
    unfold keepH
    rw [List.getElem?_map, ht]
    simp [List.getD_eq_getElem?_getD, hx]
  exact tk_snoc e
theorem keepH_len {p : Int} {o : List Int} {l : List (List Int)} {h : Int} : (keepH p o l h).length = (freshL p (partL l (idxB (owH h) o o.length)) (idxB (owH h) o o.length).length).length := by unfold keepH; simp
/-- What is left of a scheme. -/
def tcO (p : Int) (o : List Int) (l : List (List Int)) : List Int := (kpS p o l o.length).map (fun q => o.getD q.toNat 0)
def tcM (p : Int) (k : Int) (o : List Int) (l : List (List Int)) : List (List Int) := turnL (partL l (kpS p o l o.length)) k.toNat
def tcK (p : Int) (k : Int) (o : List Int) (l : List (List Int)) : List (List Int) := (tcM p k o l).getD 0 [] :: keptL p ((tcM p k o l).drop 1) ((tcM p k o l).drop 1).length
def tcR (p : Int) (k : Int) (o : List Int) (l : List (List Int)) : List (List Int) := turnL (tcK p k o l) (kpS p o l o.length).length
def tcJ (p : Int) (R : List (List Int)) (n : Nat) : List Int := [0] ++ (freshL p (R.drop 1) n).map (fun q => q + 1)
theorem tcJ_part {p : Int} {C : Nat} {R : List (List Int)} (hp : isPr p = true) (h : rect p C R) (h1 : 1 ≤ R.length) : partL R (tcJ p R (R.drop 1).length) = R.getD 0 [] :: keptL p (R.drop 1) (R.drop 1).length := by
  have hr : rect p C (R.drop 1) := fun i hi => by
    rw [List.length_drop] at hi
    have := h (i + 1) (by omega)
    rw [List.getD_eq_getElem?_getD, List.getElem?_drop, Nat.add_comm, ← List.getD_eq_getElem?_getD]
    exact this
  rw [(kept_ok hp hr _ (Nat.le_refl _)).2.2]
  unfold tcJ partL
  rw [List.map_append, List.map_map]
  show [R.getD 0 []] ++ _ = R.getD 0 [] :: _
  rw [List.singleton_append]
  congr 1
  apply List.map_congr_left
  intro q hq
  obtain ⟨i, _, rfl, _⟩ := (fresh_mem _).1 hq
  show R.getD ((i : Int) + 1).toNat [] = (R.drop 1).getD (i : Int).toNat []
  rw [show ((i : Int) + 1).toNat = i + 1 by omega, Int.toNat_natCast]
  rw [List.getD_eq_getElem?_getD, List.getD_eq_getElem?_getD, List.getElem?_drop, Nat.add_comm]
theorem rect_drop {p : Int} {C : Nat} {R : List (List Int)} (h : rect p C R) : rect p C (R.drop 1) := fun i hi => by
  rw [List.length_drop] at hi
  have := h (i + 1) (by omega)
  rw [List.getD_eq_getElem?_getD, List.getElem?_drop, Nat.add_comm, ← List.getD_eq_getElem?_getD]
  exact this
theorem kept_len (p : Int) (l : List (List Int)) : ∀ i : Nat, (keptL p l i).length ≤ i
  | 0 => Nat.le_refl _
  | i + 1 => by
    have := kept_len p l i
    simp only [keptL]
    split
    · omega
    · rw [List.length_append]; simp only [List.length_singleton]; omega
theorem tcK_f {p : Int} {C : Nat} {R : List (List Int)} (hp : isPr p = true) (h : rect p C R) (h1 : 1 ≤ R.length) : rect p C (R.getD 0 [] :: keptL p (R.drop 1) (R.drop 1).length) ∧ (R.getD 0 [] :: keptL p (R.drop 1) (R.drop 1).length).length ≤ R.length := by
  constructor
  · intro i hi
    cases i with
    | zero => exact h 0 (by omega)
    | succ i => exact (kept_ok hp (rect_drop h) _ (Nat.le_refl _)).1 i (by simpa using hi)
  · have := kept_len p (R.drop 1) (R.drop 1).length
    rw [List.length_drop] at this
    rw [List.length_cons, List.length_drop]; omega
noncomputable def trC (n : Int) (o : List Int) (p k : Int) (l : List (List Int)) : Int := if okSc n o p k l then 0 else 1
theorem trC_0 {n : Int} {o : List Int} {p k : Int} {l : List (List Int)} (h : okSc n o p k l) : trC n o p k l = 0 := if_pos h
theorem trC_1 {n : Int} {o : List Int} {p k : Int} {l : List (List Int)} (h : ¬ okSc n o p k l) : trC n o p k l = 1 := if_neg h
def zI (c x : Int) : Int := if c = 0 then x else 0
def zL {α : Type} (c : Int) (l : List α) : List α := if c = 0 then l else []
theorem zI_no {c x : Int} (h : c ≠ 0) : zI c x = 0 := if_neg h
theorem zI_yes {c x : Int} (h : c = 0) : zI c x = x := if_pos h
theorem zL_no {α : Type} {c : Int} {l : List α} (h : c ≠ 0) : zL c l = [] := if_neg h
theorem zL_yes {α : Type} {c : Int} {l : List α} (h : c = 0) : zL c l = l := if_pos h
variable {W : World} {H : Hp}

theorem bd31_ : Try.prog.built 31 [] = some #[.int .i64 0, .slice none 0 0, .int .i64 0, .int .i64 0, .slice none 0 0] := by kernel_rfl
theorem bd31_0 (x0 : Int) : Try.prog.built 31 [(0, .int .i64 x0)] = some #[.int .i64 x0, .slice none 0 0, .int .i64 0, .int .i64 0, .slice none 0 0] := by kernel_rfl

set_option maxRecDepth 100000 in
theorem implTR_ok {vo v : Value} {o : List Int} {l : List (List Int)} {oko ok : Nat → Prop} (n p k : Int) (ho : RdK kI W H oko vo o) (hr : RdK (kR kI) W H ok v l) : ACalls Try.prog W 35 #[.agg #[.int .i64 n, vo, .int .i64 p, .int .i64 k, v]] H (fun r H' => (∃ (u v : Value) (B : Nat), r = .tuple #[.agg #[.int .i64 (zI (trC n o p k l) n), u, .int .i64 (zI (trC n o p k l) p), .int .i64 (zI (trC n o p k l) ((tcK p k o l).length : Int)), v], .int .i64 (trC n o p k l)] ∧ OwnK kI 2 W H' (fun b => H.bd ≤ b ∧ b < B) u (zL (trC n o p k l) (tcO p o l)) ∧ OwnD (kO 2 kI) 22 W H' (fun b => H.bd ≤ b ∧ B ≤ b) v (zL (trC n o p k l) (tcR p k o l))) ∧ Ext H H') := by
  refine ACalls.of (args := [.agg #[.int .i64 n, vo, .int .i64 p, .int .i64 k, v]]) Try.func35 rfl rfl ?_
  have X0 := Ext.refl H
  have hm1 := ho.max
  have hm2 := hr.max
  have hmx := hr.max
  refine AW.rs ?_
  refine AL.w rfl (.inl rfl) (WV.bx rfl rfl) ?_
  rintro _ H4 ⟨b3, rfl, hx5, hn6, hb7⟩
  have o8 := Nat.le_trans X0.bd hn6
  have X9 := Ext.trans X0 hx5
  have X10 := Ext.refl H4
  refine AL.w rfl (.inl rfl) (WV.al ze31 rfl) ?_
  rintro _ H12 ⟨b11, rfl, hx13, hn14, hb15⟩
  have o16 := Nat.le_trans X9.bd hn14
  have o17 := Nat.le_trans X10.bd hn14
  have ne18 : b3 ≠ b11 := by have := hb7.lt; omega
  have X19 := Ext.trans X9 hx13
  have X20 := Ext.trans X10 hx13
  have hb21 := hb7.ext hx13
  have X22 := Ext.refl H12
  refine AL.val rfl (.inl rfl) (HV.as rfl) ?_
  refine AL.nx ?_
  refine AW.seq ?_
  refine AW.rs ?_
  refine AL.val rfl (.inl rfl) (HV.lda (cs := [.int .i64 n, vo, .int .i64 p, .int .i64 k, v]) rfl va31 (at_cells hb21 rfl)) ?_
  refine AL.w rfl (.inl rfl) (WV.call fn92 rfl (ValidS_ok n p k (ho.ext X19) (hr.ext X19))) ?_
  rintro _ H23 ⟨rfl, hx24⟩
  have X25 := Ext.trans X19 hx24
  have X26 := Ext.trans X20 hx24
  have X27 := Ext.trans X22 hx24
  have hb28 := hb21.ext hx24
  have hb29 := hb15.ext hx24
  refine AL.val rfl (.inl rfl) (HV.not rfl) ?_
  refine AL.nx ?_
  refine AW.ifn rfl (fun c30 => ?_) (fun c30 => ?_)
  · -- then
    refine AW.rs ?_
    refine AL.val rfl (.inl rfl) (HV.bd rfl (bd31_ )) ?_
    refine AL.w0 (.inl rfl) (WV.st rfl rfl va31 rfl hb29 (Nat.le_of_ble_eq_true rfl) (one_cons rfl (one_cons (sl_one1 ⟨none, 0, rfl⟩) (one_cons rfl (one_cons rfl (one_cons (sl_one1 ⟨none, 0, rfl⟩) one_nil)))))) ?_
    rintro _ H31 ⟨hx32, hb33⟩
    have X34 := Ext.thru X25 hx32 (fun z_ hz_ => by rw [hz_]; exact o16)
    have X35 := Ext.thru X26 hx32 (fun z_ hz_ => by rw [hz_]; exact o17)
    have q37 := Nat.le_trans X27.bd hx32.bd
    have hb38 := hb28.but hx32 ne18
    have hb39 : At W H31 b11 ⟨31, [.int .i64 0, (.slice none 0 0), .int .i64 0, .int .i64 0, (.slice none 0 0)], 5⟩ := hb33
    refine AL.val rfl (.inl rfl) (HV.as rfl) ?_
    refine AL.nx ?_
    refine AW.ret ?_
    refine ret_and ?_
    refine post_ct rfl rfl rfl va31 hb39 ?_ (.inr rfl)
    have hC := trC_1 c30; have hC0 : trC n o p k l ≠ 0 := (by omega); exact ⟨⟨.slice none 0 0, .slice none 0 0, 0, by rw [zI_no hC0, zI_no hC0, zI_no hC0, hC] <;> rfl, by rw [zL_no hC0]; exact OwnK.nil _, by rw [zL_no hC0]; exact OwnD.nil _⟩, X34⟩
  · -- else
    refine AW.skip ?_
    refine nrm_and ?_
    refine AW.rs ?_
    have X40 := Ext.refl H23
    have y41 := hb28.lt
    have y42 := hb29.lt
    have o43 := X25.bd
    have o44 := X26.bd
    have o45 := X27.bd
    have o46 := X40.bd
    refine AL.w rfl (.inl rfl) (WV.bsK (K := kI) (l := ([] : List Int)) (css := []) sl22 rfl rfl (by first | rfl | simp [Instr.fill]) rfl segs_nil) ?_
    rintro v47 H48 ⟨hx49, ho50⟩
    have X51 := Ext.trans X25 hx49
    have X52 := Ext.trans X26 hx49
    have X53 := Ext.trans X27 hx49
    have X54 := Ext.trans X40 hx49
    have hb55 := hb28.ext hx49
    have hb56 := hb29.ext hx49
    refine AL.val rfl (.inl rfl) (HV.as rfl) ?_
    refine AL.nx ?_
    refine AW.seq ?_
    refine AW.rs ?_
    have hok : okSc n o p k l := by assumption
    have hF := okSc_f hok
    have hp := hF.pb
    have hk1 := hF.k1
    have hk0 := hF.k0
    have hF1 := hF.R
    have hF2 := hF.ol
    have hn7 := hF.hn
    have hob6 : ∀ x ∈ o, 0 ≤ x ∧ x ≤ 6 := fun x hx => by have := hF.ob x hx; omega
    refine AL.val rfl (.inl rfl) (HV.fa fl31_0 rfl) ?_
    refine AL.val rfl (.inl rfl) (HV.ld rfl va2 (at_cell hb55 rfl)) ?_
    refine AL.val rfl (.inl rfl) (HV.mv rfl) ?_
    refine AL.nx ?_
    refine AW.block ?_
    refine AW.loop (σ := Nat × Value) (fun ⟨h, vk⟩ => [(1, .pointer (some ⟨b3, 0, none⟩)), (2, .pointer (some ⟨b11, 0, none⟩)), (3, .int .i64 0), (23, .int .i64 n), (4, vk), (24, .int .i64 (h : Int))]) (fun ⟨h, vk⟩ H' => Ext H H' ∧ Ext H4 H' ∧ Ext H12 H' ∧ Ext H23 H' ∧ At W H' b3 ⟨31, [.int .i64 n, vo, .int .i64 p, .int .i64 k, v], 5⟩ ∧ At W H' b11 ⟨31, [.int .i64 0, (.slice none 0 0), .int .i64 0, .int .i64 0, (.slice none 0 0)], 5⟩ ∧ (h : Int) ≤ n ∧ OwnK kI 2 W H' (fun b => H23.bd ≤ b) vk (kCat p o l h) ∧ True) (fun ⟨h, vk⟩ => n.toNat - h) (0, v47) ⟨X51, X52, X53, X54, hb55, hb56, by omega, ho50, trivial⟩ ⟨rfl, rfl, rfl, rfl, rfl, rfl, trivial⟩ ?_
    rintro ⟨h, vk⟩ H58 ⟨X59, X60, X61, X62, hb63, hb64, hh, hoK, _⟩
    refine AW.rs ?_
    refine AL.val rfl (.inl rfl) (HV.lti rfl rfl) ?_
    refine AL.nx ?_
    refine AW.seq ?_
    refine AW.ifd rfl (fun c65 => ?_) (fun c65 => ?_)
    · -- then
      refine AW.skip ?_
      refine nrm_and ?_
      refine AW.seq ?_
      refine AW.block ?_
      refine AW.rs ?_
      refine AL.val rfl (.inl rfl) (HV.mv rfl) ?_
      have X66 := Ext.refl H58
      have ho67 := hoK.okk (ok' := fun b => H23.bd ≤ b ∧ b < H58.bd) (fun b hb hlt => ⟨hb, hlt⟩)
      refine AL.val rfl (.inl rfl) (HV.as rfl) ?_
      refine AL.nx ?_
      refine AW.seq ?_
      refine AW.draw' [0, 0, 2, 7, 15] mixed (by rfl) ?_
      refine Dr.read 0 _ 27 _ rfl rfl rfl rfl rfl (RV.of (by intro _ _ h; cases h) (.inl rfl) (fun _ xd => HV.lda (cs := [.int .i64 n, vo, .int .i64 p, .int .i64 k, v]) rfl va31 (fun j u hu => rdc_ext xd ((at_cells hb63 rfl) j u hu)))) ?_
      refine Dr.read 1 _ 28 _ rfl rfl rfl rfl rfl (RV.of (by intro _ _ h; cases h) (.inl rfl) (fun _ xd => HV.mv rfl)) ?_
      refine Dr.read 2 _ 29 _ rfl rfl rfl rfl rfl (RV.of (by intro _ _ h; cases h) (.inl rfl) (fun _ xd => HV.shl rfl rfl (by omega))) ?_
      rw [shl_u (show h < 7 by omega)]
      have y68 : H58.bd ≤ H58.bd := X66.bd
      refine Dr.eff 3 _ _ rfl (by intro d h; cases h; exact ⟨rfl, rfl⟩) rfl rfl rfl (EC.of (by intro _ _ h; cases h) (.inl rfl) (WV.call fn93 rfl (rowsHeld_ok n p k (ho.ext X59) (hr.ext X59) (s := 2 ^ h) rfl (Nat.lt_of_lt_of_le (Nat.pow_lt_pow_right (by decide) (show h < 7 by omega)) (by decide)) hob6 (by omega)))) (fun v H' h => .inl (h.1)) ?_
      rintro v69 H70 ⟨hx71, ho72⟩
      have X74 := Ext.trans X59 hx71
      have X75 := Ext.trans X60 hx71
      have X76 := Ext.trans X61 hx71
      have X77 := Ext.trans X62 hx71
      have X78 := Ext.trans X66 hx71
      have ho79 := ho67.ext hx71
      have hb80 := hb63.ext hx71
      have hb81 := hb64.ext hx71
      have X82 := Ext.refl H70
      have hr73 : RdK kI W H70 _ v69 (idxB (inS (2 ^ h)) o o.length) := ho72.rd
      refine Dr.read 4 _ 6 _ rfl rfl rfl rfl rfl (RV.of (by intro _ _ h; cases h) (.inl rfl) (fun _ xd => HV.as rfl)) ?_
      refine Dr.fin rfl ?_
      refine nrm_and ?_
      refine AW.rs ?_
      have hr83 := hr73
      rw [idx_ow (show h < 7 by omega) hob6] at hr83
      refine AL.val rfl (.inl rfl) (HV.fa fl31_2 rfl) ?_
      refine AL.val rfl (.inl rfl) (HV.lda (cs := [.int .i64 p, .int .i64 k, v]) rfl va29 (at_cells hb80 rfl)) ?_
      refine AL.val rfl (.inl rfl) (HV.mv rfl) ?_
      have y84 := hb80.lt
      have y85 := hb81.lt
      have o86 := X74.bd
      have o87 := X75.bd
      have o88 := X76.bd
      have o89 := X77.bd
      have o90 := X78.bd
      have o91 := X82.bd
      have a92 := ho79.ltb
      refine AL.w rfl (.inl rfl) (WV.call fn94 rfl (rowsAt_ok p k (hr.ext X74) hr83 hF.r (by omega) (by omega) (fun q hq => by have := idxB_in _ q hq; omega) (by have := idxB_len (f := owH (h : Int)) (o := o) o.length; omega))) ?_
      rintro _ H94 ⟨⟨u93, rfl, ho96⟩, hx95⟩
      have X97 := Ext.trans X74 hx95
      have X98 := Ext.trans X75 hx95
      have X99 := Ext.trans X76 hx95
      have X100 := Ext.trans X77 hx95
      have X101 := Ext.trans X78 hx95
      have X102 := Ext.trans X82 hx95
      have ho103 := ho79.ext hx95
      have hb104 := hb80.ext hx95
      have hb105 := hb81.ext hx95
      have X106 := Ext.refl H94
      have hr107 := rd_ofO ho96.rd
      have y108 : H58.bd ≤ H94.bd := X101.bd
      refine AL.w rfl (.inl rfl) (WV.call fn95 rfl (fresh_ok p k hr107 (K := k.toNat) hF.q hk0 (part_rect hF.r (fun q hq => by have := idxB_in _ q hq; omega)) (by omega) (by have := idxB_len (f := owH (h : Int)) (o := o) o.length; rw [partL_len]; omega) (by omega) (by have := idxB_len (f := owH (h : Int)) (o := o) o.length; rw [partL_len]; omega))) ?_
      rintro v109 H110 ⟨hx111, ho112⟩
      have X114 := Ext.trans X97 hx111
      have X115 := Ext.trans X98 hx111
      have X116 := Ext.trans X99 hx111
      have X117 := Ext.trans X100 hx111
      have X118 := Ext.trans X101 hx111
      have X119 := Ext.trans X102 hx111
      have X120 := Ext.trans X106 hx111
      have ho121 := ho103.ext hx111
      have hb122 := hb104.ext hx111
      have hb123 := hb105.ext hx111
      have X124 := Ext.refl H110
      have hr113 : RdK kI W H110 _ v109 (freshL p (partL l (idxB (owH (h : Int)) o o.length)) (partL l (idxB (owH (h : Int)) o o.length)).length) := ho112.rd
      have hr125 := hr113
      rw [partL_len] at hr125
      have y127 : H58.bd ≤ H110.bd := X118.bd
      have hr129 : RdK kI W H110 (fun b => H58.bd ≤ b ∧ b < H110.bd) v69 (idxB (owH (h : Int)) o o.length) := (hr83.ext X119).okk (fun b hb hlt => ⟨by have h1 : H58.bd ≤ b := hb; omega, hlt⟩)
      have hr131 : RdK kI W H110 (fun b => H58.bd ≤ b ∧ b < H110.bd) v109 (freshL p (partL l (idxB (owH (h : Int)) o o.length)) (idxB (owH (h : Int)) o o.length).length) := hr125.okk (fun b hb hlt => ⟨by have h1 : H94.bd ≤ b := hb; omega, hlt⟩)
      have ho126 := ho121.okk (ok' := fun b => (H23.bd ≤ b ∧ (b < H58.bd ∨ H110.bd ≤ b))) (fun b hb hlt => ⟨hb.1, .inl hb.2⟩)
      refine AL.val rfl (.inl rfl) (HV.len Try.underlying22 rfl hr131.isSl) ?_
      refine AL.val rfl (.inl rfl) (HV.mv rfl) ?_
      refine AL.nx ?_
      refine AW.block ?_
      refine AW.loop (σ := Nat × Value) (fun ⟨j, vj⟩ => [(1, .pointer (some ⟨b3, 0, none⟩)), (2, .pointer (some ⟨b11, 0, none⟩)), (3, .int .i64 0), (5, .int .i64 (h : Int)), (6, v69), (23, .int .i64 n), (24, .int .i64 (h : Int)), (25, .bool (decide ((h : Int) < n))), (26, .int .i64 (h : Int)), (27, .agg #[.int .i64 n, vo, .int .i64 p, .int .i64 k, v]), (28, .int .i64 (h : Int)), (29, .int .u64 ((2 ^ h : Nat) : Int)), (30, v69), (31, .pointer (some ⟨b3, 2, none⟩)), (32, .agg #[.int .i64 p, .int .i64 k, v]), (33, v69), (34, .agg #[.int .i64 p, .int .i64 k, u93]), (35, v109), (36, .int .i64 ((freshL p (partL l (idxB (owH (h : Int)) o o.length)) (idxB (owH (h : Int)) o o.length).length).length : Int)), (4, vj), (37, .int .i64 (j : Int))]) (fun ⟨j, vj⟩ H' => Ext H H' ∧ Ext H4 H' ∧ Ext H12 H' ∧ Ext H23 H' ∧ At W H' b3 ⟨31, [.int .i64 n, vo, .int .i64 p, .int .i64 k, v], 5⟩ ∧ At W H' b11 ⟨31, [.int .i64 0, (.slice none 0 0), .int .i64 0, .int .i64 0, (.slice none 0 0)], 5⟩ ∧ H110.bd ≤ H'.bd ∧ RdK kI W H' (fun b => H58.bd ≤ b ∧ b < H110.bd) v69 (idxB (owH (h : Int)) o o.length) ∧ RdK kI W H' (fun b => H58.bd ≤ b ∧ b < H110.bd) v109 (freshL p (partL l (idxB (owH (h : Int)) o o.length)) (idxB (owH (h : Int)) o o.length).length) ∧ j ≤ (freshL p (partL l (idxB (owH (h : Int)) o o.length)) (idxB (owH (h : Int)) o o.length).length).length ∧ OwnK kI 2 W H' (fun b => (H23.bd ≤ b ∧ (b < H58.bd ∨ H110.bd ≤ b))) vj (kCat p o l h ++ (keepH p o l (h : Int)).take j) ∧ True) (fun ⟨j, vj⟩ => (freshL p (partL l (idxB (owH (h : Int)) o o.length)) (idxB (owH (h : Int)) o o.length).length).length - j) (0, vk) ⟨X114, X115, X116, X117, hb122, hb123, X124.bd, hr129, hr131, Nat.zero_le _, by rw [List.take_zero, List.append_nil]; exact ho126, trivial⟩ ⟨rfl, rfl, rfl, rfl, rfl, rfl, rfl, rfl, rfl, rfl, rfl, rfl, rfl, rfl, rfl, rfl, rfl, rfl, rfl, rfl, rfl, trivial⟩ ?_
      rintro ⟨j, vj⟩ H132 ⟨X133, X134, X135, X136, hb137, hb138, q139, ho140, ho141, hj, hoJ, _⟩
      have hkl1 := (kCat_len (p := p) (o := o) (l := l) (n := h)).1
      have hkl2 := keepH_len (p := p) (o := o) (l := l) (h := (h : Int))
      have hkl3 := fresh_len p (partL l (idxB (owH (h : Int)) o o.length)) (idxB (owH (h : Int)) o o.length).length
      have hkl4 := idxB_len (f := owH (h : Int)) (o := o) o.length
      refine AW.rs ?_
      refine AL.val rfl (.inl rfl) (HV.lti rfl rfl) ?_
      refine AL.nx ?_
      refine AW.seq ?_
      refine AW.ifd rfl (fun c142 => ?_) (fun c142 => ?_)
      · -- then
        refine AW.skip ?_
        refine nrm_and ?_
        refine AW.seq ?_
        refine AW.block ?_
        refine AW.rs ?_
        have X150 := Ext.refl H132
        obtain ⟨p143, z144, cs145, hz146, hK147, hC148, hP149⟩ := RdK.ix (q := (j : Int)) ho141 sl22 (by omega) (by omega)
        obtain rfl : cs145 = [.int .i64 z144] := hK147
        refine AL.val rfl (.inl rfl) (hP149 rfl rfl) ?_
        refine AL.val rfl (.inl rfl) (HV.ld rfl va2 (cells_first hC148 rfl)) ?_
        refine AL.val rfl (.inl rfl) (HV.as rfl) ?_
        refine AL.nx ?_
        refine AW.reg ?_
        refine AL.val rfl (.inl rfl) (HV.mv rfl) ?_
        refine AL.val rfl (.inl rfl) (HV.mv rfl) ?_
        refine AL.val rfl (.inl rfl) (HV.mv rfl) ?_
        obtain ⟨i8, hi8, e8, _⟩ := (fresh_mem _).1 (List.mem_of_getElem? hz146)
        obtain ⟨p151, z152, cs153, hz154, hK155, hC156, hP157⟩ := RdK.ix (q := z144) ho140 sl22 (by omega) (by omega)
        obtain rfl : cs153 = [.int .i64 z152] := hK155
        refine AL.val rfl (.inl rfl) (hP157 rfl rfl) ?_
        refine AL.val rfl (.inl rfl) (HV.ld rfl va2 (cells_first hC156 rfl)) ?_
        have y158 := hb137.lt
        have y159 := hb138.lt
        have o160 := X133.bd
        have o161 := X134.bd
        have o162 := X135.bd
        have o163 := X136.bd
        have o164 := X150.bd
        have a165 := hoJ.ltb
        refine AL.w rfl (.inl rfl) (WV.bsK (K := kI) (l := ([z152] : List Int)) (css := [[.int .i64 z152]]) sl22 rfl rfl (by first | rfl | (simp [Instr.fill, Value.cells, kI, kB, kU, kU8, kS, Kd.sc]; done) | (simp [Instr.fill, Value.cells, kI, kB, kU, kU8, kS, Kd.sc, rng1, rng2, rng3, rng4, kP])) rfl (segs_cons rfl segs_nil)) ?_
        rintro v166 H167 ⟨hx168, ho169⟩
        have q170 := Nat.le_trans q139 hx168.bd
        have X171 := Ext.trans X133 hx168
        have X172 := Ext.trans X134 hx168
        have X173 := Ext.trans X135 hx168
        have X174 := Ext.trans X136 hx168
        have X175 := Ext.trans X150 hx168
        have ho176 := hoJ.ext hx168
        have ho177 := ho140.ext hx168
        have ho178 := ho141.ext hx168
        have hb179 := hb137.ext hx168
        have hb180 := hb138.ext hx168
        have X182 := Ext.refl H167
        refine AL.w rfl (.inl rfl) (WV.apk sl22 rfl rfl ho176 ho169.rd (by simp only [List.length_append, List.length_map, List.length_take, List.length_singleton]; omega) (by simp only [List.length_append, List.length_map, List.length_take, List.length_singleton]; omega) (fun b hb _ e => Nat.lt_irrefl _ (Nat.lt_of_lt_of_le (a165 b e) hb))) ?_
        rintro v183 H184 ⟨hx185, ho186, hb187⟩
        have ho188 := ho186.narrow (ok' := fun b => (H23.bd ≤ b ∧ (b < H58.bd ∨ H110.bd ≤ b))) kI_flat (fun b q => (hb187 b q).elim (fun e => (ho176.blk b e).1) (fun e => by have e1 : H167.bd ≤ b := e; have e2 : H23.bd ≤ H167.bd := X174.bd; exact ⟨by omega, by omega⟩))
        have q189 := Nat.le_trans q170 hx185.bd
        have X190 := Ext.thru X171 hx185 (fun b hb => Nat.le_trans o43 (ho176.blk b hb).1.1)
        have X191 := Ext.thru X172 hx185 (fun b hb => Nat.le_trans o44 (ho176.blk b hb).1.1)
        have X192 := Ext.thru X173 hx185 (fun b hb => Nat.le_trans o45 (ho176.blk b hb).1.1)
        have X193 := Ext.thru X174 hx185 (fun b hb => Nat.le_trans o46 (ho176.blk b hb).1.1)
        have q195 := Nat.le_trans X175.bd hx185.bd
        have q197 := Nat.le_trans X182.bd hx185.bd
        have ho198 := ho177.but hx185 (fun b hb _ e => by have h1 : H58.bd ≤ b ∧ b < H110.bd := hb; have h2 := (ho176.blk b e).1; omega) (fun b hb => (ho176.blk b hb).2.2)
        have ho199 := ho178.but hx185 (fun b hb _ e => by have h1 : H58.bd ≤ b ∧ b < H110.bd := hb; have h2 := (ho176.blk b e).1; omega) (fun b hb => (ho176.blk b hb).2.2)
        have hb201 := hb179.but hx185 (fun e => by have q : H23.bd ≤ _ := (ho176.blk _ e).1.1; omega)
        have hb202 := hb180.but hx185 (fun e => by have q : H23.bd ≤ _ := (ho176.blk _ e).1.1; omega)
        refine AL.val rfl (.inl rfl) (HV.as rfl) ?_
        refine AL.nil ?_
        refine nrm_blk (nrm_and ?_)
        refine AW.reg ?_
        refine AL.val rfl (.inl rfl) (HV.add rfl rfl (by omega)) ?_
        refine AL.val rfl (.inl rfl) (HV.mv rfl) ?_
        refine AL.nil ?_
        refine nrm_and ?_
        exact ⟨(j + 1, v183), ⟨X190, X191, X192, X193, hb201, hb202, q189, ho198, ho199, by omega, by rw [keepH_take hz146 hz154, ← List.append_assoc]; exact ho188, trivial⟩, by first | omega | (dsimp only; omega), ⟨rfl, rfl, rfl, rfl, rfl, rfl, rfl, rfl, rfl, rfl, rfl, rfl, rfl, rfl, rfl, rfl, rfl, rfl, rfl, rfl, rfl, trivial⟩⟩
      · -- else
        refine AW.exit ?_
        refine ex_and (ex_and (ex_blk ?_))
        refine nrm_blk (nrm_and ?_)
        refine AW.reg ?_
        have ho203 := hoJ.okk (ok' := fun b => H23.bd ≤ b) (fun b hb _ => hb.1)
        refine AL.val rfl (.inl rfl) (HV.add rfl rfl (by omega)) ?_
        refine AL.val rfl (.inl rfl) (HV.mv rfl) ?_
        refine AL.nil ?_
        refine nrm_and ?_
        exact ⟨(h + 1, vj), ⟨X133, X134, X135, X136, hb137, hb138, by omega, by show OwnK kI 2 W _ _ _ (kCat p o l h ++ keepH p o l (h : Int)); rw [show keepH p o l (h : Int) = (keepH p o l (h : Int)).take j by rw [List.take_of_length_le (by rw [keepH_len]; omega)]]; exact ho203, trivial⟩, by first | omega | (dsimp only; omega), ⟨rfl, rfl, rfl, rfl, rfl, rfl, trivial⟩⟩
    · -- else
      refine AW.exit ?_
      refine ex_and (ex_and (ex_blk ?_))
      refine nrm_and ?_
      refine AW.rs ?_
      refine AL.val rfl (.inl rfl) (HV.mv rfl) ?_
      refine AL.w rfl (.inl rfl) (WV.call fn96 rfl (sort_ok hoK (by have := (kCat_len (p := p) (o := o) (l := l) (n := n.toNat)).1; rw [show n.toNat = h by omega] at this; omega))) ?_
      rintro _ H204 ⟨rfl, hx205, ho206⟩
      have X208 := Ext.thru X59 hx205 (fun b hb => Nat.le_trans o43 (hoK.blk b hb).1)
      have X209 := Ext.thru X60 hx205 (fun b hb => Nat.le_trans o44 (hoK.blk b hb).1)
      have X210 := Ext.thru X61 hx205 (fun b hb => Nat.le_trans o45 (hoK.blk b hb).1)
      have X211 := Ext.thru X62 hx205 (fun b hb => Nat.le_trans o46 (hoK.blk b hb).1)
      have hb212 := hb63.but hx205 (fun e => by have q : H23.bd ≤ _ := (hoK.blk _ e).1; omega)
      have hb213 := hb64.but hx205 (fun e => by have q : H23.bd ≤ _ := (hoK.blk _ e).1; omega)
      have ho207 : OwnK kI 2 W H204 (fun b => H23.bd ≤ b) vk (kpS p o l o.length) := by rw [← kCat_sort (p := p) (l := l) hF.ob (by omega), show n.toNat = h by omega]; exact ho206
      refine AL.nx ?_
      refine AW.rs ?_
      refine AL.val rfl (.inl rfl) (HV.fa fl31_0 rfl) ?_
      refine AL.val rfl (.inl rfl) (HV.ld rfl va2 (at_cell hb212 rfl)) ?_
      refine AL.val rfl (.inl rfl) (HV.bd rfl (bd31_0 n)) ?_
      have X214 := Ext.refl H204
      have ho215 := ho207.okk (ok' := fun b => H23.bd ≤ b ∧ b < H204.bd) (fun b hb hlt => ⟨hb, hlt⟩)
      refine AL.w rfl (.inl rfl) (WV.al ze31 rfl) ?_
      rintro _ H217 ⟨b216, rfl, hx218, hn219, hb220⟩
      have o221 := Nat.le_trans X208.bd hn219
      have o222 := Nat.le_trans X209.bd hn219
      have o223 := Nat.le_trans X210.bd hn219
      have o224 := Nat.le_trans X211.bd hn219
      have o225 := Nat.le_trans X214.bd hn219
      have ne226 : b3 ≠ b216 := by have := hb212.lt; omega
      have ne227 : b11 ≠ b216 := by have := hb213.lt; omega
      have X228 := Ext.trans X208 hx218
      have X229 := Ext.trans X209 hx218
      have X230 := Ext.trans X210 hx218
      have X231 := Ext.trans X211 hx218
      have X232 := Ext.trans X214 hx218
      have ho233 := ho215.ext hx218
      have hb234 := hb212.ext hx218
      have hb235 := hb213.ext hx218
      have X236 := Ext.refl H217
      refine AL.w0 (.inl rfl) (WV.st rfl rfl va31 rfl hb220 (Nat.le_of_ble_eq_true rfl) (one_cons rfl (one_cons (sl_one1 ⟨none, 0, rfl⟩) (one_cons rfl (one_cons rfl (one_cons (sl_one1 ⟨none, 0, rfl⟩) one_nil)))))) ?_
      rintro _ H237 ⟨hx238, hb239⟩
      have X240 := Ext.thru X228 hx238 (fun z_ hz_ => by rw [hz_]; exact o221)
      have X241 := Ext.thru X229 hx238 (fun z_ hz_ => by rw [hz_]; exact o222)
      have X242 := Ext.thru X230 hx238 (fun z_ hz_ => by rw [hz_]; exact o223)
      have X243 := Ext.thru X231 hx238 (fun z_ hz_ => by rw [hz_]; exact o224)
      have X244 := Ext.thru X232 hx238 (fun z_ hz_ => by rw [hz_]; exact o225)
      have q246 := Nat.le_trans X236.bd hx238.bd
      have ho247 := ho233.but hx238 (fun b hb _ e => by have hb' : H23.bd ≤ b ∧ b < H204.bd := hb; have e' : b = b216 := e; omega) (fun z_ hz_ => by rw [hz_]; exact hb220.w)
      have hb248 := hb234.but hx238 ne226
      have hb249 := hb235.but hx238 ne227
      have hb250 : At W H237 b216 ⟨31, [.int .i64 n, (.slice none 0 0), .int .i64 0, .int .i64 0, (.slice none 0 0)], 5⟩ := hb239
      refine AL.nx ?_
      refine AW.seq ?_
      refine AW.rs ?_
      refine AL.val rfl (.inl rfl) (HV.mv rfl) ?_
      refine AL.val rfl (.inl rfl) (HV.len Try.underlying22 rfl ho247.rd.isSl) ?_
      refine AL.val rfl (.inl rfl) (HV.mv rfl) ?_
      refine AL.nx ?_
      refine AW.block ?_
      have X251 := Ext.refl H237
      have y252 := hb248.lt
      have y253 := hb249.lt
      have y254 := hb250.lt
      have o255 := X240.bd
      have o256 := X241.bd
      have o257 := X242.bd
      have o258 := X243.bd
      have o259 := X244.bd
      have o260 := X251.bd
      have a261 := ho247.ltb
      have ho262 : OwnK kI 2 W H237 (fun b => H237.bd ≤ b) (.slice none 0 0) ([] : List Int) := OwnK.nil _
      refine AW.loop (σ := Nat × Value) (fun ⟨i, vo_⟩ => [(1, .pointer (some ⟨b3, 0, none⟩)), (2, .pointer (some ⟨b11, 0, none⟩)), (3, .int .i64 0), (4, vk), (9, .pointer (some ⟨b216, 0, none⟩)), (55, vk), (56, .int .i64 ((kpS p o l o.length).length : Int)), (57, .int .i64 (i : Int))]) (fun ⟨i, vo_⟩ H' => Ext H H' ∧ Ext H4 H' ∧ Ext H12 H' ∧ Ext H23 H' ∧ At W H' b3 ⟨31, [.int .i64 n, vo, .int .i64 p, .int .i64 k, v], 5⟩ ∧ At W H' b11 ⟨31, [.int .i64 0, (.slice none 0 0), .int .i64 0, .int .i64 0, (.slice none 0 0)], 5⟩ ∧ H237.bd ≤ H'.bd ∧ H204.bd ≤ H'.bd ∧ i ≤ (kpS p o l o.length).length ∧ At W H' b216 ⟨31, [.int .i64 n, vo_, .int .i64 0, .int .i64 0, (.slice none 0 0)], 5⟩ ∧ OwnK kI 2 W H' (fun b => H237.bd ≤ b) vo_ (((kpS p o l o.length).take i).map (fun q => o.getD q.toNat 0)) ∧ OwnK kI 2 W H' (fun b => H23.bd ≤ b ∧ b < H204.bd) vk (kpS p o l o.length) ∧ True) (fun ⟨i, vo_⟩ => (kpS p o l o.length).length - i) (0, (.slice none 0 0)) ⟨X240, X241, X242, X243, hb248, hb249, X251.bd, X244.bd, Nat.zero_le _, hb250, ho262, ho247, trivial⟩ ⟨rfl, rfl, rfl, rfl, rfl, rfl, rfl, rfl, trivial⟩ ?_
      rintro ⟨i, vo_⟩ H264 ⟨X265, X266, X267, X268, hb269, hb270, q271, q272, hi, hbB, hoO, hoK2, _⟩
      have hkp := kpS_in (p := p) (o := o) (l := l) o.length
      refine AW.rs ?_
      refine AL.val rfl (.inl rfl) (HV.lti rfl rfl) ?_
      refine AL.nx ?_
      refine AW.seq ?_
      refine AW.ifd rfl (fun c273 => ?_) (fun c273 => ?_)
      · -- then
        refine AW.skip ?_
        refine nrm_and ?_
        refine AW.seq ?_
        refine AW.block ?_
        refine AW.rs ?_
        obtain ⟨g274, z275, cs276, hz277, hK278, hC279, hg280, hP281⟩ := OwnK.ix (q := (i : Int)) hoK2 sl22 (by omega) (by omega)
        have X282 := Ext.refl H264
        obtain rfl : cs276 = [.int .i64 z275] := hK278
        refine AL.val rfl (.inl rfl) (hP281 rfl rfl) ?_
        refine AL.val rfl (.inl rfl) (HV.ld rfl va2 (cells_first hC279 rfl)) ?_
        refine AL.val rfl (.inl rfl) (HV.as rfl) ?_
        refine AL.nx ?_
        refine AW.draw' [0, 1, 0, 4, 0, 28, 60, 124, 255, 511, 1023] mixed (by rfl) ?_
        refine Dr.read 0 _ 61 _ rfl rfl rfl rfl rfl (RV.of (by intro _ _ h; cases h) (.inl rfl) (fun _ xd => HV.fa fl31_1 rfl)) ?_
        refine Dr.read 1 _ 62 _ rfl rfl rfl rfl rfl (RV.of (by intro _ _ h; cases h) (.inl rfl) (fun _ xd => HV.ld rfl va22 (rdc_ext xd (at_cell_add (j := 1) hbB rfl)))) ?_
        refine Dr.read 2 _ 63 _ rfl rfl rfl rfl rfl (RV.of (by intro _ _ h; cases h) (.inl rfl) (fun _ xd => HV.fa fl31_1 rfl)) ?_
        refine Dr.read 3 _ 64 _ rfl rfl rfl rfl rfl (RV.of (by intro _ _ h; cases h) (.inl rfl) (fun _ xd => HV.ld rfl va22 (rdc_ext xd (at_cell_add (j := 1) hb269 rfl)))) ?_
        refine Dr.read 4 _ 65 _ rfl rfl rfl rfl rfl (RV.of (by intro _ _ h; cases h) (.inl rfl) (fun _ xd => HV.mv rfl)) ?_
        have b60 := hkp.2 _ (List.mem_of_getElem? hz277)
        obtain ⟨p283, z284, cs285, hz286, hK287, hC288, hP289⟩ := RdK.ix (q := z275) ho sl22 (by omega) (by omega)
        obtain rfl : cs285 = [.int .i64 z284] := hK287
        refine Dr.read 5 _ 66 _ rfl rfl rfl rfl rfl (RV.of (by intro _ _ h; cases h) (.inl rfl) (fun _ xd => hP289 rfl rfl)) ?_
        refine Dr.read 6 _ 67 _ rfl rfl rfl rfl rfl (RV.of (by intro _ _ h; cases h) (.inl rfl) (fun _ xd => HV.ld rfl va2 (rdc_ext xd (cells_first (hC288.ext X265) rfl)))) ?_
        have y290 := hb269.lt
        have y291 := hb270.lt
        have y292 := hbB.lt
        have o293 := X265.bd
        have o294 := X266.bd
        have o295 := X267.bd
        have o296 := X268.bd
        have o297 := X282.bd
        have a298 := hoO.ltb
        have a299 := hoK2.ltb
        refine Dr.eff 7 _ _ rfl (by intro d h; cases h; exact ⟨rfl, rfl⟩) rfl rfl rfl (EC.of (by intro _ _ h; cases h) (.inl rfl) (WV.bsK (K := kI) (l := ([z284] : List Int)) (css := [[.int .i64 z284]]) sl22 rfl rfl (by first | rfl | (simp [Instr.fill, Value.cells, kI, kB, kU, kU8, kS, Kd.sc]; done) | (simp [Instr.fill, Value.cells, kI, kB, kU, kU8, kS, Kd.sc, rng1, rng2, rng3, rng4, kP])) rfl (segs_cons rfl segs_nil))) (fun v H' h => .inl (h.1)) ?_
        rintro v300 H301 ⟨hx302, ho303⟩
        have q304 := Nat.le_trans q271 hx302.bd
        have q305 := Nat.le_trans q272 hx302.bd
        have X306 := Ext.trans X265 hx302
        have X307 := Ext.trans X266 hx302
        have X308 := Ext.trans X267 hx302
        have X309 := Ext.trans X268 hx302
        have X310 := Ext.trans X282 hx302
        have ho311 := hoO.ext hx302
        have ho312 := hoK2.ext hx302
        have hb313 := hb269.ext hx302
        have hb314 := hb270.ext hx302
        have hb315 := hbB.ext hx302
        have X317 := Ext.refl H301
        refine Dr.eff 8 _ _ rfl (by intro d h; cases h; exact ⟨rfl, rfl⟩) rfl rfl rfl (EC.of (by intro _ _ h; cases h) (.inl rfl) (WV.apk sl22 rfl rfl ho311 ho303.rd (by simp only [List.length_append, List.length_map, List.length_take, List.length_singleton]; omega) (by simp only [List.length_append, List.length_map, List.length_take, List.length_singleton]; omega) (fun b hb _ e => Nat.lt_irrefl _ (Nat.lt_of_lt_of_le (a298 b e) hb)))) (fun v H' h => .inr (.inl rfl)) ?_
        rintro v318 H319 ⟨hx320, ho321, hb322⟩
        have ho323 := ho321.narrow (ok' := fun b => H237.bd ≤ b) kI_flat (fun b q => (hb322 b q).elim (fun e => (ho311.blk b e).1) (fun e => Nat.le_trans q304 e))
        have q324 := Nat.le_trans q304 hx320.bd
        have q325 := Nat.le_trans q305 hx320.bd
        have X326 := Ext.thru X306 hx320 (fun b hb => Nat.le_trans o255 (ho311.blk b hb).1)
        have X327 := Ext.thru X307 hx320 (fun b hb => Nat.le_trans o256 (ho311.blk b hb).1)
        have X328 := Ext.thru X308 hx320 (fun b hb => Nat.le_trans o257 (ho311.blk b hb).1)
        have X329 := Ext.thru X309 hx320 (fun b hb => Nat.le_trans o258 (ho311.blk b hb).1)
        have q331 := Nat.le_trans X310.bd hx320.bd
        have q333 := Nat.le_trans X317.bd hx320.bd
        have ho334 := ho312.but hx320 (fun b hb _ e => by have h1 : H23.bd ≤ b ∧ b < H204.bd := hb; have h2 : H237.bd ≤ b := (ho311.blk b e).1; omega) (fun b hb => (ho311.blk b hb).2.2)
        have hb336 := hb313.but hx320 (fun e => by have q : H237.bd ≤ _ := (ho311.blk _ e).1; omega)
        have hb337 := hb314.but hx320 (fun e => by have q : H237.bd ≤ _ := (ho311.blk _ e).1; omega)
        have hb338 := hb315.but hx320 (fun e => by have q : H237.bd ≤ _ := (ho311.blk _ e).1; omega)
        refine Dr.read 9 _ 70 _ rfl rfl rfl rfl rfl (RV.of (by intro _ _ h; cases h) (.inl rfl) (fun _ xd => HV.fa fl31_1 rfl)) ?_
        refine Dr.eff 10 _ _ rfl (by intro d h; cases h) rfl rfl rfl (EC.of (by intro _ _ h; cases h) (.inl rfl) (WV.st rfl rfl va22 (sl_size ho323.rd.isSl) hb338 (Nat.le_of_ble_eq_true rfl) (sl_one ho323.rd.isSl))) (fun v H' h => .inr (.inl rfl)) ?_
        rintro _ H339 ⟨hx340, hb341⟩
        rw [sl_cells ho323.rd.isSl] at hb341
        have q342 := Nat.le_trans q324 hx340.bd
        have q343 := Nat.le_trans q325 hx340.bd
        have q344 := Nat.le_trans q331 hx340.bd
        have q345 := Nat.le_trans q333 hx340.bd
        have X346 := Ext.thru X326 hx340 (fun z_ hz_ => by rw [hz_]; exact o221)
        have X347 := Ext.thru X327 hx340 (fun z_ hz_ => by rw [hz_]; exact o222)
        have X348 := Ext.thru X328 hx340 (fun z_ hz_ => by rw [hz_]; exact o223)
        have X349 := Ext.thru X329 hx340 (fun z_ hz_ => by rw [hz_]; exact o224)
        have ho350 := ho323.but hx340 (fun b hb _ e => by have hb' : H237.bd ≤ b := hb; have e' : b = b216 := e; omega) (fun z_ hz_ => by rw [hz_]; exact hb338.w)
        have ho351 := ho334.but hx340 (fun b hb _ e => by have hb' : H23.bd ≤ b ∧ b < H204.bd := hb; have e' : b = b216 := e; omega) (fun z_ hz_ => by rw [hz_]; exact hb338.w)
        have hb352 := hb336.but hx340 ne226
        have hb353 := hb337.but hx340 ne227
        have hb354 : At W H339 b216 ⟨31, [.int .i64 n, v318, .int .i64 0, .int .i64 0, (.slice none 0 0)], 5⟩ := hb341
        refine Dr.fin rfl ?_
        refine nrm_blk (nrm_and ?_)
        refine AW.reg ?_
        refine AL.val rfl (.inl rfl) (HV.add rfl rfl (by omega)) ?_
        refine AL.val rfl (.inl rfl) (HV.mv rfl) ?_
        refine AL.nil ?_
        refine nrm_and ?_
        exact ⟨(i + 1, v318), ⟨X346, X347, X348, X349, hb352, hb353, q342, q343, by omega, hb354, by rw [tk_snoc hz277, List.map_append, List.map_cons, List.map_nil, show o.getD z275.toNat 0 = z284 by rw [List.getD_eq_getElem?_getD, hz286]; rfl]; exact ho350, ho351, trivial⟩, by first | omega | (dsimp only; omega), ⟨rfl, rfl, rfl, rfl, rfl, rfl, rfl, rfl, trivial⟩⟩
      · -- else
        refine AW.exit ?_
        refine ex_and (ex_and (ex_blk ?_))
        refine nrm_and ?_
        refine AW.rs ?_
        have X355 := Ext.refl H264
        have ho356 : OwnK kI 2 W H264 (fun b => H237.bd ≤ b) vo_ (tcO p o l) := by unfold tcO; rw [show (kpS p o l o.length) = (kpS p o l o.length).take i by rw [List.take_of_length_le (by omega)]]; exact hoO
        have ho357 := ho356.okk (ok' := fun b => H237.bd ≤ b ∧ b < H264.bd) (fun b hb hlt => ⟨hb, hlt⟩)
        have hkp := kpS_in (p := p) (o := o) (l := l) o.length
        have hkr := part_rect hF.r (fun q hq => by have := hkp.2 q hq; omega : ∀ q ∈ kpS p o l o.length, 0 ≤ q ∧ q < l.length)
        have hkn := partL_len l (kpS p o l o.length)
        have htr := turn_rect (show 0 < p by omega) hkr
        rw [hkn] at htr
        have htl := turn_len (partL l (kpS p o l o.length)) k.toNat
        refine AL.val rfl (.inl rfl) (HV.fa fl31_2 rfl) ?_
        refine AL.val rfl (.inl rfl) (HV.lda (cs := [.int .i64 p, .int .i64 k, v]) rfl va29 (at_cells hb269 rfl)) ?_
        refine AL.val rfl (.inl rfl) (HV.mv rfl) ?_
        have y358 := hb269.lt
        have y359 := hb270.lt
        have y360 := hbB.lt
        have o361 := X265.bd
        have o362 := X266.bd
        have o363 := X267.bd
        have o364 := X268.bd
        have o365 := X355.bd
        have a366 := ho357.ltb
        have a367 := hoK2.ltb
        refine AL.w rfl (.inl rfl) (WV.call fn94 rfl (rowsAt_ok p k (hr.ext X265) hoK2.rd hF.r (by omega) (by omega) (fun q hq => by have := hkp.2 q hq; omega) (by omega))) ?_
        rintro _ H369 ⟨⟨u368, rfl, ho371⟩, hx370⟩
        have q372 := Nat.le_trans q271 hx370.bd
        have q373 := Nat.le_trans q272 hx370.bd
        have X374 := Ext.trans X265 hx370
        have X375 := Ext.trans X266 hx370
        have X376 := Ext.trans X267 hx370
        have X377 := Ext.trans X268 hx370
        have X378 := Ext.trans X355 hx370
        have ho379 := ho357.ext hx370
        have ho380 := hoK2.ext hx370
        have hb381 := hb269.ext hx370
        have hb382 := hb270.ext hx370
        have hb383 := hbB.ext hx370
        have X384 := Ext.refl H369
        have hr385 := rd_ofO ho371.rd
        have y386 := hb381.lt
        have y387 := hb382.lt
        have y388 := hb383.lt
        have o389 := X374.bd
        have o390 := X375.bd
        have o391 := X376.bd
        have o392 := X377.bd
        have o393 := X378.bd
        have o394 := X384.bd
        have a395 := ho379.ltb
        have a396 := ho380.ltb
        refine AL.w rfl (.inl rfl) (WV.call fn97 rfl (transp_ok p k hr385 (K := k.toNat) hk0 hkr (by omega) (by omega))) ?_
        rintro _ H398 ⟨⟨u397, rfl, ho400⟩, hx399⟩
        have q401 := Nat.le_trans q372 hx399.bd
        have q402 := Nat.le_trans q373 hx399.bd
        have X403 := Ext.trans X374 hx399
        have X404 := Ext.trans X375 hx399
        have X405 := Ext.trans X376 hx399
        have X406 := Ext.trans X377 hx399
        have X407 := Ext.trans X378 hx399
        have X408 := Ext.trans X384 hx399
        have ho409 := ho379.ext hx399
        have ho410 := ho380.ext hx399
        have hb411 := hb381.ext hx399
        have hb412 := hb382.ext hx399
        have hb413 := hb383.ext hx399
        have X414 := Ext.refl H398
        have hr415 := rd_ofO ho400.rd
        have hr416 : RdK (kR kI) W H398 _ u397 (tcM p k o l) := hr415
        have htm : (tcM p k o l).length = k.toNat := turn_len _ _
        have htr2 : rect p (kpS p o l o.length).length (tcM p k o l) := htr
        have hbl : ((tcM p k o l).drop (1 : Int).toNat).length = k.toNat - 1 := by rw [List.length_drop, htm]; rfl
        have hbr : rect p (kpS p o l o.length).length ((tcM p k o l).drop (1 : Int).toNat) := rect_drop htr2
        obtain ⟨htK1, htK2⟩ := tcK_f hF.q htr2 (by omega)
        refine AL.w rfl (.inl rfl) (WV.al ze29 rfl) ?_
        rintro _ H418 ⟨b417, rfl, hx419, hn420, hb421⟩
        have o422 := Nat.le_trans X403.bd hn420
        have o423 := Nat.le_trans X404.bd hn420
        have o424 := Nat.le_trans X405.bd hn420
        have o425 := Nat.le_trans X406.bd hn420
        have o426 := Nat.le_trans X407.bd hn420
        have o427 := Nat.le_trans X408.bd hn420
        have o428 := Nat.le_trans X414.bd hn420
        have o429 := Nat.le_trans q401 hn420
        have o430 := Nat.le_trans q402 hn420
        have ne431 : b3 ≠ b417 := by have := hb411.lt; omega
        have ne432 : b11 ≠ b417 := by have := hb412.lt; omega
        have ne433 : b216 ≠ b417 := by have := hb413.lt; omega
        have q434 := Nat.le_trans q401 hx419.bd
        have q435 := Nat.le_trans q402 hx419.bd
        have X436 := Ext.trans X403 hx419
        have X437 := Ext.trans X404 hx419
        have X438 := Ext.trans X405 hx419
        have X439 := Ext.trans X406 hx419
        have X440 := Ext.trans X407 hx419
        have X441 := Ext.trans X408 hx419
        have X442 := Ext.trans X414 hx419
        have ho443 := ho409.ext hx419
        have ho444 := ho410.ext hx419
        have hb445 := hb411.ext hx419
        have hb446 := hb412.ext hx419
        have hb447 := hb413.ext hx419
        have X448 := Ext.refl H418
        refine AL.w0 (.inl rfl) (WV.st rfl rfl va29 rfl hb421 (Nat.le_of_ble_eq_true rfl) (one_cons rfl (one_cons rfl (one_cons (sl_one1 (hr416.ext X442).isSl) one_nil)))) ?_
        rintro _ H449 ⟨hx450, hb451⟩
        have q452 := Nat.le_trans q434 hx450.bd
        have q453 := Nat.le_trans q435 hx450.bd
        have X454 := Ext.thru X436 hx450 (fun z_ hz_ => by rw [hz_]; exact o422)
        have X455 := Ext.thru X437 hx450 (fun z_ hz_ => by rw [hz_]; exact o423)
        have X456 := Ext.thru X438 hx450 (fun z_ hz_ => by rw [hz_]; exact o424)
        have X457 := Ext.thru X439 hx450 (fun z_ hz_ => by rw [hz_]; exact o425)
        have X458 := Ext.thru X440 hx450 (fun z_ hz_ => by rw [hz_]; exact o426)
        have X459 := Ext.thru X441 hx450 (fun z_ hz_ => by rw [hz_]; exact o427)
        have X460 := Ext.thru X442 hx450 (fun z_ hz_ => by rw [hz_]; exact o428)
        have q462 := Nat.le_trans X448.bd hx450.bd
        have ho463 := ho443.but hx450 (fun b hb _ e => by have hb' : H237.bd ≤ b ∧ b < H264.bd := hb; have e' : b = b417 := e; omega) (fun z_ hz_ => by rw [hz_]; exact hb421.w)
        have ho464 := ho444.but hx450 (fun b hb _ e => by have hb' : H23.bd ≤ b ∧ b < H204.bd := hb; have e' : b = b417 := e; omega) (fun z_ hz_ => by rw [hz_]; exact hb421.w)
        have hb465 := hb445.but hx450 ne431
        have hb466 := hb446.but hx450 ne432
        have hb467 := hb447.but hx450 ne433
        have hb468 : At W H449 b417 ⟨29, [.int .i64 p, .int .i64 ((partL l (kpS p o l o.length)).length : Int), u397], 3⟩ := hb451
        refine AL.nx ?_
        refine AW.seq ?_
        refine AW.draw' [0, 1, 0, 4, 0, 16, 48, 127, 0, 511] mixed (by rfl) ?_
        refine Dr.read 0 _ 77 _ rfl rfl rfl rfl rfl (RV.of (by intro _ _ h; cases h) (.inl rfl) (fun _ xd => HV.fa fl29_0 rfl)) ?_
        refine Dr.read 1 _ 78 _ rfl rfl rfl rfl rfl (RV.of (by intro _ _ h; cases h) (.inl rfl) (fun _ xd => HV.ld rfl va2 (rdc_ext xd (at_cell hb468 rfl)))) ?_
        refine Dr.read 2 _ 79 _ rfl rfl rfl rfl rfl (RV.of (by intro _ _ h; cases h) (.inl rfl) (fun _ xd => HV.fa fl29_1 rfl)) ?_
        refine Dr.read 3 _ 80 _ rfl rfl rfl rfl rfl (RV.of (by intro _ _ h; cases h) (.inl rfl) (fun _ xd => HV.ld rfl va2 (rdc_ext xd (at_cell_add (j := 1) hb468 rfl)))) ?_
        refine Dr.read 4 _ 81 _ rfl rfl rfl rfl rfl (RV.of (by intro _ _ h; cases h) (.inl rfl) (fun _ xd => HV.fa fl29_2 rfl)) ?_
        refine Dr.read 5 _ 82 _ rfl rfl rfl rfl rfl (RV.of (by intro _ _ h; cases h) (.inl rfl) (fun _ xd => HV.ld rfl va23 (rdc_ext xd (at_cell_add (j := 2) hb468 rfl)))) ?_
        have X472 := Ext.refl H449
        obtain ⟨v469, hr470, hP471⟩ := RdK.cutL (q := 1) (hr416.ext X460) sl23 (by decide) (by rw [htm]; omega)
        refine Dr.read 6 _ 83 _ rfl rfl rfl rfl rfl (RV.of (by intro _ _ h; cases h) (.inl rfl) (fun _ xd => hP471 rfl rfl)) ?_
        refine Dr.read 7 _ 84 _ rfl rfl rfl rfl rfl (RV.of (by intro _ _ h; cases h) (.inl rfl) (fun _ xd => HV.bd rfl (bd29_0_1_2 p ((partL l (kpS p o l o.length)).length : Int) hr470.isSl))) ?_
        refine Dr.eff 8 _ _ rfl (by intro d h; cases h; exact ⟨rfl, rfl⟩) rfl rfl rfl (EC.of (by intro _ _ h; cases h) (.inl rfl) (WV.al ze29 rfl)) (fun v H' h => .inl (h.choose_spec.2.1)) ?_
        rintro _ H474 ⟨b473, rfl, hx475, hn476, hb477⟩
        have o478 := Nat.le_trans X454.bd hn476
        have o479 := Nat.le_trans X455.bd hn476
        have o480 := Nat.le_trans X456.bd hn476
        have o481 := Nat.le_trans X457.bd hn476
        have o482 := Nat.le_trans X458.bd hn476
        have o483 := Nat.le_trans X459.bd hn476
        have o484 := Nat.le_trans X460.bd hn476
        have o485 := Nat.le_trans X472.bd hn476
        have o486 := Nat.le_trans q452 hn476
        have o487 := Nat.le_trans q453 hn476
        have o488 := Nat.le_trans q462 hn476
        have ne489 : b3 ≠ b473 := by have := hb465.lt; omega
        have ne490 : b11 ≠ b473 := by have := hb466.lt; omega
        have ne491 : b216 ≠ b473 := by have := hb467.lt; omega
        have ne492 : b417 ≠ b473 := by have := hb468.lt; omega
        have q493 := Nat.le_trans q452 hx475.bd
        have q494 := Nat.le_trans q453 hx475.bd
        have q495 := Nat.le_trans q462 hx475.bd
        have X496 := Ext.trans X454 hx475
        have X497 := Ext.trans X455 hx475
        have X498 := Ext.trans X456 hx475
        have X499 := Ext.trans X457 hx475
        have X500 := Ext.trans X458 hx475
        have X501 := Ext.trans X459 hx475
        have X502 := Ext.trans X460 hx475
        have X503 := Ext.trans X472 hx475
        have ho504 := ho463.ext hx475
        have ho505 := ho464.ext hx475
        have hb506 := hb465.ext hx475
        have hb507 := hb466.ext hx475
        have hb508 := hb467.ext hx475
        have hb509 := hb468.ext hx475
        have X510 := Ext.refl H474
        refine Dr.eff 9 _ _ rfl (by intro d h; cases h) rfl rfl rfl (EC.of (by intro _ _ h; cases h) (.inl rfl) (WV.st rfl rfl va29 rfl hb477 (Nat.le_of_ble_eq_true rfl) (one_cons rfl (one_cons rfl (one_cons (sl_one1 (hr470.ext X503).isSl) one_nil))))) (fun v H' h => .inr (.inl rfl)) ?_
        rintro _ H511 ⟨hx512, hb513⟩
        have q514 := Nat.le_trans q493 hx512.bd
        have q515 := Nat.le_trans q494 hx512.bd
        have q516 := Nat.le_trans q495 hx512.bd
        have X517 := Ext.thru X496 hx512 (fun z_ hz_ => by rw [hz_]; exact o478)
        have X518 := Ext.thru X497 hx512 (fun z_ hz_ => by rw [hz_]; exact o479)
        have X519 := Ext.thru X498 hx512 (fun z_ hz_ => by rw [hz_]; exact o480)
        have X520 := Ext.thru X499 hx512 (fun z_ hz_ => by rw [hz_]; exact o481)
        have X521 := Ext.thru X500 hx512 (fun z_ hz_ => by rw [hz_]; exact o482)
        have X522 := Ext.thru X501 hx512 (fun z_ hz_ => by rw [hz_]; exact o483)
        have X523 := Ext.thru X502 hx512 (fun z_ hz_ => by rw [hz_]; exact o484)
        have X524 := Ext.thru X503 hx512 (fun z_ hz_ => by rw [hz_]; exact o485)
        have q526 := Nat.le_trans X510.bd hx512.bd
        have ho527 := ho504.but hx512 (fun b hb _ e => by have hb' : H237.bd ≤ b ∧ b < H264.bd := hb; have e' : b = b473 := e; omega) (fun z_ hz_ => by rw [hz_]; exact hb477.w)
        have ho528 := ho505.but hx512 (fun b hb _ e => by have hb' : H23.bd ≤ b ∧ b < H204.bd := hb; have e' : b = b473 := e; omega) (fun z_ hz_ => by rw [hz_]; exact hb477.w)
        have hb529 := hb506.but hx512 ne489
        have hb530 := hb507.but hx512 ne490
        have hb531 := hb508.but hx512 ne491
        have hb532 := hb509.but hx512 ne492
        have hb533 : At W H511 b473 ⟨29, [.int .i64 p, .int .i64 ((partL l (kpS p o l o.length)).length : Int), v469], 3⟩ := hb513
        refine Dr.fin rfl ?_
        refine nrm_and ?_
        refine AW.rs ?_
        have X534 := Ext.refl H511
        have y535 := hb529.lt
        have y536 := hb530.lt
        have y537 := hb531.lt
        have y538 := hb532.lt
        have y539 := hb533.lt
        have o540 := X517.bd
        have o541 := X518.bd
        have o542 := X519.bd
        have o543 := X520.bd
        have o544 := X521.bd
        have o545 := X522.bd
        have o546 := X523.bd
        have o547 := X524.bd
        have o548 := X534.bd
        have a549 := ho527.ltb
        have a550 := ho528.ltb
        refine AL.w rfl (.inl rfl) (WV.bsK (K := kI) (l := ([0] : List Int)) (css := [[.int .i64 0]]) sl22 rfl rfl (by first | rfl | (simp [Instr.fill, Value.cells, kI, kB, kU, kU8, kS, Kd.sc]; done) | (simp [Instr.fill, Value.cells, kI, kB, kU, kU8, kS, Kd.sc, rng1, rng2, rng3, rng4, kP])) rfl (segs_cons rfl segs_nil)) ?_
        rintro v551 H552 ⟨hx553, ho554⟩
        have q555 := Nat.le_trans q514 hx553.bd
        have q556 := Nat.le_trans q515 hx553.bd
        have q557 := Nat.le_trans q516 hx553.bd
        have q558 := Nat.le_trans q526 hx553.bd
        have X559 := Ext.trans X517 hx553
        have X560 := Ext.trans X518 hx553
        have X561 := Ext.trans X519 hx553
        have X562 := Ext.trans X520 hx553
        have X563 := Ext.trans X521 hx553
        have X564 := Ext.trans X522 hx553
        have X565 := Ext.trans X523 hx553
        have X566 := Ext.trans X524 hx553
        have X567 := Ext.trans X534 hx553
        have ho568 := ho527.ext hx553
        have ho569 := ho528.ext hx553
        have hb570 := hb529.ext hx553
        have hb571 := hb530.ext hx553
        have hb572 := hb531.ext hx553
        have hb573 := hb532.ext hx553
        have hb574 := hb533.ext hx553
        refine AL.val rfl (.inl rfl) (HV.as rfl) ?_
        refine AL.nx ?_
        refine AW.seq ?_
        refine AW.rs ?_
        have X576 := Ext.refl H552
        have ho577 := ho554.okk (ok' := fun b => H511.bd ≤ b ∧ b < H552.bd) (fun b hb hlt => ⟨hb, hlt⟩)
        refine AL.val rfl (.inl rfl) (HV.lda (cs := [.int .i64 p, .int .i64 ((partL l (kpS p o l o.length)).length : Int), v469]) rfl va29 (at_cells hb574 rfl)) ?_
        have y578 : H552.bd ≤ H552.bd := X576.bd
        refine AL.w rfl (.inl rfl) (WV.call fn95 rfl (fresh_ok p ((partL l (kpS p o l o.length)).length : Int) (hr470.ext X566) (K := (kpS p o l o.length).length) hF.q (by rw [hkn]) hbr (by omega) (by omega) (by omega) (by omega))) ?_
        rintro v579 H580 ⟨hx581, ho582⟩
        have q584 := Nat.le_trans q555 hx581.bd
        have q585 := Nat.le_trans q556 hx581.bd
        have q586 := Nat.le_trans q557 hx581.bd
        have q587 := Nat.le_trans q558 hx581.bd
        have X588 := Ext.trans X559 hx581
        have X589 := Ext.trans X560 hx581
        have X590 := Ext.trans X561 hx581
        have X591 := Ext.trans X562 hx581
        have X592 := Ext.trans X563 hx581
        have X593 := Ext.trans X564 hx581
        have X594 := Ext.trans X565 hx581
        have X595 := Ext.trans X566 hx581
        have X596 := Ext.trans X567 hx581
        have X597 := Ext.trans X576 hx581
        have ho598 := ho568.ext hx581
        have ho599 := ho569.ext hx581
        have ho600 := ho577.ext hx581
        have hb601 := hb570.ext hx581
        have hb602 := hb571.ext hx581
        have hb603 := hb572.ext hx581
        have hb604 := hb573.ext hx581
        have hb605 := hb574.ext hx581
        have X606 := Ext.refl H580
        have hr583 : RdK kI W H580 _ v579 (freshL p ((tcM p k o l).drop (1 : Int).toNat) ((tcM p k o l).drop (1 : Int).toNat).length) := ho582.rd
        have y608 : H552.bd ≤ H580.bd := X597.bd
        have hr610 : RdK kI W H580 (fun b => H552.bd ≤ b ∧ b < H580.bd) v579 (freshL p ((tcM p k o l).drop (1 : Int).toNat) ((tcM p k o l).drop (1 : Int).toNat).length) := hr583.okk (fun b hb hlt => ⟨by have h1 : H552.bd ≤ b := hb; omega, hlt⟩)
        have ho607 := ho600.okk (ok' := fun b => (H511.bd ≤ b ∧ (b < H552.bd ∨ H580.bd ≤ b))) (fun b hb hlt => ⟨hb.1, .inl hb.2⟩)
        refine AL.val rfl (.inl rfl) (HV.len Try.underlying22 rfl hr610.isSl) ?_
        refine AL.val rfl (.inl rfl) (HV.mv rfl) ?_
        refine AL.nx ?_
        refine AW.block ?_
        refine AW.loop (σ := Nat × Value) (fun ⟨j, vj⟩ => [(2, .pointer (some ⟨b11, 0, none⟩)), (3, .int .i64 0), (9, .pointer (some ⟨b216, 0, none⟩)), (12, .pointer (some ⟨b417, 0, none⟩)), (87, v579), (88, .int .i64 ((freshL p ((tcM p k o l).drop (1 : Int).toNat) ((tcM p k o l).drop (1 : Int).toNat).length).length : Int)), (14, vj), (89, .int .i64 (j : Int))]) (fun ⟨j, vj⟩ H' => Ext H H' ∧ Ext H4 H' ∧ Ext H12 H' ∧ Ext H23 H' ∧ Ext H264 H' ∧ Ext H369 H' ∧ Ext H398 H' ∧ Ext H449 H' ∧ Ext H511 H' ∧ At W H' b3 ⟨31, [.int .i64 n, vo, .int .i64 p, .int .i64 k, v], 5⟩ ∧ At W H' b11 ⟨31, [.int .i64 0, (.slice none 0 0), .int .i64 0, .int .i64 0, (.slice none 0 0)], 5⟩ ∧ At W H' b216 ⟨31, [.int .i64 n, vo_, .int .i64 0, .int .i64 0, (.slice none 0 0)], 5⟩ ∧ At W H' b417 ⟨29, [.int .i64 p, .int .i64 ((partL l (kpS p o l o.length)).length : Int), u397], 3⟩ ∧ At W H' b473 ⟨29, [.int .i64 p, .int .i64 ((partL l (kpS p o l o.length)).length : Int), v469], 3⟩ ∧ H237.bd ≤ H'.bd ∧ H580.bd ≤ H'.bd ∧ H204.bd ≤ H'.bd ∧ RdK kI W H' (fun b => H552.bd ≤ b ∧ b < H580.bd) v579 (freshL p ((tcM p k o l).drop (1 : Int).toNat) ((tcM p k o l).drop (1 : Int).toNat).length) ∧ j ≤ (freshL p ((tcM p k o l).drop (1 : Int).toNat) ((tcM p k o l).drop (1 : Int).toNat).length).length ∧ OwnK kI 2 W H' (fun b => (H511.bd ≤ b ∧ (b < H552.bd ∨ H580.bd ≤ b))) vj ([0] ++ ((freshL p ((tcM p k o l).drop (1 : Int).toNat) ((tcM p k o l).drop (1 : Int).toNat).length).take j).map (fun q => q + 1)) ∧ OwnK kI 2 W H' (fun b => H237.bd ≤ b ∧ b < H264.bd) vo_ (tcO p o l) ∧ True) (fun ⟨j, vj⟩ => (freshL p ((tcM p k o l).drop (1 : Int).toNat) ((tcM p k o l).drop (1 : Int).toNat).length).length - j) (0, v551) ⟨X588, X589, X590, X591, X592, X593, X594, X595, X596, hb601, hb602, hb603, hb604, hb605, q584, X606.bd, q585, hr610, Nat.zero_le _, ho607, ho598, trivial⟩ ⟨rfl, rfl, rfl, rfl, rfl, rfl, rfl, rfl, trivial⟩ ?_
        rintro ⟨j, vj⟩ H611 ⟨X612, X613, X614, X615, X616, X617, X618, X619, X620, hb621, hb622, hb623, hb624, hb625, q626, q627, q628, ho629, hj, hoJ, hoO3, _⟩
        have hfl := fresh_len p ((tcM p k o l).drop (1 : Int).toNat) ((tcM p k o l).drop (1 : Int).toNat).length
        refine AW.rs ?_
        refine AL.val rfl (.inl rfl) (HV.lti rfl rfl) ?_
        refine AL.nx ?_
        refine AW.seq ?_
        refine AW.ifd rfl (fun c630 => ?_) (fun c630 => ?_)
        · -- then
          refine AW.skip ?_
          refine nrm_and ?_
          refine AW.seq ?_
          refine AW.block ?_
          refine AW.rs ?_
          have X638 := Ext.refl H611
          obtain ⟨p631, z632, cs633, hz634, hK635, hC636, hP637⟩ := RdK.ix (q := (j : Int)) ho629 sl22 (by omega) (by omega)
          obtain rfl : cs633 = [.int .i64 z632] := hK635
          refine AL.val rfl (.inl rfl) (hP637 rfl rfl) ?_
          refine AL.val rfl (.inl rfl) (HV.ld rfl va2 (cells_first hC636 rfl)) ?_
          refine AL.val rfl (.inl rfl) (HV.as rfl) ?_
          refine AL.nx ?_
          refine AW.reg ?_
          refine AL.val rfl (.inl rfl) (HV.mv rfl) ?_
          refine AL.val rfl (.inl rfl) (HV.mv rfl) ?_
          obtain ⟨i8, hi8, e8, _⟩ := (fresh_mem _).1 (List.mem_of_getElem? hz634)
          refine AL.val rfl (.inl rfl) (HV.add rfl rfl (by omega)) ?_
          have y639 := hb621.lt
          have y640 := hb622.lt
          have y641 := hb623.lt
          have y642 := hb624.lt
          have y643 := hb625.lt
          have o644 := X612.bd
          have o645 := X613.bd
          have o646 := X614.bd
          have o647 := X615.bd
          have o648 := X616.bd
          have o649 := X617.bd
          have o650 := X618.bd
          have o651 := X619.bd
          have o652 := X620.bd
          have o653 := X638.bd
          have a654 := hoJ.ltb
          have a655 := hoO3.ltb
          refine AL.w rfl (.inl rfl) (WV.bsK (K := kI) (l := ([z632 + 1] : List Int)) (css := [[.int .i64 (z632 + 1)]]) sl22 rfl rfl (by first | rfl | (simp [Instr.fill, Value.cells, kI, kB, kU, kU8, kS, Kd.sc]; done) | (simp [Instr.fill, Value.cells, kI, kB, kU, kU8, kS, Kd.sc, rng1, rng2, rng3, rng4, kP])) rfl (segs_cons rfl segs_nil)) ?_
          rintro v656 H657 ⟨hx658, ho659⟩
          have q660 := Nat.le_trans q626 hx658.bd
          have q661 := Nat.le_trans q627 hx658.bd
          have q662 := Nat.le_trans q628 hx658.bd
          have X663 := Ext.trans X612 hx658
          have X664 := Ext.trans X613 hx658
          have X665 := Ext.trans X614 hx658
          have X666 := Ext.trans X615 hx658
          have X667 := Ext.trans X616 hx658
          have X668 := Ext.trans X617 hx658
          have X669 := Ext.trans X618 hx658
          have X670 := Ext.trans X619 hx658
          have X671 := Ext.trans X620 hx658
          have X672 := Ext.trans X638 hx658
          have ho673 := hoJ.ext hx658
          have ho674 := hoO3.ext hx658
          have ho675 := ho629.ext hx658
          have hb676 := hb621.ext hx658
          have hb677 := hb622.ext hx658
          have hb678 := hb623.ext hx658
          have hb679 := hb624.ext hx658
          have hb680 := hb625.ext hx658
          have X682 := Ext.refl H657
          refine AL.w rfl (.inl rfl) (WV.apk sl22 rfl rfl ho673 ho659.rd (by simp only [List.length_append, List.length_map, List.length_take, List.length_singleton]; omega) (by simp only [List.length_append, List.length_map, List.length_take, List.length_singleton]; omega) (fun b hb _ e => Nat.lt_irrefl _ (Nat.lt_of_lt_of_le (a654 b e) hb))) ?_
          rintro v683 H684 ⟨hx685, ho686, hb687⟩
          have ho688 := ho686.narrow (ok' := fun b => (H511.bd ≤ b ∧ (b < H552.bd ∨ H580.bd ≤ b))) kI_flat (fun b q => (hb687 b q).elim (fun e => (ho673.blk b e).1) (fun e => by have e1 : H657.bd ≤ b := e; have e2 : H511.bd ≤ H657.bd := X671.bd; exact ⟨by omega, by omega⟩))
          have q689 := Nat.le_trans q660 hx685.bd
          have q690 := Nat.le_trans q661 hx685.bd
          have q691 := Nat.le_trans q662 hx685.bd
          have X692 := Ext.thru X663 hx685 (fun b hb => Nat.le_trans o540 (ho673.blk b hb).1.1)
          have X693 := Ext.thru X664 hx685 (fun b hb => Nat.le_trans o541 (ho673.blk b hb).1.1)
          have X694 := Ext.thru X665 hx685 (fun b hb => Nat.le_trans o542 (ho673.blk b hb).1.1)
          have X695 := Ext.thru X666 hx685 (fun b hb => Nat.le_trans o543 (ho673.blk b hb).1.1)
          have X696 := Ext.thru X667 hx685 (fun b hb => Nat.le_trans o544 (ho673.blk b hb).1.1)
          have X697 := Ext.thru X668 hx685 (fun b hb => Nat.le_trans o545 (ho673.blk b hb).1.1)
          have X698 := Ext.thru X669 hx685 (fun b hb => Nat.le_trans o546 (ho673.blk b hb).1.1)
          have X699 := Ext.thru X670 hx685 (fun b hb => Nat.le_trans o547 (ho673.blk b hb).1.1)
          have X700 := Ext.thru X671 hx685 (fun b hb => Nat.le_trans o548 (ho673.blk b hb).1.1)
          have q702 := Nat.le_trans X672.bd hx685.bd
          have q704 := Nat.le_trans X682.bd hx685.bd
          have ho705 := ho674.but hx685 (fun b hb _ e => by have h1 : H237.bd ≤ b ∧ b < H264.bd := hb; have h2 : (H511.bd ≤ b ∧ (b < H552.bd ∨ H580.bd ≤ b)) := (ho673.blk b e).1; omega) (fun b hb => (ho673.blk b hb).2.2)
          have ho706 := ho675.but hx685 (fun b hb _ e => by have h1 : H552.bd ≤ b ∧ b < H580.bd := hb; have h2 := (ho673.blk b e).1; omega) (fun b hb => (ho673.blk b hb).2.2)
          have hb708 := hb676.but hx685 (fun e => by have q : H511.bd ≤ _ := (ho673.blk _ e).1.1; omega)
          have hb709 := hb677.but hx685 (fun e => by have q : H511.bd ≤ _ := (ho673.blk _ e).1.1; omega)
          have hb710 := hb678.but hx685 (fun e => by have q : H511.bd ≤ _ := (ho673.blk _ e).1.1; omega)
          have hb711 := hb679.but hx685 (fun e => by have q : H511.bd ≤ _ := (ho673.blk _ e).1.1; omega)
          have hb712 := hb680.but hx685 (fun e => by have q : H511.bd ≤ _ := (ho673.blk _ e).1.1; omega)
          refine AL.val rfl (.inl rfl) (HV.as rfl) ?_
          refine AL.nil ?_
          refine nrm_blk (nrm_and ?_)
          refine AW.reg ?_
          refine AL.val rfl (.inl rfl) (HV.add rfl rfl (by omega)) ?_
          refine AL.val rfl (.inl rfl) (HV.mv rfl) ?_
          refine AL.nil ?_
          refine nrm_and ?_
          exact ⟨(j + 1, v683), ⟨X692, X693, X694, X695, X696, X697, X698, X699, X700, hb708, hb709, hb710, hb711, hb712, q689, q690, q691, ho706, by omega, by rw [tk_snoc hz634, List.map_append, List.map_cons, List.map_nil, ← List.append_assoc]; exact ho688, ho705, trivial⟩, by first | omega | (dsimp only; omega), ⟨rfl, rfl, rfl, rfl, rfl, rfl, rfl, rfl, trivial⟩⟩
        · -- else
          refine AW.exit ?_
          refine ex_and (ex_and (ex_blk ?_))
          refine nrm_and ?_
          refine AW.rs ?_
          have ho713 : OwnK kI 2 W H611 (fun b => (H511.bd ≤ b ∧ (b < H552.bd ∨ H580.bd ≤ b))) vj (tcJ p (tcM p k o l) ((tcM p k o l).drop 1).length) := by unfold tcJ; rw [show (freshL p ((tcM p k o l).drop 1) ((tcM p k o l).drop 1).length) = (freshL p ((tcM p k o l).drop 1) ((tcM p k o l).drop 1).length).take j by rw [List.take_of_length_le (by have q : (freshL p ((tcM p k o l).drop (1 : Int).toNat) ((tcM p k o l).drop (1 : Int).toNat).length).length ≤ j := (by omega); exact q)]]; exact hoJ
          refine AL.val rfl (.inl rfl) (HV.lda (cs := [.int .i64 p, .int .i64 ((partL l (kpS p o l o.length)).length : Int), u397]) rfl va29 (at_cells hb624 rfl)) ?_
          refine AL.val rfl (.inl rfl) (HV.mv rfl) ?_
          have X714 := Ext.refl H611
          have y715 := hb621.lt
          have y716 := hb622.lt
          have y717 := hb623.lt
          have y718 := hb624.lt
          have y719 := hb625.lt
          have o720 := X612.bd
          have o721 := X613.bd
          have o722 := X614.bd
          have o723 := X615.bd
          have o724 := X616.bd
          have o725 := X617.bd
          have o726 := X618.bd
          have o727 := X619.bd
          have o728 := X620.bd
          have o729 := X714.bd
          have a730 := ho713.ltb
          have a731 := hoO3.ltb
          refine AL.w rfl (.inl rfl) (WV.call fn94 rfl (rowsAt_ok p ((partL l (kpS p o l o.length)).length : Int) (hr416.ext X618) ho713.rd htr2 (by omega) (by omega) (fun q hq => by unfold tcJ at hq; rcases List.mem_append.1 hq with h1 | h1; (have : q = 0 := by simpa using h1); omega; obtain ⟨y, hy, rfl⟩ := List.mem_map.1 h1; obtain ⟨i, hi, rfl, _⟩ := (fresh_mem _).1 hy; rw [List.length_drop] at hi; omega) (by unfold tcJ; have := fresh_len p ((tcM p k o l).drop 1) ((tcM p k o l).drop 1).length; rw [List.length_append, List.length_map, List.length_singleton]; rw [List.length_drop] at this ⊢; omega))) ?_
          rintro _ H733 ⟨⟨u732, rfl, ho735⟩, hx734⟩
          have q737 := Nat.le_trans q626 hx734.bd
          have q738 := Nat.le_trans q627 hx734.bd
          have q739 := Nat.le_trans q628 hx734.bd
          have X740 := Ext.trans X612 hx734
          have X741 := Ext.trans X613 hx734
          have X742 := Ext.trans X614 hx734
          have X743 := Ext.trans X615 hx734
          have X744 := Ext.trans X616 hx734
          have X745 := Ext.trans X617 hx734
          have X746 := Ext.trans X618 hx734
          have X747 := Ext.trans X619 hx734
          have X748 := Ext.trans X620 hx734
          have X749 := Ext.trans X714 hx734
          have ho750 := ho713.ext hx734
          have ho751 := hoO3.ext hx734
          have ho752 := ho629.ext hx734
          have hb753 := hb621.ext hx734
          have hb754 := hb622.ext hx734
          have hb755 := hb623.ext hx734
          have hb756 := hb624.ext hx734
          have hb757 := hb625.ext hx734
          have X758 := Ext.refl H733
          have hr736 := rd_ofO ho735.rd
          rw [tcJ_part hF.q htr2 (by omega)] at hr736
          have hr759 : RdK (kR kI) W H733 _ u732 (tcK p k o l) := hr736
          have y760 := hb753.lt
          have y761 := hb754.lt
          have y762 := hb755.lt
          have y763 := hb756.lt
          have y764 := hb757.lt
          have o765 := X740.bd
          have o766 := X741.bd
          have o767 := X742.bd
          have o768 := X743.bd
          have o769 := X744.bd
          have o770 := X745.bd
          have o771 := X746.bd
          have o772 := X747.bd
          have o773 := X748.bd
          have o774 := X749.bd
          have o775 := X758.bd
          have a776 := ho750.ltb
          have a777 := ho751.ltb
          refine AL.w rfl (.inl rfl) (WV.call fn97 rfl (transp_ok p ((partL l (kpS p o l o.length)).length : Int) hr759 (K := (kpS p o l o.length).length) (by rw [hkn]) htK1 (by omega) (by have h1 : (tcK p k o l).length ≤ (tcM p k o l).length := htK2; omega))) ?_
          rintro _ H779 ⟨⟨u778, rfl, ho781⟩, hx780⟩
          have q782 := Nat.le_trans q737 hx780.bd
          have q783 := Nat.le_trans q738 hx780.bd
          have q784 := Nat.le_trans q739 hx780.bd
          have X785 := Ext.trans X740 hx780
          have X786 := Ext.trans X741 hx780
          have X787 := Ext.trans X742 hx780
          have X788 := Ext.trans X743 hx780
          have X789 := Ext.trans X744 hx780
          have X790 := Ext.trans X745 hx780
          have X791 := Ext.trans X746 hx780
          have X792 := Ext.trans X747 hx780
          have X793 := Ext.trans X748 hx780
          have X794 := Ext.trans X749 hx780
          have X795 := Ext.trans X758 hx780
          have ho796 := ho750.ext hx780
          have ho797 := ho751.ext hx780
          have ho798 := ho752.ext hx780
          have hb799 := hb753.ext hx780
          have hb800 := hb754.ext hx780
          have hb801 := hb755.ext hx780
          have hb802 := hb756.ext hx780
          have hb803 := hb757.ext hx780
          have X804 := Ext.refl H779
          refine AL.val rfl (.inl rfl) (HV.fa fl31_2 rfl) ?_
          refine AL.w0 (.inl rfl) (WV.st rfl rfl va29 rfl hb801 (Nat.le_of_ble_eq_true rfl) (one_cons rfl (one_cons rfl (one_cons (sl_one1 (rd_ofO ho781.rd).isSl) one_nil)))) ?_
          rintro _ H806 ⟨hx807, hb808⟩
          have q809 := Nat.le_trans q782 hx807.bd
          have q810 := Nat.le_trans q783 hx807.bd
          have q811 := Nat.le_trans q784 hx807.bd
          have X812 := Ext.thru X785 hx807 (fun z_ hz_ => by rw [hz_]; exact o221)
          have X813 := Ext.thru X786 hx807 (fun z_ hz_ => by rw [hz_]; exact o222)
          have X814 := Ext.thru X787 hx807 (fun z_ hz_ => by rw [hz_]; exact o223)
          have X815 := Ext.thru X788 hx807 (fun z_ hz_ => by rw [hz_]; exact o224)
          have q817 := Nat.le_trans X789.bd hx807.bd
          have q819 := Nat.le_trans X790.bd hx807.bd
          have q821 := Nat.le_trans X791.bd hx807.bd
          have q823 := Nat.le_trans X792.bd hx807.bd
          have q825 := Nat.le_trans X793.bd hx807.bd
          have q827 := Nat.le_trans X794.bd hx807.bd
          have q829 := Nat.le_trans X795.bd hx807.bd
          have q831 := Nat.le_trans X804.bd hx807.bd
          have ho832 := ho796.but hx807 (fun b hb _ e => by have hb' : (H511.bd ≤ b ∧ (b < H552.bd ∨ H580.bd ≤ b)) := hb; have e' : b = b216 := e; omega) (fun z_ hz_ => by rw [hz_]; exact hb801.w)
          have ho833 := ho797.but hx807 (fun b hb _ e => by have hb' : H237.bd ≤ b ∧ b < H264.bd := hb; have e' : b = b216 := e; omega) (fun z_ hz_ => by rw [hz_]; exact hb801.w)
          have ho834 := ho798.but hx807 (fun b hb _ e => by have h1 : H552.bd ≤ b ∧ b < H580.bd := hb; have h2 : b = b216 := e; omega) (fun z_ hz_ => by rw [hz_]; exact hb801.w)
          have ho835 := ho781.but hx807 (fun b hb _ e => by have hb' : H733.bd ≤ b := hb; have e' : b = b216 := e; omega) (fun z_ hz_ => by rw [hz_]; exact hb801.w)
          have hb836 := hb799.but hx807 ne226
          have hb837 := hb800.but hx807 ne227
          have hb838 := hb802.but hx807 (fun e => ne433 e.symm)
          have hb839 := hb803.but hx807 (fun e => ne491 e.symm)
          have hb840 : At W H806 b216 ⟨31, [.int .i64 n, vo_, .int .i64 p, .int .i64 ((tcK p k o l).length : Int), u778], 5⟩ := hb808
          refine AL.nx ?_
          refine AW.rs ?_
          refine AL.val rfl (.inl rfl) (HV.lda (cs := [.int .i64 n, vo_, .int .i64 p, .int .i64 ((tcK p k o l).length : Int), u778]) rfl va31 (at_cells hb840 rfl)) ?_
          refine AL.w0 (.inl rfl) (WV.st rfl rfl va31 rfl hb837 (Nat.le_of_ble_eq_true rfl) (one_cons rfl (one_cons (sl_one1 ho833.rd.isSl) (one_cons rfl (one_cons rfl (one_cons (sl_one1 (rd_ofO ho835.rd).isSl) one_nil)))))) ?_
          rintro _ H841 ⟨hx842, hb843⟩
          have q844 := Nat.le_trans q809 hx842.bd
          have q845 := Nat.le_trans q810 hx842.bd
          have q846 := Nat.le_trans q811 hx842.bd
          have q847 := Nat.le_trans q817 hx842.bd
          have q848 := Nat.le_trans q819 hx842.bd
          have q849 := Nat.le_trans q821 hx842.bd
          have q850 := Nat.le_trans q823 hx842.bd
          have q851 := Nat.le_trans q825 hx842.bd
          have q852 := Nat.le_trans q827 hx842.bd
          have q853 := Nat.le_trans q829 hx842.bd
          have q854 := Nat.le_trans q831 hx842.bd
          have X855 := Ext.thru X812 hx842 (fun z_ hz_ => by rw [hz_]; exact o16)
          have X856 := Ext.thru X813 hx842 (fun z_ hz_ => by rw [hz_]; exact o17)
          have q858 := Nat.le_trans X814.bd hx842.bd
          have q860 := Nat.le_trans X815.bd hx842.bd
          have ho861 := ho832.but hx842 (fun b hb _ e => by have hb' : (H511.bd ≤ b ∧ (b < H552.bd ∨ H580.bd ≤ b)) := hb; have e' : b = b11 := e; omega) (fun z_ hz_ => by rw [hz_]; exact hb837.w)
          have ho862 := ho833.but hx842 (fun b hb _ e => by have hb' : H237.bd ≤ b ∧ b < H264.bd := hb; have e' : b = b11 := e; omega) (fun z_ hz_ => by rw [hz_]; exact hb837.w)
          have ho863 := ho834.but hx842 (fun b hb _ e => by have h1 : H552.bd ≤ b ∧ b < H580.bd := hb; have h2 : b = b11 := e; omega) (fun z_ hz_ => by rw [hz_]; exact hb837.w)
          have ho864 := ho835.but hx842 (fun b hb _ e => by have hb' : H733.bd ≤ b := hb; have e' : b = b11 := e; omega) (fun z_ hz_ => by rw [hz_]; exact hb837.w)
          have hb865 := hb836.but hx842 ne18
          have hb866 := hb840.but hx842 (fun e => ne227 e.symm)
          have hb867 := hb838.but hx842 (fun e => ne432 e.symm)
          have hb868 := hb839.but hx842 (fun e => ne490 e.symm)
          have hb869 : At W H841 b11 ⟨31, [.int .i64 n, vo_, .int .i64 p, .int .i64 ((tcK p k o l).length : Int), u778], 5⟩ := hb843
          refine AL.val rfl (.inl rfl) (HV.as rfl) ?_
          refine AL.nx ?_
          refine AW.ret ?_
          refine post_ct rfl rfl rfl va31 hb869 ?_ (.inr rfl)
          have hC := trC_0 hok; exact ⟨⟨_, _, H264.bd, by rw [zI_yes hC, zI_yes hC, zI_yes hC, hC] <;> rfl, by rw [zL_yes hC]; exact ho862.okk (fun b hb _ => ⟨Nat.le_trans o255 hb.1, hb.2⟩), by rw [zL_yes hC]; exact ho864.okk (fun b hb _ => by have h1 : H733.bd ≤ b := hb; have h2 := o765; exact ⟨by omega, by omega⟩)⟩, X855⟩
end Go.Proofs.Yticobjbjejpomaa.VC
