/- Walks. -/
import Derived.Test.YtbjcgcililpfdaaVF6
set_option linter.unusedVariables false
set_option linter.unusedSimpArgs false
namespace Go.Proofs.Ytbjcgcililpfdaa.VC
open Go Go.RowKit
variable {W : World} {H : Hp}

/-! ### Holders that may be exchanged -/
theorem lexI_neg : ∀ l m : List Int, lexI m l = - lexI l m
  | [], [] => rfl
  | [], _ :: _ => rfl
  | _ :: _, [] => rfl
  | a :: l, b :: m => by
    simp only [lexI]
    rcases Int.lt_trichotomy a b with h | h | h
    · rw [if_neg (by omega), if_pos h, if_pos h]; rfl
    · subst h
      simp only [Int.lt_irrefl, gt_iff_lt, if_false]
      exact lexI_neg l m
    · rw [if_pos h, if_neg (by omega), if_pos h]
theorem lexI_self : ∀ l : List Int, lexI l l = 0
  | [] => rfl
  | a :: l => by simp [lexI, lexI_self l]
theorem lexI_eq : ∀ {l m : List Int}, lexI l m = 0 → l = m
  | [], [], _ => rfl
  | [], _ :: _, h => by simp [lexI] at h
  | _ :: _, [], h => by simp [lexI] at h
  | a :: l, b :: m, h => by
    simp only [lexI] at h
    rcases Int.lt_trichotomy a b with g | g | g
    · rw [if_pos g] at h; omega
    · subst g
      simp only [Int.lt_irrefl, gt_iff_lt, if_false] at h
      rw [lexI_eq h]
    · rw [if_neg (by omega), if_pos g] at h; omega
theorem lexI_trans : ∀ {x y z : List Int}, lexI x y < 0 → lexI y z < 0 → lexI x z < 0
  | [], [], _, h, _ => by simp [lexI] at h
  | [], b :: y, [], _, h => by simp [lexI] at h
  | [], _ :: _, _ :: _, _, _ => by simp [lexI]
  | _ :: _, [], _, h, _ => by simp [lexI] at h
  | _ :: _, _ :: _, [], _, h => by simp [lexI] at h
  | a :: x, b :: y, c :: z, h, k => by
    simp only [lexI] at h k ⊢
    rcases Int.lt_trichotomy a b with g | g | g
    · rcases Int.lt_trichotomy b c with f | f | f
      · rw [if_pos (by omega)]; omega
      · rw [if_pos (by omega)]; omega
      · rw [if_neg (by omega), if_pos f] at k; omega
    · subst g
      simp only [Int.lt_irrefl, gt_iff_lt, if_false] at h
      rcases Int.lt_trichotomy a c with f | f | f
      · rw [if_pos f]; omega
      · subst f
        simp only [Int.lt_irrefl, gt_iff_lt, if_false] at k ⊢
        exact lexI_trans h k
      · rw [if_neg (by omega), if_pos f] at k; omega
    · rw [if_neg (by omega), if_pos g] at h; omega
theorem lexI_le {x y z : List Int} (h : ¬ lexI y x < 0) (k : ¬ lexI z y < 0) : ¬ lexI z x < 0 := fun e => by
  rcases Int.lt_trichotomy (lexI x y) 0 with g | g | g
  · exact k (lexI_trans e g)
  · rw [← lexI_eq g] at k; exact k e
  · have := lexI_neg x y; omega
theorem sorted_ext {α : Type} {R : α → α → Prop} (asym : ∀ x y, R x y → ¬ R y x) : ∀ {l m : List α}, l.Pairwise R → m.Pairwise R → (∀ x, x ∈ l ↔ x ∈ m) → l = m
  | [], [], _, _, _ => rfl
  | [], b :: m, _, _, h => absurd ((h b).2 List.mem_cons_self) (by simp)
  | a :: l, [], _, _, h => absurd ((h a).1 List.mem_cons_self) (by simp)
  | a :: l, b :: m, hl, hm, h => by
    rw [List.pairwise_cons] at hl hm
    have e : a = b := by
      rcases List.mem_cons.1 ((h a).1 List.mem_cons_self) with e | ha
      · exact e
      · rcases List.mem_cons.1 ((h b).2 List.mem_cons_self) with e | hb
        · exact e.symm
        · exact absurd (hl.1 b hb) (asym _ _ (hm.1 a ha))
    subst e
    rw [sorted_ext asym hl.2 hm.2 (fun x => ?_)]
    constructor
    · intro hx
      rcases List.mem_cons.1 ((h x).1 (List.mem_cons_of_mem _ hx)) with e | hx'
      · subst e; exact absurd (hl.1 _ hx) (asym _ _ (hl.1 _ hx))
      · exact hx'
    · intro hx
      rcases List.mem_cons.1 ((h x).2 (List.mem_cons_of_mem _ hx)) with e | hx'
      · subst e; exact absurd (hm.1 _ hx) (asym _ _ (hm.1 _ hx))
      · exact hx'
def sw (a b x : Nat) : Nat := if x = a then b else if x = b then a else x
theorem sw_sw (a b x : Nat) : sw a b (sw a b x) = x := by
  unfold sw
  by_cases h1 : x = a
  · subst h1
    simp only [if_true]
    by_cases h2 : b = x
    · simp [h2]
    · simp [h2]
  · by_cases h2 : x = b
    · subst h2; simp [h1]
    · simp [h1, h2]
theorem sw_lt {a b x n : Nat} (ha : a < n) (hb : b < n) : sw a b x < n ↔ x < n := by
  unfold sw
  split
  · omega
  · split <;> omega
def swL (n a b : Nat) : List Int := (List.range n).map (fun x => (sw a b x : Int))
def renG (r g : List Int) : List Int := ((List.range r.length).filter (fun h => decide (r.getD h 0 ∈ g))).map Int.ofNat
def Srt (l m : List (List Int)) : Prop := m.Perm l ∧ m.Pairwise (fun x y => ¬ lexI y x < 0)
theorem ris_ext {n : Int} {x y : List Int} (hx : Ris 0 (n - 1) x) (hy : Ris 0 (n - 1) y) (h : ∀ t : Nat, (t : Int) ∈ x ↔ (t : Int) ∈ y) : x = y := by
  have pw : ∀ {z : List Int}, Ris 0 (n - 1) z → z.Pairwise (· < ·) := fun {z} hz => by
    refine List.pairwise_iff_getElem.2 fun i j hi hj hij => ?_
    have key : ∀ d, i + 1 + d < z.length → z.getD i 0 < z.getD (i + 1 + d) 0 := by
      intro d
      induction d with
      | zero => intro hd; have q := (hz (i + 1) hd).2.2 (by omega); simpa using q
      | succ d ih =>
        intro hd
        have q := (hz (i + 1 + (d + 1)) hd).2.2 (by omega)
        have q2 := ih (by omega)
        rw [show i + 1 + (d + 1) - 1 = i + 1 + d by omega] at q
        omega
    obtain ⟨d, rfl⟩ : ∃ d, j = i + 1 + d := ⟨j - i - 1, by omega⟩
    have := key d hj
    simpa [hi, hj] using this
  refine sorted_ext (R := (· < ·)) (fun x y h k => by omega) (pw hx) (pw hy) (fun z => ?_)
  constructor
  · intro hz
    have := ris_in hx z hz
    obtain ⟨t, rfl⟩ : ∃ t : Nat, z = t := ⟨z.toNat, by omega⟩
    exact (h t).1 hz
  · intro hz
    have := ris_in hy z hz
    obtain ⟨t, rfl⟩ : ∃ t : Nat, z = t := ⟨z.toNat, by omega⟩
    exact (h t).2 hz
theorem ren_mem {r g : List Int} {t : Nat} : (t : Int) ∈ renG r g ↔ t < r.length ∧ r.getD t 0 ∈ g := by
  unfold renG
  simp only [List.mem_map, List.mem_filter, List.mem_range, decide_eq_true_eq]
  constructor
  · rintro ⟨h, ⟨h1, h2⟩, h3⟩
    have : h = t := by have : (h : Int) = t := h3; omega
    subst this
    exact ⟨h1, h2⟩
  · rintro ⟨h1, h2⟩
    exact ⟨t, ⟨h1, h2⟩, rfl⟩
theorem ren_ris {n : Int} {r g : List Int} (hr : (r.length : Int) = n) : Ris 0 (n - 1) (renG r g) := by
  have pw : (renG r g).Pairwise (· < ·) := by
    unfold renG
    refine List.Pairwise.map _ (fun a b (h : a < b) => ?_) (List.Pairwise.filter _ List.pairwise_lt_range)
    show (a : Int) < b
    omega
  intro j hj
  have hm : (renG r g)[j] ∈ renG r g := List.getElem_mem hj
  have e : (renG r g).getD j 0 = (renG r g)[j] := by simp [hj]
  have hm2 := hm
  unfold renG at hm2
  simp only [List.mem_map, List.mem_filter, List.mem_range] at hm2
  obtain ⟨t, ⟨h1, _⟩, h3⟩ := hm2
  have h4 : (t : Int) = (renG r g)[j] := h3
  refine ⟨by rw [e]; omega, by rw [e]; omega, fun h0 => ?_⟩
  have := List.pairwise_iff_getElem.1 pw (j - 1) j (by omega) hj (by omega)
  rw [e]
  simpa [show j - 1 < (renG r g).length by omega] using this
theorem swL_len (n a b : Nat) : (swL n a b).length = n := by simp [swL]
theorem swL_at {n a b t : Nat} (h : t < n) : (swL n a b).getD t 0 = (sw a b t : Int) := by simp [swL, h]
theorem ren_sw {n a b : Nat} {g : List Int} {t : Nat} : (t : Int) ∈ renG (swL n a b) g ↔ t < n ∧ (sw a b t : Int) ∈ g := by
  rw [ren_mem, swL_len]
  constructor
  · rintro ⟨h1, h2⟩; rw [swL_at h1] at h2; exact ⟨h1, h2⟩
  · rintro ⟨h1, h2⟩; rw [← swL_at h1] at h2; exact ⟨h1, h2⟩
def exchN (s a b : Nat) : Nat := if s.testBit a = s.testBit b then s else s ^^^ (2 ^ a ||| 2 ^ b)
theorem exch_bit {s a b : Nat} (hab : a ≠ b) (t : Nat) : (exchN s a b).testBit t = s.testBit (sw a b t) := by
  unfold exchN sw
  by_cases h : s.testBit a = s.testBit b
  · rw [if_pos h]
    split
    · rename_i e; subst e; exact h
    · split
      · rename_i e; subst e; exact h.symm
      · rfl
  · rw [if_neg h, Nat.testBit_xor, Nat.testBit_or, Nat.testBit_two_pow, Nat.testBit_two_pow]
    have hx : s.testBit b = !s.testBit a := by
      cases h1 : s.testBit a <;> cases h2 : s.testBit b <;> simp_all
    by_cases e1 : t = a
    · subst e1
      rw [if_pos rfl, hx]; simp
    · by_cases e2 : t = b
      · subst e2
        rw [if_neg e1, if_pos rfl, hx]; simp
      · rw [if_neg e1, if_neg e2]
        simp [Ne.symm e1, Ne.symm e2]
theorem exch_exch {s a b : Nat} (hab : a ≠ b) : exchN (exchN s a b) a b = s := Nat.eq_of_testBit_eq fun t => by
  rw [exch_bit hab, exch_bit hab, sw_sw]
theorem exch_lt {s a b n : Nat} (hs : s < 2 ^ n) (ha : a < n) (hb : b < n) : exchN s a b < 2 ^ n := by
  unfold exchN
  split
  · exact hs
  · exact Nat.xor_lt_two_pow hs (Nat.or_lt_two_pow (Nat.pow_lt_pow_right (by decide) ha) (Nat.pow_lt_pow_right (by decide) hb))
theorem mem_bit {n : Int} {g : List Int} (h : Ris 0 (n - 1) g) {t : Nat} : (bitN g).testBit t = true ↔ (t : Int) ∈ g := by
  rw [bitN_bit]
  constructor
  · rintro ⟨i, hi, e⟩
    have h0 := (h i hi).1
    have e2 : g.getD i 0 = g[i] := by simp [hi]
    rw [e2] at e h0
    have : (t : Int) = g[i] := by omega
    rw [this]; exact List.getElem_mem hi
  · intro hm
    obtain ⟨i, hi, e⟩ := List.getElem_of_mem hm
    exact ⟨i, hi, by simp [hi, e]⟩
def Sub (x : List Int) (s : Nat) : Prop := ∀ t : Nat, (t : Int) ∈ x → s.testBit t = true
theorem opC_sub {n : Int} {l : List (List Int)} {s : Nat} (h : okC n l) (hs : s < 2 ^ n.toNat) : opC s l ↔ ∃ x ∈ l, Sub x s := by
  have hx : ∀ x ∈ l, Ris 0 (n - 1) x := fun x hx => by
    obtain ⟨i, hi, rfl⟩ := List.getElem_of_mem hx
    have := (h.2 i hi).1.1
    simpa [hi] using this
  have p7 := pow7 h.1
  have key : ∀ x ∈ l, (bt .and .u64 (s : Int) (crowd x) = crowd x ↔ Sub x s) := fun x hm => by
    obtain ⟨_, c1, c3⟩ := bits_nat h.1 (hx x hm)
    rw [c1, (bt_nat .u64 (.inr rfl) (by omega) (by omega)).2]
    constructor
    · intro e t ht
      have e' : s &&& bitN x = bitN x := by omega
      have := congrArg (fun q => q.testBit t) e'
      simp only [Nat.testBit_and, (mem_bit (hx x hm)).2 ht, Bool.and_true] at this
      exact this
    · intro e
      have e' : s &&& bitN x = bitN x := Nat.eq_of_testBit_eq fun t => by
        rw [Nat.testBit_and]
        cases hb : (bitN x).testBit t
        · simp
        · rw [e t ((mem_bit (hx x hm)).1 hb)]; rfl
      rw [e']
  constructor
  · rintro ⟨x, hm, e⟩; exact ⟨x, hm, (key x hm).1 e⟩
  · rintro ⟨x, hm, e⟩; exact ⟨x, hm, (key x hm).2 e⟩
def alikeC (n : Int) (l : List (List Int)) (a b : Nat) : Prop := ∀ s : Nat, s < 2 ^ n.toNat → (opC (s : Int) l ↔ opC (exchN s a b : Nat) l)
theorem ok_ris {n : Int} {l : List (List Int)} (h : okC n l) : ∀ x ∈ l, Ris 0 (n - 1) x := fun x hx => by
  obtain ⟨i, hi, rfl⟩ := List.getElem_of_mem hx
  have := (h.2 i hi).1.1
  simpa [hi] using this
theorem ok_anti {n : Int} {l : List (List Int)} (h : okC n l) {x y : List Int} (hx : x ∈ l) (hy : y ∈ l) (hs : ∀ t : Nat, (t : Int) ∈ x → (t : Int) ∈ y) : x = y := by
  obtain ⟨i, hi, rfl⟩ := List.getElem_of_mem hx
  obtain ⟨j, hj, rfl⟩ := List.getElem_of_mem hy
  by_cases e : i = j
  · subst e; rfl
  · exfalso
    have rx := ok_ris h l[i] hx
    have ry := ok_ris h l[j] hy
    have hI := ((ok_iff n l).2 h).2.2 i hi j hj e
    apply hI
    rw [show l.getD i [] = l[i] by simp [hi], show l.getD j [] = l[j] by simp [hj]]
    rw [inI_iff h.1 rx ry]
    refine Nat.eq_of_testBit_eq fun t => ?_
    rw [Nat.testBit_and]
    cases hb : (bitN l[i]).testBit t
    · rfl
    · rw [(mem_bit ry).2 (hs t ((mem_bit rx).1 hb))]; rfl
theorem ok_strict {n : Int} {l : List (List Int)} (h : okC n l) : l.Pairwise (fun x y => lexI x y < 0) := by
  refine List.pairwise_iff_getElem.2 fun i j hi hj hij => ?_
  have key : ∀ d, i + 1 + d < l.length → lexI (l.getD i []) (l.getD (i + 1 + d) []) < 0 := by
    intro d
    induction d with
    | zero => intro hd; have q := (h.2 (i + 1) hd).1.2 (by omega); simpa using q
    | succ d ih =>
      intro hd
      have q := (h.2 (i + 1 + (d + 1)) hd).1.2 (by omega)
      rw [show i + 1 + (d + 1) - 1 = i + 1 + d by omega] at q
      exact lexI_trans (ih (by omega)) q
  obtain ⟨d, rfl⟩ : ∃ d, j = i + 1 + d := ⟨j - i - 1, by omega⟩
  have := key d hj
  simpa [hi, hj] using this
/-- The exchanged family is the family just where the holders are alike. -/
theorem alike_iff {n : Int} {l m : List (List Int)} {a b : Nat} (h : okC n l) (ha : a < n.toNat) (hb : b < n.toNat) (hab : a ≠ b) (hm : Srt (l.map (renG (swL n.toNat a b))) m) : l = m ↔ alikeC n l a b := by
  have hrr : ∀ g ∈ l, ∀ t : Nat, (t : Int) ∈ renG (swL n.toNat a b) (renG (swL n.toNat a b) g) ↔ (t : Int) ∈ g := fun g hg t => by
    rw [ren_sw, ren_sw, sw_sw, sw_lt ha hb]
    constructor
    · exact fun h => h.2.2
    · intro ht
      have := ris_in (ok_ris h g hg) t ht
      exact ⟨by omega, by omega, ht⟩
  have hR : ∀ g : List Int, Ris 0 (n - 1) (renG (swL n.toNat a b) g) := fun g => ren_ris (by rw [swL_len]; have := h.1; omega)
  have hmm : ∀ x, x ∈ m ↔ ∃ g ∈ l, renG (swL n.toNat a b) g = x := fun x => by rw [hm.1.mem_iff, List.mem_map]
  have hsub : ∀ {g : List Int}, g ∈ l → ∀ {s : Nat}, s < 2 ^ n.toNat → (Sub (renG (swL n.toNat a b) g) s ↔ Sub g (exchN s a b)) := fun {g} hg {s} hs => by
    constructor
    · intro k t ht
      rw [exch_bit hab]
      have := ris_in (ok_ris h g hg) t ht
      exact k (sw a b t) (ren_sw.2 ⟨(sw_lt ha hb).2 (by omega), by rw [sw_sw]; exact ht⟩)
    · intro k t ht
      have := k (sw a b t) (ren_sw.1 ht).2
      rw [exch_bit hab, sw_sw] at this
      exact this
  constructor
  · intro e s hs
    have hin : ∀ g ∈ l, renG (swL n.toNat a b) g ∈ l := fun g hg => by
      have := (hmm _).2 ⟨g, hg, rfl⟩
      rwa [← e] at this
    have dir : ∀ s : Nat, s < 2 ^ n.toNat → opC (s : Int) l → opC (exchN s a b : Nat) l := fun s hs ho => by
      have hs' := exch_lt hs ha hb
      rw [opC_sub h hs] at ho
      rw [opC_sub h hs']
      obtain ⟨g, hg, hgs⟩ := ho
      refine ⟨_, hin g hg, ?_⟩
      rw [hsub hg hs', exch_exch hab]
      exact hgs
    refine ⟨dir s hs, fun ho => ?_⟩
    have := dir _ (exch_lt hs ha hb) ho
    rwa [exch_exch hab] at this
  · intro al
    have hin : ∀ g ∈ l, renG (swL n.toNat a b) g ∈ l := fun g hg => by
      have rg := ok_ris h g hg
      have lg : bitN g < 2 ^ n.toNat := (bits_nat h.1 rg).2.2
      have o1 : opC (bitN g) l := (opC_sub h lg).2 ⟨g, hg, fun t ht => (mem_bit rg).2 ht⟩
      have o2 := (al _ lg).1 o1
      rw [opC_sub h (exch_lt lg ha hb)] at o2
      obtain ⟨g2, hg2, s2⟩ := o2
      have rg2 := ok_ris h g2 hg2
      have s2' : ∀ t : Nat, (t : Int) ∈ g2 → (t : Int) ∈ renG (swL n.toNat a b) g := fun t ht => by
        have q := s2 t ht
        rw [exch_bit hab] at q
        have := ris_in rg2 t ht
        exact ren_sw.2 ⟨by omega, (mem_bit rg).1 q⟩
      have lg2 : bitN g2 < 2 ^ n.toNat := (bits_nat h.1 rg2).2.2
      have o3 : opC (bitN g2) l := (opC_sub h lg2).2 ⟨g2, hg2, fun t ht => (mem_bit rg2).2 ht⟩
      have o4 := (al _ lg2).1 o3
      rw [opC_sub h (exch_lt lg2 ha hb)] at o4
      obtain ⟨g3, hg3, s3⟩ := o4
      have s3' : ∀ t : Nat, (t : Int) ∈ g3 → (t : Int) ∈ renG (swL n.toNat a b) g2 := fun t ht => by
        have q := s3 t ht
        rw [exch_bit hab] at q
        have := ris_in (ok_ris h g3 hg3) t ht
        exact ren_sw.2 ⟨by omega, (mem_bit rg2).1 q⟩
      have e3 : g3 = g := ok_anti h hg3 hg fun t ht => by
        have q := ren_sw.1 (s3' t ht)
        have q2 := ren_sw.1 (s2' _ q.2)
        rw [sw_sw] at q2
        exact q2.2
      subst e3
      have e2 : g2 = renG (swL n.toNat a b) g3 := by
        refine ris_ext rg2 (hR _) fun t => ⟨s2' t, fun ht => ?_⟩
        have q := ren_sw.1 ht
        have q2 := ren_sw.1 (s3' _ q.2)
        rw [sw_sw] at q2
        exact q2.2
      rw [← e2]; exact hg2
    have hmem : ∀ x, x ∈ l ↔ x ∈ m := fun x => by
      rw [hmm]
      constructor
      · intro hx
        exact ⟨_, hin x hx, ris_ext (hR _) (ok_ris h x hx) (hrr x hx)⟩
      · rintro ⟨g, hg, rfl⟩; exact hin g hg
    have nd : m.Nodup := by
      refine hm.1.symm.nodup ?_
      refine List.Pairwise.map _ ?_ (List.Pairwise.and_mem.1 (ok_strict h))
      rintro x y ⟨hx, hy, hxy⟩ e
      have : x = y := by
        refine ris_ext (ok_ris h x hx) (ok_ris h y hy) fun t => ?_
        rw [← hrr x hx, ← hrr y hy, e]
      subst this
      rw [lexI_self] at hxy; omega
    have st : m.Pairwise (fun x y => lexI x y < 0) := by
      refine (hm.2.and nd).imp fun {x y} ⟨h1, h2⟩ => ?_
      rcases Int.lt_trichotomy (lexI x y) 0 with g | g | g
      · exact g
      · exact absurd (lexI_eq g) h2
      · have := lexI_neg x y; omega
    exact sorted_ext (fun x y h k => by have := lexI_neg x y; omega) (ok_strict h) st hmem
/-! ### Rows of rows: an element that is moved -/
theorem OwnK.els {β : Type} {K : Kd β} {e j g : Nat} {ok : Nat → Prop} {v u : Value} {l : List (List β)} {z : List β} (h : OwnK (kR K) e W H ok v l) (hz : l[j]? = some z) (hg : some g = v.ownBlock) (hC : Cells W H ⟨g, j * (kR K).sz, none⟩ [u]) : RdK K W H (fun b => ok b ∧ some b ≠ v.ownBlock) u z := by
  obtain ⟨css, hs, hl, ho, hat⟩ := h
  have hj := (List.getElem?_eq_some_iff.1 hz).1
  have hj' : j < css.length := by rw [hs.1]; exact hj
  have hf := (hs.flat (fun _ _ _ h => (kR K).len h)).1
  rcases hat with ⟨rfl, h0⟩ | ⟨g', c, rfl, hg', hA, hc, hm⟩
  · omega
  · simp only [Value.ownBlock, Option.some.injEq] at hg
    subst hg
    obtain ⟨u', hu, hr⟩ := hs.2 _ _ _ hz (List.getElem?_eq_getElem hj')
    have h1 : css[j]?.bind (·[0]?) = some u' := by rw [List.getElem?_eq_getElem hj', Option.bind_some, hu]; rfl
    have h2 := hA.rd (flat_get hf (List.getElem?_eq_getElem hj') (show css[j][0]? = some u' by rw [hu]; rfl))
    have h3 := hC.one
    simp only [Nat.add_zero] at h2
    rw [h2] at h3
    cases h3
    exact hr
/-! ### Sorting by insertion -/
def SrtTo (k : List (List Int)) (i : Nat) : Prop := ∀ x y, x < y → y < i → ¬ lexI (k.getD y []) (k.getD x []) < 0
def InsA (k : List (List Int)) (i p : Nat) : Prop := (∀ x y, x < y → y ≤ i → x ≠ p → y ≠ p → ¬ lexI (k.getD y []) (k.getD x []) < 0) ∧ ∀ y, p < y → y ≤ i → ¬ lexI (k.getD y []) (k.getD p []) < 0
theorem ins_init {k : List (List Int)} {i : Nat} (h : SrtTo k i) : InsA k i i := ⟨fun x y h1 h2 _ h3 => h x y h1 (by omega), fun y h1 h2 => by omega⟩
theorem lset_at {k : List (List Int)} {i j : Nat} {x : List Int} (hi : i < k.length) : (k.set i x).getD j [] = if j = i then x else k.getD j [] := by
  by_cases e : j = i
  · subst e; simp [hi]
  · rw [if_neg e]
    simp only [List.getD_eq_getElem?_getD]
    rw [List.getElem?_set_ne (fun h => e h.symm)]
theorem ins_step {k : List (List Int)} {i p : Nat} (h : InsA k i p) (hp : 0 < p) (hpi : p ≤ i) (hi : i < k.length) (hc : lexI (k.getD p []) (k.getD (p - 1) []) < 0) : InsA ((k.set p (k.getD (p - 1) [])).set (p - 1) (k.getD p [])) i (p - 1) := by
  have at_ : ∀ j, ((k.set p (k.getD (p - 1) [])).set (p - 1) (k.getD p [])).getD j [] = if j = p - 1 then k.getD p [] else if j = p then k.getD (p - 1) [] else k.getD j [] := fun j => by
    rw [lset_at (by rw [List.length_set]; omega), lset_at (by omega)]
  constructor
  · intro x y hxy hy hx' hy'
    rw [at_, at_, if_neg hx', if_neg hy']
    by_cases ex : x = p
    · subst ex
      rw [if_pos rfl, if_neg (by omega)]
      exact h.1 (x - 1) y (by omega) hy (by omega) (by omega)
    · rw [if_neg ex]
      by_cases ey : y = p
      · subst ey
        rw [if_pos rfl]
        exact h.1 x (y - 1) (by omega) (by omega) ex (by omega)
      · rw [if_neg ey]
        exact h.1 x y hxy hy ex ey
  · intro y hy hyi
    rw [at_, at_, if_pos rfl, if_neg (by omega)]
    by_cases ey : y = p
    · subst ey
      rw [if_pos rfl]
      have := lexI_neg (k.getD y []) (k.getD (y - 1) [])
      omega
    · rw [if_neg ey]
      exact h.2 y (by omega) hyi
theorem ins_exit {k : List (List Int)} {i p : Nat} (h : InsA k i p) (hpi : p ≤ i) (hc : p = 0 ∨ ¬ lexI (k.getD p []) (k.getD (p - 1) []) < 0) : SrtTo k (i + 1) := by
  intro x y hxy hy
  by_cases ex : x = p
  · subst ex; exact h.2 y hxy (by omega)
  · by_cases ey : y = p
    · subst ey
      rcases hc with hc | hc
      · omega
      · by_cases e : x = y - 1
        · subst e; exact hc
        · exact lexI_le (h.1 x (y - 1) (by omega) (by omega) ex (by omega)) hc
    · exact h.1 x y hxy (by omega) ex ey
theorem swap_perm {α : Type} {d : α} {k : List α} {p : Nat} (hp : 0 < p) (hpl : p < k.length) : ((k.set p (k.getD (p - 1) d)).set (p - 1) (k.getD p d)).Perm k := by
  obtain ⟨q, rfl⟩ : ∃ q, p = q + 1 := ⟨p - 1, by omega⟩
  rw [Nat.add_sub_cancel]
  have e : k = k.take q ++ k.getD q d :: k.getD (q + 1) d :: k.drop (q + 2) := by
    apply List.ext_getElem?
    intro j
    rcases Nat.lt_trichotomy j q with h | h | h
    · rw [List.getElem?_append_left (by simp; omega), List.getElem?_take, if_pos h]
    · subst h
      rw [List.getElem?_append_right (by simp; omega)]
      simp [show j < k.length by omega, Nat.min_eq_left (show j ≤ k.length by omega)]
    · rw [List.getElem?_append_right (by simp; omega), List.length_take, Nat.min_eq_left (by omega)]
      obtain ⟨r, rfl⟩ : ∃ r, j = q + 1 + r := ⟨j - q - 1, by omega⟩
      rw [show q + 1 + r - q = r + 1 by omega, List.getElem?_cons_succ]
      cases r with
      | zero => simp [hpl]
      | succ r => rw [List.getElem?_cons_succ, List.getElem?_drop]; congr 1; omega
  have e2 : (k.set (q + 1) (k.getD q d)).set q (k.getD (q + 1) d) = k.take q ++ k.getD (q + 1) d :: k.getD q d :: k.drop (q + 2) := by
    apply List.ext_getElem?
    intro j
    rcases Nat.lt_trichotomy j q with h | h | h
    · rw [List.getElem?_set_ne (by omega), List.getElem?_set_ne (by omega), List.getElem?_append_left (by simp; omega), List.getElem?_take, if_pos h]
    · subst h
      rw [List.getElem?_set_self (by simp; omega), List.getElem?_append_right (by simp; omega)]
      simp [Nat.min_eq_left (show j ≤ k.length by omega)]
    · rw [List.getElem?_set_ne (by omega), List.getElem?_append_right (by simp; omega), List.length_take, Nat.min_eq_left (by omega)]
      obtain ⟨r, rfl⟩ : ∃ r, j = q + 1 + r := ⟨j - q - 1, by omega⟩
      rw [show q + 1 + r - q = r + 1 by omega, List.getElem?_cons_succ]
      cases r with
      | zero => rw [Nat.add_zero, List.getElem?_set_self hpl]; rfl
      | succ r => rw [List.getElem?_set_ne (by omega), List.getElem?_cons_succ, List.getElem?_drop]; congr 1; omega
  rw [e2]
  conv => rhs; rw [e]
  exact List.Perm.append_left _ (List.Perm.swap _ _ _)
theorem srt_done {k : List (List Int)} {i : Nat} (h : SrtTo k i) (hi : k.length ≤ i) : k.Pairwise (fun x y => ¬ lexI y x < 0) :=
  List.pairwise_iff_getElem.2 fun x y hx hy hxy => by
    have := h x y hxy (by omega)
    simpa [hx, hy] using this
/-! ### Classes -/
theorem mapG_snoc {α β : Type} {f : α → β} {l : List α} {i : Nat} {d : α} (hi : i < l.length) : (l.take (i + 1)).map f = (l.take i).map f ++ [f (l.getD i d)] := by
  rw [List.take_succ_eq_append_getElem hi, List.map_append, List.map_singleton, show l.getD i d = l[i] by simp [hi]]
theorem same_at {α : Type} {l : List α} {q : Int} {z y : α} (h : l[q.toNat]? = some z) (k : l[q.toNat]? = some y) : y = z := Option.some.inj (k.symm.trans h)
def renU (r g : List Int) (j : Nat) : List Int := ((List.range j).filter (fun h => decide (r.getD h 0 ∈ g))).map Int.ofNat
theorem renU_succ (r g : List Int) (j : Nat) : renU r g (j + 1) = renU r g j ++ if r.getD j 0 ∈ g then [(j : Int)] else [] := by
  unfold renU
  rw [List.range_succ, List.filter_append, List.map_append]
  congr 1
  by_cases h : r.getD j 0 ∈ g
  · rw [if_pos h, List.filter_cons_of_pos (by simpa using h)]; rfl
  · rw [if_neg h, List.filter_cons_of_neg (by simpa using h)]; rfl
theorem renU_len (r g : List Int) (j : Nat) : (renU r g j).length ≤ j := by
  unfold renU
  rw [List.length_map]
  exact Nat.le_trans (List.length_filter_le _ _) (by simp)
theorem exch_comm (s a b : Nat) : exchN s a b = exchN s b a := by
  unfold exchN
  by_cases h : s.testBit a = s.testBit b
  · rw [if_pos h, if_pos h.symm]
  · rw [if_neg h, if_neg (fun e => h e.symm), Nat.or_comm]
theorem alike_comm {n : Int} {l : List (List Int)} {a b : Nat} : alikeC n l a b ↔ alikeC n l b a := by
  unfold alikeC
  constructor
  · intro h s hs; rw [exch_comm]; exact h s hs
  · intro h s hs; rw [exch_comm]; exact h s hs
noncomputable instance (n : Int) (l : List (List Int)) (a b : Nat) : Decidable (alikeC n l a b) := Classical.propDecidable _
noncomputable def cls (n : Int) (l : List (List Int)) : Nat → List Int × Int
  | 0 => ([], 0)
  | i + 1 => match (List.range i).find? (fun j => decide (alikeC n l j i)) with
    | some j => ((cls n l i).1 ++ [(cls n l i).1.getD j 0], (cls n l i).2)
    | none => ((cls n l i).1 ++ [(cls n l i).2], (cls n l i).2 + 1)
theorem cls_some {n : Int} {l : List (List Int)} {i j : Nat} (hj : j < i) (h : alikeC n l j i) (hf : ∀ k, k < j → ¬ alikeC n l k i) : cls n l (i + 1) = ((cls n l i).1 ++ [(cls n l i).1.getD j 0], (cls n l i).2) := by
  have e : (List.range i).find? (fun j => decide (alikeC n l j i)) = some j := by
    rw [List.find?_eq_some_iff_getElem]
    refine ⟨by simpa using h, j, by simpa using hj, by simp, fun k hk => ?_⟩
    simpa using hf k hk
  show (match (List.range i).find? (fun j => decide (alikeC n l j i)) with
    | some j => _ | none => _) = _
  rw [e]
theorem cls_none {n : Int} {l : List (List Int)} {i : Nat} (hf : ∀ k, k < i → ¬ alikeC n l k i) : cls n l (i + 1) = ((cls n l i).1 ++ [(cls n l i).2], (cls n l i).2 + 1) := by
  have e : (List.range i).find? (fun j => decide (alikeC n l j i)) = none := by
    rw [List.find?_eq_none]
    intro k hk
    simpa using hf k (List.mem_range.1 hk)
  show (match (List.range i).find? (fun j => decide (alikeC n l j i)) with
    | some j => _ | none => _) = _
  rw [e]
theorem cls_len (n : Int) (l : List (List Int)) : ∀ i, (cls n l i).1.length = i
  | 0 => rfl
  | i + 1 => by
    have h := cls_len n l i
    unfold cls
    split <;> simp [h]
theorem cls_in (n : Int) (l : List (List Int)) : ∀ i : Nat, (0 ≤ (cls n l i).2 ∧ (cls n l i).2 ≤ i) ∧ ∀ j, j < i → 0 ≤ (cls n l i).1.getD j 0 ∧ (cls n l i).1.getD j 0 < (cls n l i).2
  | 0 => ⟨⟨by simp [cls], by simp [cls]⟩, fun j hj => absurd hj (Nat.not_lt_zero _)⟩
  | i + 1 => by
    have hl := cls_len n l i
    obtain ⟨h1, h2⟩ := cls_in n l i
    have app : ∀ (x : Int) (j : Nat), j < i + 1 → ((cls n l i).1 ++ [x]).getD j 0 = if j = i then x else (cls n l i).1.getD j 0 := fun x j hj => by
      simp only [List.getD_eq_getElem?_getD]
      by_cases e : j = i
      · subst e
        rw [if_pos rfl, List.getElem?_append_right (by omega), hl, Nat.sub_self]; rfl
      · rw [if_neg e, List.getElem?_append_left (by omega)]
    unfold cls
    split
    · rename_i q hq
      have hqi : q < i := by simpa using List.mem_of_find?_eq_some hq
      refine ⟨⟨h1.1, by simp only; omega⟩, fun j hj => ?_⟩
      simp only
      rw [app _ j hj]
      split
      · exact h2 q hqi
      · exact h2 j (by omega)
    · refine ⟨⟨by simp only; omega, by simp only; omega⟩, fun j hj => ?_⟩
      simp only
      rw [app _ j hj]
      split
      · omega
      · have := h2 j (by omega); omega
theorem bt_xor {a b : Nat} (ha : a < 128) (hb : b < 128) : bt .xor .u64 a b = ((a ^^^ b : Nat) : Int) := by
  have h1 : a ^^^ b < 128 := Nat.xor_lt_two_pow (n := 7) ha hb
  have f : ∀ c : Nat, c < 128 → (BitVec.ofInt IntKind.u64.bits (c : Int)).toNat = c := fun c hc => by
    show (BitVec.ofInt 64 (c : Int)).toNat = c
    rw [BitVec.toNat_ofInt]; omega
  have w1 : IntKind.u64.wrap ((a ^^^ b : Nat) : Int) = ((a ^^^ b : Nat) : Int) := by
    have h2 : ((a ^^^ b : Nat) : Int) % 18446744073709551616 = ((a ^^^ b : Nat) : Int) := by omega
    simp [IntKind.wrap, IntKind.signed, IntKind.bits, h2]
  simp only [bt, BitVec.toNat_xor]
  rw [f a ha, f b hb, w1]
theorem shl_u {j : Nat} (h : j < 7) : IntKind.u64.wrap (1 * 2 ^ min ((j : Int)).toNat IntKind.u64.bits) = ((2 ^ j : Nat) : Int) := by
  have : j = 0 ∨ j = 1 ∨ j = 2 ∨ j = 3 ∨ j = 4 ∨ j = 5 ∨ j = 6 := by omega
  rcases this with rfl | rfl | rfl | rfl | rfl | rfl | rfl <;> rfl
theorem exch_code {s a b : Nat} (hs : s < 128) (ha : a < 7) (hb : b < 7) : bt .xor .u64 (s : Int) (bt .or .u64 (IntKind.u64.wrap (1 * 2 ^ min ((a : Int)).toNat IntKind.u64.bits)) (IntKind.u64.wrap (1 * 2 ^ min ((b : Int)).toNat IntKind.u64.bits))) = ((s ^^^ (2 ^ a ||| 2 ^ b) : Nat) : Int) := by
  have h1 : 2 ^ a < 128 := Nat.pow_lt_pow_right (n := 7) (a := 2) (by decide) ha
  have h2 : 2 ^ b < 128 := Nat.pow_lt_pow_right (n := 7) (a := 2) (by decide) hb
  rw [shl_u ha, shl_u hb, (bt_nat .u64 (.inr rfl) h1 h2).1, bt_xor hs (Nat.or_lt_two_pow (n := 7) h1 h2)]
theorem swL_succ (i a b : Nat) : swL (i + 1) a b = swL i a b ++ [(sw a b i : Int)] := by simp [swL, List.range_succ]
theorem bit_dec (s a : Nat) : s.testBit a = decide (s / 2 ^ a % 2 = 1) := Nat.testBit_eq_decide_div_mod_eq
theorem al_len {n : Int} {l : List (List Int)} {k : List Int} (h : k = if okI n l then (cls n l n.toNat).1 else []) : k.length ≤ 7 := by
  by_cases hok : okI n l
  · rw [if_pos hok] at h
    rw [h, cls_len]
    have := hok.1
    omega
  · rw [if_neg hok] at h
    rw [h]; exact Nat.zero_le _
set_option maxRecDepth 100000 in
theorem has0_ok {v : Value} {l : List Int} {ok : Nat → Prop} (q : Int) (hr : RdK kI W H ok v l) : ACalls Try.prog W 137 #[v, .int .i64 q] H (fun r H' => r = .bool (decide (q ∈ l)) ∧ Ext H H') := by
  refine ACalls.of (args := [v, .int .i64 q]) Try.func137 rfl rfl ?_
  have X0 := Ext.refl H
  have hm1 := hr.max
  refine AW.rs ?_
  refine AL.val rfl (.inl rfl) (HV.as rfl) ?_
  refine AL.nx ?_
  refine AW.seq ?_
  refine AW.rs ?_
  refine AL.val rfl (.inl rfl) (HV.as rfl) ?_
  refine AL.nx ?_
  refine AW.block ?_
  refine AW.loop (σ := Nat) (fun i => [(0, v), (1, .int .i64 q), (5, .int .i64 (i : Int))]) (fun i H' => Ext H H' ∧ i ≤ l.length ∧ (∀ j, j < i → l.getD j 0 ≠ q) ∧ True) (fun i => l.length - i) 0 ⟨X0, Nat.zero_le _, fun j hj => absurd hj (Nat.not_lt_zero _), trivial⟩ ⟨rfl, rfl, rfl, trivial⟩ ?_
  rintro i H2 ⟨X3, hi, he, _⟩
  refine AW.seq ?_
  refine AW.rs ?_
  refine AL.val rfl (.inl rfl) (HV.mv rfl) ?_
  refine AL.val rfl (.inl rfl) (HV.mv rfl) ?_
  refine AL.val rfl (.inl rfl) (HV.len Try.underlying25 rfl hr.isSl) ?_
  refine AL.val rfl (.inl rfl) (HV.lti rfl rfl) ?_
  refine AL.nx ?_
  refine AW.ifd rfl (fun c4 => ?_) (fun c4 => ?_)
  · -- then
    refine AW.skip ?_
    refine nrm_and ?_
    refine AW.seq ?_
    refine AW.block ?_
    refine AW.rs ?_
    refine AL.val rfl (.inl rfl) (HV.mv rfl) ?_
    refine AL.val rfl (.inl rfl) (HV.mv rfl) ?_
    obtain ⟨p5, z6, cs7, hz8, hK9, hC10, hP11⟩ := RdK.ix (q := (i : Int)) hr sl25 (by omega) (by omega)
    obtain rfl : cs7 = [.int .i64 z6] := hK9
    refine AL.val rfl (.inl rfl) (hP11 rfl rfl) ?_
    refine AL.val rfl (.inl rfl) (HV.ld rfl va2 (cells_first (hC10.ext X3) rfl)) ?_
    refine AL.val rfl (.inl rfl) (HV.mv rfl) ?_
    refine AL.val rfl (.inl rfl) (HV.eqi rfl rfl) ?_
    refine AL.nx ?_
    refine AW.ifd rfl (fun c12 => ?_) (fun c12 => ?_)
    · -- then
      refine AW.rs ?_
      refine AL.val rfl (.inl rfl) (HV.as rfl) ?_
      refine AL.nx ?_
      refine AW.ret ?_
      refine ret_blk (ret_and (ret_and (ret_blk (ret_and ?_))))
      refine post_one rfl rfl ?_ (.inr rfl)
      exact ⟨dec_t (by have e := c12; rw [← e]; exact List.mem_of_getElem? hz8), X3⟩
    · -- else
      refine AW.skip ?_
      refine nrm_blk (nrm_and ?_)
      refine AW.reg ?_
      refine AL.val rfl (.inl rfl) (HV.mv rfl) ?_
      refine AL.val rfl (.inl rfl) (HV.add rfl rfl (by omega)) ?_
      refine AL.val rfl (.inl rfl) (HV.as rfl) ?_
      refine AL.nil ?_
      refine nrm_and ?_
      exact ⟨i + 1, ⟨X3, by omega, fun j hj => (Nat.lt_or_ge j i).elim (fun h1 => he j h1) (fun h1 => by obtain rfl : j = i := (by omega); rw [gd hz8 rfl]; exact c12), trivial⟩, by first | omega | (dsimp only; omega), ⟨rfl, rfl, rfl, trivial⟩⟩
  · -- else
    refine AW.exit ?_
    refine ex_and (ex_and (ex_blk ?_))
    refine nrm_and ?_
    refine AW.rs ?_
    refine AL.val rfl (.inl rfl) (HV.as rfl) ?_
    refine AL.nx ?_
    refine AW.ret ?_
    refine post_one rfl rfl ?_ (.inr rfl)
    exact ⟨dec_f (fun h => by obtain ⟨j, hj, e⟩ := List.getElem_of_mem h; have q_ := he j (by omega); simp [hj, e] at q_), X3⟩

set_option maxRecDepth 100000 in
theorem same_ok {v v2 : Value} {l m : List Int} {ok ok2 : Nat → Prop} (hr : RdK kI W H ok v l) (hr2 : RdK kI W H ok2 v2 m) : ACalls Try.prog W 136 #[v, v2] H (fun r H' => r = .bool (decide (l = m)) ∧ Ext H H') := by
  refine ACalls.of (args := [v, v2]) Try.func136 rfl rfl ?_
  have X0 := Ext.refl H
  have hm1 := hr.max
  have hm2 := hr2.max
  refine AW.rs ?_
  refine AL.val rfl (.inl rfl) (HV.as rfl) ?_
  refine AL.nx ?_
  refine AW.seq ?_
  refine AW.rs ?_
  refine AL.val rfl (.inl rfl) (HV.mv rfl) ?_
  refine AL.val rfl (.inl rfl) (HV.len Try.underlying25 rfl hr.isSl) ?_
  refine AL.val rfl (.inl rfl) (HV.mv rfl) ?_
  refine AL.val rfl (.inl rfl) (HV.len Try.underlying25 rfl hr2.isSl) ?_
  refine AL.val rfl (.inl rfl) (HV.nei rfl rfl) ?_
  refine AL.nx ?_
  refine AW.ifd rfl (fun c3 => ?_) (fun c3 => ?_)
  · -- then
    refine AW.rs ?_
    refine AL.val rfl (.inl rfl) (HV.as rfl) ?_
    refine AL.nx ?_
    refine AW.ret ?_
    refine ret_and ?_
    refine post_one rfl rfl ?_ (.inr rfl)
    exact ⟨dec_f (fun e => by subst e; omega), X0⟩
  · -- else
    refine AW.skip ?_
    refine nrm_and ?_
    refine AW.seq ?_
    refine AW.rs ?_
    refine AL.val rfl (.inl rfl) (HV.as rfl) ?_
    refine AL.nx ?_
    refine AW.block ?_
    refine AW.loop (σ := Nat) (fun i => [(0, v), (1, v2), (5, .int .i64 (i : Int))]) (fun i H' => Ext H H' ∧ i ≤ l.length ∧ (∀ j, j < i → l.getD j 0 = m.getD j 0) ∧ True) (fun i => l.length - i) 0 ⟨X0, Nat.zero_le _, fun j hj => absurd hj (Nat.not_lt_zero _), trivial⟩ ⟨rfl, rfl, rfl, trivial⟩ ?_
    rintro i H4 ⟨X5, hi, he, _⟩
    refine AW.seq ?_
    refine AW.rs ?_
    refine AL.val rfl (.inl rfl) (HV.mv rfl) ?_
    refine AL.val rfl (.inl rfl) (HV.mv rfl) ?_
    refine AL.val rfl (.inl rfl) (HV.len Try.underlying25 rfl hr.isSl) ?_
    refine AL.val rfl (.inl rfl) (HV.lti rfl rfl) ?_
    refine AL.nx ?_
    refine AW.ifd rfl (fun c6 => ?_) (fun c6 => ?_)
    · -- then
      refine AW.skip ?_
      refine nrm_and ?_
      refine AW.seq ?_
      refine AW.block ?_
      refine AW.seq ?_
      refine AW.draw' [0, 0, 3, 7, 0, 0, 48, 112, 255] mixed (by rfl) ?_
      refine Dr.read 0 _ 17 _ rfl rfl rfl rfl rfl (RV.of (by intro _ _ h; cases h) (.inl rfl) (fun _ xd => HV.mv rfl)) ?_
      refine Dr.read 1 _ 18 _ rfl rfl rfl rfl rfl (RV.of (by intro _ _ h; cases h) (.inl rfl) (fun _ xd => HV.mv rfl)) ?_
      obtain ⟨p7, z8, cs9, hz10, hK11, hC12, hP13⟩ := RdK.ix (q := (i : Int)) hr sl25 (by omega) (by omega)
      obtain rfl : cs9 = [.int .i64 z8] := hK11
      refine Dr.read 2 _ 19 _ rfl rfl rfl rfl rfl (RV.of (by intro _ _ h; cases h) (.inl rfl) (fun _ xd => hP13 rfl rfl)) ?_
      refine Dr.read 3 _ 20 _ rfl rfl rfl rfl rfl (RV.of (by intro _ _ h; cases h) (.inl rfl) (fun _ xd => HV.ld rfl va2 (rdc_ext xd (cells_first (hC12.ext X5) rfl)))) ?_
      refine Dr.read 4 _ 21 _ rfl rfl rfl rfl rfl (RV.of (by intro _ _ h; cases h) (.inl rfl) (fun _ xd => HV.mv rfl)) ?_
      refine Dr.read 5 _ 22 _ rfl rfl rfl rfl rfl (RV.of (by intro _ _ h; cases h) (.inl rfl) (fun _ xd => HV.mv rfl)) ?_
      obtain ⟨p14, z15, cs16, hz17, hK18, hC19, hP20⟩ := RdK.ix (q := (i : Int)) hr2 sl25 (by omega) (by omega)
      obtain rfl : cs16 = [.int .i64 z15] := hK18
      refine Dr.read 6 _ 23 _ rfl rfl rfl rfl rfl (RV.of (by intro _ _ h; cases h) (.inl rfl) (fun _ xd => hP20 rfl rfl)) ?_
      refine Dr.read 7 _ 24 _ rfl rfl rfl rfl rfl (RV.of (by intro _ _ h; cases h) (.inl rfl) (fun _ xd => HV.ld rfl va2 (rdc_ext xd (cells_first (hC19.ext X5) rfl)))) ?_
      refine Dr.read 8 _ 25 _ rfl rfl rfl rfl rfl (RV.of (by intro _ _ h; cases h) (.inl rfl) (fun _ xd => HV.nei rfl rfl)) ?_
      refine Dr.fin rfl ?_
      refine nrm_and ?_
      refine AW.ifd rfl (fun c21 => ?_) (fun c21 => ?_)
      · -- then
        refine AW.rs ?_
        refine AL.val rfl (.inl rfl) (HV.as rfl) ?_
        refine AL.nx ?_
        refine AW.ret ?_
        refine ret_blk (ret_and (ret_and (ret_blk (ret_and ?_))))
        refine post_one rfl rfl ?_ (.inr rfl)
        exact ⟨dec_f (fun e => by subst e; have g19 : l.getD i 0 = z8 := gd hz10 (by omega); have g23 : l.getD i 0 = z15 := gd hz17 (by omega); omega), X5⟩
      · -- else
        refine AW.skip ?_
        refine nrm_blk (nrm_and ?_)
        refine AW.reg ?_
        refine AL.val rfl (.inl rfl) (HV.mv rfl) ?_
        refine AL.val rfl (.inl rfl) (HV.add rfl rfl (by omega)) ?_
        refine AL.val rfl (.inl rfl) (HV.as rfl) ?_
        refine AL.nil ?_
        refine nrm_and ?_
        exact ⟨i + 1, ⟨X5, by omega, fun j hj => by
      rcases Nat.lt_or_ge j i with h1 | h1
      · exact he j h1
      · obtain rfl : j = i := by omega
        have g19 : l.getD j 0 = z8 := gd hz10 (by omega); have g23 : m.getD j 0 = z15 := gd hz17 (by omega); omega, trivial⟩, by first | omega | (dsimp only; omega), ⟨rfl, rfl, rfl, trivial⟩⟩
    · -- else
      refine AW.exit ?_
      refine ex_and (ex_and (ex_blk ?_))
      refine nrm_and ?_
      refine AW.rs ?_
      refine AL.val rfl (.inl rfl) (HV.as rfl) ?_
      refine AL.nx ?_
      refine AW.ret ?_
      refine post_one rfl rfl ?_ (.inr rfl)
      exact ⟨dec_t (list_eq (by omega) (fun j hj => he j (by omega))), X5⟩

set_option maxRecDepth 100000 in
theorem sorted_ok {v : Value} {l : List (List Int)} {ok : Nat → Prop} (ho : OwnK (kR kI) 25 W H ok v l) (hl : l.length ≤ 1048576) : ACalls Try.prog W 138 #[v] H (fun r H' => (∃ m, v = r ∧ Srt l m ∧ But (fun b => some b = v.ownBlock) H H' ∧ OwnK (kR kI) 25 W H' ok v m)) := by
  refine ACalls.of (args := [v]) Try.func138 rfl rfl ?_
  have X0 := Ext.refl H
  have B0 := But.refl (fun b => some b = v.ownBlock) H
  have hmL := ho.rd.max
  refine AW.rs ?_
  refine AL.val rfl (.inl rfl) (HV.as rfl) ?_
  refine AL.nx ?_
  refine AW.seq ?_
  refine AW.rs ?_
  refine AL.val rfl (.inl rfl) (HV.as rfl) ?_
  refine AL.nx ?_
  refine AW.block ?_
  refine AW.loop (σ := Nat × List (List Int)) (fun ⟨i, k⟩ => [(0, v), (2, (.slice none 0 0)), (0, v), (3, .int .i64 (i : Int))]) (fun ⟨i, k⟩ H' => (1 ≤ i ∧ i ≤ l.length + 1) ∧ k.Perm l ∧ k.length = l.length ∧ SrtTo k i ∧ OwnK (kR kI) 25 W H' ok v k ∧ But (fun b => some b = v.ownBlock) H H' ∧ True) (fun ⟨i, k⟩ => l.length + 1 - i) (1, l) ⟨by omega, List.Perm.refl _, rfl, (fun x y h1 h2 => by omega), ho, B0, trivial⟩ ⟨rfl, rfl, rfl, rfl, trivial⟩ ?_
  rintro ⟨i, k⟩ H1 ⟨hi, hpm, hk, hS, hoL, hB, _⟩
  refine AW.seq ?_
  refine AW.rs ?_
  refine AL.val rfl (.inl rfl) (HV.mv rfl) ?_
  refine AL.val rfl (.inl rfl) (HV.mv rfl) ?_
  refine AL.val rfl (.inl rfl) (HV.len Try.underlying37 rfl hoL.rd.isSl) ?_
  refine AL.val rfl (.inl rfl) (HV.lti rfl rfl) ?_
  refine AL.nx ?_
  refine AW.ifd rfl (fun c2 => ?_) (fun c2 => ?_)
  · -- then
    refine AW.skip ?_
    refine nrm_and ?_
    refine AW.seq ?_
    refine AW.block ?_
    refine AW.rs ?_
    refine AL.val rfl (.inl rfl) (HV.mv rfl) ?_
    refine AL.val rfl (.inl rfl) (HV.as rfl) ?_
    refine AL.nx ?_
    refine AW.block ?_
    refine AW.loop (σ := Nat × Int × List (List Int)) (fun ⟨p, q, k2⟩ => [(0, v), (2, (.slice none 0 0)), (3, .int .i64 (i : Int)), (6, .int .i64 (i : Int)), (7, v), (8, .int .i64 (k.length : Int)), (9, .bool (decide ((i : Int) < (k.length : Int)))), (12, .int .i64 (i : Int)), (0, v), (4, .int .i64 q)]) (fun ⟨p, q, k2⟩ H' => p ≤ i ∧ q = (p : Int) ∧ k2.Perm l ∧ k2.length = l.length ∧ InsA k2 i p ∧ OwnK (kR kI) 25 W H' ok v k2 ∧ But (fun b => some b = v.ownBlock) H H' ∧ True) (fun ⟨p, q, k2⟩ => p) (i, (i : Int), k) ⟨Nat.le_refl _, rfl, hpm, hk, ins_init hS, hoL, hB, trivial⟩ ⟨rfl, rfl, rfl, rfl, rfl, rfl, rfl, rfl, rfl, rfl, trivial⟩ ?_
    rintro ⟨p, q, k2⟩ H3 ⟨hp, hq, hpm2, hk2, hA, hoL2, hB2, _⟩
    refine AW.seq ?_
    refine AW.seq ?_
    refine AW.draw' [0, 1, 3, 7, 7, 31, 63, 7, 7, 263, 903, 1927, 4095, 8191] mixed (by rfl) ?_
    refine Dr.read 0 _ 13 _ rfl rfl rfl rfl rfl (RV.of (by intro _ _ h; cases h) (.inl rfl) (fun _ xd => HV.mv rfl)) ?_
    refine Dr.read 1 _ 14 _ rfl rfl rfl rfl rfl (RV.of (by intro _ _ h; cases h) (.inl rfl) (fun _ xd => HV.gti rfl rfl)) ?_
    refine Dr.read 2 _ 15 _ rfl rfl rfl rfl rfl (RV.of (by intro _ _ h; cases h) (.inl rfl) (fun _ xd => HV.mv rfl)) ?_
    by_cases c4 : q > 0
    · -- true
      have c4_ : decide (q > 0) = true := decide_eq_true c4
      rw [c4_]
      refine Dr.read 3 _ 16 _ rfl rfl rfl rfl rfl (RV.of (by intro _ _ h; cases h) (.inr ⟨_, _, _, rfl, rfl, rfl⟩) (fun _ xd => HV.mv rfl)) ?_
      refine Dr.read 4 _ 17 _ rfl rfl rfl rfl rfl (RV.of (by intro _ _ h; cases h) (.inr ⟨_, _, _, rfl, rfl, rfl⟩) (fun _ xd => HV.mv rfl)) ?_
      obtain ⟨g5, z6, cs7, hz8, hK9, hC10, hg11, hP12⟩ := OwnK.ix (q := q) hoL2 sl37 (by omega) (by omega)
      have X13 := Ext.refl H3
      obtain ⟨v14, rfl, hr15⟩ := hK9
      have hm16 := hr15.max
      refine Dr.read 5 _ 18 _ rfl rfl rfl rfl rfl (RV.of (by intro _ _ h; cases h) (.inr ⟨_, _, _, rfl, rfl, rfl⟩) (fun _ xd => hP12 rfl rfl)) ?_
      refine Dr.read 6 _ 19 _ rfl rfl rfl rfl rfl (RV.of (by intro _ _ h; cases h) (.inr ⟨_, _, _, rfl, rfl, rfl⟩) (fun _ xd => HV.ld rfl va25 (rdc_ext xd (cells_first hC10 rfl)))) ?_
      refine Dr.read 7 _ 20 _ rfl rfl rfl rfl rfl (RV.of (by intro _ _ h; cases h) (.inr ⟨_, _, _, rfl, rfl, rfl⟩) (fun _ xd => HV.mv rfl)) ?_
      refine Dr.read 8 _ 21 _ rfl rfl rfl rfl rfl (RV.of (by intro _ _ h; cases h) (.inr ⟨_, _, _, rfl, rfl, rfl⟩) (fun _ xd => HV.mv rfl)) ?_
      refine Dr.read 9 _ 22 _ rfl rfl rfl rfl rfl (RV.of (by intro _ _ h; cases h) (.inr ⟨_, _, _, rfl, rfl, rfl⟩) (fun _ xd => HV.sub rfl rfl (by omega))) ?_
      obtain ⟨g17, z18, cs19, hz20, hK21, hC22, hg23, hP24⟩ := OwnK.ix (q := q - 1) hoL2 sl37 (by omega) (by omega)
      obtain ⟨v25, rfl, hr26⟩ := hK21
      have hm27 := hr26.max
      refine Dr.read 10 _ 23 _ rfl rfl rfl rfl rfl (RV.of (by intro _ _ h; cases h) (.inr ⟨_, _, _, rfl, rfl, rfl⟩) (fun _ xd => hP24 rfl rfl)) ?_
      refine Dr.read 11 _ 24 _ rfl rfl rfl rfl rfl (RV.of (by intro _ _ h; cases h) (.inr ⟨_, _, _, rfl, rfl, rfl⟩) (fun _ xd => HV.ld rfl va25 (rdc_ext xd (cells_first hC22 rfl)))) ?_
      refine Dr.eff 12 _ _ rfl (by intro d h; cases h; exact ⟨rfl, rfl⟩) rfl rfl rfl (EC.of (by intro _ _ h; cases h) (.inr ⟨_, _, _, rfl, rfl, rfl⟩) (WV.call fn93 rfl (l01Before_ok hr15 hr26))) (fun v H' h => .inl (h.2)) ?_
      rintro _ H28 ⟨rfl, hx29⟩
      have X30 := Ext.trans X13 hx29
      have B31 := But.trans hB2 (Ext.but hx29 _)
      have ho32 := hoL2.ext hx29
      refine Dr.read 13 _ 26 _ rfl rfl rfl rfl rfl (RV.of (by intro _ _ h; cases h) (.inl rfl) (fun _ xd => HV.pickT rfl rfl)) ?_
      refine Dr.fin rfl ?_
      refine nrm_and ?_
      refine AW.ifd rfl (fun c33 => ?_) (fun c33 => ?_)
      · -- then
        refine AW.skip ?_
        refine nrm_and ?_
        refine AW.seq ?_
        refine AW.block ?_
        refine AW.rs ?_
        refine AL.val rfl (.inl rfl) (HV.mv rfl) ?_
        refine AL.val rfl (.inl rfl) (HV.mv rfl) ?_
        obtain ⟨g34, z35, cs36, hz37, hK38, hC39, hg40, hP41⟩ := OwnK.ix (q := q) ho32 sl37 (by omega) (by omega)
        have X42 := Ext.refl H28
        obtain ⟨v43, rfl, hr44⟩ := hK38
        have hm45 := hr44.max
        refine AL.val rfl (.inl rfl) (hP41 rfl rfl) ?_
        refine AL.val rfl (.inl rfl) (HV.ld rfl va25 (cells_first hC39 rfl)) ?_
        refine AL.val rfl (.inl rfl) (HV.as rfl) ?_
        refine AL.nx ?_
        refine AW.rs ?_
        refine AL.val rfl (.inl rfl) (HV.mv rfl) ?_
        refine AL.val rfl (.inl rfl) (HV.mv rfl) ?_
        refine AL.val rfl (.inl rfl) (HV.mv rfl) ?_
        refine AL.val rfl (.inl rfl) (HV.mv rfl) ?_
        refine AL.val rfl (.inl rfl) (HV.sub rfl rfl (by omega)) ?_
        obtain ⟨g46, z47, cs48, hz49, hK50, hC51, hg52, hP53⟩ := OwnK.ix (q := q - 1) ho32 sl37 (by omega) (by omega)
        obtain ⟨v54, rfl, hr55⟩ := hK50
        have hm56 := hr55.max
        refine AL.val rfl (.inl rfl) (hP53 rfl rfl) ?_
        refine AL.val rfl (.inl rfl) (HV.ld rfl va25 (cells_first hC51 rfl)) ?_
        obtain ⟨g57, z58, cs59, hz60, hK61, hC62, hg63, hP64⟩ := OwnK.ix (q := q) ho32 sl37 (by omega) (by omega)
        obtain ⟨v65, rfl, hr66⟩ := hK61
        have hm67 := hr66.max
        refine AL.val rfl (.inl rfl) (hP64 rfl rfl) ?_
        have s71 := OwnK.els ho32 hz8 hg11 (hC10.ext X30)
        have s72 := OwnK.els ho32 hz20 hg23 (hC22.ext X30)
        have s73 := OwnK.els ho32 hz37 hg40 hC39
        have s74 := OwnK.els ho32 hz49 hg52 hC51
        refine AL.w0 (.inl rfl) (WV.stK (okx := fun b => (ok) b ∧ some b ≠ v.ownBlock) (x' := z47) ho32 hg63 rfl rfl va25 (by first | omega | (simp only [List.length_set]; omega)) ⟨_, sl_cells s74.isSl, s74⟩ (fun b hb _ => hb.2)) ?_
        rintro _ H68 ⟨hx69, ho70⟩
        have s75 := s71.but hx69 (fun b hb _ e => hb.2 e) (fun b hb => (ho32.blk b hb).2.2)
        have s76 := s72.but hx69 (fun b hb _ e => hb.2 e) (fun b hb => (ho32.blk b hb).2.2)
        have s77 := s73.but hx69 (fun b hb _ e => hb.2 e) (fun b hb => (ho32.blk b hb).2.2)
        have s78 := s74.but hx69 (fun b hb _ e => hb.2 e) (fun b hb => (ho32.blk b hb).2.2)
        have B81 := But.trans B31 hx69
        have ho82 := ho70.okk (ok' := ok) (fun b hb _ => hb.elim id (fun h => h.1))
        refine AL.nx ?_
        refine AW.reg ?_
        refine AL.val rfl (.inl rfl) (HV.mv rfl) ?_
        refine AL.val rfl (.inl rfl) (HV.mv rfl) ?_
        refine AL.val rfl (.inl rfl) (HV.sub rfl rfl (by omega)) ?_
        refine AL.val rfl (.inl rfl) (HV.mv rfl) ?_
        obtain ⟨g83, z84, cs85, hz86, hK87, hC88, hg89, hP90⟩ := OwnK.ix (q := q - 1) ho82 sl37 (by omega) (by first | omega | (simp only [List.length_set]; omega))
        have X91 := Ext.refl H68
        obtain ⟨v92, rfl, hr93⟩ := hK87
        have hm94 := hr93.max
        refine AL.val rfl (.inl rfl) (hP90 rfl rfl) ?_
        refine AL.w0 (.inl rfl) (WV.stK (okx := fun b => (ok) b ∧ some b ≠ v.ownBlock) (x' := z35) ho82 hg89 rfl rfl va25 (by first | omega | (simp only [List.length_set]; omega)) ⟨_, sl_cells s77.isSl, s77⟩ (fun b hb _ => hb.2)) ?_
        rintro _ H95 ⟨hx96, ho97⟩
        have s98 := s75.but hx96 (fun b hb _ e => hb.2 e) (fun b hb => (ho82.blk b hb).2.2)
        have s99 := s76.but hx96 (fun b hb _ e => hb.2 e) (fun b hb => (ho82.blk b hb).2.2)
        have s100 := s77.but hx96 (fun b hb _ e => hb.2 e) (fun b hb => (ho82.blk b hb).2.2)
        have s101 := s78.but hx96 (fun b hb _ e => hb.2 e) (fun b hb => (ho82.blk b hb).2.2)
        have B103 := But.trans B81 hx96
        have ho104 := ho97.okk (ok' := ok) (fun b hb _ => hb.elim id (fun h => h.1))
        refine AL.nil ?_
        refine nrm_blk (nrm_and ?_)
        refine AW.reg ?_
        refine AL.val rfl (.inl rfl) (HV.mv rfl) ?_
        refine AL.val rfl (.inl rfl) (HV.sub rfl rfl (by omega)) ?_
        refine AL.val rfl (.inl rfl) (HV.as rfl) ?_
        refine AL.nil ?_
        refine nrm_and ?_
        have e18 : k2.getD p [] = z6 := gd hz8 (by omega)
        have e23 : k2.getD (p - 1) [] = z18 := gd hz20 (by omega)
        have e31 : k2.getD p [] = z35 := gd hz37 (by omega)
        have e38 : k2.getD (p - 1) [] = z47 := gd hz49 (by omega)
        have ek : ((k2.set (q : Int).toNat z47).set (q - 1 : Int).toNat z35) = (k2.set p (k2.getD (p - 1) [])).set (p - 1) (k2.getD p []) := by rw [e31, e38, show q.toNat = p by omega, show (q - 1).toNat = p - 1 by omega]
        have hcc : lexI (k2.getD p []) (k2.getD (p - 1) []) < 0 := by rw [e18, e23]; exact c33
        exact ⟨(p - 1, q - 1, ((k2.set (q : Int).toNat z47).set (q - 1 : Int).toNat z35)), ⟨by omega, by omega, by rw [ek]; exact (swap_perm (by omega) (by omega)).trans hpm2, by rw [ek]; simp [hk2], by rw [ek]; exact ins_step hA (by omega) (by omega) (by omega) hcc, ho104, B103, trivial⟩, by first | omega | (dsimp only; omega), ⟨rfl, rfl, rfl, rfl, rfl, rfl, rfl, rfl, rfl, rfl, trivial⟩⟩
      · -- else
        refine AW.exit ?_
        refine ex_and (ex_and (ex_blk ?_))
        refine nrm_blk (nrm_and ?_)
        refine AW.reg ?_
        refine AL.val rfl (.inl rfl) (HV.mv rfl) ?_
        refine AL.val rfl (.inl rfl) (HV.add rfl rfl (by omega)) ?_
        refine AL.val rfl (.inl rfl) (HV.as rfl) ?_
        refine AL.nil ?_
        refine nrm_and ?_
        exact ⟨(i + 1, k2), ⟨by omega, hpm2, hk2, ins_exit hA (by omega) (.inr (by rw [(gd hz8 (by omega) : k2.getD p [] = z6), (gd hz20 (by omega) : k2.getD (p - 1) [] = z18)]; exact c33)), ho32, B31, trivial⟩, by first | omega | (dsimp only; omega), ⟨rfl, rfl, rfl, rfl, trivial⟩⟩
    · -- false
      have c4_ : decide (q > 0) = false := decide_eq_false c4
      rw [c4_]
      refine Dr.read 3 _ 16 _ rfl rfl rfl rfl rfl (RV.off (by intro _ _ h; cases h) rfl rfl (by decide)) ?_
      refine Dr.read 4 _ 17 _ rfl rfl rfl rfl rfl (RV.off (by intro _ _ h; cases h) rfl rfl (by decide)) ?_
      refine Dr.read 5 _ 18 _ rfl rfl rfl rfl rfl (RV.off (by intro _ _ h; cases h) rfl rfl (by decide)) ?_
      refine Dr.read 6 _ 19 _ rfl rfl rfl rfl rfl (RV.off (by intro _ _ h; cases h) rfl rfl (by decide)) ?_
      refine Dr.read 7 _ 20 _ rfl rfl rfl rfl rfl (RV.off (by intro _ _ h; cases h) rfl rfl (by decide)) ?_
      refine Dr.read 8 _ 21 _ rfl rfl rfl rfl rfl (RV.off (by intro _ _ h; cases h) rfl rfl (by decide)) ?_
      refine Dr.read 9 _ 22 _ rfl rfl rfl rfl rfl (RV.off (by intro _ _ h; cases h) rfl rfl (by decide)) ?_
      refine Dr.read 10 _ 23 _ rfl rfl rfl rfl rfl (RV.off (by intro _ _ h; cases h) rfl rfl (by decide)) ?_
      refine Dr.read 11 _ 24 _ rfl rfl rfl rfl rfl (RV.off (by intro _ _ h; cases h) rfl rfl (by decide)) ?_
      refine Dr.read 12 _ 25 _ rfl rfl rfl rfl rfl (RV.off (by intro _ _ h; cases h) rfl rfl (by decide)) ?_
      refine Dr.read 13 _ 26 _ rfl rfl rfl rfl rfl (RV.of (by intro _ _ h; cases h) (.inl rfl) (fun _ xd => HV.pickF rfl rfl)) ?_
      refine Dr.fin rfl ?_
      refine nrm_and ?_
      refine AW.cond rfl (fun h => by cases h) (fun _ => ?_)
      refine AW.exit ?_
      refine ex_and (ex_and (ex_blk ?_))
      refine nrm_blk (nrm_and ?_)
      refine AW.reg ?_
      refine AL.val rfl (.inl rfl) (HV.mv rfl) ?_
      refine AL.val rfl (.inl rfl) (HV.add rfl rfl (by omega)) ?_
      refine AL.val rfl (.inl rfl) (HV.as rfl) ?_
      refine AL.nil ?_
      refine nrm_and ?_
      exact ⟨(i + 1, k2), ⟨by omega, hpm2, hk2, ins_exit hA (by omega) (.inl (by omega)), hoL2, hB2, trivial⟩, by first | omega | (dsimp only; omega), ⟨rfl, rfl, rfl, rfl, trivial⟩⟩
  · -- else
    refine AW.exit ?_
    refine ex_and (ex_and (ex_blk ?_))
    refine nrm_and ?_
    refine AW.rs ?_
    refine AL.val rfl (.inl rfl) (HV.mv rfl) ?_
    refine AL.val rfl (.inl rfl) (HV.as rfl) ?_
    refine AL.nx ?_
    refine AW.ret ?_
    refine post_one rfl rfl ?_ (.inr rfl)
    exact ⟨k, rfl, ⟨hpm, srt_done hS (by omega)⟩, hB, hoL⟩

set_option maxRecDepth 100000 in
theorem sameFam_ok {va vb : Value} {l m : List (List Int)} {ok ok2 : Nat → Prop} {n n2 : Int} (hr : RdK (kR kI) W H ok va l) (hr2 : RdK (kR kI) W H ok2 vb m) : ACalls Try.prog W 106 #[.agg #[.int .i64 n, va], .agg #[.int .i64 n2, vb]] H (fun r H' => r = .bool (decide (n = n2 ∧ l = m)) ∧ Ext H H') := by
  refine ACalls.of (args := [.agg #[.int .i64 n, va], .agg #[.int .i64 n2, vb]]) Try.func106 rfl rfl ?_
  have X0 := Ext.refl H
  have hm1 := hr.max
  have hm2 := hr2.max
  refine AW.rs ?_
  refine AL.w rfl (.inl rfl) (WV.bx rfl rfl) ?_
  rintro _ H4 ⟨b3, rfl, hx5, hn6, hb7⟩
  have o8 := Nat.le_trans X0.bd hn6
  have X9 := Ext.trans X0 hx5
  have X10 := Ext.refl H4
  refine AL.w rfl (.inl rfl) (WV.bx rfl rfl) ?_
  rintro _ H12 ⟨b11, rfl, hx13, hn14, hb15⟩
  have o16 := Nat.le_trans X9.bd hn14
  have o17 := Nat.le_trans X10.bd hn14
  have ne18 : b3 ≠ b11 := by have := hb7.lt; omega
  have X19 := Ext.trans X9 hx13
  have X20 := Ext.trans X10 hx13
  have hb21 := hb7.ext hx13
  have X22 := Ext.refl H12
  refine AL.val rfl (.inl rfl) (HV.as rfl) ?_
  refine AL.nx ?_
  refine AW.seq ?_
  refine AW.rs ?_
  refine AL.val rfl (.inl rfl) (HV.fa fl42_0 rfl) ?_
  refine AL.val rfl (.inl rfl) (HV.ld rfl va2 (at_cell hb21 rfl)) ?_
  refine AL.val rfl (.inl rfl) (HV.fa fl42_0 rfl) ?_
  refine AL.val rfl (.inl rfl) (HV.ld rfl va2 (at_cell hb15 rfl)) ?_
  refine AL.val rfl (.inl rfl) (HV.nei rfl rfl) ?_
  refine AL.val rfl (.inl rfl) (HV.mv rfl) ?_
  by_cases c23 : n ≠ n2
  · -- true
    have c23_ : decide (n ≠ n2) = true := decide_eq_true c23
    rw [c23_]
    refine AL.off rfl rfl (by decide) rfl ?_
    refine AL.off rfl rfl (by decide) rfl ?_
    refine AL.off rfl rfl (by decide) rfl ?_
    refine AL.off rfl rfl (by decide) rfl ?_
    refine AL.off rfl rfl (by decide) rfl ?_
    refine AL.off rfl rfl (by decide) rfl ?_
    refine AL.off rfl rfl (by decide) rfl ?_
    refine AL.val rfl (.inl rfl) (HV.pickT rfl rfl) ?_
    refine AL.nx ?_
    refine AW.cond rfl (fun _ => ?_) (fun h => by cases h)
    refine AW.rs ?_
    refine AL.val rfl (.inl rfl) (HV.as rfl) ?_
    refine AL.nx ?_
    refine AW.ret ?_
    refine ret_and ?_
    refine post_one rfl rfl ?_ (.inr rfl)
    exact ⟨dec_f (fun h => by obtain ⟨h1, h2⟩ := h; subst h2; first | omega), X19⟩
  · -- false
    have c23_ : decide (n ≠ n2) = false := decide_eq_false c23
    rw [c23_]
    refine AL.val rfl (.inr ⟨_, _, _, rfl, rfl, rfl⟩) (HV.fa fl42_1 rfl) ?_
    refine AL.val rfl (.inr ⟨_, _, _, rfl, rfl, rfl⟩) (HV.ld rfl va37 (at_cell_add hb21 rfl)) ?_
    refine AL.val rfl (.inr ⟨_, _, _, rfl, rfl, rfl⟩) (HV.len Try.underlying37 rfl hr.isSl) ?_
    refine AL.val rfl (.inr ⟨_, _, _, rfl, rfl, rfl⟩) (HV.fa fl42_1 rfl) ?_
    refine AL.val rfl (.inr ⟨_, _, _, rfl, rfl, rfl⟩) (HV.ld rfl va37 (at_cell_add hb15 rfl)) ?_
    refine AL.val rfl (.inr ⟨_, _, _, rfl, rfl, rfl⟩) (HV.len Try.underlying37 rfl hr2.isSl) ?_
    refine AL.val rfl (.inr ⟨_, _, _, rfl, rfl, rfl⟩) (HV.nei rfl rfl) ?_
    refine AL.val rfl (.inl rfl) (HV.pickF rfl rfl) ?_
    refine AL.nx ?_
    refine AW.ifd rfl (fun c25 => ?_) (fun c25 => ?_)
    · -- then
      refine AW.rs ?_
      refine AL.val rfl (.inl rfl) (HV.as rfl) ?_
      refine AL.nx ?_
      refine AW.ret ?_
      refine ret_and ?_
      refine post_one rfl rfl ?_ (.inr rfl)
      exact ⟨dec_f (fun h => by obtain ⟨h1, h2⟩ := h; subst h2; first | omega), X19⟩
    · -- else
      refine AW.skip ?_
      refine nrm_and ?_
      refine AW.seq ?_
      refine AW.rs ?_
      refine AL.val rfl (.inl rfl) (HV.as rfl) ?_
      refine AL.nx ?_
      refine AW.block ?_
      refine AW.loop (σ := Nat) (fun i => [(2, .pointer (some ⟨b3, 0, none⟩)), (3, .pointer (some ⟨b11, 0, none⟩)), (5, .int .i64 (i : Int))]) (fun i H' => Ext H H' ∧ Ext H4 H' ∧ Ext H12 H' ∧ At W H' b3 ⟨42, [.int .i64 n, va], 2⟩ ∧ At W H' b11 ⟨42, [.int .i64 n2, vb], 2⟩ ∧ i ≤ l.length ∧ (∀ j, j < i → l.getD j [] = m.getD j []) ∧ True) (fun i => l.length - i) 0 ⟨X19, X20, X22, hb21, hb15, Nat.zero_le _, fun j hj => absurd hj (Nat.not_lt_zero _), trivial⟩ ⟨rfl, rfl, rfl, trivial⟩ ?_
      rintro i H26 ⟨X27, X28, X29, hb30, hb31, hi, he, _⟩
      refine AW.seq ?_
      refine AW.rs ?_
      refine AL.val rfl (.inl rfl) (HV.mv rfl) ?_
      refine AL.val rfl (.inl rfl) (HV.fa fl42_1 rfl) ?_
      refine AL.val rfl (.inl rfl) (HV.ld rfl va37 (at_cell_add hb30 rfl)) ?_
      refine AL.val rfl (.inl rfl) (HV.len Try.underlying37 rfl hr.isSl) ?_
      refine AL.val rfl (.inl rfl) (HV.lti rfl rfl) ?_
      refine AL.nx ?_
      refine AW.ifd rfl (fun c32 => ?_) (fun c32 => ?_)
      · -- then
        refine AW.skip ?_
        refine nrm_and ?_
        refine AW.seq ?_
        refine AW.block ?_
        refine AW.seq ?_
        refine AW.draw' [0, 1, 0, 7, 15, 0, 32, 0, 224, 480, 1023, 2047] mixed (by rfl) ?_
        refine Dr.read 0 _ 27 _ rfl rfl rfl rfl rfl (RV.of (by intro _ _ h; cases h) (.inl rfl) (fun _ xd => HV.fa fl42_1 rfl)) ?_
        refine Dr.read 1 _ 28 _ rfl rfl rfl rfl rfl (RV.of (by intro _ _ h; cases h) (.inl rfl) (fun _ xd => HV.ld rfl va37 (rdc_ext xd (at_cell_add hb30 rfl)))) ?_
        refine Dr.read 2 _ 29 _ rfl rfl rfl rfl rfl (RV.of (by intro _ _ h; cases h) (.inl rfl) (fun _ xd => HV.mv rfl)) ?_
        obtain ⟨p33, z34, cs35, hz36, hK37, hC38, hP39⟩ := RdK.ix (q := (i : Int)) hr sl37 (by omega) (by omega)
        obtain ⟨v40, rfl, hr41⟩ := hK37
        have hm42 := hr41.max
        refine Dr.read 3 _ 30 _ rfl rfl rfl rfl rfl (RV.of (by intro _ _ h; cases h) (.inl rfl) (fun _ xd => hP39 rfl rfl)) ?_
        refine Dr.read 4 _ 31 _ rfl rfl rfl rfl rfl (RV.of (by intro _ _ h; cases h) (.inl rfl) (fun _ xd => HV.ld rfl va25 (rdc_ext xd (cells_first (hC38.ext X27) rfl)))) ?_
        refine Dr.read 5 _ 32 _ rfl rfl rfl rfl rfl (RV.of (by intro _ _ h; cases h) (.inl rfl) (fun _ xd => HV.fa fl42_1 rfl)) ?_
        refine Dr.read 6 _ 33 _ rfl rfl rfl rfl rfl (RV.of (by intro _ _ h; cases h) (.inl rfl) (fun _ xd => HV.ld rfl va37 (rdc_ext xd (at_cell_add hb31 rfl)))) ?_
        refine Dr.read 7 _ 34 _ rfl rfl rfl rfl rfl (RV.of (by intro _ _ h; cases h) (.inl rfl) (fun _ xd => HV.mv rfl)) ?_
        obtain ⟨p43, z44, cs45, hz46, hK47, hC48, hP49⟩ := RdK.ix (q := (i : Int)) hr2 sl37 (by omega) (by omega)
        obtain ⟨v50, rfl, hr51⟩ := hK47
        have hm52 := hr51.max
        refine Dr.read 8 _ 35 _ rfl rfl rfl rfl rfl (RV.of (by intro _ _ h; cases h) (.inl rfl) (fun _ xd => hP49 rfl rfl)) ?_
        refine Dr.read 9 _ 36 _ rfl rfl rfl rfl rfl (RV.of (by intro _ _ h; cases h) (.inl rfl) (fun _ xd => HV.ld rfl va25 (rdc_ext xd (cells_first (hC48.ext X27) rfl)))) ?_
        refine Dr.eff 10 _ _ rfl (by intro d h; cases h; exact ⟨rfl, rfl⟩) rfl rfl rfl (EC.of (by intro _ _ h; cases h) (.inl rfl) (WV.call fn136 rfl (same_ok (hr41.ext X27) (hr51.ext X27)))) (fun v H' h => .inl (h.2)) ?_
        rintro _ H53 ⟨rfl, hx54⟩
        have X55 := Ext.trans X27 hx54
        have X56 := Ext.trans X28 hx54
        have X57 := Ext.trans X29 hx54
        have hb58 := hb30.ext hx54
        have hb59 := hb31.ext hx54
        refine Dr.read 11 _ 38 _ rfl rfl rfl rfl rfl (RV.of (by intro _ _ h; cases h) (.inl rfl) (fun _ xd => HV.not rfl)) ?_
        refine Dr.fin rfl ?_
        refine nrm_and ?_
        refine AW.ifn rfl (fun c60 => ?_) (fun c60 => ?_)
        · -- then
          refine AW.rs ?_
          refine AL.val rfl (.inl rfl) (HV.as rfl) ?_
          refine AL.nx ?_
          refine AW.ret ?_
          refine ret_blk (ret_and (ret_and (ret_blk (ret_and ?_))))
          refine post_one rfl rfl ?_ (.inr rfl)
          exact ⟨dec_f (fun h => by obtain ⟨h1, h2⟩ := h; subst h2; first | omega | exact c60 (same_at hz46 hz36)), X55⟩
        · -- else
          refine AW.skip ?_
          refine nrm_blk (nrm_and ?_)
          refine AW.reg ?_
          refine AL.val rfl (.inl rfl) (HV.mv rfl) ?_
          refine AL.val rfl (.inl rfl) (HV.add rfl rfl (by omega)) ?_
          refine AL.val rfl (.inl rfl) (HV.as rfl) ?_
          refine AL.nil ?_
          refine nrm_and ?_
          exact ⟨i + 1, ⟨X55, X56, X57, hb58, hb59, by omega, fun j hj => (Nat.lt_or_ge j i).elim (fun h1 => he j h1) (fun h1 => by obtain rfl : j = i := (by omega); rw [gd hz36 rfl, gd hz46 rfl]; simpa using c60), trivial⟩, by first | omega | (dsimp only; omega), ⟨rfl, rfl, rfl, trivial⟩⟩
      · -- else
        refine AW.exit ?_
        refine ex_and (ex_and (ex_blk ?_))
        refine nrm_and ?_
        refine AW.rs ?_
        refine AL.val rfl (.inl rfl) (HV.as rfl) ?_
        refine AL.nx ?_
        refine AW.ret ?_
        refine post_one rfl rfl ?_ (.inr rfl)
        exact ⟨dec_t ⟨by omega, list_eq (d := []) (by omega) (fun j hj => he j (by omega))⟩, X27⟩

set_option maxRecDepth 100000 in
theorem ren_ok {v : Value} {l : List (List Int)} {ok : Nat → Prop} {n : Int} {b : Nat} (hr : RdK (kR kI) W H ok v l) (hb : At W H b ⟨42, [.int .i64 n, v], 2⟩) {v2 : Value} {rr : List Int} {ok2 : Nat → Prop} (hr2 : RdK kI W H ok2 v2 rr) (hl : l.length ≤ 1048576) (hrl : rr.length ≤ 7) : ACalls Try.prog W 107 #[.pointer (some ⟨b, 0, none⟩), v2] H (fun r H' => (∃ vm m, r = .agg #[.int .i64 n, vm] ∧ Srt (l.map (renG rr)) m ∧ RdK (kR kI) W H' (fun _ => True) vm m) ∧ Ext H H') := by
  refine ACalls.of (args := [.pointer (some ⟨b, 0, none⟩), v2]) Try.func107 rfl rfl ?_
  have X0 := Ext.refl H
  have hm1 := hr2.max
  refine AW.rs ?_
  refine AL.w rfl (.inl rfl) (WV.al ze42 rfl) ?_
  rintro _ H3 ⟨b2, rfl, hx4, hn5, hb6⟩
  have o7 := Nat.le_trans X0.bd hn5
  have ne8 : b ≠ b2 := by have := hb.lt; omega
  have X9 := Ext.trans X0 hx4
  have hb10 := hb.ext hx4
  have X11 := Ext.refl H3
  refine AL.nx ?_
  refine AW.rs ?_
  have y12 := hb10.lt
  have y13 := hb6.lt
  have o14 := X9.bd
  have o15 := X11.bd
  refine AL.w rfl (.inl rfl) (WV.bsK (K := (kO 2 kI)) (l := ([] : List (List Int))) (css := []) sl37 rfl rfl (by first | rfl | (simp [Instr.fill, Value.cells, kI, kB, kU, kS, Kd.sc]; done) | (simp [Instr.fill, Value.cells, kI, kB, kU, kS, Kd.sc, rng1, rng2, rng3, rng4, kP])) rfl segs_nil) ?_
  rintro v16 H17 ⟨hx18, ho19⟩
  have X20 := Ext.trans X9 hx18
  have X21 := Ext.trans X11 hx18
  have hb22 := hb10.ext hx18
  have hb23 := hb6.ext hx18
  have ho24 := ho19.deep0
  refine AL.val rfl (.inl rfl) (HV.as rfl) ?_
  refine AL.nx ?_
  refine AW.seq ?_
  refine AW.rs ?_
  refine AL.val rfl (.inl rfl) (HV.as rfl) ?_
  refine AL.nx ?_
  refine AW.block ?_
  refine AW.loop (σ := Nat × Value × List (List Int)) (fun ⟨i, vv, k⟩ => [(0, .pointer (some ⟨b, 0, none⟩)), (1, v2), (4, .pointer (some ⟨b2, 0, none⟩)), (5, vv), (6, .int .i64 (i : Int))]) (fun ⟨i, vv, k⟩ H' => Ext H H' ∧ Ext H3 H' ∧ At W H' b ⟨42, [.int .i64 n, v], 2⟩ ∧ At W H' b2 ⟨42, [.int .i64 0, (.slice none 0 0)], 2⟩ ∧ i ≤ l.length ∧ k = (l.take i).map (renG rr) ∧ k.length = i ∧ OwnD (kO 2 kI) 25 W H' (fun b => H3.bd ≤ b) vv k ∧ True) (fun ⟨i, vv, k⟩ => l.length - i) (0, v16, (([] : List (List Int)) : List (List Int))) ⟨X20, X21, hb22, hb23, Nat.zero_le _, rfl, rfl, ho24, trivial⟩ ⟨rfl, rfl, rfl, rfl, rfl, trivial⟩ ?_
  rintro ⟨i, vv, k⟩ H26 ⟨X27, X28, hb29, hb30, hi, hk, hk2, hoL, _⟩
  refine AW.seq ?_
  refine AW.rs ?_
  refine AL.val rfl (.inl rfl) (HV.mv rfl) ?_
  refine AL.val rfl (.inl rfl) (HV.mv rfl) ?_
  refine AL.val rfl (.inl rfl) (HV.nc rfl) ?_
  refine AL.val rfl (.inl rfl) (HV.fa fl42_1 rfl) ?_
  refine AL.val rfl (.inl rfl) (HV.ld rfl va37 (at_cell_add hb29 rfl)) ?_
  refine AL.val rfl (.inl rfl) (HV.len Try.underlying37 rfl hr.isSl) ?_
  refine AL.val rfl (.inl rfl) (HV.lti rfl rfl) ?_
  refine AL.nx ?_
  refine AW.ifd rfl (fun c31 => ?_) (fun c31 => ?_)
  · -- then
    refine AW.skip ?_
    refine nrm_and ?_
    refine AW.seq ?_
    refine AW.block ?_
    refine AW.rs ?_
    have X32 := Ext.refl H26
    have y33 := hb29.lt
    have y34 := hb30.lt
    have o35 := X27.bd
    have o36 := X28.bd
    have o37 := X32.bd
    have a38 := hoL.ltb
    have ho39 := hoL.okk (ok' := fun b => H3.bd ≤ b ∧ b < H26.bd) (fun b hb hlt => ⟨hb, hlt⟩)
    refine AL.w rfl (.inl rfl) (WV.bsK (K := kI) (l := ([] : List Int)) (css := []) sl25 rfl rfl (by first | rfl | (simp [Instr.fill, Value.cells, kI, kB, kU, kS, Kd.sc]; done) | (simp [Instr.fill, Value.cells, kI, kB, kU, kS, Kd.sc, rng1, rng2, rng3, rng4, kP])) rfl segs_nil) ?_
    rintro v40 H41 ⟨hx42, ho43⟩
    have X44 := Ext.trans X27 hx42
    have X45 := Ext.trans X28 hx42
    have X46 := Ext.trans X32 hx42
    have ho47 := ho39.ext hx42
    have hb48 := hb29.ext hx42
    have hb49 := hb30.ext hx42
    refine AL.val rfl (.inl rfl) (HV.as rfl) ?_
    refine AL.nx ?_
    refine AW.seq ?_
    refine AW.rs ?_
    refine AL.val rfl (.inl rfl) (HV.as rfl) ?_
    refine AL.nx ?_
    refine AW.block ?_
    refine AW.loop (σ := Nat × Value × List Int) (fun ⟨j, vw, gg⟩ => [(0, .pointer (some ⟨b, 0, none⟩)), (1, v2), (4, .pointer (some ⟨b2, 0, none⟩)), (5, vv), (6, .int .i64 (i : Int)), (10, .int .i64 (i : Int)), (11, .pointer (some ⟨b, 0, none⟩)), (12, .pointer (some ⟨b, 0, none⟩)), (13, .pointer (some ⟨b, 1, none⟩)), (14, v), (15, .int .i64 (l.length : Int)), (16, .bool (decide ((i : Int) < (l.length : Int)))), (19, v40), (7, vw), (8, .int .i64 (j : Int))]) (fun ⟨j, vw, gg⟩ H' => Ext H H' ∧ Ext H3 H' ∧ Ext H26 H' ∧ At W H' b ⟨42, [.int .i64 n, v], 2⟩ ∧ At W H' b2 ⟨42, [.int .i64 0, (.slice none 0 0)], 2⟩ ∧ j ≤ rr.length ∧ gg = renU rr (l.getD i []) j ∧ OwnD (kO 2 kI) 25 W H' (fun b => H3.bd ≤ b ∧ b < H26.bd) vv k ∧ OwnK kI 2 W H' (fun b => H26.bd ≤ b) vw gg ∧ True) (fun ⟨j, vw, gg⟩ => rr.length - j) (0, v40, []) ⟨X44, X45, X46, hb48, hb49, Nat.zero_le _, rfl, ho47, ho43, trivial⟩ ⟨rfl, rfl, rfl, rfl, rfl, rfl, rfl, rfl, rfl, rfl, rfl, rfl, rfl, rfl, rfl, trivial⟩ ?_
    rintro ⟨j, vw, gg⟩ H51 ⟨X52, X53, X54, hb55, hb56, hj, hgg, hoD, hoL2, _⟩
    have hgl := renU_len rr (l.getD i []) j
    rw [← hgg] at hgl
    refine AW.seq ?_
    refine AW.rs ?_
    refine AL.val rfl (.inl rfl) (HV.mv rfl) ?_
    refine AL.val rfl (.inl rfl) (HV.mv rfl) ?_
    refine AL.val rfl (.inl rfl) (HV.len Try.underlying25 rfl hr2.isSl) ?_
    refine AL.val rfl (.inl rfl) (HV.lti rfl rfl) ?_
    refine AL.nx ?_
    refine AW.ifd rfl (fun c57 => ?_) (fun c57 => ?_)
    · -- then
      refine AW.skip ?_
      refine nrm_and ?_
      refine AW.seq ?_
      refine AW.block ?_
      refine AW.seq ?_
      refine AW.draw' [0, 1, 3, 7, 0, 31, 63, 0, 0, 384, 896, 2047] mixed (by rfl) ?_
      refine Dr.read 0 _ 26 _ rfl rfl rfl rfl rfl (RV.of (by intro _ _ h; cases h) (.inl rfl) (fun _ xd => HV.mv rfl)) ?_
      refine Dr.read 1 _ 27 _ rfl rfl rfl rfl rfl (RV.of (by intro _ _ h; cases h) (.inl rfl) (fun _ xd => HV.nc rfl)) ?_
      refine Dr.read 2 _ 28 _ rfl rfl rfl rfl rfl (RV.of (by intro _ _ h; cases h) (.inl rfl) (fun _ xd => HV.fa fl42_1 rfl)) ?_
      refine Dr.read 3 _ 29 _ rfl rfl rfl rfl rfl (RV.of (by intro _ _ h; cases h) (.inl rfl) (fun _ xd => HV.ld rfl va37 (rdc_ext xd (at_cell_add hb55 rfl)))) ?_
      refine Dr.read 4 _ 30 _ rfl rfl rfl rfl rfl (RV.of (by intro _ _ h; cases h) (.inl rfl) (fun _ xd => HV.mv rfl)) ?_
      obtain ⟨p58, z59, cs60, hz61, hK62, hC63, hP64⟩ := RdK.ix (q := (i : Int)) hr sl37 (by omega) (by omega)
      obtain ⟨v65, rfl, hr66⟩ := hK62
      have hm67 := hr66.max
      refine Dr.read 5 _ 31 _ rfl rfl rfl rfl rfl (RV.of (by intro _ _ h; cases h) (.inl rfl) (fun _ xd => hP64 rfl rfl)) ?_
      refine Dr.read 6 _ 32 _ rfl rfl rfl rfl rfl (RV.of (by intro _ _ h; cases h) (.inl rfl) (fun _ xd => HV.ld rfl va25 (rdc_ext xd (cells_first (hC63.ext X52) rfl)))) ?_
      refine Dr.read 7 _ 33 _ rfl rfl rfl rfl rfl (RV.of (by intro _ _ h; cases h) (.inl rfl) (fun _ xd => HV.mv rfl)) ?_
      refine Dr.read 8 _ 34 _ rfl rfl rfl rfl rfl (RV.of (by intro _ _ h; cases h) (.inl rfl) (fun _ xd => HV.mv rfl)) ?_
      obtain ⟨p68, z69, cs70, hz71, hK72, hC73, hP74⟩ := RdK.ix (q := (j : Int)) hr2 sl25 (by omega) (by omega)
      obtain rfl : cs70 = [.int .i64 z69] := hK72
      refine Dr.read 9 _ 35 _ rfl rfl rfl rfl rfl (RV.of (by intro _ _ h; cases h) (.inl rfl) (fun _ xd => hP74 rfl rfl)) ?_
      refine Dr.read 10 _ 36 _ rfl rfl rfl rfl rfl (RV.of (by intro _ _ h; cases h) (.inl rfl) (fun _ xd => HV.ld rfl va2 (rdc_ext xd (cells_first (hC73.ext X52) rfl)))) ?_
      refine Dr.eff 11 _ _ rfl (by intro d h; cases h; exact ⟨rfl, rfl⟩) rfl rfl rfl (EC.of (by intro _ _ h; cases h) (.inl rfl) (WV.call fn137 rfl (has0_ok z69 (hr66.ext X52)))) (fun v H' h => .inl (h.2)) ?_
      rintro _ H75 ⟨rfl, hx76⟩
      have X77 := Ext.trans X52 hx76
      have X78 := Ext.trans X53 hx76
      have X79 := Ext.trans X54 hx76
      have ho80 := hoD.ext hx76
      have ho81 := hoL2.ext hx76
      have hb82 := hb55.ext hx76
      have hb83 := hb56.ext hx76
      refine Dr.fin rfl ?_
      refine nrm_and ?_
      refine AW.ifd rfl (fun c84 => ?_) (fun c84 => ?_)
      · -- then
        refine AW.reg ?_
        refine AL.val rfl (.inl rfl) (HV.mv rfl) ?_
        refine AL.val rfl (.inl rfl) (HV.mv rfl) ?_
        have X85 := Ext.refl H75
        have y86 := hb82.lt
        have y87 := hb83.lt
        have o88 := X77.bd
        have o89 := X78.bd
        have o90 := X79.bd
        have o91 := X85.bd
        have a92 := ho80.ltb
        have a93 := ho81.ltb
        refine AL.w rfl (.inl rfl) (WV.bsK (K := kI) (l := ([(j : Int)] : List Int)) (css := [[.int .i64 (j : Int)]]) sl25 rfl rfl (by first | rfl | (simp [Instr.fill, Value.cells, kI, kB, kU, kS, Kd.sc]; done) | (simp [Instr.fill, Value.cells, kI, kB, kU, kS, Kd.sc, rng1, rng2, rng3, rng4, kP])) rfl (segs_cons rfl segs_nil)) ?_
        rintro v94 H95 ⟨hx96, ho97⟩
        have X98 := Ext.trans X77 hx96
        have X99 := Ext.trans X78 hx96
        have X100 := Ext.trans X79 hx96
        have X101 := Ext.trans X85 hx96
        have ho102 := ho80.ext hx96
        have ho103 := ho81.ext hx96
        have hb104 := hb82.ext hx96
        have hb105 := hb83.ext hx96
        have X107 := Ext.refl H95
        refine AL.w rfl (.inl rfl) (WV.apk sl25 rfl rfl ho103 ho97.rd (by simp; omega) (by simp; omega) (fun b hb _ e => Nat.lt_irrefl _ (Nat.lt_of_lt_of_le (a93 b e) hb))) ?_
        rintro v108 H109 ⟨hx110, ho111, hb112⟩
        have ho113 := ho111.narrow (ok' := fun b => H26.bd ≤ b) kI_flat (fun b q => (hb112 b q).elim (fun e => (ho103.blk b e).1) (fun e => Nat.le_trans X100.bd e))
        have X114 := Ext.thru X98 hx110 (fun b hb => Nat.le_trans o35 (ho103.blk b hb).1)
        have X115 := Ext.thru X99 hx110 (fun b hb => Nat.le_trans o36 (ho103.blk b hb).1)
        have X116 := Ext.thru X100 hx110 (fun b hb => Nat.le_trans o37 (ho103.blk b hb).1)
        have ho119 := ho102.but hx110 (fun b hb _ e => by have h1 : H3.bd ≤ b ∧ b < H26.bd := hb; have h2 : H26.bd ≤ b := (ho103.blk b e).1; omega) (fun b hb => (ho103.blk b hb).2.2)
        have hb121 := hb104.but hx110 (fun e => by have q : H26.bd ≤ _ := (ho103.blk _ e).1; omega)
        have hb122 := hb105.but hx110 (fun e => by have q : H26.bd ≤ _ := (ho103.blk _ e).1; omega)
        refine AL.val rfl (.inl rfl) (HV.as rfl) ?_
        refine AL.nil ?_
        refine nrm_blk (nrm_and ?_)
        refine AW.reg ?_
        refine AL.val rfl (.inl rfl) (HV.mv rfl) ?_
        refine AL.val rfl (.inl rfl) (HV.add rfl rfl (by omega)) ?_
        refine AL.val rfl (.inl rfl) (HV.as rfl) ?_
        refine AL.nil ?_
        refine nrm_and ?_
        exact ⟨(j + 1, v108, (gg ++ (([(j : Int)] : List Int) : List Int))), ⟨X114, X115, X116, hb121, hb122, by omega, by rw [renU_succ, gd hz71 rfl, gd hz61 rfl, if_pos c84, hgg, gd hz61 rfl], ho119, ho113, trivial⟩, by first | omega | (dsimp only; omega), ⟨rfl, rfl, rfl, rfl, rfl, rfl, rfl, rfl, rfl, rfl, rfl, rfl, rfl, rfl, rfl, trivial⟩⟩
      · -- else
        refine AW.skip ?_
        refine nrm_blk (nrm_and ?_)
        refine AW.reg ?_
        refine AL.val rfl (.inl rfl) (HV.mv rfl) ?_
        refine AL.val rfl (.inl rfl) (HV.add rfl rfl (by omega)) ?_
        refine AL.val rfl (.inl rfl) (HV.as rfl) ?_
        refine AL.nil ?_
        refine nrm_and ?_
        exact ⟨(j + 1, vw, gg), ⟨X77, X78, X79, hb82, hb83, by omega, by rw [renU_succ, gd hz71 rfl, gd hz61 rfl, if_neg c84, List.append_nil, hgg, gd hz61 rfl], ho80, ho81, trivial⟩, by first | omega | (dsimp only; omega), ⟨rfl, rfl, rfl, rfl, rfl, rfl, rfl, rfl, rfl, rfl, rfl, rfl, rfl, rfl, rfl, trivial⟩⟩
    · -- else
      refine AW.exit ?_
      refine ex_and (ex_and (ex_blk ?_))
      refine nrm_and ?_
      refine AW.reg ?_
      refine AL.val rfl (.inl rfl) (HV.mv rfl) ?_
      refine AL.val rfl (.inl rfl) (HV.mv rfl) ?_
      have X123 := Ext.refl H51
      have y124 := hb55.lt
      have y125 := hb56.lt
      have o126 := X52.bd
      have o127 := X53.bd
      have o128 := X54.bd
      have o129 := X123.bd
      have a130 := hoD.ltb
      have a131 := hoL2.ltb
      have hc136 : vw.cells = #[vw] := by obtain ⟨A, c, e⟩ := hoL2.isSl; rw [e]; rfl
      refine AL.w rfl (.inl rfl) (WV.bsO (okx := fun b => H26.bd ≤ b) (K := (kO 2 kI)) (l := ([gg] : List (List Int))) (css := [[vw]]) sl37 rfl rfl (by simp [Instr.fill, hc136, kO, rng1]) rfl (segs_cons ⟨_, rfl, hoL2⟩ segs_nil)) ?_
      rintro v132 H133 ⟨hx134, ho135⟩
      have X138 := Ext.trans X52 hx134
      have X139 := Ext.trans X53 hx134
      have X140 := Ext.trans X54 hx134
      have X141 := Ext.trans X123 hx134
      have ho142 := hoD.ext hx134
      have ho143 := hoL2.ext hx134
      have hb144 := hb55.ext hx134
      have hb145 := hb56.ext hx134
      have ho137 := ho135.okk (ok' := fun b => H26.bd ≤ b) (fun b hb _ => hb.elim id (fun e => Nat.le_trans X54.bd e))
      have X147 := Ext.refl H133
      refine AL.w rfl (.inl rfl) (WV.apD (ok := fun b => H3.bd ≤ b) (B := H26.bd) sl37 rfl rfl ho142 ho137.rd X140.bd (by rw [hk2]; omega) (by rw [hk2]; omega)) ?_
      rintro v148 H149 ⟨hx150, ho151, hb152⟩
      have ho153 := ho151.okk (ok' := fun b => H3.bd ≤ b) (fun b hb _ => hb.elim id (fun e => Nat.le_trans o36 e))
      have X154 := Ext.thru X138 hx150 (fun b hb => Nat.le_trans o14 (ho142.blk b hb).1.1)
      have X155 := Ext.thru X139 hx150 (fun b hb => Nat.le_trans o15 (ho142.blk b hb).1.1)
      have hb159 := hb144.but hx150 (fun e => by have q : H3.bd ≤ _ := (ho142.blk _ e).1.1; omega)
      have hb160 := hb145.but hx150 (fun e => by have q : H3.bd ≤ _ := (ho142.blk _ e).1.1; omega)
      refine AL.val rfl (.inl rfl) (HV.as rfl) ?_
      refine AL.nil ?_
      refine nrm_blk (nrm_and ?_)
      refine AW.reg ?_
      refine AL.val rfl (.inl rfl) (HV.mv rfl) ?_
      refine AL.val rfl (.inl rfl) (HV.add rfl rfl (by omega)) ?_
      refine AL.val rfl (.inl rfl) (HV.as rfl) ?_
      refine AL.nil ?_
      refine nrm_and ?_
      exact ⟨(i + 1, v148, (k ++ ([gg] : List (List Int)))), ⟨X154, X155, hb159, hb160, by omega, by rw [mapG_snoc (d := []) (by omega), hk]; exact congrArg (fun z => (l.take i).map (renG rr) ++ [z]) (by rw [hgg, show j = rr.length by omega]; rfl), by simp [hk2], ho153, trivial⟩, by first | omega | (dsimp only; omega), ⟨rfl, rfl, rfl, rfl, rfl, trivial⟩⟩
  · -- else
    refine AW.exit ?_
    refine ex_and (ex_and (ex_blk ?_))
    refine nrm_and ?_
    refine AW.seq ?_
    refine AW.draw' [0, 1, 3, 7, 0, 16, 63, 127] mixed (by rfl) ?_
    refine Dr.read 0 _ 46 _ rfl rfl rfl rfl rfl (RV.of (by intro _ _ h; cases h) (.inl rfl) (fun _ xd => HV.mv rfl)) ?_
    refine Dr.read 1 _ 47 _ rfl rfl rfl rfl rfl (RV.of (by intro _ _ h; cases h) (.inl rfl) (fun _ xd => HV.nc rfl)) ?_
    refine Dr.read 2 _ 48 _ rfl rfl rfl rfl rfl (RV.of (by intro _ _ h; cases h) (.inl rfl) (fun _ xd => HV.fa fl42_0 rfl)) ?_
    refine Dr.read 3 _ 49 _ rfl rfl rfl rfl rfl (RV.of (by intro _ _ h; cases h) (.inl rfl) (fun _ xd => HV.ld rfl va2 (rdc_ext xd (at_cell hb29 rfl)))) ?_
    refine Dr.read 4 _ 50 _ rfl rfl rfl rfl rfl (RV.of (by intro _ _ h; cases h) (.inl rfl) (fun _ xd => HV.mv rfl)) ?_
    refine Dr.eff 5 _ _ rfl (by intro d h; cases h; exact ⟨rfl, rfl⟩) rfl rfl rfl (EC.of (by intro _ _ h; cases h) (.inl rfl) (WV.call fn138 rfl (sorted_ok (hoL.own.le (le_OR (Le.refl _))) (by omega)))) ?_ ?_
    · -- kept
      rintro _ H161 ⟨m162, rfl, hs163, hx164, ho165⟩
      have X166 := Ext.thru X27 hx164 (fun b hb => Nat.le_trans o14 (hoL.blk b hb).1)
      have X167 := Ext.thru X28 hx164 (fun b hb => Nat.le_trans o15 (hoL.blk b hb).1)
      have hb168 := hb29.but hx164 (fun e => by have q : H3.bd ≤ _ := (hoL.blk _ e).1; omega)
      have hb169 := hb30.but hx164 (fun e => by have q : H3.bd ≤ _ := (hoL.blk _ e).1; omega)
      refine .inr (.inr ?_)
      exact (kept_cons (.inl rfl) (kept_cons (.inr ⟨_, _, _, rfl, rfl, rfl, (RV.of (by intro _ _ h; cases h) (.inl rfl) (fun _ xd => HV.ld rfl va2 (rdc_ext xd (at_cell hb168 rfl))))⟩) (kept_cons (.inr ⟨_, _, _, rfl, rfl, rfl, (RV.of (by intro _ _ h; cases h) (.inl rfl) (fun _ xd => HV.fa fl42_0 rfl))⟩) (kept_cons (.inr ⟨_, _, _, rfl, rfl, rfl, (RV.of (by intro _ _ h; cases h) (.inl rfl) (fun _ xd => HV.nc rfl))⟩) (kept_cons (.inr ⟨_, _, _, rfl, rfl, rfl, (RV.of (by intro _ _ h; cases h) (.inl rfl) (fun _ xd => HV.mv rfl))⟩) kept_nil)))))
    rintro _ H161 ⟨m162, rfl, hs163, hx164, ho165⟩
    have X170 := Ext.thru X27 hx164 (fun b hb => Nat.le_trans o14 (hoL.blk b hb).1)
    have X171 := Ext.thru X28 hx164 (fun b hb => Nat.le_trans o15 (hoL.blk b hb).1)
    have hb172 := hb29.but hx164 (fun e => by have q : H3.bd ≤ _ := (hoL.blk _ e).1; omega)
    have hb173 := hb30.but hx164 (fun e => by have q : H3.bd ≤ _ := (hoL.blk _ e).1; omega)
    refine Dr.read 6 _ 52 _ rfl rfl rfl rfl rfl (RV.of (by intro _ _ h; cases h) (.inl rfl) (fun _ xd => HV.bd rfl (bd42_0_1 n ho165.rd.isSl))) ?_
    refine Dr.eff 7 _ _ rfl (by intro d h; cases h) rfl rfl rfl (EC.of (by intro _ _ h; cases h) (.inl rfl) (WV.st rfl rfl va42 rfl hb173 (Nat.le_of_ble_eq_true rfl) (one_cons rfl (one_cons (sl_one1 ho165.rd.isSl) one_nil)))) (fun v H' h => .inr (.inl rfl)) ?_
    rintro _ H174 ⟨hx175, hb176⟩
    have X177 := Ext.thru X170 hx175 (fun z_ hz_ => by rw [hz_]; exact o7)
    have ho179 := ho165.but hx175 (fun b hb _ e => by have hb' : H3.bd ≤ b := hb; have e' : b = b2 := e; omega) (fun z_ hz_ => by rw [hz_]; exact hb173.w)
    have hb180 := hb172.but hx175 ne8
    have hb181 : At W H174 b2 ⟨42, [.int .i64 n, vv], 2⟩ := hb176
    refine Dr.fin rfl ?_
    refine nrm_and ?_
    refine AW.ret ?_
    refine post_cell rfl rfl va42 hb181 ?_ (.inr rfl)
    exact ⟨⟨_, _, rfl, by have e : (l.take i).map (renG rr) = l.map (renG rr) := (by rw [List.take_of_length_le (by omega)]); rw [← e, ← hk]; exact hs163, (ho179.rd).okk (fun _ _ _ => trivial)⟩, X177⟩

set_option maxRecDepth 100000 in
theorem exch_ok (s a b : Nat) (hs : s < 128) (ha : a < 7) (hb : b < 7) : ACalls Try.prog W 108 #[.int .u64 (s : Int), .int .i64 (a : Int), .int .i64 (b : Int)] H (fun r H' => r = .int .u64 ((exchN s a b : Nat) : Int) ∧ Ext H H') := by
  refine ACalls.of (args := [.int .u64 (s : Int), .int .i64 (a : Int), .int .i64 (b : Int)]) Try.func108 rfl rfl ?_
  have X0 := Ext.refl H
  refine AW.rs ?_
  refine AL.val rfl (.inl rfl) (HV.as rfl) ?_
  refine AL.nx ?_
  refine AW.seq ?_
  refine AW.rs ?_
  refine AL.val rfl (.inl rfl) (HV.mv rfl) ?_
  refine AL.val rfl (.inl rfl) (HV.mv rfl) ?_
  refine AL.w rfl (.inl rfl) (WV.call fn66 rfl (has_ok (W := W) s a (by omega) (by omega))) ?_
  rintro _ H1 ⟨rfl, hx2⟩
  have X3 := Ext.trans X0 hx2
  refine AL.val rfl (.inl rfl) (HV.mv rfl) ?_
  refine AL.val rfl (.inl rfl) (HV.mv rfl) ?_
  refine AL.w rfl (.inl rfl) (WV.call fn66 rfl (has_ok (W := W) s b (by omega) (by omega))) ?_
  rintro _ H4 ⟨rfl, hx5⟩
  have X6 := Ext.trans X3 hx5
  refine AL.val rfl (.inl rfl) (HV.neb Try.underlying4 rfl rfl) ?_
  refine AL.nx ?_
  refine AW.cond rfl (fun c7 => ?_) (fun c7 => ?_)
  · -- then
    refine AW.draw' [0, 0, 2, 0, 8, 30, 63, 127] mixed (by rfl) ?_
    refine Dr.read 0 _ 14 _ rfl rfl rfl rfl rfl (RV.of (by intro _ _ h; cases h) (.inl rfl) (fun _ xd => HV.mv rfl)) ?_
    refine Dr.read 1 _ 15 _ rfl rfl rfl rfl rfl (RV.of (by intro _ _ h; cases h) (.inl rfl) (fun _ xd => HV.mv rfl)) ?_
    refine Dr.read 2 _ 16 _ rfl rfl rfl rfl rfl (RV.of (by intro _ _ h; cases h) (.inl rfl) (fun _ xd => HV.shl rfl rfl (by omega))) ?_
    refine Dr.read 3 _ 17 _ rfl rfl rfl rfl rfl (RV.of (by intro _ _ h; cases h) (.inl rfl) (fun _ xd => HV.mv rfl)) ?_
    refine Dr.read 4 _ 18 _ rfl rfl rfl rfl rfl (RV.of (by intro _ _ h; cases h) (.inl rfl) (fun _ xd => HV.shl rfl rfl (by omega))) ?_
    refine Dr.read 5 _ 19 _ rfl rfl rfl rfl rfl (RV.of (by intro _ _ h; cases h) (.inl rfl) (fun _ xd => HV.bits (by simp) rfl rfl)) ?_
    refine Dr.read 6 _ 20 _ rfl rfl rfl rfl rfl (RV.of (by intro _ _ h; cases h) (.inl rfl) (fun _ xd => HV.bits (by simp) rfl rfl)) ?_
    refine Dr.eff 7 _ _ rfl (by intro d h; cases h; exact ⟨rfl, rfl⟩) rfl rfl rfl (EC.of (by intro _ _ h; cases h) (.inl rfl) (WV.ofHV (HV.as rfl))) (fun v H' h => .inl (h.2 ▸ Ext.refl _)) ?_
    rintro u_ h_ ⟨e1_, e2_⟩
    rw [e1_, e2_]
    clear e1_ e2_ u_ h_
    refine Dr.fin rfl ?_
    refine nrm_and ?_
    refine AW.rs ?_
    refine AL.val rfl (.inl rfl) (HV.mv rfl) ?_
    refine AL.val rfl (.inl rfl) (HV.as rfl) ?_
    refine AL.nx ?_
    refine AW.ret ?_
    refine post_one rfl rfl ?_ (.inr rfl)
    exact ⟨congrArg (Value.int .u64) (by rw [exch_code hs ha hb, exchN, if_neg (by rw [bit_dec, bit_dec]; intro e; rw [e] at c7; simp at c7)]), X6⟩
  · -- else
    refine AW.skip ?_
    refine nrm_and ?_
    refine AW.rs ?_
    refine AL.val rfl (.inl rfl) (HV.mv rfl) ?_
    refine AL.val rfl (.inl rfl) (HV.as rfl) ?_
    refine AL.nx ?_
    refine AW.ret ?_
    refine post_one rfl rfl ?_ (.inr rfl)
    exact ⟨congrArg (Value.int .u64) (by rw [exchN, if_pos (by rw [bit_dec, bit_dec]; simpa using c7)]), X6⟩

set_option maxRecDepth 100000 in
theorem alike_ok {v : Value} {l : List (List Int)} {ok : Nat → Prop} (n : Int) (hr : RdK (kR kI) W H ok v l) (a b : Nat) (hok : okC n l) (ha : (a : Int) < n) (hb : (b : Int) < n) : ACalls Try.prog W 74 #[.agg #[.int .i64 n, v], .int .i64 (a : Int), .int .i64 (b : Int)] H (fun r H' => r = .bool (decide (alikeC n l a b)) ∧ Ext H H') := by
  refine ACalls.of (args := [.agg #[.int .i64 n, v], .int .i64 (a : Int), .int .i64 (b : Int)]) Try.func74 rfl rfl ?_
  have X0 := Ext.refl H
  have hm1 := hr.max
  have hn := hok.1
  obtain ⟨N, hN, hN2, hN1⟩ := shl7 hn
  refine AW.rs ?_
  refine AL.w rfl (.inl rfl) (WV.bx rfl rfl) ?_
  rintro _ H3 ⟨b2, rfl, hx4, hn5, hb6⟩
  have o7 := Nat.le_trans X0.bd hn5
  have X8 := Ext.trans X0 hx4
  have X9 := Ext.refl H3
  refine AL.val rfl (.inl rfl) (HV.as rfl) ?_
  refine AL.nx ?_
  refine AW.seq ?_
  refine AW.rs ?_
  refine AL.val rfl (.inl rfl) (HV.as rfl) ?_
  refine AL.nx ?_
  refine AW.block ?_
  refine AW.loop (σ := Nat) (fun s => [(1, .int .i64 (a : Int)), (2, .int .i64 (b : Int)), (3, .pointer (some ⟨b2, 0, none⟩)), (7, .int .u64 (s : Int))]) (fun s H' => Ext H H' ∧ Ext H3 H' ∧ At W H' b2 ⟨42, [.int .i64 n, v], 2⟩ ∧ s ≤ N ∧ (∀ q : Nat, q < s → (opC (q : Int) l ↔ opC (exchN q a b : Nat) l)) ∧ True) (fun s => N - s) 0 ⟨X8, X9, hb6, Nat.zero_le _, fun j hj => absurd hj (Nat.not_lt_zero _), trivial⟩ ⟨rfl, rfl, rfl, rfl, trivial⟩ ?_
  rintro s H10 ⟨X11, X12, hb13, hs, he, _⟩
  refine AW.seq ?_
  refine AW.rs ?_
  refine AL.val rfl (.inl rfl) (HV.mv rfl) ?_
  refine AL.val rfl (.inl rfl) (HV.fa fl42_0 rfl) ?_
  refine AL.val rfl (.inl rfl) (HV.ld rfl va2 (at_cell hb13 rfl)) ?_
  refine AL.w rfl (.inl rfl) (WV.call fn65 rfl (everybody0_ok (W := W) (n := n) (by omega))) ?_
  rintro _ H14 ⟨rfl, hx15⟩
  have X16 := Ext.trans X11 hx15
  have X17 := Ext.trans X12 hx15
  have hb18 := hb13.ext hx15
  refine AL.val rfl (.inl rfl) (HV.lei rfl rfl) ?_
  refine AL.nx ?_
  refine AW.ifd rfl (fun c19 => ?_) (fun c19 => ?_)
  · -- then
    refine AW.skip ?_
    refine nrm_and ?_
    refine AW.seq ?_
    refine AW.block ?_
    refine AW.seq ?_
    refine AW.draw' [0, 0, 3, 0, 0, 0, 0, 119, 255, 511] mixed (by rfl) ?_
    refine Dr.read 0 _ 15 _ rfl rfl rfl rfl rfl (RV.of (by intro _ _ h; cases h) (.inl rfl) (fun _ xd => HV.lda (cs := [.int .i64 n, v]) rfl va42 (fun j u hu => rdc_ext xd ((at_cells hb18 rfl) j u hu)))) ?_
    refine Dr.read 1 _ 16 _ rfl rfl rfl rfl rfl (RV.of (by intro _ _ h; cases h) (.inl rfl) (fun _ xd => HV.mv rfl)) ?_
    refine Dr.read 3 _ 18 _ rfl rfl rfl rfl rfl (RV.of (by intro _ _ h; cases h) (.inl rfl) (fun _ xd => HV.lda (cs := [.int .i64 n, v]) rfl va42 (fun j u hu => rdc_ext xd ((at_cells hb18 rfl) j u hu)))) ?_
    refine Dr.read 4 _ 19 _ rfl rfl rfl rfl rfl (RV.of (by intro _ _ h; cases h) (.inl rfl) (fun _ xd => HV.mv rfl)) ?_
    refine Dr.read 5 _ 20 _ rfl rfl rfl rfl rfl (RV.of (by intro _ _ h; cases h) (.inl rfl) (fun _ xd => HV.mv rfl)) ?_
    refine Dr.read 6 _ 21 _ rfl rfl rfl rfl rfl (RV.of (by intro _ _ h; cases h) (.inl rfl) (fun _ xd => HV.mv rfl)) ?_
    refine Dr.eff 2 _ _ rfl (by intro d h; cases h; exact ⟨rfl, rfl⟩) rfl rfl rfl (EC.of (by intro _ _ h; cases h) (.inl rfl) (WV.call fn64 rfl (opens_ok n (hr.ext X16) (s : Int) (okC_low hok)))) (fun v H' h => .inl (h.2)) ?_
    rintro _ H20 ⟨rfl, hx21⟩
    have X22 := Ext.trans X16 hx21
    have X23 := Ext.trans X17 hx21
    have hb24 := hb18.ext hx21
    refine Dr.eff 7 _ _ rfl (by intro d h; cases h; exact ⟨rfl, rfl⟩) rfl rfl rfl (EC.of (by intro _ _ h; cases h) (.inl rfl) (WV.call fn108 rfl (exch_ok (W := W) s a b (by omega) (by omega) (by omega)))) (fun v H' h => .inl (h.2)) ?_
    rintro _ H25 ⟨rfl, hx26⟩
    have X27 := Ext.trans X22 hx26
    have X28 := Ext.trans X23 hx26
    have hb29 := hb24.ext hx26
    refine Dr.eff 8 _ _ rfl (by intro d h; cases h; exact ⟨rfl, rfl⟩) rfl rfl rfl (EC.of (by intro _ _ h; cases h) (.inl rfl) (WV.call fn64 rfl (opens_ok n (hr.ext X27) ((exchN s a b : Nat) : Int) (okC_low hok)))) (fun v H' h => .inl (h.2)) ?_
    rintro _ H30 ⟨rfl, hx31⟩
    have X32 := Ext.trans X27 hx31
    have X33 := Ext.trans X28 hx31
    have hb34 := hb29.ext hx31
    refine Dr.read 9 _ 24 _ rfl rfl rfl rfl rfl (RV.of (by intro _ _ h; cases h) (.inl rfl) (fun _ xd => HV.neb Try.underlying4 rfl rfl)) ?_
    refine Dr.fin rfl ?_
    refine nrm_and ?_
    refine AW.cond rfl (fun c35 => ?_) (fun c35 => ?_)
    · -- then
      refine AW.rs ?_
      refine AL.val rfl (.inl rfl) (HV.as rfl) ?_
      refine AL.nx ?_
      refine AW.ret ?_
      refine ret_blk (ret_and (ret_and (ret_blk (ret_and ?_))))
      refine post_one rfl rfl ?_ (.inr rfl)
      exact ⟨dec_f (fun h => by have q := h s (by omega); simp [q] at c35), X32⟩
    · -- else
      refine AW.skip ?_
      refine nrm_blk (nrm_and ?_)
      refine AW.reg ?_
      refine AL.val rfl (.inl rfl) (HV.mv rfl) ?_
      refine AL.val rfl (.inl rfl) (HV.addu rfl rfl (by omega)) ?_
      refine AL.val rfl (.inl rfl) (HV.as rfl) ?_
      refine AL.nil ?_
      refine nrm_and ?_
      exact ⟨s + 1, ⟨X32, X33, hb34, by omega, fun q hq => by
      rcases Nat.lt_or_ge q s with h1 | h1
      · exact he q h1
      · obtain rfl : q = s := by omega
        simpa using c35, trivial⟩, by first | omega | (dsimp only; omega), ⟨rfl, rfl, rfl, rfl, trivial⟩⟩
  · -- else
    refine AW.exit ?_
    refine ex_and (ex_and (ex_blk ?_))
    refine nrm_and ?_
    refine AW.rs ?_
    refine AL.val rfl (.inl rfl) (HV.as rfl) ?_
    refine AL.nx ?_
    refine AW.ret ?_
    refine post_one rfl rfl ?_ (.inr rfl)
    exact ⟨dec_t (fun q hq => he q (by omega)), X16⟩

set_option maxRecDepth 100000 in
theorem implAl_ok {v : Value} {l : List (List Int)} {ok : Nat → Prop} (n : Int) (hr : RdK (kR kI) W H ok v l) : ACalls Try.prog W 36 #[.agg #[.int .i64 n, v]] H (fun r H' => (∃ v k, r = .tuple #[v, .int .i64 (if okI n l then 0 else 1)] ∧ k = (if okI n l then (cls n l n.toNat).1 else []) ∧ OwnK kI 2 W H' (fun b => H.bd ≤ b) v k) ∧ Ext H H') := by
  refine ACalls.of (args := [.agg #[.int .i64 n, v]]) Try.func36 rfl rfl ?_
  have X0 := Ext.refl H
  have hm1 := hr.max
  refine AW.rs ?_
  refine AL.w rfl (.inl rfl) (WV.bx rfl rfl) ?_
  rintro _ H3 ⟨b2, rfl, hx4, hn5, hb6⟩
  have o7 := Nat.le_trans X0.bd hn5
  have X8 := Ext.trans X0 hx4
  have X9 := Ext.refl H3
  refine AL.val rfl (.inl rfl) (HV.as rfl) ?_
  refine AL.val rfl (.inl rfl) (HV.as rfl) ?_
  refine AL.nx ?_
  refine AW.seq ?_
  refine AW.rs ?_
  refine AL.val rfl (.inl rfl) (HV.lda (cs := [.int .i64 n, v]) rfl va42 (at_cells hb6 rfl)) ?_
  refine AL.w rfl (.inl rfl) (WV.call fn63 rfl (validFam_ok n (hr.ext X8))) ?_
  rintro _ H10 ⟨rfl, hx11⟩
  have X12 := Ext.trans X8 hx11
  have X13 := Ext.trans X9 hx11
  have hb14 := hb6.ext hx11
  refine AL.val rfl (.inl rfl) (HV.not rfl) ?_
  refine AL.nx ?_
  refine AW.ifn rfl (fun c15 => ?_) (fun c15 => ?_)
  · -- then
    refine AW.rs ?_
    refine AL.val rfl (.inl rfl) (HV.as rfl) ?_
    refine AL.val rfl (.inl rfl) (HV.as rfl) ?_
    refine AL.nx ?_
    refine AW.ret ?_
    refine ret_and ?_
    refine post_two rfl rfl rfl ?_ (.inr rfl)
    have hno : ¬ okI n l := (fun h => c15 ((ok_iff n l).1 h)); exact ⟨⟨_, [], by rw [if_neg hno], by rw [if_neg hno], OwnK.nil _⟩, X12⟩
  · -- else
    refine AW.skip ?_
    refine nrm_and ?_
    refine AW.rs ?_
    have X16 := Ext.refl H10
    have y17 := hb14.lt
    have o18 := X12.bd
    have o19 := X13.bd
    have o20 := X16.bd
    refine AL.w rfl (.inl rfl) (WV.bsK (K := kI) (l := ([] : List Int)) (css := []) sl25 rfl rfl (by first | rfl | (simp [Instr.fill, Value.cells, kI, kB, kU, kS, Kd.sc]; done) | (simp [Instr.fill, Value.cells, kI, kB, kU, kS, Kd.sc, rng1, rng2, rng3, rng4, kP])) rfl segs_nil) ?_
    rintro v21 H22 ⟨hx23, ho24⟩
    have X25 := Ext.trans X12 hx23
    have X26 := Ext.trans X13 hx23
    have X27 := Ext.trans X16 hx23
    have hb28 := hb14.ext hx23
    refine AL.val rfl (.inl rfl) (HV.as rfl) ?_
    refine AL.val rfl (.inl rfl) (HV.as rfl) ?_
    refine AL.nx ?_
    refine AW.seq ?_
    refine AW.rs ?_
    refine AL.val rfl (.inl rfl) (HV.fa fl42_0 rfl) ?_
    refine AL.val rfl (.inl rfl) (HV.ld rfl va2 (at_cell hb28 rfl)) ?_
    refine AL.val rfl (.inl rfl) (HV.mv rfl) ?_
    refine AL.nx ?_
    refine AW.block ?_
    have hok : okC n l := (by assumption)
    have hokI := (ok_iff n l).2 hok
    have hn := hok.1
    refine AW.loop (σ := Nat × Int × Value × List Int) (fun ⟨h, nx, vv, k⟩ => [(1, .pointer (some ⟨b2, 0, none⟩)), (2, (.slice none 0 0)), (3, .int .i64 0), (14, .int .i64 n), (4, vv), (5, .int .i64 nx), (15, .int .i64 (h : Int))]) (fun ⟨h, nx, vv, k⟩ H' => Ext H H' ∧ Ext H3 H' ∧ Ext H10 H' ∧ At W H' b2 ⟨42, [.int .i64 n, v], 2⟩ ∧ h ≤ n.toNat ∧ k = (cls n l h).1 ∧ nx = (cls n l h).2 ∧ OwnK kI 2 W H' (fun b => H10.bd ≤ b) vv k ∧ True) (fun ⟨h, nx, vv, k⟩ => n.toNat - h) (0, 0, v21, []) ⟨X25, X26, X27, hb28, Nat.zero_le _, rfl, rfl, ho24, trivial⟩ ⟨rfl, rfl, rfl, rfl, rfl, rfl, rfl, trivial⟩ ?_
    rintro ⟨h, nx, vv, k⟩ H30 ⟨X31, X32, X33, hb34, hh, hk, hnx, hoL, _⟩
    have hkl : k.length = h := by rw [hk]; exact cls_len n l h
    have hin := cls_in n l h
    have hin1 := hin.1.1
    have hin2 := hin.1.2
    rw [← hnx] at hin1 hin2
    refine AW.rs ?_
    refine AL.val rfl (.inl rfl) (HV.lti rfl rfl) ?_
    refine AL.nx ?_
    refine AW.seq ?_
    refine AW.ifd rfl (fun c35 => ?_) (fun c35 => ?_)
    · -- then
      refine AW.skip ?_
      refine nrm_and ?_
      refine AW.seq ?_
      refine AW.block ?_
      refine AW.rs ?_
      refine AL.val rfl (.inl rfl) (HV.mv rfl) ?_
      refine AL.val rfl (.inl rfl) (HV.as rfl) ?_
      refine AL.nx ?_
      refine AW.rs ?_
      refine AL.val rfl (.inl rfl) (HV.mv rfl) ?_
      refine AL.val rfl (.inl rfl) (HV.as rfl) ?_
      refine AL.nx ?_
      refine AW.seq ?_
      refine AW.rs ?_
      refine AL.val rfl (.inl rfl) (HV.mv rfl) ?_
      refine AL.val rfl (.inl rfl) (HV.mv rfl) ?_
      refine AL.nx ?_
      refine AW.block ?_
      refine AW.loop (σ := Nat) (fun j => [(1, .pointer (some ⟨b2, 0, none⟩)), (2, (.slice none 0 0)), (3, .int .i64 0), (4, vv), (5, .int .i64 nx), (6, .int .i64 (h : Int)), (14, .int .i64 n), (15, .int .i64 (h : Int)), (16, .bool (decide ((h : Int) < n))), (17, .int .i64 (h : Int)), (18, .int .i64 nx), (19, .int .i64 (h : Int)), (7, .int .i64 nx), (20, .int .i64 (j : Int))]) (fun j H' => Ext H H' ∧ Ext H3 H' ∧ Ext H10 H' ∧ At W H' b2 ⟨42, [.int .i64 n, v], 2⟩ ∧ OwnK kI 2 W H' (fun b => H10.bd ≤ b) vv k ∧ j ≤ h ∧ (∀ q, q < j → ¬ alikeC n l q h) ∧ True) (fun j => h - j) 0 ⟨X31, X32, X33, hb34, hoL, Nat.zero_le _, fun j hj => absurd hj (Nat.not_lt_zero _), trivial⟩ ⟨rfl, rfl, rfl, rfl, rfl, rfl, rfl, rfl, rfl, rfl, rfl, rfl, rfl, rfl, trivial⟩ ?_
      rintro j H36 ⟨X37, X38, X39, hb40, ho41, hj, hno, _⟩
      refine AW.rs ?_
      refine AL.val rfl (.inl rfl) (HV.lti rfl rfl) ?_
      refine AL.nx ?_
      refine AW.seq ?_
      refine AW.ifd rfl (fun c42 => ?_) (fun c42 => ?_)
      · -- then
        refine AW.skip ?_
        refine nrm_and ?_
        refine AW.seq ?_
        refine AW.block ?_
        refine AW.rs ?_
        refine AL.val rfl (.inl rfl) (HV.mv rfl) ?_
        refine AL.val rfl (.inl rfl) (HV.as rfl) ?_
        refine AL.nx ?_
        refine AW.rs ?_
        refine AL.val rfl (.inl rfl) (HV.lda (cs := [.int .i64 n, v]) rfl va42 (at_cells hb40 rfl)) ?_
        refine AL.val rfl (.inl rfl) (HV.mv rfl) ?_
        refine AL.val rfl (.inl rfl) (HV.mv rfl) ?_
        refine AL.w rfl (.inl rfl) (WV.call fn74 rfl (alike_ok n (hr.ext X37) j h hok (by omega) (by omega))) ?_
        rintro _ H43 ⟨rfl, hx44⟩
        have X45 := Ext.trans X37 hx44
        have X46 := Ext.trans X38 hx44
        have X47 := Ext.trans X39 hx44
        have ho48 := ho41.ext hx44
        have hb49 := hb40.ext hx44
        refine AL.nx ?_
        refine AW.ifd rfl (fun c50 => ?_) (fun c50 => ?_)
        · -- then
          refine AW.rs ?_
          refine AL.val rfl (.inl rfl) (HV.mv rfl) ?_
          refine AL.val rfl (.inl rfl) (HV.mv rfl) ?_
          obtain ⟨g51, z52, cs53, hz54, hK55, hC56, hg57, hP58⟩ := OwnK.ix (q := (j : Int)) ho48 sl25 (by omega) (by omega)
          have X59 := Ext.refl H43
          obtain rfl : cs53 = [.int .i64 z52] := hK55
          refine AL.val rfl (.inl rfl) (hP58 rfl rfl) ?_
          refine AL.val rfl (.inl rfl) (HV.ld rfl va2 (cells_first hC56 rfl)) ?_
          refine AL.val rfl (.inl rfl) (HV.as rfl) ?_
          refine AL.nx ?_
          refine AW.exit ?_
          refine ex_out rfl (ex_and (ex_and (ex_blk ?_)))
          refine nrm_and ?_
          refine AW.seq ?_
          refine AW.rs ?_
          refine AL.val rfl (.inl rfl) (HV.mv rfl) ?_
          refine AL.val rfl (.inl rfl) (HV.mv rfl) ?_
          refine AL.val rfl (.inl rfl) (HV.eqi rfl rfl) ?_
          refine AL.nx ?_
          refine AW.ifd rfl (fun c60 => ?_) (fun c60 => ?_)
          · -- then
            refine AW.reg ?_
            refine AL.val rfl (.inl rfl) (HV.mv rfl) ?_
            refine AL.val rfl (.inl rfl) (HV.add rfl rfl (by omega)) ?_
            refine AL.val rfl (.inl rfl) (HV.as rfl) ?_
            refine AL.nil ?_
            refine nrm_and ?_
            refine AW.reg ?_
            refine AL.val rfl (.inl rfl) (HV.mv rfl) ?_
            refine AL.val rfl (.inl rfl) (HV.mv rfl) ?_
            have y61 := hb49.lt
            have o62 := X45.bd
            have o63 := X46.bd
            have o64 := X47.bd
            have o65 := X59.bd
            have a66 := ho48.ltb
            refine AL.w rfl (.inl rfl) (WV.bsK (K := kI) (l := ([z52] : List Int)) (css := [[.int .i64 z52]]) sl25 rfl rfl (by first | rfl | (simp [Instr.fill, Value.cells, kI, kB, kU, kS, Kd.sc]; done) | (simp [Instr.fill, Value.cells, kI, kB, kU, kS, Kd.sc, rng1, rng2, rng3, rng4, kP])) rfl (segs_cons rfl segs_nil)) ?_
            rintro v67 H68 ⟨hx69, ho70⟩
            have X71 := Ext.trans X45 hx69
            have X72 := Ext.trans X46 hx69
            have X73 := Ext.trans X47 hx69
            have X74 := Ext.trans X59 hx69
            have ho75 := ho48.ext hx69
            have hb76 := hb49.ext hx69
            have X78 := Ext.refl H68
            refine AL.w rfl (.inl rfl) (WV.apk sl25 rfl rfl ho75 ho70.rd (by simp; omega) (by simp; omega) (fun b hb _ e => Nat.lt_irrefl _ (Nat.lt_of_lt_of_le (a66 b e) hb))) ?_
            rintro v79 H80 ⟨hx81, ho82, hb83⟩
            have ho84 := ho82.narrow (ok' := fun b => H10.bd ≤ b) kI_flat (fun b q => (hb83 b q).elim (fun e => (ho75.blk b e).1) (fun e => Nat.le_trans X73.bd e))
            have X85 := Ext.thru X71 hx81 (fun b hb => Nat.le_trans o18 (ho75.blk b hb).1)
            have X86 := Ext.thru X72 hx81 (fun b hb => Nat.le_trans o19 (ho75.blk b hb).1)
            have X87 := Ext.thru X73 hx81 (fun b hb => Nat.le_trans o20 (ho75.blk b hb).1)
            have hb91 := hb76.but hx81 (fun e => by have q : H10.bd ≤ _ := (ho75.blk _ e).1; omega)
            refine AL.val rfl (.inl rfl) (HV.as rfl) ?_
            refine AL.nil ?_
            refine nrm_blk (nrm_and ?_)
            refine AW.reg ?_
            refine AL.val rfl (.inl rfl) (HV.add rfl rfl (by omega)) ?_
            refine AL.val rfl (.inl rfl) (HV.mv rfl) ?_
            refine AL.nil ?_
            refine nrm_and ?_
            exact ⟨(h + 1, nx + 1, v79, (k ++ (([z52] : List Int) : List Int))), ⟨X85, X86, X87, hb91, by omega, by exfalso; have q := (cls_in n l h).2 j (by omega); rw [← hk, ← hnx, gd hz54 rfl] at q; omega, by exfalso; have q := (cls_in n l h).2 j (by omega); rw [← hk, ← hnx, gd hz54 rfl] at q; omega, ho84, trivial⟩, by first | omega | (dsimp only; omega), ⟨rfl, rfl, rfl, rfl, rfl, rfl, rfl, trivial⟩⟩
          · -- else
            refine AW.skip ?_
            refine nrm_and ?_
            refine AW.reg ?_
            refine AL.val rfl (.inl rfl) (HV.mv rfl) ?_
            refine AL.val rfl (.inl rfl) (HV.mv rfl) ?_
            have y92 := hb49.lt
            have o93 := X45.bd
            have o94 := X46.bd
            have o95 := X47.bd
            have o96 := X59.bd
            have a97 := ho48.ltb
            refine AL.w rfl (.inl rfl) (WV.bsK (K := kI) (l := ([z52] : List Int)) (css := [[.int .i64 z52]]) sl25 rfl rfl (by first | rfl | (simp [Instr.fill, Value.cells, kI, kB, kU, kS, Kd.sc]; done) | (simp [Instr.fill, Value.cells, kI, kB, kU, kS, Kd.sc, rng1, rng2, rng3, rng4, kP])) rfl (segs_cons rfl segs_nil)) ?_
            rintro v98 H99 ⟨hx100, ho101⟩
            have X102 := Ext.trans X45 hx100
            have X103 := Ext.trans X46 hx100
            have X104 := Ext.trans X47 hx100
            have X105 := Ext.trans X59 hx100
            have ho106 := ho48.ext hx100
            have hb107 := hb49.ext hx100
            have X109 := Ext.refl H99
            refine AL.w rfl (.inl rfl) (WV.apk sl25 rfl rfl ho106 ho101.rd (by simp; omega) (by simp; omega) (fun b hb _ e => Nat.lt_irrefl _ (Nat.lt_of_lt_of_le (a97 b e) hb))) ?_
            rintro v110 H111 ⟨hx112, ho113, hb114⟩
            have ho115 := ho113.narrow (ok' := fun b => H10.bd ≤ b) kI_flat (fun b q => (hb114 b q).elim (fun e => (ho106.blk b e).1) (fun e => Nat.le_trans X104.bd e))
            have X116 := Ext.thru X102 hx112 (fun b hb => Nat.le_trans o18 (ho106.blk b hb).1)
            have X117 := Ext.thru X103 hx112 (fun b hb => Nat.le_trans o19 (ho106.blk b hb).1)
            have X118 := Ext.thru X104 hx112 (fun b hb => Nat.le_trans o20 (ho106.blk b hb).1)
            have hb122 := hb107.but hx112 (fun e => by have q : H10.bd ≤ _ := (ho106.blk _ e).1; omega)
            refine AL.val rfl (.inl rfl) (HV.as rfl) ?_
            refine AL.nil ?_
            refine nrm_blk (nrm_and ?_)
            refine AW.reg ?_
            refine AL.val rfl (.inl rfl) (HV.add rfl rfl (by omega)) ?_
            refine AL.val rfl (.inl rfl) (HV.mv rfl) ?_
            refine AL.nil ?_
            refine nrm_and ?_
            exact ⟨(h + 1, nx, v110, (k ++ (([z52] : List Int) : List Int))), ⟨X116, X117, X118, hb122, by omega, by rw [cls_some (n := n) (l := l) (i := h) (j := j) (by omega) (by assumption : alikeC n l j h) (fun q hq => hno q hq)]; show k ++ [_] = (cls n l h).1 ++ [(cls n l h).1.getD _ 0]; rw [← hk, gd hz54 rfl], by rw [cls_some (n := n) (l := l) (i := h) (j := j) (by omega) (by assumption : alikeC n l j h) (fun q hq => hno q hq)]; show nx = (cls n l h).2; exact hnx, ho115, trivial⟩, by first | omega | (dsimp only; omega), ⟨rfl, rfl, rfl, rfl, rfl, rfl, rfl, trivial⟩⟩
        · -- else
          refine AW.skip ?_
          refine nrm_blk (nrm_and ?_)
          refine AW.reg ?_
          refine AL.val rfl (.inl rfl) (HV.add rfl rfl (by omega)) ?_
          refine AL.val rfl (.inl rfl) (HV.mv rfl) ?_
          refine AL.nil ?_
          refine nrm_and ?_
          exact ⟨j + 1, ⟨X45, X46, X47, hb49, ho48, by omega, fun q hq => (Nat.lt_or_ge q j).elim (fun h1 => hno q h1) (fun h1 => by obtain rfl : q = j := (by omega); exact c50), trivial⟩, by first | omega | (dsimp only; omega), ⟨rfl, rfl, rfl, rfl, rfl, rfl, rfl, rfl, rfl, rfl, rfl, rfl, rfl, rfl, trivial⟩⟩
      · -- else
        refine AW.exit ?_
        refine ex_and (ex_and (ex_blk ?_))
        refine nrm_and ?_
        refine AW.seq ?_
        refine AW.rs ?_
        refine AL.val rfl (.inl rfl) (HV.mv rfl) ?_
        refine AL.val rfl (.inl rfl) (HV.mv rfl) ?_
        refine AL.val rfl (.inl rfl) (HV.eqi rfl rfl) ?_
        refine AL.nx ?_
        refine AW.ifd rfl (fun c123 => ?_) (fun c123 => ?_)
        · -- then
          refine AW.reg ?_
          refine AL.val rfl (.inl rfl) (HV.mv rfl) ?_
          refine AL.val rfl (.inl rfl) (HV.add rfl rfl (by omega)) ?_
          refine AL.val rfl (.inl rfl) (HV.as rfl) ?_
          refine AL.nil ?_
          refine nrm_and ?_
          refine AW.reg ?_
          refine AL.val rfl (.inl rfl) (HV.mv rfl) ?_
          refine AL.val rfl (.inl rfl) (HV.mv rfl) ?_
          have X124 := Ext.refl H36
          have y125 := hb40.lt
          have o126 := X37.bd
          have o127 := X38.bd
          have o128 := X39.bd
          have o129 := X124.bd
          have a130 := ho41.ltb
          refine AL.w rfl (.inl rfl) (WV.bsK (K := kI) (l := ([nx] : List Int)) (css := [[.int .i64 nx]]) sl25 rfl rfl (by first | rfl | (simp [Instr.fill, Value.cells, kI, kB, kU, kS, Kd.sc]; done) | (simp [Instr.fill, Value.cells, kI, kB, kU, kS, Kd.sc, rng1, rng2, rng3, rng4, kP])) rfl (segs_cons rfl segs_nil)) ?_
          rintro v131 H132 ⟨hx133, ho134⟩
          have X135 := Ext.trans X37 hx133
          have X136 := Ext.trans X38 hx133
          have X137 := Ext.trans X39 hx133
          have X138 := Ext.trans X124 hx133
          have ho139 := ho41.ext hx133
          have hb140 := hb40.ext hx133
          have X142 := Ext.refl H132
          refine AL.w rfl (.inl rfl) (WV.apk sl25 rfl rfl ho139 ho134.rd (by simp; omega) (by simp; omega) (fun b hb _ e => Nat.lt_irrefl _ (Nat.lt_of_lt_of_le (a130 b e) hb))) ?_
          rintro v143 H144 ⟨hx145, ho146, hb147⟩
          have ho148 := ho146.narrow (ok' := fun b => H10.bd ≤ b) kI_flat (fun b q => (hb147 b q).elim (fun e => (ho139.blk b e).1) (fun e => Nat.le_trans X137.bd e))
          have X149 := Ext.thru X135 hx145 (fun b hb => Nat.le_trans o18 (ho139.blk b hb).1)
          have X150 := Ext.thru X136 hx145 (fun b hb => Nat.le_trans o19 (ho139.blk b hb).1)
          have X151 := Ext.thru X137 hx145 (fun b hb => Nat.le_trans o20 (ho139.blk b hb).1)
          have hb155 := hb140.but hx145 (fun e => by have q : H10.bd ≤ _ := (ho139.blk _ e).1; omega)
          refine AL.val rfl (.inl rfl) (HV.as rfl) ?_
          refine AL.nil ?_
          refine nrm_blk (nrm_and ?_)
          refine AW.reg ?_
          refine AL.val rfl (.inl rfl) (HV.add rfl rfl (by omega)) ?_
          refine AL.val rfl (.inl rfl) (HV.mv rfl) ?_
          refine AL.nil ?_
          refine nrm_and ?_
          exact ⟨(h + 1, nx + 1, v143, (k ++ (([nx] : List Int) : List Int))), ⟨X149, X150, X151, hb155, by omega, by rw [cls_none (n := n) (l := l) (i := h) (fun q hq => hno q (by omega))]; show k ++ [nx] = (cls n l h).1 ++ [(cls n l h).2]; rw [← hk, ← hnx], by rw [cls_none (n := n) (l := l) (i := h) (fun q hq => hno q (by omega))]; show nx + 1 = (cls n l h).2 + 1; rw [← hnx], ho148, trivial⟩, by first | omega | (dsimp only; omega), ⟨rfl, rfl, rfl, rfl, rfl, rfl, rfl, trivial⟩⟩
        · -- else
          refine AW.skip ?_
          refine nrm_and ?_
          refine AW.reg ?_
          refine AL.val rfl (.inl rfl) (HV.mv rfl) ?_
          refine AL.val rfl (.inl rfl) (HV.mv rfl) ?_
          have X156 := Ext.refl H36
          have y157 := hb40.lt
          have o158 := X37.bd
          have o159 := X38.bd
          have o160 := X39.bd
          have o161 := X156.bd
          have a162 := ho41.ltb
          refine AL.w rfl (.inl rfl) (WV.bsK (K := kI) (l := ([nx] : List Int)) (css := [[.int .i64 nx]]) sl25 rfl rfl (by first | rfl | (simp [Instr.fill, Value.cells, kI, kB, kU, kS, Kd.sc]; done) | (simp [Instr.fill, Value.cells, kI, kB, kU, kS, Kd.sc, rng1, rng2, rng3, rng4, kP])) rfl (segs_cons rfl segs_nil)) ?_
          rintro v163 H164 ⟨hx165, ho166⟩
          have X167 := Ext.trans X37 hx165
          have X168 := Ext.trans X38 hx165
          have X169 := Ext.trans X39 hx165
          have X170 := Ext.trans X156 hx165
          have ho171 := ho41.ext hx165
          have hb172 := hb40.ext hx165
          have X174 := Ext.refl H164
          refine AL.w rfl (.inl rfl) (WV.apk sl25 rfl rfl ho171 ho166.rd (by simp; omega) (by simp; omega) (fun b hb _ e => Nat.lt_irrefl _ (Nat.lt_of_lt_of_le (a162 b e) hb))) ?_
          rintro v175 H176 ⟨hx177, ho178, hb179⟩
          have ho180 := ho178.narrow (ok' := fun b => H10.bd ≤ b) kI_flat (fun b q => (hb179 b q).elim (fun e => (ho171.blk b e).1) (fun e => Nat.le_trans X169.bd e))
          have X181 := Ext.thru X167 hx177 (fun b hb => Nat.le_trans o18 (ho171.blk b hb).1)
          have X182 := Ext.thru X168 hx177 (fun b hb => Nat.le_trans o19 (ho171.blk b hb).1)
          have X183 := Ext.thru X169 hx177 (fun b hb => Nat.le_trans o20 (ho171.blk b hb).1)
          have hb187 := hb172.but hx177 (fun e => by have q : H10.bd ≤ _ := (ho171.blk _ e).1; omega)
          refine AL.val rfl (.inl rfl) (HV.as rfl) ?_
          refine AL.nil ?_
          refine nrm_blk (nrm_and ?_)
          refine AW.reg ?_
          refine AL.val rfl (.inl rfl) (HV.add rfl rfl (by omega)) ?_
          refine AL.val rfl (.inl rfl) (HV.mv rfl) ?_
          refine AL.nil ?_
          refine nrm_and ?_
          exact ⟨(h + 1, nx, v175, (k ++ (([nx] : List Int) : List Int))), ⟨X181, X182, X183, hb187, by omega, by exfalso; exact absurd rfl c123, by exfalso; exact absurd rfl c123, ho180, trivial⟩, by first | omega | (dsimp only; omega), ⟨rfl, rfl, rfl, rfl, rfl, rfl, rfl, trivial⟩⟩
    · -- else
      refine AW.exit ?_
      refine ex_and (ex_and (ex_blk ?_))
      refine nrm_and ?_
      refine AW.rs ?_
      refine AL.val rfl (.inl rfl) (HV.mv rfl) ?_
      refine AL.val rfl (.inl rfl) (HV.as rfl) ?_
      refine AL.val rfl (.inl rfl) (HV.as rfl) ?_
      refine AL.nx ?_
      refine AW.ret ?_
      refine post_two rfl rfl rfl ?_ (.inr rfl)
      exact ⟨⟨_, _, by rw [if_pos hokI], by rw [if_pos hokI, hk, show h = n.toNat by omega], hoL.okk (fun b hb _ => Nat.le_trans o18 hb)⟩, X31⟩

set_option maxRecDepth 100000 in
theorem swapped_ok {v : Value} {l : List (List Int)} {ok : Nat → Prop} {n : Int} {b : Nat} (hr : RdK (kR kI) W H ok v l) (hb : At W H b ⟨42, [.int .i64 n, v], 2⟩) (a e : Nat) (hok : okC n l) (hl : l.length ≤ 1048576) (ha : (a : Int) < n) (hb2 : (e : Int) < n) (hab : a ≠ e) : ACalls Try.prog W 73 #[.pointer (some ⟨b, 0, none⟩), .int .i64 (a : Int), .int .i64 (e : Int)] H (fun r H' => r = .bool (decide (alikeC n l a e)) ∧ Ext H H') := by
  refine ACalls.of (args := [.pointer (some ⟨b, 0, none⟩), .int .i64 (a : Int), .int .i64 (e : Int)]) Try.func73 rfl rfl ?_
  have X0 := Ext.refl H
  have hn := hok.1
  have hmL := hr.max
  refine AW.rs ?_
  refine AL.val rfl (.inl rfl) (HV.as rfl) ?_
  refine AL.nx ?_
  refine AW.rs ?_
  have y1 := hb.lt
  have o2 := X0.bd
  refine AL.w rfl (.inl rfl) (WV.bsK (K := kI) (l := ([] : List Int)) (css := []) sl25 rfl rfl (by first | rfl | (simp [Instr.fill, Value.cells, kI, kB, kU, kS, Kd.sc]; done) | (simp [Instr.fill, Value.cells, kI, kB, kU, kS, Kd.sc, rng1, rng2, rng3, rng4, kP])) rfl segs_nil) ?_
  rintro v3 H4 ⟨hx5, ho6⟩
  have X7 := Ext.trans X0 hx5
  have hb8 := hb.ext hx5
  refine AL.val rfl (.inl rfl) (HV.as rfl) ?_
  refine AL.nx ?_
  refine AW.seq ?_
  refine AW.rs ?_
  refine AL.val rfl (.inl rfl) (HV.as rfl) ?_
  refine AL.nx ?_
  refine AW.block ?_
  refine AW.loop (σ := Nat × Value × List Int) (fun ⟨i, vv, k⟩ => [(0, .pointer (some ⟨b, 0, none⟩)), (1, .int .i64 (a : Int)), (2, .int .i64 (e : Int)), (6, .bool false), (7, vv), (8, .int .i64 (i : Int))]) (fun ⟨i, vv, k⟩ H' => Ext H H' ∧ At W H' b ⟨42, [.int .i64 n, v], 2⟩ ∧ i ≤ n.toNat ∧ k = swL i a e ∧ OwnK kI 2 W H' (fun b => H.bd ≤ b) vv k ∧ True) (fun ⟨i, vv, k⟩ => n.toNat - i) (0, v3, []) ⟨X7, hb8, Nat.zero_le _, rfl, ho6, trivial⟩ ⟨rfl, rfl, rfl, rfl, rfl, rfl, trivial⟩ ?_
  rintro ⟨i, vv, k⟩ H10 ⟨X11, hb12, hi, hk, hoL, _⟩
  have hkl : k.length = i := by rw [hk]; exact swL_len i a e
  refine AW.seq ?_
  refine AW.rs ?_
  refine AL.val rfl (.inl rfl) (HV.mv rfl) ?_
  refine AL.val rfl (.inl rfl) (HV.mv rfl) ?_
  refine AL.val rfl (.inl rfl) (HV.nc rfl) ?_
  refine AL.val rfl (.inl rfl) (HV.fa fl42_0 rfl) ?_
  refine AL.val rfl (.inl rfl) (HV.ld rfl va2 (at_cell hb12 rfl)) ?_
  refine AL.val rfl (.inl rfl) (HV.lti rfl rfl) ?_
  refine AL.nx ?_
  refine AW.ifd rfl (fun c13 => ?_) (fun c13 => ?_)
  · -- then
    refine AW.skip ?_
    refine nrm_and ?_
    refine AW.seq ?_
    refine AW.block ?_
    refine AW.rs ?_
    refine AL.val rfl (.inl rfl) (HV.mv rfl) ?_
    refine AL.nx ?_
    refine AW.block ?_
    refine AW.rs ?_
    refine AL.val rfl (.inl rfl) (HV.mv rfl) ?_
    refine AL.val rfl (.inl rfl) (HV.eqi rfl rfl) ?_
    refine AL.val rfl (.inl rfl) (HV.as rfl) ?_
    refine AL.nx ?_
    refine AW.ifd rfl (fun c14 => ?_) (fun c14 => ?_)
    · -- then
      refine AW.reg ?_
      refine AL.val rfl (.inl rfl) (HV.mv rfl) ?_
      refine AL.val rfl (.inl rfl) (HV.mv rfl) ?_
      have X15 := Ext.refl H10
      have y16 := hb12.lt
      have o17 := X11.bd
      have o18 := X15.bd
      have a19 := hoL.ltb
      refine AL.w rfl (.inl rfl) (WV.bsK (K := kI) (l := ([(e : Int)] : List Int)) (css := [[.int .i64 (e : Int)]]) sl25 rfl rfl (by first | rfl | (simp [Instr.fill, Value.cells, kI, kB, kU, kS, Kd.sc]; done) | (simp [Instr.fill, Value.cells, kI, kB, kU, kS, Kd.sc, rng1, rng2, rng3, rng4, kP])) rfl (segs_cons rfl segs_nil)) ?_
      rintro v20 H21 ⟨hx22, ho23⟩
      have X24 := Ext.trans X11 hx22
      have X25 := Ext.trans X15 hx22
      have ho26 := hoL.ext hx22
      have hb27 := hb12.ext hx22
      have X29 := Ext.refl H21
      refine AL.w rfl (.inl rfl) (WV.apk sl25 rfl rfl ho26 ho23.rd (by simp; omega) (by simp; omega) (fun b hb _ e => Nat.lt_irrefl _ (Nat.lt_of_lt_of_le (a19 b e) hb))) ?_
      rintro v30 H31 ⟨hx32, ho33, hb34⟩
      have ho35 := ho33.narrow (ok' := fun b => H.bd ≤ b) kI_flat (fun b q => (hb34 b q).elim (fun e => (ho26.blk b e).1) (fun e => Nat.le_trans X24.bd e))
      have X36 := Ext.thru X24 hx32 (fun b hb => Nat.le_trans o2 (ho26.blk b hb).1)
      have hb40 := hb27.but hx32 (fun e => by have q : H.bd ≤ _ := (ho26.blk _ e).1; omega)
      refine AL.val rfl (.inl rfl) (HV.as rfl) ?_
      refine AL.nil ?_
      refine nrm_blk (nrm_blk (nrm_and ?_))
      refine AW.reg ?_
      refine AL.val rfl (.inl rfl) (HV.mv rfl) ?_
      refine AL.val rfl (.inl rfl) (HV.add rfl rfl (by omega)) ?_
      refine AL.val rfl (.inl rfl) (HV.as rfl) ?_
      refine AL.nil ?_
      refine nrm_and ?_
      exact ⟨(i + 1, v30, (k ++ (([(e : Int)] : List Int) : List Int))), ⟨X36, hb40, by omega, by rw [swL_succ, ← hk]; congr 2; unfold sw; first | rw [if_pos (by omega)] | rw [if_neg (by omega), if_pos (by omega)] | rw [if_neg (by omega), if_neg (by omega)], ho35, trivial⟩, by first | omega | (dsimp only; omega), ⟨rfl, rfl, rfl, rfl, rfl, rfl, trivial⟩⟩
    · -- else
      refine AW.rs ?_
      refine AL.val rfl (.inl rfl) (HV.mv rfl) ?_
      refine AL.val rfl (.inl rfl) (HV.eqi rfl rfl) ?_
      refine AL.val rfl (.inl rfl) (HV.as rfl) ?_
      refine AL.nx ?_
      refine AW.ifd rfl (fun c41 => ?_) (fun c41 => ?_)
      · -- then
        refine AW.reg ?_
        refine AL.val rfl (.inl rfl) (HV.mv rfl) ?_
        refine AL.val rfl (.inl rfl) (HV.mv rfl) ?_
        have X42 := Ext.refl H10
        have y43 := hb12.lt
        have o44 := X11.bd
        have o45 := X42.bd
        have a46 := hoL.ltb
        refine AL.w rfl (.inl rfl) (WV.bsK (K := kI) (l := ([(a : Int)] : List Int)) (css := [[.int .i64 (a : Int)]]) sl25 rfl rfl (by first | rfl | (simp [Instr.fill, Value.cells, kI, kB, kU, kS, Kd.sc]; done) | (simp [Instr.fill, Value.cells, kI, kB, kU, kS, Kd.sc, rng1, rng2, rng3, rng4, kP])) rfl (segs_cons rfl segs_nil)) ?_
        rintro v47 H48 ⟨hx49, ho50⟩
        have X51 := Ext.trans X11 hx49
        have X52 := Ext.trans X42 hx49
        have ho53 := hoL.ext hx49
        have hb54 := hb12.ext hx49
        have X56 := Ext.refl H48
        refine AL.w rfl (.inl rfl) (WV.apk sl25 rfl rfl ho53 ho50.rd (by simp; omega) (by simp; omega) (fun b hb _ e => Nat.lt_irrefl _ (Nat.lt_of_lt_of_le (a46 b e) hb))) ?_
        rintro v57 H58 ⟨hx59, ho60, hb61⟩
        have ho62 := ho60.narrow (ok' := fun b => H.bd ≤ b) kI_flat (fun b q => (hb61 b q).elim (fun e => (ho53.blk b e).1) (fun e => Nat.le_trans X51.bd e))
        have X63 := Ext.thru X51 hx59 (fun b hb => Nat.le_trans o2 (ho53.blk b hb).1)
        have hb67 := hb54.but hx59 (fun e => by have q : H.bd ≤ _ := (ho53.blk _ e).1; omega)
        refine AL.val rfl (.inl rfl) (HV.as rfl) ?_
        refine AL.nil ?_
        refine nrm_blk (nrm_blk (nrm_and ?_))
        refine AW.reg ?_
        refine AL.val rfl (.inl rfl) (HV.mv rfl) ?_
        refine AL.val rfl (.inl rfl) (HV.add rfl rfl (by omega)) ?_
        refine AL.val rfl (.inl rfl) (HV.as rfl) ?_
        refine AL.nil ?_
        refine nrm_and ?_
        exact ⟨(i + 1, v57, (k ++ (([(a : Int)] : List Int) : List Int))), ⟨X63, hb67, by omega, by rw [swL_succ, ← hk]; congr 2; unfold sw; first | rw [if_pos (by omega)] | rw [if_neg (by omega), if_pos (by omega)] | rw [if_neg (by omega), if_neg (by omega)], ho62, trivial⟩, by first | omega | (dsimp only; omega), ⟨rfl, rfl, rfl, rfl, rfl, rfl, trivial⟩⟩
      · -- else
        refine AW.reg ?_
        refine AL.val rfl (.inl rfl) (HV.mv rfl) ?_
        refine AL.val rfl (.inl rfl) (HV.mv rfl) ?_
        have X68 := Ext.refl H10
        have y69 := hb12.lt
        have o70 := X11.bd
        have o71 := X68.bd
        have a72 := hoL.ltb
        refine AL.w rfl (.inl rfl) (WV.bsK (K := kI) (l := ([(i : Int)] : List Int)) (css := [[.int .i64 (i : Int)]]) sl25 rfl rfl (by first | rfl | (simp [Instr.fill, Value.cells, kI, kB, kU, kS, Kd.sc]; done) | (simp [Instr.fill, Value.cells, kI, kB, kU, kS, Kd.sc, rng1, rng2, rng3, rng4, kP])) rfl (segs_cons rfl segs_nil)) ?_
        rintro v73 H74 ⟨hx75, ho76⟩
        have X77 := Ext.trans X11 hx75
        have X78 := Ext.trans X68 hx75
        have ho79 := hoL.ext hx75
        have hb80 := hb12.ext hx75
        have X82 := Ext.refl H74
        refine AL.w rfl (.inl rfl) (WV.apk sl25 rfl rfl ho79 ho76.rd (by simp; omega) (by simp; omega) (fun b hb _ e => Nat.lt_irrefl _ (Nat.lt_of_lt_of_le (a72 b e) hb))) ?_
        rintro v83 H84 ⟨hx85, ho86, hb87⟩
        have ho88 := ho86.narrow (ok' := fun b => H.bd ≤ b) kI_flat (fun b q => (hb87 b q).elim (fun e => (ho79.blk b e).1) (fun e => Nat.le_trans X77.bd e))
        have X89 := Ext.thru X77 hx85 (fun b hb => Nat.le_trans o2 (ho79.blk b hb).1)
        have hb93 := hb80.but hx85 (fun e => by have q : H.bd ≤ _ := (ho79.blk _ e).1; omega)
        refine AL.val rfl (.inl rfl) (HV.as rfl) ?_
        refine AL.nil ?_
        refine nrm_blk (nrm_blk (nrm_and ?_))
        refine AW.reg ?_
        refine AL.val rfl (.inl rfl) (HV.mv rfl) ?_
        refine AL.val rfl (.inl rfl) (HV.add rfl rfl (by omega)) ?_
        refine AL.val rfl (.inl rfl) (HV.as rfl) ?_
        refine AL.nil ?_
        refine nrm_and ?_
        exact ⟨(i + 1, v83, (k ++ (([(i : Int)] : List Int) : List Int))), ⟨X89, hb93, by omega, by rw [swL_succ, ← hk]; congr 2; unfold sw; first | rw [if_pos (by omega)] | rw [if_neg (by omega), if_pos (by omega)] | rw [if_neg (by omega), if_neg (by omega)], ho88, trivial⟩, by first | omega | (dsimp only; omega), ⟨rfl, rfl, rfl, rfl, rfl, rfl, trivial⟩⟩
  · -- else
    refine AW.exit ?_
    refine ex_and (ex_and (ex_blk ?_))
    refine nrm_and ?_
    refine AW.seq ?_
    refine AW.draw' [0, 1, 3, 0, 0, 24, 63, 127] mixed (by rfl) ?_
    refine Dr.read 0 _ 37 _ rfl rfl rfl rfl rfl (RV.of (by intro _ _ h; cases h) (.inl rfl) (fun _ xd => HV.mv rfl)) ?_
    refine Dr.read 1 _ 38 _ rfl rfl rfl rfl rfl (RV.of (by intro _ _ h; cases h) (.inl rfl) (fun _ xd => HV.nc rfl)) ?_
    refine Dr.read 2 _ 39 _ rfl rfl rfl rfl rfl (RV.of (by intro _ _ h; cases h) (.inl rfl) (fun _ xd => HV.lda (cs := [.int .i64 n, v]) rfl va42 (fun j u hu => rdc_ext xd ((at_cells hb12 rfl) j u hu)))) ?_
    refine Dr.read 3 _ 40 _ rfl rfl rfl rfl rfl (RV.of (by intro _ _ h; cases h) (.inl rfl) (fun _ xd => HV.mv rfl)) ?_
    refine Dr.read 4 _ 41 _ rfl rfl rfl rfl rfl (RV.of (by intro _ _ h; cases h) (.inl rfl) (fun _ xd => HV.mv rfl)) ?_
    refine Dr.eff 5 _ _ rfl (by intro d h; cases h; exact ⟨rfl, rfl⟩) rfl rfl rfl (EC.of (by intro _ _ h; cases h) (.inl rfl) (WV.call fn107 rfl (ren_ok (hr.ext X11) hb12 hoL.rd hl (by omega)))) (fun v H' h => .inl (h.2)) ?_
    rintro _ H94 ⟨⟨vm95, m96, rfl, hs97, hr98⟩, hx99⟩
    have X100 := Ext.trans X11 hx99
    have ho101 := hoL.ext hx99
    have hb102 := hb12.ext hx99
    have X103 := Ext.refl H94
    refine Dr.eff 6 _ _ rfl (by intro d h; cases h; exact ⟨rfl, rfl⟩) rfl rfl rfl (EC.of (by intro _ _ h; cases h) (.inl rfl) (WV.call fn106 rfl (sameFam_ok (n := n) (n2 := n) (hr.ext X100) hr98))) (fun v H' h => .inl (h.2)) ?_
    rintro _ H104 ⟨rfl, hx105⟩
    have X106 := Ext.trans X100 hx105
    have X107 := Ext.trans X103 hx105
    have ho108 := ho101.ext hx105
    have hb109 := hb102.ext hx105
    refine Dr.read 7 _ 6 _ rfl rfl rfl rfl rfl (RV.of (by intro _ _ h; cases h) (.inl rfl) (fun _ xd => HV.as rfl)) ?_
    refine Dr.fin rfl ?_
    refine nrm_and ?_
    refine AW.ret ?_
    refine post_one rfl rfl ?_ (.inr rfl)
    exact ⟨congrArg Value.bool (decide_eq_decide.2 (by have e9 : k = swL n.toNat a e := (by rw [hk, show i = n.toNat by omega]); have hm := hs97; rw [e9] at hm; rw [← alike_iff hok (by omega) (by omega) hab hm]; exact ⟨fun h => h.2, fun h => ⟨rfl, h⟩⟩)), X106⟩

set_option maxRecDepth 100000 in
theorem specAl_ok {v : Value} {l : List (List Int)} {ok : Nat → Prop} (n : Int) (hr : RdK (kR kI) W H ok v l) (hl : l.length ≤ 1048576) : ACalls Try.prog W 35 #[.agg #[.int .i64 n, v]] H (fun r H' => (∃ v k, r = .tuple #[v, .int .i64 (if okI n l then 0 else 1)] ∧ k = (if okI n l then (cls n l n.toNat).1 else []) ∧ OwnK kI 2 W H' (fun b => H.bd ≤ b) v k) ∧ Ext H H') := by
  refine ACalls.of (args := [.agg #[.int .i64 n, v]]) Try.func35 rfl rfl ?_
  have X0 := Ext.refl H
  have hm1 := hr.max
  refine AW.rs ?_
  refine AL.w rfl (.inl rfl) (WV.bx rfl rfl) ?_
  rintro _ H3 ⟨b2, rfl, hx4, hn5, hb6⟩
  have o7 := Nat.le_trans X0.bd hn5
  have X8 := Ext.trans X0 hx4
  have X9 := Ext.refl H3
  refine AL.val rfl (.inl rfl) (HV.as rfl) ?_
  refine AL.val rfl (.inl rfl) (HV.as rfl) ?_
  refine AL.nx ?_
  refine AW.seq ?_
  refine AW.rs ?_
  refine AL.w rfl (.inl rfl) (WV.call fn60 rfl (l01Ok_ok (hr.ext X8) hb6)) ?_
  rintro _ H10 ⟨rfl, hx11⟩
  have X12 := Ext.trans X8 hx11
  have X13 := Ext.trans X9 hx11
  have hb14 := hb6.ext hx11
  refine AL.val rfl (.inl rfl) (HV.not rfl) ?_
  refine AL.nx ?_
  refine AW.ifn rfl (fun c15 => ?_) (fun c15 => ?_)
  · -- then
    refine AW.rs ?_
    have X16 := Ext.refl H10
    have y17 := hb14.lt
    have o18 := X12.bd
    have o19 := X13.bd
    have o20 := X16.bd
    refine AL.w rfl (.inl rfl) (WV.bsK (K := kI) (l := ([] : List Int)) (css := []) sl25 rfl rfl (by first | rfl | (simp [Instr.fill, Value.cells, kI, kB, kU, kS, Kd.sc]; done) | (simp [Instr.fill, Value.cells, kI, kB, kU, kS, Kd.sc, rng1, rng2, rng3, rng4, kP])) rfl segs_nil) ?_
    rintro v21 H22 ⟨hx23, ho24⟩
    have X25 := Ext.trans X12 hx23
    have X26 := Ext.trans X13 hx23
    have X27 := Ext.trans X16 hx23
    have hb28 := hb14.ext hx23
    refine AL.val rfl (.inl rfl) (HV.as rfl) ?_
    refine AL.val rfl (.inl rfl) (HV.as rfl) ?_
    refine AL.nx ?_
    refine AW.ret ?_
    refine ret_and ?_
    refine post_two rfl rfl rfl ?_ (.inr rfl)
    have hno : ¬ okI n l := (c15); exact ⟨⟨_, [], by rw [if_neg hno], by rw [if_neg hno], ho24.okk (fun b hb _ => Nat.le_trans o18 hb)⟩, X25⟩
  · -- else
    refine AW.skip ?_
    refine nrm_and ?_
    refine AW.rs ?_
    have X30 := Ext.refl H10
    have y31 := hb14.lt
    have o32 := X12.bd
    have o33 := X13.bd
    have o34 := X30.bd
    refine AL.w rfl (.inl rfl) (WV.bsK (K := kI) (l := ([] : List Int)) (css := []) sl25 rfl rfl (by first | rfl | (simp [Instr.fill, Value.cells, kI, kB, kU, kS, Kd.sc]; done) | (simp [Instr.fill, Value.cells, kI, kB, kU, kS, Kd.sc, rng1, rng2, rng3, rng4, kP])) rfl segs_nil) ?_
    rintro v35 H36 ⟨hx37, ho38⟩
    have X39 := Ext.trans X12 hx37
    have X40 := Ext.trans X13 hx37
    have X41 := Ext.trans X30 hx37
    have hb42 := hb14.ext hx37
    refine AL.val rfl (.inl rfl) (HV.as rfl) ?_
    refine AL.nx ?_
    refine AW.rs ?_
    refine AL.val rfl (.inl rfl) (HV.as rfl) ?_
    refine AL.nx ?_
    refine AW.seq ?_
    refine AW.rs ?_
    refine AL.val rfl (.inl rfl) (HV.as rfl) ?_
    refine AL.nx ?_
    refine AW.block ?_
    have hokI : okI n l := (by assumption)
    have hok := (ok_iff n l).1 hokI
    have hn := hok.1
    refine AW.loop (σ := Nat × Int × Value × List Int) (fun ⟨h, nx, vv, k⟩ => [(1, .pointer (some ⟨b2, 0, none⟩)), (2, (.slice none 0 0)), (3, .int .i64 0), (4, vv), (5, .int .i64 nx), (6, .int .i64 (h : Int))]) (fun ⟨h, nx, vv, k⟩ H' => Ext H H' ∧ Ext H3 H' ∧ Ext H10 H' ∧ At W H' b2 ⟨42, [.int .i64 n, v], 2⟩ ∧ h ≤ n.toNat ∧ k = (cls n l h).1 ∧ nx = (cls n l h).2 ∧ OwnK kI 2 W H' (fun b => H10.bd ≤ b) vv k ∧ True) (fun ⟨h, nx, vv, k⟩ => n.toNat - h) (0, 0, v35, []) ⟨X39, X40, X41, hb42, Nat.zero_le _, rfl, rfl, ho38, trivial⟩ ⟨rfl, rfl, rfl, rfl, rfl, rfl, trivial⟩ ?_
    rintro ⟨h, nx, vv, k⟩ H44 ⟨X45, X46, X47, hb48, hh, hk, hnx, hoL, _⟩
    have hkl : k.length = h := by rw [hk]; exact cls_len n l h
    have hin := cls_in n l h
    have hin1 := hin.1.1
    have hin2 := hin.1.2
    rw [← hnx] at hin1 hin2
    refine AW.seq ?_
    refine AW.rs ?_
    refine AL.val rfl (.inl rfl) (HV.mv rfl) ?_
    refine AL.val rfl (.inl rfl) (HV.fa fl42_0 rfl) ?_
    refine AL.val rfl (.inl rfl) (HV.ld rfl va2 (at_cell hb48 rfl)) ?_
    refine AL.val rfl (.inl rfl) (HV.lti rfl rfl) ?_
    refine AL.nx ?_
    refine AW.ifd rfl (fun c49 => ?_) (fun c49 => ?_)
    · -- then
      refine AW.skip ?_
      refine nrm_and ?_
      refine AW.seq ?_
      refine AW.block ?_
      refine AW.rs ?_
      refine AL.val rfl (.inl rfl) (HV.as rfl) ?_
      refine AL.nx ?_
      refine AW.seq ?_
      refine AW.rs ?_
      refine AL.val rfl (.inl rfl) (HV.as rfl) ?_
      refine AL.nx ?_
      refine AW.block ?_
      refine AW.loop (σ := Nat × Int) (fun ⟨j, own⟩ => [(1, .pointer (some ⟨b2, 0, none⟩)), (2, (.slice none 0 0)), (3, .int .i64 0), (4, vv), (5, .int .i64 nx), (6, .int .i64 (h : Int)), (13, .int .i64 (h : Int)), (14, .pointer (some ⟨b2, 0, none⟩)), (15, .int .i64 n), (16, .bool (decide ((h : Int) < n))), (7, .int .i64 own), (8, .int .i64 (j : Int))]) (fun ⟨j, own⟩ H' => Ext H H' ∧ Ext H3 H' ∧ Ext H10 H' ∧ At W H' b2 ⟨42, [.int .i64 n, v], 2⟩ ∧ OwnK kI 2 W H' (fun b => H10.bd ≤ b) vv k ∧ j ≤ h ∧ ((own = -1 ∧ ∀ q, q < j → ¬ alikeC n l q h) ∨ (∃ q, q < h ∧ alikeC n l q h ∧ (∀ t, t < q → ¬ alikeC n l t h) ∧ own = k.getD q 0 ∧ 0 ≤ own)) ∧ True) (fun ⟨j, own⟩ => h - j) (0, (-1)) ⟨X45, X46, X47, hb48, hoL, Nat.zero_le _, .inl ⟨rfl, fun j hj => absurd hj (Nat.not_lt_zero _)⟩, trivial⟩ ⟨rfl, rfl, rfl, rfl, rfl, rfl, rfl, rfl, rfl, rfl, rfl, rfl, trivial⟩ ?_
      rintro ⟨j, own⟩ H50 ⟨X51, X52, X53, hb54, ho55, hj, hown, _⟩
      refine AW.seq ?_
      refine AW.rs ?_
      refine AL.val rfl (.inl rfl) (HV.mv rfl) ?_
      refine AL.val rfl (.inl rfl) (HV.mv rfl) ?_
      refine AL.val rfl (.inl rfl) (HV.lti rfl rfl) ?_
      refine AL.val rfl (.inl rfl) (HV.mv rfl) ?_
      by_cases c56 : (j : Int) < (h : Int)
      · -- true
        have c56_ : decide ((j : Int) < (h : Int)) = true := decide_eq_true c56
        rw [c56_]
        refine AL.val rfl (.inr ⟨_, _, _, rfl, rfl, rfl⟩) (HV.mv rfl) ?_
        refine AL.val rfl (.inr ⟨_, _, _, rfl, rfl, rfl⟩) (HV.lti rfl rfl) ?_
        refine AL.val rfl (.inl rfl) (HV.pickT rfl rfl) ?_
        refine AL.nx ?_
        refine AW.ifd rfl (fun c57 => ?_) (fun c57 => ?_)
        · -- then
          refine AW.skip ?_
          refine nrm_and ?_
          refine AW.seq ?_
          refine AW.block ?_
          refine AW.rs ?_
          refine AL.val rfl (.inl rfl) (HV.mv rfl) ?_
          refine AL.val rfl (.inl rfl) (HV.mv rfl) ?_
          refine AL.w rfl (.inl rfl) (WV.call fn73 rfl (swapped_ok (hr.ext X51) hb54 h j hok hl (by omega) (by omega) (by omega))) ?_
          rintro _ H58 ⟨rfl, hx59⟩
          have X60 := Ext.trans X51 hx59
          have X61 := Ext.trans X52 hx59
          have X62 := Ext.trans X53 hx59
          have ho63 := ho55.ext hx59
          have hb64 := hb54.ext hx59
          refine AL.nx ?_
          refine AW.ifd rfl (fun c65 => ?_) (fun c65 => ?_)
          · -- then
            refine AW.reg ?_
            refine AL.val rfl (.inl rfl) (HV.mv rfl) ?_
            refine AL.val rfl (.inl rfl) (HV.mv rfl) ?_
            obtain ⟨g66, z67, cs68, hz69, hK70, hC71, hg72, hP73⟩ := OwnK.ix (q := (j : Int)) ho63 sl25 (by omega) (by omega)
            have X74 := Ext.refl H58
            obtain rfl : cs68 = [.int .i64 z67] := hK70
            refine AL.val rfl (.inl rfl) (hP73 rfl rfl) ?_
            refine AL.val rfl (.inl rfl) (HV.ld rfl va2 (cells_first hC71 rfl)) ?_
            refine AL.val rfl (.inl rfl) (HV.as rfl) ?_
            refine AL.nil ?_
            refine nrm_blk (nrm_and ?_)
            refine AW.reg ?_
            refine AL.val rfl (.inl rfl) (HV.mv rfl) ?_
            refine AL.val rfl (.inl rfl) (HV.add rfl rfl (by omega)) ?_
            refine AL.val rfl (.inl rfl) (HV.as rfl) ?_
            refine AL.nil ?_
            refine nrm_and ?_
            exact ⟨(j + 1, z67), ⟨X60, X61, X62, hb64, ho63, by omega, .inr ⟨j, by omega, alike_comm.1 c65, (hown.elim (fun e => e.2) (fun ⟨q, _, _, _, e, e2⟩ => by omega)), (gd hz69 rfl).symm, by have q := (cls_in n l h).2 j (by omega); rw [← hk, gd hz69 rfl] at q; exact q.1⟩, trivial⟩, by first | omega | (dsimp only; omega), ⟨rfl, rfl, rfl, rfl, rfl, rfl, rfl, rfl, rfl, rfl, rfl, rfl, trivial⟩⟩
          · -- else
            refine AW.skip ?_
            refine nrm_blk (nrm_and ?_)
            refine AW.reg ?_
            refine AL.val rfl (.inl rfl) (HV.mv rfl) ?_
            refine AL.val rfl (.inl rfl) (HV.add rfl rfl (by omega)) ?_
            refine AL.val rfl (.inl rfl) (HV.as rfl) ?_
            refine AL.nil ?_
            refine nrm_and ?_
            exact ⟨(j + 1, own), ⟨X60, X61, X62, hb64, ho63, by omega, .inl ⟨hown.elim (fun e => e.1) (fun ⟨q, _, _, _, e, e2⟩ => by omega), fun q hq => (Nat.lt_or_ge q j).elim (fun h1 => (hown.elim (fun e => e.2) (fun ⟨q, _, _, _, e, e2⟩ => by omega)) q h1) (fun h1 => by obtain rfl : q = j := (by omega); exact fun e => c65 (alike_comm.1 e))⟩, trivial⟩, by first | omega | (dsimp only; omega), ⟨rfl, rfl, rfl, rfl, rfl, rfl, rfl, rfl, rfl, rfl, rfl, rfl, trivial⟩⟩
        · -- else
          refine AW.exit ?_
          refine ex_and (ex_and (ex_blk ?_))
          refine nrm_and ?_
          refine AW.seq ?_
          refine AW.rs ?_
          refine AL.val rfl (.inl rfl) (HV.mv rfl) ?_
          refine AL.val rfl (.inl rfl) (HV.lti rfl rfl) ?_
          refine AL.nx ?_
          refine AW.ifd rfl (fun c75 => ?_) (fun c75 => ?_)
          · -- then
            refine AW.rs ?_
            refine AL.val rfl (.inl rfl) (HV.mv rfl) ?_
            refine AL.val rfl (.inl rfl) (HV.as rfl) ?_
            refine AL.nx ?_
            refine AW.reg ?_
            refine AL.val rfl (.inl rfl) (HV.mv rfl) ?_
            refine AL.val rfl (.inl rfl) (HV.add rfl rfl (by omega)) ?_
            refine AL.val rfl (.inl rfl) (HV.as rfl) ?_
            refine AL.nil ?_
            refine nrm_and ?_
            refine AW.reg ?_
            refine AL.val rfl (.inl rfl) (HV.mv rfl) ?_
            refine AL.val rfl (.inl rfl) (HV.mv rfl) ?_
            have X76 := Ext.refl H50
            have y77 := hb54.lt
            have o78 := X51.bd
            have o79 := X52.bd
            have o80 := X53.bd
            have o81 := X76.bd
            have a82 := ho55.ltb
            refine AL.w rfl (.inl rfl) (WV.bsK (K := kI) (l := ([nx] : List Int)) (css := [[.int .i64 nx]]) sl25 rfl rfl (by first | rfl | (simp [Instr.fill, Value.cells, kI, kB, kU, kS, Kd.sc]; done) | (simp [Instr.fill, Value.cells, kI, kB, kU, kS, Kd.sc, rng1, rng2, rng3, rng4, kP])) rfl (segs_cons rfl segs_nil)) ?_
            rintro v83 H84 ⟨hx85, ho86⟩
            have X87 := Ext.trans X51 hx85
            have X88 := Ext.trans X52 hx85
            have X89 := Ext.trans X53 hx85
            have X90 := Ext.trans X76 hx85
            have ho91 := ho55.ext hx85
            have hb92 := hb54.ext hx85
            have X94 := Ext.refl H84
            refine AL.w rfl (.inl rfl) (WV.apk sl25 rfl rfl ho91 ho86.rd (by simp; omega) (by simp; omega) (fun b hb _ e => Nat.lt_irrefl _ (Nat.lt_of_lt_of_le (a82 b e) hb))) ?_
            rintro v95 H96 ⟨hx97, ho98, hb99⟩
            have ho100 := ho98.narrow (ok' := fun b => H10.bd ≤ b) kI_flat (fun b q => (hb99 b q).elim (fun e => (ho91.blk b e).1) (fun e => Nat.le_trans X89.bd e))
            have X101 := Ext.thru X87 hx97 (fun b hb => Nat.le_trans o32 (ho91.blk b hb).1)
            have X102 := Ext.thru X88 hx97 (fun b hb => Nat.le_trans o33 (ho91.blk b hb).1)
            have X103 := Ext.thru X89 hx97 (fun b hb => Nat.le_trans o34 (ho91.blk b hb).1)
            have hb107 := hb92.but hx97 (fun e => by have q : H10.bd ≤ _ := (ho91.blk _ e).1; omega)
            refine AL.val rfl (.inl rfl) (HV.as rfl) ?_
            refine AL.nil ?_
            refine nrm_blk (nrm_and ?_)
            refine AW.reg ?_
            refine AL.val rfl (.inl rfl) (HV.mv rfl) ?_
            refine AL.val rfl (.inl rfl) (HV.add rfl rfl (by omega)) ?_
            refine AL.val rfl (.inl rfl) (HV.as rfl) ?_
            refine AL.nil ?_
            refine nrm_and ?_
            exact ⟨(h + 1, nx + 1, v95, (k ++ (([nx] : List Int) : List Int))), ⟨X101, X102, X103, hb107, by omega, by rw [cls_none (n := n) (l := l) (i := h) (fun q hq => (hown.elim (fun e => e.2 q (by omega)) (fun ⟨q, _, _, _, e, e2⟩ => by omega)))]; show k ++ [nx] = (cls n l h).1 ++ [(cls n l h).2]; rw [← hk, ← hnx], by rw [cls_none (n := n) (l := l) (i := h) (fun q hq => (hown.elim (fun e => e.2 q (by omega)) (fun ⟨q, _, _, _, e, e2⟩ => by omega)))]; show nx + 1 = (cls n l h).2 + 1; rw [← hnx], ho100, trivial⟩, by first | omega | (dsimp only; omega), ⟨rfl, rfl, rfl, rfl, rfl, rfl, trivial⟩⟩
          · -- else
            refine AW.skip ?_
            refine nrm_and ?_
            refine AW.reg ?_
            refine AL.val rfl (.inl rfl) (HV.mv rfl) ?_
            refine AL.val rfl (.inl rfl) (HV.mv rfl) ?_
            have X108 := Ext.refl H50
            have y109 := hb54.lt
            have o110 := X51.bd
            have o111 := X52.bd
            have o112 := X53.bd
            have o113 := X108.bd
            have a114 := ho55.ltb
            refine AL.w rfl (.inl rfl) (WV.bsK (K := kI) (l := ([own] : List Int)) (css := [[.int .i64 own]]) sl25 rfl rfl (by first | rfl | (simp [Instr.fill, Value.cells, kI, kB, kU, kS, Kd.sc]; done) | (simp [Instr.fill, Value.cells, kI, kB, kU, kS, Kd.sc, rng1, rng2, rng3, rng4, kP])) rfl (segs_cons rfl segs_nil)) ?_
            rintro v115 H116 ⟨hx117, ho118⟩
            have X119 := Ext.trans X51 hx117
            have X120 := Ext.trans X52 hx117
            have X121 := Ext.trans X53 hx117
            have X122 := Ext.trans X108 hx117
            have ho123 := ho55.ext hx117
            have hb124 := hb54.ext hx117
            have X126 := Ext.refl H116
            refine AL.w rfl (.inl rfl) (WV.apk sl25 rfl rfl ho123 ho118.rd (by simp; omega) (by simp; omega) (fun b hb _ e => Nat.lt_irrefl _ (Nat.lt_of_lt_of_le (a114 b e) hb))) ?_
            rintro v127 H128 ⟨hx129, ho130, hb131⟩
            have ho132 := ho130.narrow (ok' := fun b => H10.bd ≤ b) kI_flat (fun b q => (hb131 b q).elim (fun e => (ho123.blk b e).1) (fun e => Nat.le_trans X121.bd e))
            have X133 := Ext.thru X119 hx129 (fun b hb => Nat.le_trans o32 (ho123.blk b hb).1)
            have X134 := Ext.thru X120 hx129 (fun b hb => Nat.le_trans o33 (ho123.blk b hb).1)
            have X135 := Ext.thru X121 hx129 (fun b hb => Nat.le_trans o34 (ho123.blk b hb).1)
            have hb139 := hb124.but hx129 (fun e => by have q : H10.bd ≤ _ := (ho123.blk _ e).1; omega)
            refine AL.val rfl (.inl rfl) (HV.as rfl) ?_
            refine AL.nil ?_
            refine nrm_blk (nrm_and ?_)
            refine AW.reg ?_
            refine AL.val rfl (.inl rfl) (HV.mv rfl) ?_
            refine AL.val rfl (.inl rfl) (HV.add rfl rfl (by omega)) ?_
            refine AL.val rfl (.inl rfl) (HV.as rfl) ?_
            refine AL.nil ?_
            refine nrm_and ?_
            exact ⟨(h + 1, nx, v127, (k ++ (([own] : List Int) : List Int))), ⟨X133, X134, X135, hb139, by omega, by obtain ⟨q, q1, q2, q3, q4, q5⟩ := hown.resolve_left (fun e => by have := e.1; omega); rw [cls_some (n := n) (l := l) (i := h) (j := q) q1 q2 q3]; show k ++ [own] = (cls n l h).1 ++ [(cls n l h).1.getD q 0]; rw [← hk, q4], by obtain ⟨q, q1, q2, q3, q4, q5⟩ := hown.resolve_left (fun e => by have := e.1; omega); rw [cls_some (n := n) (l := l) (i := h) (j := q) q1 q2 q3]; show nx = (cls n l h).2; exact hnx, ho132, trivial⟩, by first | omega | (dsimp only; omega), ⟨rfl, rfl, rfl, rfl, rfl, rfl, trivial⟩⟩
      · -- false
        have c56_ : decide ((j : Int) < (h : Int)) = false := decide_eq_false c56
        rw [c56_]
        refine AL.off rfl rfl (by decide) rfl ?_
        refine AL.off rfl rfl (by decide) rfl ?_
        refine AL.val rfl (.inl rfl) (HV.pickF rfl rfl) ?_
        refine AL.nx ?_
        refine AW.cond rfl (fun h => by cases h) (fun _ => ?_)
        refine AW.exit ?_
        refine ex_and (ex_and (ex_blk ?_))
        refine nrm_and ?_
        refine AW.seq ?_
        refine AW.rs ?_
        refine AL.val rfl (.inl rfl) (HV.mv rfl) ?_
        refine AL.val rfl (.inl rfl) (HV.lti rfl rfl) ?_
        refine AL.nx ?_
        refine AW.ifd rfl (fun c141 => ?_) (fun c141 => ?_)
        · -- then
          refine AW.rs ?_
          refine AL.val rfl (.inl rfl) (HV.mv rfl) ?_
          refine AL.val rfl (.inl rfl) (HV.as rfl) ?_
          refine AL.nx ?_
          refine AW.reg ?_
          refine AL.val rfl (.inl rfl) (HV.mv rfl) ?_
          refine AL.val rfl (.inl rfl) (HV.add rfl rfl (by omega)) ?_
          refine AL.val rfl (.inl rfl) (HV.as rfl) ?_
          refine AL.nil ?_
          refine nrm_and ?_
          refine AW.reg ?_
          refine AL.val rfl (.inl rfl) (HV.mv rfl) ?_
          refine AL.val rfl (.inl rfl) (HV.mv rfl) ?_
          have X142 := Ext.refl H50
          have y143 := hb54.lt
          have o144 := X51.bd
          have o145 := X52.bd
          have o146 := X53.bd
          have o147 := X142.bd
          have a148 := ho55.ltb
          refine AL.w rfl (.inl rfl) (WV.bsK (K := kI) (l := ([nx] : List Int)) (css := [[.int .i64 nx]]) sl25 rfl rfl (by first | rfl | (simp [Instr.fill, Value.cells, kI, kB, kU, kS, Kd.sc]; done) | (simp [Instr.fill, Value.cells, kI, kB, kU, kS, Kd.sc, rng1, rng2, rng3, rng4, kP])) rfl (segs_cons rfl segs_nil)) ?_
          rintro v149 H150 ⟨hx151, ho152⟩
          have X153 := Ext.trans X51 hx151
          have X154 := Ext.trans X52 hx151
          have X155 := Ext.trans X53 hx151
          have X156 := Ext.trans X142 hx151
          have ho157 := ho55.ext hx151
          have hb158 := hb54.ext hx151
          have X160 := Ext.refl H150
          refine AL.w rfl (.inl rfl) (WV.apk sl25 rfl rfl ho157 ho152.rd (by simp; omega) (by simp; omega) (fun b hb _ e => Nat.lt_irrefl _ (Nat.lt_of_lt_of_le (a148 b e) hb))) ?_
          rintro v161 H162 ⟨hx163, ho164, hb165⟩
          have ho166 := ho164.narrow (ok' := fun b => H10.bd ≤ b) kI_flat (fun b q => (hb165 b q).elim (fun e => (ho157.blk b e).1) (fun e => Nat.le_trans X155.bd e))
          have X167 := Ext.thru X153 hx163 (fun b hb => Nat.le_trans o32 (ho157.blk b hb).1)
          have X168 := Ext.thru X154 hx163 (fun b hb => Nat.le_trans o33 (ho157.blk b hb).1)
          have X169 := Ext.thru X155 hx163 (fun b hb => Nat.le_trans o34 (ho157.blk b hb).1)
          have hb173 := hb158.but hx163 (fun e => by have q : H10.bd ≤ _ := (ho157.blk _ e).1; omega)
          refine AL.val rfl (.inl rfl) (HV.as rfl) ?_
          refine AL.nil ?_
          refine nrm_blk (nrm_and ?_)
          refine AW.reg ?_
          refine AL.val rfl (.inl rfl) (HV.mv rfl) ?_
          refine AL.val rfl (.inl rfl) (HV.add rfl rfl (by omega)) ?_
          refine AL.val rfl (.inl rfl) (HV.as rfl) ?_
          refine AL.nil ?_
          refine nrm_and ?_
          exact ⟨(h + 1, nx + 1, v161, (k ++ (([nx] : List Int) : List Int))), ⟨X167, X168, X169, hb173, by omega, by rw [cls_none (n := n) (l := l) (i := h) (fun q hq => (hown.elim (fun e => e.2 q (by omega)) (fun ⟨q, _, _, _, e, e2⟩ => by omega)))]; show k ++ [nx] = (cls n l h).1 ++ [(cls n l h).2]; rw [← hk, ← hnx], by rw [cls_none (n := n) (l := l) (i := h) (fun q hq => (hown.elim (fun e => e.2 q (by omega)) (fun ⟨q, _, _, _, e, e2⟩ => by omega)))]; show nx + 1 = (cls n l h).2 + 1; rw [← hnx], ho166, trivial⟩, by first | omega | (dsimp only; omega), ⟨rfl, rfl, rfl, rfl, rfl, rfl, trivial⟩⟩
        · -- else
          refine AW.skip ?_
          refine nrm_and ?_
          refine AW.reg ?_
          refine AL.val rfl (.inl rfl) (HV.mv rfl) ?_
          refine AL.val rfl (.inl rfl) (HV.mv rfl) ?_
          have X174 := Ext.refl H50
          have y175 := hb54.lt
          have o176 := X51.bd
          have o177 := X52.bd
          have o178 := X53.bd
          have o179 := X174.bd
          have a180 := ho55.ltb
          refine AL.w rfl (.inl rfl) (WV.bsK (K := kI) (l := ([own] : List Int)) (css := [[.int .i64 own]]) sl25 rfl rfl (by first | rfl | (simp [Instr.fill, Value.cells, kI, kB, kU, kS, Kd.sc]; done) | (simp [Instr.fill, Value.cells, kI, kB, kU, kS, Kd.sc, rng1, rng2, rng3, rng4, kP])) rfl (segs_cons rfl segs_nil)) ?_
          rintro v181 H182 ⟨hx183, ho184⟩
          have X185 := Ext.trans X51 hx183
          have X186 := Ext.trans X52 hx183
          have X187 := Ext.trans X53 hx183
          have X188 := Ext.trans X174 hx183
          have ho189 := ho55.ext hx183
          have hb190 := hb54.ext hx183
          have X192 := Ext.refl H182
          refine AL.w rfl (.inl rfl) (WV.apk sl25 rfl rfl ho189 ho184.rd (by simp; omega) (by simp; omega) (fun b hb _ e => Nat.lt_irrefl _ (Nat.lt_of_lt_of_le (a180 b e) hb))) ?_
          rintro v193 H194 ⟨hx195, ho196, hb197⟩
          have ho198 := ho196.narrow (ok' := fun b => H10.bd ≤ b) kI_flat (fun b q => (hb197 b q).elim (fun e => (ho189.blk b e).1) (fun e => Nat.le_trans X187.bd e))
          have X199 := Ext.thru X185 hx195 (fun b hb => Nat.le_trans o32 (ho189.blk b hb).1)
          have X200 := Ext.thru X186 hx195 (fun b hb => Nat.le_trans o33 (ho189.blk b hb).1)
          have X201 := Ext.thru X187 hx195 (fun b hb => Nat.le_trans o34 (ho189.blk b hb).1)
          have hb205 := hb190.but hx195 (fun e => by have q : H10.bd ≤ _ := (ho189.blk _ e).1; omega)
          refine AL.val rfl (.inl rfl) (HV.as rfl) ?_
          refine AL.nil ?_
          refine nrm_blk (nrm_and ?_)
          refine AW.reg ?_
          refine AL.val rfl (.inl rfl) (HV.mv rfl) ?_
          refine AL.val rfl (.inl rfl) (HV.add rfl rfl (by omega)) ?_
          refine AL.val rfl (.inl rfl) (HV.as rfl) ?_
          refine AL.nil ?_
          refine nrm_and ?_
          exact ⟨(h + 1, nx, v193, (k ++ (([own] : List Int) : List Int))), ⟨X199, X200, X201, hb205, by omega, by obtain ⟨q, q1, q2, q3, q4, q5⟩ := hown.resolve_left (fun e => by have := e.1; omega); rw [cls_some (n := n) (l := l) (i := h) (j := q) q1 q2 q3]; show k ++ [own] = (cls n l h).1 ++ [(cls n l h).1.getD q 0]; rw [← hk, q4], by obtain ⟨q, q1, q2, q3, q4, q5⟩ := hown.resolve_left (fun e => by have := e.1; omega); rw [cls_some (n := n) (l := l) (i := h) (j := q) q1 q2 q3]; show nx = (cls n l h).2; exact hnx, ho198, trivial⟩, by first | omega | (dsimp only; omega), ⟨rfl, rfl, rfl, rfl, rfl, rfl, trivial⟩⟩
    · -- else
      refine AW.exit ?_
      refine ex_and (ex_and (ex_blk ?_))
      refine nrm_and ?_
      refine AW.rs ?_
      refine AL.val rfl (.inl rfl) (HV.mv rfl) ?_
      refine AL.val rfl (.inl rfl) (HV.as rfl) ?_
      refine AL.val rfl (.inl rfl) (HV.as rfl) ?_
      refine AL.nx ?_
      refine AW.ret ?_
      refine post_two rfl rfl rfl ?_ (.inr rfl)
      exact ⟨⟨_, _, by rw [if_pos hokI], by rw [if_pos hokI, hk, show h = n.toNat by omega], hoL.okk (fun b hb _ => Nat.le_trans o32 hb)⟩, X45⟩

set_option maxRecDepth 100000 in
theorem law_AlikeHolders {v : Value} {l : List (List Int)} {ok : Nat → Prop} (n : Int) (hr : RdK (kR kI) W H ok v l) : ACalls Try.prog W 9 #[.agg #[.int .i64 n, v]] H (fun r H' => r = .bool true ∧ Ext H H') := by
  refine ACalls.of (args := [.agg #[.int .i64 n, v]]) Try.func9 rfl rfl ?_
  have X0 := Ext.refl H
  have hm1 := hr.max
  refine AW.rs ?_
  refine AL.w rfl (.inl rfl) (WV.bx rfl rfl) ?_
  rintro _ H3 ⟨b2, rfl, hx4, hn5, hb6⟩
  have o7 := Nat.le_trans X0.bd hn5
  have X8 := Ext.trans X0 hx4
  have X9 := Ext.refl H3
  refine AL.val rfl (.inl rfl) (HV.as rfl) ?_
  refine AL.nx ?_
  refine AW.rs ?_
  refine AL.val rfl (.inl rfl) (HV.as rfl) ?_
  refine AL.nx ?_
  refine AW.rs ?_
  refine AL.val rfl (.inl rfl) (HV.lda (cs := [.int .i64 n, v]) rfl va39 (at_cells hb6 rfl)) ?_
  refine AL.val rfl (.inl rfl) (HV.mv rfl) ?_
  refine AL.w rfl (.inl rfl) (WV.call fn19 rfl (szFamily_ok n (hr.ext X8) 1048576 (by omega))) ?_
  rintro _ H10 ⟨⟨q12, rfl, ha13, hb14, he15⟩, hx11⟩
  have X16 := Ext.trans X8 hx11
  have X17 := Ext.trans X9 hx11
  have hb18 := hb6.ext hx11
  refine AL.val rfl (.inl rfl) (HV.as rfl) ?_
  refine AL.nx ?_
  refine AW.seq ?_
  refine AW.rs ?_
  refine AL.val rfl (.inl rfl) (HV.mv rfl) ?_
  refine AL.val rfl (.inl rfl) (HV.lti rfl rfl) ?_
  refine AL.nx ?_
  refine AW.ifd rfl (fun c19 => ?_) (fun c19 => ?_)
  · -- then
    refine AW.rs ?_
    refine AL.val rfl (.inl rfl) (HV.as rfl) ?_
    refine AL.nx ?_
    refine AW.ret ?_
    refine ret_and ?_
    refine post_one rfl rfl ?_ (.inr rfl)
    exact ⟨rfl, X16⟩
  · -- else
    refine AW.skip ?_
    refine nrm_and ?_
    refine AW.rs ?_
    refine AL.val rfl (.inl rfl) (HV.lda (cs := [.int .i64 n, v]) rfl va39 (at_cells hb18 rfl)) ?_
    refine AL.w rfl (.inl rfl) (WV.call fn21 rfl (toFamily_ok n (hr.ext X16) (he15 (by omega)))) ?_
    rintro _ H21 ⟨⟨v20, rfl, ho23⟩, hx22⟩
    have X25 := Ext.trans X16 hx22
    have X26 := Ext.trans X17 hx22
    have hb27 := hb18.ext hx22
    have X28 := Ext.refl H21
    have hr24 := rd_ofO ho23.rd
    have y29 := hb27.lt
    have o30 := X25.bd
    have o31 := X26.bd
    have o32 := X28.bd
    refine AL.w rfl (.inl rfl) (WV.call fn35 rfl (specAl_ok n hr24 (he15 (by omega)).1)) ?_
    rintro _ H36 ⟨⟨v33, k34, rfl, hk35, ho38⟩, hx37⟩
    have X40 := Ext.trans X25 hx37
    have X41 := Ext.trans X26 hx37
    have X42 := Ext.trans X28 hx37
    have hb43 := hb27.ext hx37
    have X44 := Ext.refl H36
    have hr39 := ho38.rd
    refine AL.val rfl (.inl rfl) (HV.mv rfl) ?_
    refine AL.val rfl (.inl rfl) (HV.ex rfl rfl) ?_
    refine AL.val rfl (.inl rfl) (HV.ex rfl rfl) ?_
    refine AL.val rfl (.inl rfl) (HV.as rfl) ?_
    refine AL.val rfl (.inl rfl) (HV.as rfl) ?_
    refine AL.nx ?_
    refine AW.rs ?_
    refine AL.val rfl (.inl rfl) (HV.lda (cs := [.int .i64 n, v]) rfl va39 (at_cells hb43 rfl)) ?_
    have y45 := hb43.lt
    have o46 := X40.bd
    have o47 := X41.bd
    have o48 := X42.bd
    have o49 := X44.bd
    refine AL.w rfl (.inl rfl) (WV.call fn21 rfl (toFamily_ok n (hr.ext X40) (he15 (by omega)))) ?_
    rintro _ H51 ⟨⟨u50, rfl, ho53⟩, hx52⟩
    have X55 := Ext.trans X40 hx52
    have X56 := Ext.trans X41 hx52
    have X57 := Ext.trans X42 hx52
    have X58 := Ext.trans X44 hx52
    have hb59 := hb43.ext hx52
    have X60 := Ext.refl H51
    have ho54 := ho53.lo
    refine AL.w rfl (.inl rfl) (WV.al ze42 rfl) ?_
    rintro _ H63 ⟨b62, rfl, hx64, hn65, hb66⟩
    have o67 := Nat.le_trans X55.bd hn65
    have o68 := Nat.le_trans X56.bd hn65
    have o69 := Nat.le_trans X57.bd hn65
    have o70 := Nat.le_trans X58.bd hn65
    have o71 := Nat.le_trans X60.bd hn65
    have ne72 : b2 ≠ b62 := by have := hb59.lt; omega
    have X73 := Ext.trans X55 hx64
    have X74 := Ext.trans X56 hx64
    have X75 := Ext.trans X57 hx64
    have X76 := Ext.trans X58 hx64
    have X77 := Ext.trans X60 hx64
    have ho78 := ho54.ext hx64
    have hb79 := hb59.ext hx64
    have X80 := Ext.refl H63
    refine AL.w0 (.inl rfl) (WV.st rfl rfl va42 rfl hb66 (Nat.le_of_ble_eq_true rfl) (one_cons rfl (one_cons (sl_one1 (rd_ofO ho78.rd).isSl) one_nil))) ?_
    rintro _ H81 ⟨hx82, hb83⟩
    have X84 := Ext.thru X73 hx82 (fun z_ hz_ => by rw [hz_]; exact o67)
    have X85 := Ext.thru X74 hx82 (fun z_ hz_ => by rw [hz_]; exact o68)
    have X86 := Ext.thru X75 hx82 (fun z_ hz_ => by rw [hz_]; exact o69)
    have X87 := Ext.thru X76 hx82 (fun z_ hz_ => by rw [hz_]; exact o70)
    have X88 := Ext.thru X77 hx82 (fun z_ hz_ => by rw [hz_]; exact o71)
    have ho90 := ho78.but hx82 (fun b hb _ e => by have hb' : H36.bd ≤ b ∧ b < H51.bd := hb; have e' : b = b62 := e; omega) (fun z_ hz_ => by rw [hz_]; exact hb66.w)
    have hb91 := hb79.but hx82 ne72
    have hb92 : At W H81 b62 ⟨42, [.int .i64 n, u50], 2⟩ := hb83
    refine AL.nx ?_
    refine AW.rs ?_
    refine AL.val rfl (.inl rfl) (HV.lda (cs := [.int .i64 n, u50]) rfl va42 (at_cells hb92 rfl)) ?_
    have X93 := Ext.refl H81
    have y94 := hb91.lt
    have y95 := hb92.lt
    have o96 := X84.bd
    have o97 := X85.bd
    have o98 := X86.bd
    have o99 := X87.bd
    have o100 := X88.bd
    have o101 := X93.bd
    have a102 := ho90.ltb
    have s103 := ho90.lo
    refine AL.w rfl (.inl rfl) (WV.call fn36 rfl (implAl_ok n (rd_ofO ho90.rd))) ?_
    rintro _ H107 ⟨⟨v104, k105, rfl, hk106, ho109⟩, hx108⟩
    have X111 := Ext.trans X84 hx108
    have X112 := Ext.trans X85 hx108
    have X113 := Ext.trans X86 hx108
    have X114 := Ext.trans X87 hx108
    have X115 := Ext.trans X88 hx108
    have X116 := Ext.trans X93 hx108
    have s118 := s103.ext hx108
    have ho117 := ho90.ext hx108
    have hb119 := hb91.ext hx108
    have hb120 := hb92.ext hx108
    have X121 := Ext.refl H107
    have := al_len hk106
    refine AL.val rfl (.inl rfl) (HV.mv rfl) ?_
    refine AL.val rfl (.inl rfl) (HV.ex rfl rfl) ?_
    refine AL.val rfl (.inl rfl) (HV.ex rfl rfl) ?_
    refine AL.val rfl (.inl rfl) (HV.as rfl) ?_
    refine AL.val rfl (.inl rfl) (HV.as rfl) ?_
    refine AL.nx ?_
    refine AW.seq ?_
    refine AW.rs ?_
    refine AL.val rfl (.inl rfl) (HV.mv rfl) ?_
    refine AL.val rfl (.inl rfl) (HV.mv rfl) ?_
    refine AL.w rfl (.inl rfl) (WV.call fn18 rfl (eqS_ok ho109.rd (hr39.ext X114))) ?_
    rintro _ H123 ⟨rfl, hx124⟩
    have X125 := Ext.trans X111 hx124
    have X126 := Ext.trans X112 hx124
    have X127 := Ext.trans X113 hx124
    have X128 := Ext.trans X114 hx124
    have X129 := Ext.trans X115 hx124
    have X130 := Ext.trans X116 hx124
    have X131 := Ext.trans X121 hx124
    have s133 := s118.ext hx124
    have ho132 := ho117.ext hx124
    have ho134 := ho109.ext hx124
    have hb135 := hb119.ext hx124
    have hb136 := hb120.ext hx124
    refine AL.val rfl (.inl rfl) (HV.not rfl) ?_
    refine AL.val rfl (.inl rfl) (HV.mv rfl) ?_
    by_cases c137 : k105 = k34
    · -- false
      have c137_ : (!decide (k105 = k34)) = false := by rw [decide_eq_true c137]; rfl
      rw [c137_]
      refine AL.val rfl (.inr ⟨_, _, _, rfl, rfl, rfl⟩) (HV.mv rfl) ?_
      refine AL.val rfl (.inr ⟨_, _, _, rfl, rfl, rfl⟩) (HV.mv rfl) ?_
      refine AL.val rfl (.inr ⟨_, _, _, rfl, rfl, rfl⟩) (HV.nei rfl rfl) ?_
      refine AL.val rfl (.inl rfl) (HV.pickF rfl rfl) ?_
      refine AL.nx ?_
      refine AW.ifd rfl (fun c138 => ?_) (fun c138 => ?_)
      · -- then
        refine AW.rs ?_
        refine AL.val rfl (.inl rfl) (HV.as rfl) ?_
        refine AL.nx ?_
        refine AW.ret ?_
        refine ret_and ?_
        refine post_one rfl rfl ?_ (.inr rfl)
        exfalso; first | omega | exact absurd (hk106.trans hk35.symm) c138 | (simp at c138; done) | exact absurd c138 (by simp)
      · -- else
        refine AW.skip ?_
        refine nrm_and ?_
        refine AW.seq ?_
        refine AW.seq ?_
        refine AW.draw' [0, 0, 2, 7, 15] mixed (by rfl) ?_
        refine Dr.read 0 _ 41 _ rfl rfl rfl rfl rfl (RV.of (by intro _ _ h; cases h) (.inl rfl) (fun _ xd => HV.lda (cs := [.int .i64 n, u50]) rfl va42 (fun j u hu => rdc_ext xd ((at_cells hb136 rfl) j u hu)))) ?_
        refine Dr.read 1 _ 42 _ rfl rfl rfl rfl rfl (RV.of (by intro _ _ h; cases h) (.inl rfl) (fun _ xd => HV.lda (cs := [.int .i64 n, v]) rfl va39 (fun j u hu => rdc_ext xd ((at_cells hb135 rfl) j u hu)))) ?_
        refine Dr.eff 2 _ _ rfl (by intro d h; cases h; exact ⟨rfl, rfl⟩) rfl rfl rfl (EC.of (by intro _ _ h; cases h) (.inl rfl) (WV.call fn21 rfl (toFamily_ok n (hr.ext X125) (he15 (by omega))))) (fun v H' h => .inl (h.2)) ?_
        rintro _ H140 ⟨⟨v139, rfl, ho142⟩, hx141⟩
        have X144 := Ext.trans X125 hx141
        have X145 := Ext.trans X126 hx141
        have X146 := Ext.trans X127 hx141
        have X147 := Ext.trans X128 hx141
        have X148 := Ext.trans X129 hx141
        have X149 := Ext.trans X130 hx141
        have X150 := Ext.trans X131 hx141
        have s152 := s133.ext hx141
        have ho151 := ho132.ext hx141
        have ho153 := ho134.ext hx141
        have hb154 := hb135.ext hx141
        have hb155 := hb136.ext hx141
        have X156 := Ext.refl H140
        have hr143 := rd_ofO ho142.rd
        refine Dr.eff 3 _ _ rfl (by intro d h; cases h; exact ⟨rfl, rfl⟩) rfl rfl rfl (EC.of (by intro _ _ h; cases h) (.inl rfl) (WV.call fn23 rfl (eqFam_ok n n (rd_ofO ho151.rd) hr143))) (fun v H' h => .inl (h.2)) ?_
        rintro _ H157 ⟨rfl, hx158⟩
        have X159 := Ext.trans X144 hx158
        have X160 := Ext.trans X145 hx158
        have X161 := Ext.trans X146 hx158
        have X162 := Ext.trans X147 hx158
        have X163 := Ext.trans X148 hx158
        have X164 := Ext.trans X149 hx158
        have X165 := Ext.trans X150 hx158
        have X166 := Ext.trans X156 hx158
        have s168 := s152.ext hx158
        have ho167 := ho151.ext hx158
        have ho169 := ho153.ext hx158
        have hb170 := hb154.ext hx158
        have hb171 := hb155.ext hx158
        refine Dr.read 4 _ 45 _ rfl rfl rfl rfl rfl (RV.of (by intro _ _ h; cases h) (.inl rfl) (fun _ xd => HV.not rfl)) ?_
        refine Dr.fin rfl ?_
        refine nrm_and ?_
        refine AW.ifn rfl (fun c172 => ?_) (fun c172 => ?_)
        · -- then
          refine AW.rs ?_
          refine AL.val rfl (.inl rfl) (HV.as rfl) ?_
          refine AL.nx ?_
          refine AW.ret ?_
          refine ret_and ?_
          refine post_one rfl rfl ?_ (.inr rfl)
          exfalso; first | omega | exact absurd (hk106.trans hk35.symm) c172 | (simp at c172; done) | exact absurd c172 (by simp)
        · -- else
          refine AW.skip ?_
          refine nrm_and ?_
          refine AW.rs ?_
          refine AL.val rfl (.inl rfl) (HV.as rfl) ?_
          refine AL.nx ?_
          refine AW.rs ?_
          refine AL.val rfl (.inl rfl) (HV.lda (cs := [.int .i64 n, u50]) rfl va42 (at_cells hb171 rfl)) ?_
          refine AL.val rfl (.inl rfl) (HV.mv rfl) ?_
          refine AL.w rfl (.inl rfl) (WV.call fn26 rfl (markFam_ok n ho167 (he15 (by omega)) 1 (by omega))) ?_
          rintro _ H173 ⟨⟨q174, rfl, ha175⟩, hx176⟩
          have X177 := Ext.thru X159 hx176 (fun b hb => Nat.le_trans o46 hb.1)
          have X178 := Ext.thru X160 hx176 (fun b hb => Nat.le_trans o47 hb.1)
          have X179 := Ext.thru X161 hx176 (fun b hb => Nat.le_trans o48 hb.1)
          have X180 := Ext.thru X162 hx176 (fun b hb => Nat.le_trans o49 hb.1)
          have ho185 := ho169.but hx176 (fun b hb _ e => by have h1 : H81.bd ≤ b := hb; have h2 : H36.bd ≤ b ∧ b < H51.bd := e; omega) (fun b hb => by have h2 : H36.bd ≤ b ∧ b < H51.bd := hb; have := hb170.w; omega)
          have hb186 := hb170.but hx176 (fun e => by have q : H36.bd ≤ b2 ∧ b2 < H51.bd := e; omega)
          refine AL.val rfl (.inl rfl) (HV.as rfl) ?_
          refine AL.nx ?_
          refine AW.seq ?_
          refine AW.rs ?_
          refine AL.val rfl (.inl rfl) (HV.mv rfl) ?_
          refine AL.val rfl (.inl rfl) (HV.lti rfl rfl) ?_
          refine AL.val rfl (.inl rfl) (HV.mv rfl) ?_
          by_cases c188 : q174 < 0
          · -- true
            have c188_ : decide (q174 < 0) = true := decide_eq_true c188
            rw [c188_]
            refine AL.off rfl rfl (by decide) rfl ?_
            refine AL.off rfl rfl (by decide) rfl ?_
            refine AL.off rfl rfl (by decide) rfl ?_
            refine AL.off rfl rfl (by decide) rfl ?_
            refine AL.val rfl (.inl rfl) (HV.pickT rfl rfl) ?_
            refine AL.val rfl (.inl rfl) (HV.mv rfl) ?_
            refine AL.off rfl rfl (by decide) rfl ?_
            refine AL.off rfl rfl (by decide) rfl ?_
            refine AL.off rfl rfl (by decide) rfl ?_
            refine AL.val rfl (.inl rfl) (HV.pickT rfl rfl) ?_
            refine AL.nx ?_
            refine AW.cond rfl (fun _ => ?_) (fun h => by cases h)
            refine AW.rs ?_
            refine AL.val rfl (.inl rfl) (HV.as rfl) ?_
            refine AL.nx ?_
            refine AW.ret ?_
            refine ret_and ?_
            refine post_one rfl rfl ?_ (.inr rfl)
            exfalso; first | omega | exact absurd (hk106.trans hk35.symm) c188 | (simp at c188; done) | exact absurd c188 (by simp)
          · -- false
            have c188_ : decide (q174 < 0) = false := decide_eq_false c188
            rw [c188_]
            refine AL.val rfl (.inr ⟨_, _, _, rfl, rfl, rfl⟩) (HV.mv rfl) ?_
            refine AL.val rfl (.inr ⟨_, _, _, rfl, rfl, rfl⟩) (HV.mv rfl) ?_
            refine AL.w rfl (.inr ⟨_, _, _, rfl, rfl, rfl⟩) (WV.call fn18 rfl (eqS_ok ho185.rd (hr39.ext X180))) ?_
            rintro _ H190 ⟨rfl, hx191⟩
            have X192 := Ext.trans X177 hx191
            have X193 := Ext.trans X178 hx191
            have X194 := Ext.trans X179 hx191
            have X195 := Ext.trans X180 hx191
            have ho196 := ho185.ext hx191
            have hb197 := hb186.ext hx191
            refine AL.val rfl (.inr ⟨_, _, _, rfl, rfl, rfl⟩) (HV.not rfl) ?_
            refine AL.val rfl (.inl rfl) (HV.pickF rfl rfl) ?_
            refine AL.val rfl (.inl rfl) (HV.mv rfl) ?_
            by_cases c198 : k105 = k34
            · -- false
              have c198_ : (!decide (k105 = k34)) = false := by rw [decide_eq_true c198]; rfl
              rw [c198_]
              refine AL.val rfl (.inr ⟨_, _, _, rfl, rfl, rfl⟩) (HV.mv rfl) ?_
              refine AL.val rfl (.inr ⟨_, _, _, rfl, rfl, rfl⟩) (HV.mv rfl) ?_
              refine AL.val rfl (.inr ⟨_, _, _, rfl, rfl, rfl⟩) (HV.nei rfl rfl) ?_
              refine AL.val rfl (.inl rfl) (HV.pickF rfl rfl) ?_
              refine AL.nx ?_
              refine AW.ifd rfl (fun c199 => ?_) (fun c199 => ?_)
              · -- then
                refine AW.rs ?_
                refine AL.val rfl (.inl rfl) (HV.as rfl) ?_
                refine AL.nx ?_
                refine AW.ret ?_
                refine ret_and ?_
                refine post_one rfl rfl ?_ (.inr rfl)
                exfalso; first | omega | exact absurd (hk106.trans hk35.symm) c199 | (simp at c199; done) | exact absurd c199 (by simp)
              · -- else
                refine AW.skip ?_
                refine nrm_and ?_
                refine AW.rs ?_
                refine AL.val rfl (.inl rfl) (HV.as rfl) ?_
                refine AL.nx ?_
                refine AW.rs ?_
                refine AL.val rfl (.inl rfl) (HV.mv rfl) ?_
                refine AL.val rfl (.inl rfl) (HV.mv rfl) ?_
                refine AL.w rfl (.inl rfl) (WV.call fn27 rfl (markS_ok 1 ho196 (by omega))) ?_
                rintro _ H200 ⟨k201, rfl, hk202, hh203, hx204, ho205⟩
                have X206 := Ext.thru X192 hx204 (fun b hb => Nat.le_trans o96 (ho196.blk b hb).1)
                have X207 := Ext.thru X193 hx204 (fun b hb => Nat.le_trans o97 (ho196.blk b hb).1)
                have X208 := Ext.thru X194 hx204 (fun b hb => Nat.le_trans o98 (ho196.blk b hb).1)
                have X209 := Ext.thru X195 hx204 (fun b hb => Nat.le_trans o99 (ho196.blk b hb).1)
                have hb210 := hb197.but hx204 (fun e => by have q : H81.bd ≤ _ := (ho196.blk _ e).1; omega)
                refine AL.val rfl (.inl rfl) (HV.as rfl) ?_
                refine AL.nx ?_
                refine AW.rs ?_
                refine AL.val rfl (.inl rfl) (HV.as rfl) ?_
                refine AL.nx ?_
                refine AW.rs ?_
                refine AL.val rfl (.inl rfl) (HV.mv rfl) ?_
                refine AL.val rfl (.inl rfl) (HV.mv rfl) ?_
                refine AL.w rfl (.inl rfl) (WV.call fn28 rfl (heldS_ok 1 ho205.rd (by omega) hh203)) ?_
                rintro _ H211 ⟨rfl, hx212⟩
                have X213 := Ext.trans X206 hx212
                have X214 := Ext.trans X207 hx212
                have X215 := Ext.trans X208 hx212
                have X216 := Ext.trans X209 hx212
                have ho217 := ho205.ext hx212
                have hb218 := hb210.ext hx212
                refine AL.val rfl (.inl rfl) (HV.as rfl) ?_
                refine AL.nx ?_
                refine AW.seq ?_
                refine AW.rs ?_
                refine AL.val rfl (.inl rfl) (HV.mv rfl) ?_
                refine AL.val rfl (.inl rfl) (HV.lti rfl rfl) ?_
                refine AL.nx ?_
                refine AW.ifd rfl (fun c219 => ?_) (fun c219 => ?_)
                · -- then
                  refine AW.rs ?_
                  refine AL.val rfl (.inl rfl) (HV.as rfl) ?_
                  refine AL.nx ?_
                  refine AW.ret ?_
                  refine ret_and ?_
                  refine post_one rfl rfl ?_ (.inr rfl)
                  exfalso; first | omega | exact absurd (hk106.trans hk35.symm) c219 | (simp at c219; done) | exact absurd c219 (by simp)
                · -- else
                  refine AW.skip ?_
                  refine nrm_and ?_
                  refine AW.seq ?_
                  refine AW.rs ?_
                  refine AL.val rfl (.inl rfl) (HV.mv rfl) ?_
                  refine AL.val rfl (.inl rfl) (HV.mv rfl) ?_
                  refine AL.val rfl (.inl rfl) (HV.nei rfl rfl) ?_
                  refine AL.nx ?_
                  refine AW.ifd rfl (fun c220 => ?_) (fun c220 => ?_)
                  · -- then
                    refine AW.rs ?_
                    refine AL.val rfl (.inl rfl) (HV.as rfl) ?_
                    refine AL.nx ?_
                    refine AW.ret ?_
                    refine ret_and ?_
                    refine post_one rfl rfl ?_ (.inr rfl)
                    exfalso; first | omega | exact absurd (hk106.trans hk35.symm) c220 | (simp at c220; done) | exact absurd c220 (by simp)
                  · -- else
                    refine AW.skip ?_
                    refine nrm_and ?_
                    refine AW.rs ?_
                    refine AL.val rfl (.inl rfl) (HV.lda (cs := [.int .i64 n, v]) rfl va39 (at_cells hb218 rfl)) ?_
                    refine AL.w rfl (.inl rfl) (WV.call fn21 rfl (toFamily_ok n (hr.ext X213) (he15 (by omega)))) ?_
                    rintro _ H222 ⟨⟨v221, rfl, ho224⟩, hx223⟩
                    have X226 := Ext.trans X213 hx223
                    have X227 := Ext.trans X214 hx223
                    have X228 := Ext.trans X215 hx223
                    have X229 := Ext.trans X216 hx223
                    have ho230 := ho217.ext hx223
                    have hb231 := hb218.ext hx223
                    have X232 := Ext.refl H222
                    have hr225 := rd_ofO ho224.rd
                    have y233 := hb231.lt
                    have o234 := X226.bd
                    have o235 := X227.bd
                    have o236 := X228.bd
                    have o237 := X229.bd
                    have o238 := X232.bd
                    have a239 := ho230.ltb
                    refine AL.w rfl (.inl rfl) (WV.call fn36 rfl (implAl_ok n hr225)) ?_
                    rintro _ H243 ⟨⟨v240, k241, rfl, hk242, ho245⟩, hx244⟩
                    have X247 := Ext.trans X226 hx244
                    have X248 := Ext.trans X227 hx244
                    have X249 := Ext.trans X228 hx244
                    have X250 := Ext.trans X229 hx244
                    have X251 := Ext.trans X232 hx244
                    have ho252 := ho230.ext hx244
                    have hb253 := hb231.ext hx244
                    have X254 := Ext.refl H243
                    have hr246 := ho245.rd
                    refine AL.val rfl (.inl rfl) (HV.mv rfl) ?_
                    refine AL.val rfl (.inl rfl) (HV.ex rfl rfl) ?_
                    refine AL.val rfl (.inl rfl) (HV.ex rfl rfl) ?_
                    refine AL.val rfl (.inl rfl) (HV.as rfl) ?_
                    refine AL.val rfl (.inl rfl) (HV.as rfl) ?_
                    refine AL.nx ?_
                    refine AW.seq ?_
                    refine AW.rs ?_
                    refine AL.val rfl (.inl rfl) (HV.mv rfl) ?_
                    refine AL.val rfl (.inl rfl) (HV.mv rfl) ?_
                    refine AL.w rfl (.inl rfl) (WV.call fn18 rfl (eqS_ok hr246 (hr39.ext X250))) ?_
                    rintro _ H255 ⟨rfl, hx256⟩
                    have X257 := Ext.trans X247 hx256
                    have X258 := Ext.trans X248 hx256
                    have X259 := Ext.trans X249 hx256
                    have X260 := Ext.trans X250 hx256
                    have X261 := Ext.trans X251 hx256
                    have X262 := Ext.trans X254 hx256
                    have ho263 := ho252.ext hx256
                    have hb264 := hb253.ext hx256
                    refine AL.val rfl (.inl rfl) (HV.not rfl) ?_
                    refine AL.val rfl (.inl rfl) (HV.mv rfl) ?_
                    by_cases c265 : k241 = k34
                    · -- false
                      have c265_ : (!decide (k241 = k34)) = false := by rw [decide_eq_true c265]; rfl
                      rw [c265_]
                      refine AL.val rfl (.inr ⟨_, _, _, rfl, rfl, rfl⟩) (HV.mv rfl) ?_
                      refine AL.val rfl (.inr ⟨_, _, _, rfl, rfl, rfl⟩) (HV.mv rfl) ?_
                      refine AL.val rfl (.inr ⟨_, _, _, rfl, rfl, rfl⟩) (HV.nei rfl rfl) ?_
                      refine AL.val rfl (.inl rfl) (HV.pickF rfl rfl) ?_
                      refine AL.nx ?_
                      refine AW.ifd rfl (fun c266 => ?_) (fun c266 => ?_)
                      · -- then
                        refine AW.rs ?_
                        refine AL.val rfl (.inl rfl) (HV.as rfl) ?_
                        refine AL.nx ?_
                        refine AW.ret ?_
                        refine ret_and ?_
                        refine post_one rfl rfl ?_ (.inr rfl)
                        exfalso; first | omega | exact absurd (hk106.trans hk35.symm) c266 | exact absurd (hk242.trans hk35.symm) c266 | (simp at c266; done) | exact absurd c266 (by simp)
                      · -- else
                        refine AW.skip ?_
                        refine nrm_and ?_
                        refine AW.rs ?_
                        refine AL.val rfl (.inl rfl) (HV.as rfl) ?_
                        refine AL.nx ?_
                        refine AW.rs ?_
                        refine AL.val rfl (.inl rfl) (HV.mv rfl) ?_
                        refine AL.val rfl (.inl rfl) (HV.mv rfl) ?_
                        refine AL.w rfl (.inl rfl) (WV.call fn28 rfl (heldS_ok 1 ho263.rd (by omega) hh203)) ?_
                        rintro _ H267 ⟨rfl, hx268⟩
                        have X269 := Ext.trans X257 hx268
                        have X270 := Ext.trans X258 hx268
                        have X271 := Ext.trans X259 hx268
                        have X272 := Ext.trans X260 hx268
                        have X273 := Ext.trans X261 hx268
                        have X274 := Ext.trans X262 hx268
                        have ho275 := ho263.ext hx268
                        have hb276 := hb264.ext hx268
                        refine AL.val rfl (.inl rfl) (HV.as rfl) ?_
                        refine AL.nx ?_
                        refine AW.seq ?_
                        refine AW.rs ?_
                        refine AL.val rfl (.inl rfl) (HV.mv rfl) ?_
                        refine AL.val rfl (.inl rfl) (HV.lti rfl rfl) ?_
                        refine AL.nx ?_
                        refine AW.ifd rfl (fun c277 => ?_) (fun c277 => ?_)
                        · -- then
                          refine AW.rs ?_
                          refine AL.val rfl (.inl rfl) (HV.as rfl) ?_
                          refine AL.nx ?_
                          refine AW.ret ?_
                          refine ret_and ?_
                          refine post_one rfl rfl ?_ (.inr rfl)
                          exfalso; first | omega | exact absurd (hk106.trans hk35.symm) c277 | exact absurd (hk242.trans hk35.symm) c277 | (simp at c277; done) | exact absurd c277 (by simp)
                        · -- else
                          refine AW.skip ?_
                          refine nrm_and ?_
                          refine AW.seq ?_
                          refine AW.rs ?_
                          refine AL.val rfl (.inl rfl) (HV.mv rfl) ?_
                          refine AL.val rfl (.inl rfl) (HV.mv rfl) ?_
                          refine AL.val rfl (.inl rfl) (HV.nei rfl rfl) ?_
                          refine AL.nx ?_
                          refine AW.ifd rfl (fun c278 => ?_) (fun c278 => ?_)
                          · -- then
                            refine AW.rs ?_
                            refine AL.val rfl (.inl rfl) (HV.as rfl) ?_
                            refine AL.nx ?_
                            refine AW.ret ?_
                            refine ret_and ?_
                            refine post_one rfl rfl ?_ (.inr rfl)
                            exfalso; first | omega | exact absurd (hk106.trans hk35.symm) c278 | exact absurd (hk242.trans hk35.symm) c278 | (simp at c278; done) | exact absurd c278 (by simp)
                          · -- else
                            refine AW.skip ?_
                            refine nrm_and ?_
                            refine AW.rs ?_
                            refine AL.val rfl (.inl rfl) (HV.as rfl) ?_
                            refine AL.nx ?_
                            refine AW.ret ?_
                            refine post_one rfl rfl ?_ (.inr rfl)
                            exact ⟨rfl, X269⟩
                    · -- true
                      have c265_ : (!decide (k241 = k34)) = true := by rw [decide_eq_false c265]; rfl
                      rw [c265_]
                      refine AL.off rfl rfl (by decide) rfl ?_
                      refine AL.off rfl rfl (by decide) rfl ?_
                      refine AL.off rfl rfl (by decide) rfl ?_
                      refine AL.val rfl (.inl rfl) (HV.pickT rfl rfl) ?_
                      refine AL.nx ?_
                      refine AW.cond rfl (fun _ => ?_) (fun h => by cases h)
                      refine AW.rs ?_
                      refine AL.val rfl (.inl rfl) (HV.as rfl) ?_
                      refine AL.nx ?_
                      refine AW.ret ?_
                      refine ret_and ?_
                      refine post_one rfl rfl ?_ (.inr rfl)
                      exfalso; first | omega | exact absurd (hk106.trans hk35.symm) c265 | exact absurd (hk242.trans hk35.symm) c265 | (simp at c265; done) | exact absurd c265 (by simp)
            · -- true
              have c198_ : (!decide (k105 = k34)) = true := by rw [decide_eq_false c198]; rfl
              rw [c198_]
              refine AL.off rfl rfl (by decide) rfl ?_
              refine AL.off rfl rfl (by decide) rfl ?_
              refine AL.off rfl rfl (by decide) rfl ?_
              refine AL.val rfl (.inl rfl) (HV.pickT rfl rfl) ?_
              refine AL.nx ?_
              refine AW.cond rfl (fun _ => ?_) (fun h => by cases h)
              refine AW.rs ?_
              refine AL.val rfl (.inl rfl) (HV.as rfl) ?_
              refine AL.nx ?_
              refine AW.ret ?_
              refine ret_and ?_
              refine post_one rfl rfl ?_ (.inr rfl)
              exfalso; first | omega | exact absurd (hk106.trans hk35.symm) c198 | exact absurd (hk242.trans hk35.symm) c198 | (simp at c198; done) | exact absurd c198 (by simp)
    · -- true
      have c137_ : (!decide (k105 = k34)) = true := by rw [decide_eq_false c137]; rfl
      rw [c137_]
      refine AL.off rfl rfl (by decide) rfl ?_
      refine AL.off rfl rfl (by decide) rfl ?_
      refine AL.off rfl rfl (by decide) rfl ?_
      refine AL.val rfl (.inl rfl) (HV.pickT rfl rfl) ?_
      refine AL.nx ?_
      refine AW.cond rfl (fun _ => ?_) (fun h => by cases h)
      refine AW.rs ?_
      refine AL.val rfl (.inl rfl) (HV.as rfl) ?_
      refine AL.nx ?_
      refine AW.ret ?_
      refine ret_and ?_
      refine post_one rfl rfl ?_ (.inr rfl)
      exfalso; first | omega | exact absurd (hk106.trans hk35.symm) c137 | exact absurd (hk242.trans hk35.symm) c137 | (simp at c137; done) | exact absurd c137 (by simp)
end Go.Proofs.Ytbjcgcililpfdaa.VC
