/- Walks. -/
import Derived.Test.YtbjcgcililpfdaaVF5
set_option linter.unusedVariables false
set_option linter.unusedSimpArgs false
namespace Go.Proofs.Ytbjcgcililpfdaa.VC
open Go Go.RowKit
variable {W : World} {H : Hp}

/-! ### Modules, as sets -/
theorem bitP {s i : Nat} : s / 2 ^ i % 2 = 1 ↔ s.testBit i = true := by
  rw [Nat.testBit_eq_decide_div_mod_eq]; simp
theorem ex_get {g : List Int} {p : Int → Prop} : (∃ i, i < g.length ∧ p (g.getD i 0)) ↔ ∃ x ∈ g, p x := by
  constructor
  · rintro ⟨i, hi, h⟩
    refine ⟨g[i], List.getElem_mem hi, ?_⟩
    simpa [hi] using h
  · rintro ⟨x, hx, h⟩
    obtain ⟨i, hi, rfl⟩ := List.getElem_of_mem hx
    exact ⟨i, hi, by simpa [hi] using h⟩
theorem spr_bit {g : List Int} {q t : Nat} : ∀ j, (spr g q j).testBit t = true ↔ ∃ i, i < j ∧ q.testBit i = true ∧ (g.getD i 0).toNat = t
  | 0 => by
    constructor
    · intro h; simp [spr] at h
    · rintro ⟨i, hi, _⟩; omega
  | j + 1 => by
    have ih := spr_bit (g := g) (q := q) (t := t) j
    rw [spr_succ]
    by_cases e : q / 2 ^ j % 2 = 1
    · rw [if_pos e, Nat.testBit_or, Bool.or_eq_true, ih, Nat.testBit_two_pow, decide_eq_true_iff]
      constructor
      · rintro (⟨i, hi, h⟩ | h)
        · exact ⟨i, by omega, h⟩
        · exact ⟨j, by omega, bitP.1 e, h⟩
      · rintro ⟨i, hi, h, h2⟩
        rcases Nat.lt_or_ge i j with h3 | h3
        · exact .inl ⟨i, h3, h, h2⟩
        · obtain rfl : i = j := by omega
          exact .inr h2
    · rw [if_neg e, ih]
      constructor
      · rintro ⟨i, hi, h⟩; exact ⟨i, by omega, h⟩
      · rintro ⟨i, hi, h, h2⟩
        rcases Nat.lt_or_ge i j with h3 | h3
        · exact ⟨i, h3, h, h2⟩
        · obtain rfl : i = j := by omega
          exact absurd (bitP.2 h) e
theorem fold_bitI {t : Nat} : ∀ (g : List Int) (a : Nat), (g.foldl (fun a h => a ||| 2 ^ h.toNat) a).testBit t = true ↔ a.testBit t = true ∨ ∃ x ∈ g, x.toNat = t
  | [], a => by simp
  | y :: g, a => by
    rw [List.foldl_cons, fold_bitI g, Nat.testBit_or, Bool.or_eq_true, Nat.testBit_two_pow, decide_eq_true_iff]
    simp only [List.mem_cons, exists_eq_or_imp, or_assoc]
theorem bitN_bit {g : List Int} {t : Nat} : (bitN g).testBit t = true ↔ ∃ i, i < g.length ∧ (g.getD i 0).toNat = t := by
  unfold bitN
  rw [fold_bitI, ex_get (p := fun x => x.toNat = t)]
  simp
theorem num_bits : ∀ (k : Nat) (f : Nat → Bool), ∃ s, s < 2 ^ k ∧ ∀ i, i < k → s.testBit i = f i
  | 0, _ => ⟨0, by decide, fun i hi => absurd hi (Nat.not_lt_zero _)⟩
  | k + 1, f => by
    obtain ⟨s, hs, h⟩ := num_bits k f
    refine ⟨s ||| (if f k then 2 ^ k else 0), Nat.or_lt_two_pow (Nat.lt_trans hs (Nat.pow_lt_pow_right (by decide) (by omega))) ?_, fun i hi => ?_⟩
    · split
      · exact Nat.pow_lt_pow_right (by decide) (by omega)
      · exact Nat.two_pow_pos _
    · rw [Nat.testBit_or]
      rcases Nat.lt_or_ge i k with h1 | h1
      · rw [h i h1]
        split
        · rw [Nat.testBit_two_pow, decide_eq_false (by omega), Bool.or_false]
        · simp
      · obtain rfl : i = k := by omega
        rw [Nat.testBit_lt_two_pow hs]
        cases f i <;> simp [Nat.testBit_two_pow]
theorem spr_onto {g : List Int} {y : Nat} (h : ∀ t, y.testBit t = true → ∃ i, i < g.length ∧ (g.getD i 0).toNat = t) : ∃ s, s < 2 ^ g.length ∧ spr g s g.length = y := by
  obtain ⟨s, hs, hb⟩ := num_bits g.length (fun i => y.testBit (g.getD i 0).toNat)
  refine ⟨s, hs, Nat.eq_of_testBit_eq fun t => ?_⟩
  rw [Bool.eq_iff_iff, spr_bit]
  constructor
  · rintro ⟨i, hi, h1, rfl⟩
    rwa [hb i hi] at h1
  · intro hy
    obtain ⟨i, hi, rfl⟩ := h t hy
    exact ⟨i, hi, by rw [hb i hi]; exact hy, rfl⟩
theorem spr_in {g : List Int} {s : Nat} : spr g s g.length &&& bitN g = spr g s g.length := by
  apply Nat.eq_of_testBit_eq
  intro t
  rw [Nat.testBit_and, Bool.eq_iff_iff, Bool.and_eq_true]
  refine ⟨fun h => h.1, fun h => ⟨h, ?_⟩⟩
  obtain ⟨i, hi, _, h2⟩ := (spr_bit _).1 h
  exact bitN_bit.2 ⟨i, hi, h2⟩
theorem spr_zero {g : List Int} : spr g 0 g.length = 0 := by
  apply Nat.eq_of_testBit_eq
  intro t
  rw [Bool.eq_iff_iff, spr_bit]
  simp
theorem spr_all {g : List Int} : spr g (2 ^ g.length - 1) g.length = bitN g := by
  apply Nat.eq_of_testBit_eq
  intro t
  rw [Bool.eq_iff_iff, spr_bit, bitN_bit]
  constructor
  · rintro ⟨i, hi, _, h⟩; exact ⟨i, hi, h⟩
  · rintro ⟨i, hi, h⟩; exact ⟨i, hi, by rw [Nat.testBit_two_pow_sub_one]; simpa using hi, h⟩
def oth (n : Int) (g : List Int) : List Int := grpL (2 ^ n.toNat - 1 - bitN g) 7
theorem oth_bit {n : Int} {g : List Int} (hn : 1 ≤ n ∧ n ≤ 7) (hg : Ris 0 (n - 1) g) {t : Nat} : (∃ i, i < (oth n g).length ∧ ((oth n g).getD i 0).toNat = t) ↔ t < n.toNat ∧ (bitN g).testBit t = false := by
  rw [ex_get (p := fun x => x.toNat = t)]
  have hb := (bits_nat hn hg).2.2
  have e : 2 ^ n.toNat - 1 - bitN g = 2 ^ n.toNat - (bitN g + 1) := by omega
  unfold oth grpL
  rw [e]
  simp only [List.mem_map, List.mem_filter, List.mem_range, beq_iff_eq, bitP, Nat.testBit_two_pow_sub_succ hb, Bool.and_eq_true, decide_eq_true_iff]
  constructor
  · rintro ⟨x, ⟨j, ⟨_, h1, h2⟩, rfl⟩, rfl⟩
    exact ⟨by simpa using h1, by simpa using h2⟩
  · rintro ⟨h1, h2⟩
    exact ⟨(t : Int), ⟨t, ⟨by omega, h1, by simp [h2]⟩, rfl⟩, rfl⟩
theorem ris_get {n : Int} {g : List Int} (h : Ris 0 (n - 1) g) : ∀ j : Nat, j < g.length → (j : Int) ≤ g.getD j 0
  | 0, hj => (h 0 hj).1
  | j + 1, hj => by
    have h1 := ris_get h j (by omega)
    have h2 := (h (j + 1) hj).2.2 (by omega)
    rw [Nat.add_sub_cancel] at h2
    omega
theorem ris_len {n : Int} {g : List Int} (hn : 1 ≤ n ∧ n ≤ 7) (h : Ris 0 (n - 1) g) : (g.length : Int) ≤ n := by
  rcases Nat.eq_zero_or_pos g.length with h0 | h0
  · omega
  · have h1 := ris_get h (g.length - 1) (by omega)
    have h2 := (h (g.length - 1) (by omega)).2.1
    omega
theorem oth_len (n : Int) (g : List Int) : (oth n g).length ≤ 7 := grpL_len _ _
theorem oth_in {n : Int} {g : List Int} (hn : 1 ≤ n ∧ n ≤ 7) (hg : Ris 0 (n - 1) g) : ∀ x ∈ oth n g, 0 ≤ x ∧ x < n := fun x hx => by
  have hx0 : 0 ≤ x := by
    unfold oth grpL at hx
    simp only [List.mem_map] at hx
    obtain ⟨j, _, rfl⟩ := hx
    exact Int.natCast_nonneg _
  have := ((oth_bit hn hg (t := x.toNat)).1 ((ex_get (p := fun y => y.toNat = x.toNat)).2 ⟨x, hx, rfl⟩)).1
  omega
noncomputable def aQ (n : Int) (l : List (List Int)) (g : List Int) (q : Nat) : List Bool := ansL l g (spr (oth n g) q (oth n g).length) (2 ^ g.length)
def eligC (n : Int) (l : List (List Int)) (g : List Int) (q : Nat) : Prop := (aQ n l g q).getD 0 false ≠ (aQ n l g q).getD (2 ^ g.length - 1) false
def modC (n : Int) (l : List (List Int)) (g : List Int) : Prop := 0 < g.length ∧ ∀ q, q < 2 ^ (oth n g).length → ∀ q', q' < 2 ^ (oth n g).length → eligC n l g q → eligC n l g q' → aQ n l g q = aQ n l g q'
noncomputable instance (n : Int) (l : List (List Int)) (g : List Int) : Decidable (modC n l g) := Classical.propDecidable _
def eligI (l : List (List Int)) (m x : Nat) : Prop := x &&& m = 0 ∧ ¬ opI x l ∧ opI ((x ||| m : Nat) : Int) l
def modI (n : Int) (l : List (List Int)) (g : List Int) : Prop := 0 < g.length ∧ ∀ x, x < 2 ^ n.toNat → ∀ x', x' < 2 ^ n.toNat → eligI l (bitN g) x → eligI l (bitN g) x' → ∀ y, y < 2 ^ n.toNat → y &&& bitN g = y → (opI ((x ||| y : Nat) : Int) l ↔ opI ((x' ||| y : Nat) : Int) l)
noncomputable instance (n : Int) (l : List (List Int)) (g : List Int) : Decidable (modI n l g) := Classical.propDecidable _
theorem ansL_get {l : List (List Int)} {g : List Int} {q m s : Nat} (h : s < m) : (ansL l g q m).getD s false = decide (opI ((q ||| spr g s g.length : Nat) : Int) l) := by
  simp [ansL, List.getD_eq_getElem?_getD, h]
theorem opI_mono {n : Int} {l : List (List Int)} {a b : Nat} (h : okC n l) (ha : a < 2 ^ n.toNat) (hb : b < 2 ^ n.toNat) : opI (a : Int) l → opI ((a ||| b : Nat) : Int) l := by
  have p7 := pow7 h.1
  have hx : ∀ x ∈ l, Ris 0 (n - 1) x := fun x hx => by
    obtain ⟨i, hi, rfl⟩ := List.getElem_of_mem hx
    have := (h.2 i hi).1.1
    simpa [hi] using this
  rintro ⟨x, hm, e⟩
  refine ⟨x, hm, ?_⟩
  obtain ⟨a1, _, a3⟩ := bits_nat h.1 (hx x hm)
  have hab := Nat.or_lt_two_pow ha hb
  rw [a1, (bt_nat .i64 (.inl rfl) (by omega) (by omega)).2] at e ⊢
  have e' : bitN x &&& a = bitN x := by omega
  have : bitN x &&& (a ||| b) = bitN x := by
    rw [Nat.and_or_distrib_left, e']
    apply Nat.eq_of_testBit_eq
    intro t
    rw [Nat.testBit_or, Nat.testBit_and]
    cases (bitN x).testBit t <;> simp
  rw [this]
theorem elig_iff {n : Int} {l : List (List Int)} {g : List Int} (h : okC n l) (hg : Ris 0 (n - 1) g) (q : Nat) : eligC n l g q ↔ eligI l (bitN g) (spr (oth n g) q (oth n g).length) := by
  have hx : spr (oth n g) q (oth n g).length < 2 ^ n.toNat := spr_lt (m := n.toNat) (fun x hx => by have := oth_in h.1 hg x hx; have := h.1; omega) (by have := h.1; omega) _
  have hp := Nat.two_pow_pos g.length
  have hm := (bits_nat h.1 hg).2.2
  have h0 : spr (oth n g) q (oth n g).length &&& bitN g = 0 := by
    apply Nat.eq_of_testBit_eq
    intro t
    rw [Nat.testBit_and, Nat.zero_testBit]
    cases e : (spr (oth n g) q (oth n g).length).testBit t with
    | false => rfl
    | true =>
      obtain ⟨i, hi, _, h2⟩ := (spr_bit _).1 e
      rw [((oth_bit h.1 hg).1 ⟨i, hi, h2⟩).2]; rfl
  unfold eligC aQ eligI
  rw [ansL_get hp, ansL_get (by omega), spr_zero, spr_all, Nat.or_zero]
  have mono := opI_mono h hx hm
  constructor
  · intro hne
    refine ⟨h0, fun h1 => hne ?_, Classical.byContradiction fun h1 => hne ?_⟩
    · rw [decide_eq_true h1, decide_eq_true (mono h1)]
    · rw [decide_eq_false h1, decide_eq_false (fun h2 => h1 (mono h2))]
  · rintro ⟨_, h1, h2⟩ e
    rw [decide_eq_false h1, decide_eq_true h2] at e
    cases e
theorem sub_oth {n : Int} {g : List Int} (hn : 1 ≤ n ∧ n ≤ 7) (hg : Ris 0 (n - 1) g) {x : Nat} (hx : x < 2 ^ n.toNat) (h0 : x &&& bitN g = 0) : ∃ q, q < 2 ^ (oth n g).length ∧ spr (oth n g) q (oth n g).length = x := by
  refine spr_onto fun t ht => (oth_bit hn hg).2 ⟨?_, ?_⟩
  · rcases Nat.lt_or_ge t n.toNat with h | h
    · exact h
    · rw [Nat.testBit_lt_two_pow (Nat.lt_of_lt_of_le hx (Nat.pow_le_pow_right (by decide) h))] at ht
      cases ht
  · have := congrArg (fun z => z.testBit t) h0
    simp only [Nat.testBit_and, ht, Bool.true_and, Nat.zero_testBit] at this
    exact this
theorem mod_iff {n : Int} {l : List (List Int)} {g : List Int} (h : okC n l) (hg : Ris 0 (n - 1) g) : modI n l g ↔ modC n l g := by
  have hm := (bits_nat h.1 hg).2.2
  have hlt : ∀ q, spr (oth n g) q (oth n g).length < 2 ^ n.toNat := fun q => spr_lt (m := n.toNat) (fun x hx => by have := oth_in h.1 hg x hx; have := h.1; omega) (by have := h.1; omega) _
  constructor
  · rintro ⟨h1, h2⟩
    refine ⟨h1, fun q hq q' hq' e e' => ?_⟩
    have key := h2 _ (hlt q) _ (hlt q') ((elig_iff h hg q).1 e) ((elig_iff h hg q').1 e')
    unfold aQ ansL
    refine List.map_congr_left fun s _ => ?_
    rw [decide_eq_decide]
    refine key _ ?_ spr_in
    exact Nat.lt_of_le_of_lt (by rw [← spr_in]; exact Nat.and_le_right) hm
  · rintro ⟨h1, h2⟩
    refine ⟨h1, fun x hx x' hx' e e' y hy hyg => ?_⟩
    obtain ⟨q, hq, rfl⟩ := sub_oth h.1 hg hx e.1
    obtain ⟨q', hq', rfl⟩ := sub_oth h.1 hg hx' e'.1
    have key := h2 q hq q' hq' ((elig_iff h hg q).2 e) ((elig_iff h hg q').2 e')
    obtain ⟨s, hs, rfl⟩ : ∃ s, s < 2 ^ g.length ∧ spr g s g.length = y := spr_onto fun t ht => bitN_bit.1 (by
      rw [← hyg, Nat.testBit_and, Bool.and_eq_true] at ht
      exact ht.2)
    have := congrArg (fun z => z.getD s false) key
    simp only [aQ, ansL_get hs, decide_eq_decide] at this
    exact this
theorem set_selfB {k : List Bool} {j : Nat} {b : Bool} (h : j < k.length) : (k.set (j : Int).toNat b).getD j false = b := by
  simp [List.getD_eq_getElem?_getD, h]
set_option maxRecDepth 100000 in
theorem isModC_ok {v v2 : Value} {l : List (List Int)} {g : List Int} {ok ok2 : Nat → Prop} (n : Int) (hr : RdK (kR kI) W H ok v l) (hr2 : RdK kI W H ok2 v2 g) (hok : okC n l) (hg : Ris 0 (n - 1) g) : ACalls Try.prog W 68 #[.agg #[.int .i64 n, v], v2] H (fun r H' => r = .bool (decide (modC n l g)) ∧ Ext H H') := by
  refine ACalls.of (args := [.agg #[.int .i64 n, v], v2]) Try.func68 rfl rfl ?_
  have X0 := Ext.refl H
  have hm1 := hr.max
  have hm2 := hr2.max
  have hn := hok.1
  have hgi : ∀ x ∈ g, 0 ≤ x ∧ x < n := fun x hx => by have := ris_in hg x hx; omega
  have hl7 : g.length ≤ 7 := by have := ris_len hn hg; omega
  have ho7 := oth_len n g
  have hoi : ∀ x ∈ oth n g, 0 ≤ x ∧ x < 7 := fun x hx => by have := oth_in hn hg x hx; omega
  obtain ⟨A, hA⟩ : ∃ A : Nat, 2 ^ g.length = A := ⟨_, rfl⟩
  have hA1 : 1 ≤ A ∧ A ≤ 128 := by rw [← hA]; exact ⟨Nat.two_pow_pos _, Nat.pow_le_pow_right (n := 2) (by decide) hl7⟩
  obtain ⟨M, hM⟩ : ∃ M : Nat, 2 ^ (oth n g).length = M := ⟨_, rfl⟩
  have hM1 : 1 ≤ M ∧ M ≤ 128 := by rw [← hM]; exact ⟨Nat.two_pow_pos _, Nat.pow_le_pow_right (n := 2) (by decide) ho7⟩
  refine AW.rs ?_
  refine AL.w rfl (.inl rfl) (WV.bx rfl rfl) ?_
  rintro _ H4 ⟨b3, rfl, hx5, hn6, hb7⟩
  have o8 := Nat.le_trans X0.bd hn6
  have X9 := Ext.trans X0 hx5
  have X10 := Ext.refl H4
  refine AL.val rfl (.inl rfl) (HV.as rfl) ?_
  refine AL.nx ?_
  refine AW.seq ?_
  refine AW.rs ?_
  refine AL.val rfl (.inl rfl) (HV.mv rfl) ?_
  refine AL.val rfl (.inl rfl) (HV.len Try.underlying25 rfl hr2.isSl) ?_
  refine AL.val rfl (.inl rfl) (HV.eqi rfl rfl) ?_
  refine AL.nx ?_
  refine AW.ifd rfl (fun c11 => ?_) (fun c11 => ?_)
  · -- then
    refine AW.rs ?_
    refine AL.val rfl (.inl rfl) (HV.as rfl) ?_
    refine AL.nx ?_
    refine AW.ret ?_
    refine ret_and ?_
    refine post_one rfl rfl ?_ (.inr rfl)
    exact ⟨dec_f (fun h => by have := h.1; omega), X9⟩
  · -- else
    refine AW.skip ?_
    refine nrm_and ?_
    refine AW.rs ?_
    refine AL.val rfl (.inl rfl) (HV.fa fl42_0 rfl) ?_
    refine AL.val rfl (.inl rfl) (HV.ld rfl va2 (at_cell hb7 rfl)) ?_
    refine AL.val rfl (.inl rfl) (HV.mv rfl) ?_
    refine AL.w rfl (.inl rfl) (WV.call fn99 rfl (others_ok n (hr2.ext X9) hok.1 hg)) ?_
    rintro v12 H13 ⟨hx14, ho15⟩
    have X17 := Ext.trans X9 hx14
    have X18 := Ext.trans X10 hx14
    have hb19 := hb7.ext hx14
    have X20 := Ext.refl H13
    have hr16 : RdK kI W H13 _ v12 (oth n g) := ho15.rd
    refine AL.val rfl (.inl rfl) (HV.as rfl) ?_
    refine AL.val rfl (.inl rfl) (HV.as rfl) ?_
    refine AL.nx ?_
    refine AW.seq ?_
    refine AW.rs ?_
    refine AL.val rfl (.inl rfl) (HV.as rfl) ?_
    refine AL.nx ?_
    refine AW.block ?_
    refine AW.loop (σ := Nat × Value × List Bool) (fun ⟨i, vv, rr⟩ => [(1, v2), (2, .pointer (some ⟨b3, 0, none⟩)), (6, v12), (5, vv), (7, .int .u64 (i : Int))]) (fun ⟨i, vv, rr⟩ H' => Ext H H' ∧ Ext H4 H' ∧ Ext H13 H' ∧ At W H' b3 ⟨42, [.int .i64 n, v], 2⟩ ∧ i ≤ M ∧ (∀ q, q < i → eligC n l g q → nn vv = true ∧ rr = aQ n l g q) ∧ (nn vv = true → ∃ q0, q0 < i ∧ eligC n l g q0 ∧ rr = aQ n l g q0) ∧ RdK kB W H' (fun _ => True) vv rr ∧ True) (fun ⟨i, vv, rr⟩ => M - i) (0, (.slice none 0 0), []) ⟨X17, X18, X20, hb19, Nat.zero_le _, fun q hq => absurd hq (Nat.not_lt_zero _), (fun h => by cases h), (OwnK.nil (e := 4) _).rd, trivial⟩ ⟨rfl, rfl, rfl, rfl, rfl, trivial⟩ ?_
    rintro ⟨i, vv, rr⟩ H21 ⟨X22, X23, X24, hb25, hi, hall, hsome, hrv, _⟩
    have X26 := Ext.refl H21
    refine AW.seq ?_
    refine AW.rs ?_
    refine AL.val rfl (.inl rfl) (HV.mv rfl) ?_
    refine AL.val rfl (.inl rfl) (HV.mv rfl) ?_
    refine AL.val rfl (.inl rfl) (HV.len Try.underlying25 rfl hr16.isSl) ?_
    refine AL.w rfl (.inl rfl) (WV.call fn65 rfl (everybody0_ok (W := W) (n := ((oth n g).length : Int)) (by omega))) ?_
    rintro _ H27 ⟨rfl, hx28⟩
    have X29 := Ext.trans X22 hx28
    have X30 := Ext.trans X23 hx28
    have X31 := Ext.trans X24 hx28
    have X32 := Ext.trans X26 hx28
    have hb33 := hb25.ext hx28
    refine AL.val rfl (.inl rfl) (HV.lei rfl rfl) ?_
    refine AL.nx ?_
    refine AW.ifd rfl (fun c34 => ?_) (fun c34 => ?_)
    · -- then
      refine AW.skip ?_
      refine nrm_and ?_
      refine AW.seq ?_
      refine AW.block ?_
      refine AW.seq ?_
      refine AW.draw' [0, 0, 0, 0, 12, 31, 63] mixed (by rfl) ?_
      have hiM : i < M := by have c : (i : Int) ≤ (((2 ^ ((oth n g).length : Int).toNat : Nat) : Int) - 1) := (by assumption); rw [Int.toNat_natCast, hM] at c; omega
      refine Dr.read 0 _ 23 _ rfl rfl rfl rfl rfl (RV.of (by intro _ _ h; cases h) (.inl rfl) (fun _ xd => HV.lda (cs := [.int .i64 n, v]) rfl va42 (fun j u hu => rdc_ext xd ((at_cells hb33 rfl) j u hu)))) ?_
      refine Dr.read 1 _ 24 _ rfl rfl rfl rfl rfl (RV.of (by intro _ _ h; cases h) (.inl rfl) (fun _ xd => HV.mv rfl)) ?_
      refine Dr.read 2 _ 25 _ rfl rfl rfl rfl rfl (RV.of (by intro _ _ h; cases h) (.inl rfl) (fun _ xd => HV.mv rfl)) ?_
      refine Dr.read 3 _ 26 _ rfl rfl rfl rfl rfl (RV.of (by intro _ _ h; cases h) (.inl rfl) (fun _ xd => HV.mv rfl)) ?_
      refine Dr.eff 4 _ _ rfl (by intro d h; cases h; exact ⟨rfl, rfl⟩) rfl rfl rfl (EC.of (by intro _ _ h; cases h) (.inl rfl) (WV.call fn101 rfl (spread_ok i (hr16.ext X31) hoi ho7 (by omega)))) (fun v H' h => .inl (h.2)) ?_
      rintro _ H35 ⟨rfl, hx36⟩
      have X37 := Ext.trans X29 hx36
      have X38 := Ext.trans X30 hx36
      have X39 := Ext.trans X31 hx36
      have X40 := Ext.trans X32 hx36
      have hb41 := hb33.ext hx36
      refine Dr.eff 5 _ _ rfl (by intro d h; cases h; exact ⟨rfl, rfl⟩) rfl rfl rfl (EC.of (by intro _ _ h; cases h) (.inl rfl) (WV.call fn100 rfl (answers_ok n (spr (oth n g) i (oth n g).length) (hr.ext X37) (hr2.ext X37) hok hgi hl7 (spr_lt (m := n.toNat) (fun x hx => by have := oth_in hn hg x hx; omega) (by omega) _)))) (fun v H' h => .inl (h.1)) ?_
      rintro v42 H43 ⟨hx44, ho45⟩
      have X47 := Ext.trans X37 hx44
      have X48 := Ext.trans X38 hx44
      have X49 := Ext.trans X39 hx44
      have X50 := Ext.trans X40 hx44
      have hb51 := hb41.ext hx44
      have X52 := Ext.refl H43
      have hr46 : RdK kB W H43 _ v42 (ansL l g (spr (oth n g) i (oth n g).length) (2 ^ g.length)) := ho45.rd
      refine Dr.read 6 _ 8 _ rfl rfl rfl rfl rfl (RV.of (by intro _ _ h; cases h) (.inl rfl) (fun _ xd => HV.as rfl)) ?_
      refine Dr.fin rfl ?_
      refine nrm_and ?_
      refine AW.seq ?_
      refine AW.seq ?_
      refine AW.draw' [0, 1, 3, 0, 0, 16, 48, 120, 248, 511] mixed (by rfl) ?_
      refine Dr.read 0 _ 29 _ rfl rfl rfl rfl rfl (RV.of (by intro _ _ h; cases h) (.inl rfl) (fun _ xd => HV.mv rfl)) ?_
      obtain ⟨p53, z54, cs55, hz56, hK57, hC58, hP59⟩ := RdK.ix (q := 0) hr46 sl81 (by decide) (by rw [ansL_len, hA]; omega)
      obtain rfl : cs55 = [.bool z54] := hK57
      refine Dr.read 1 _ 30 _ rfl rfl rfl rfl rfl (RV.of (by intro _ _ h; cases h) (.inl rfl) (fun _ xd => hP59 rfl rfl)) ?_
      refine Dr.read 2 _ 31 _ rfl rfl rfl rfl rfl (RV.of (by intro _ _ h; cases h) (.inl rfl) (fun _ xd => HV.ld rfl va4 (rdc_ext xd (cells_first hC58 rfl)))) ?_
      refine Dr.read 3 _ 32 _ rfl rfl rfl rfl rfl (RV.of (by intro _ _ h; cases h) (.inl rfl) (fun _ xd => HV.mv rfl)) ?_
      refine Dr.read 4 _ 33 _ rfl rfl rfl rfl rfl (RV.of (by intro _ _ h; cases h) (.inl rfl) (fun _ xd => HV.mv rfl)) ?_
      refine Dr.read 5 _ 34 _ rfl rfl rfl rfl rfl (RV.of (by intro _ _ h; cases h) (.inl rfl) (fun _ xd => HV.len Try.underlying81 rfl hr46.isSl)) ?_
      refine Dr.read 6 _ 35 _ rfl rfl rfl rfl rfl (RV.of (by intro _ _ h; cases h) (.inl rfl) (fun _ xd => HV.sub rfl rfl (by rw [ansL_len, hA]; omega))) ?_
      obtain ⟨p60, z61, cs62, hz63, hK64, hC65, hP66⟩ := RdK.ix (q := ((ansL l g (spr (oth n g) i (oth n g).length) (2 ^ g.length)).length : Int) - 1) hr46 sl81 (by rw [ansL_len, hA]; omega) (by rw [ansL_len, hA]; omega)
      obtain rfl : cs62 = [.bool z61] := hK64
      refine Dr.read 7 _ 36 _ rfl rfl rfl rfl rfl (RV.of (by intro _ _ h; cases h) (.inl rfl) (fun _ xd => hP66 rfl rfl)) ?_
      refine Dr.read 8 _ 37 _ rfl rfl rfl rfl rfl (RV.of (by intro _ _ h; cases h) (.inl rfl) (fun _ xd => HV.ld rfl va4 (rdc_ext xd (cells_first hC65 rfl)))) ?_
      have hel : eligC n l g i ↔ ¬ z54 = z61 := by (unfold eligC aQ; rw [gd hz56 rfl, gd hz63 (by rw [ansL_len, hA]; omega)])
      refine Dr.read 9 _ 38 _ rfl rfl rfl rfl rfl (RV.of (by intro _ _ h; cases h) (.inl rfl) (fun _ xd => HV.eqb Try.underlying4 rfl rfl)) ?_
      refine Dr.fin rfl ?_
      refine nrm_and ?_
      refine AW.cond rfl (fun c67 => ?_) (fun c67 => ?_)
      · -- then
        refine AW.exit ?_
        refine ex_and (ex_blk ?_)
        refine nrm_and ?_
        refine AW.reg ?_
        refine AL.val rfl (.inl rfl) (HV.mv rfl) ?_
        refine AL.val rfl (.inl rfl) (HV.addu rfl rfl (by omega)) ?_
        refine AL.val rfl (.inl rfl) (HV.as rfl) ?_
        refine AL.nil ?_
        refine nrm_and ?_
        have hall' : (∀ q, q < i + 1 → eligC n l g q → nn vv = true ∧ rr = aQ n l g q) ∧ (nn vv = true → ∃ q0, q0 < i + 1 ∧ eligC n l g q0 ∧ rr = aQ n l g q0) := ⟨fun q hq he => (Nat.lt_or_ge q i).elim (fun h1 => hall q h1 he) (fun h1 => by obtain rfl : q = i := (by omega); exfalso; exact hel.1 he (by simpa using c67)), fun h => by obtain ⟨q0, h1, h2⟩ := hsome h; exact ⟨q0, by omega, h2⟩⟩
        exact ⟨(i + 1, vv, rr), ⟨X47, X48, X49, hb51, by omega, hall'.1, hall'.2, (hrv.ext X50), trivial⟩, by first | omega | (dsimp only; omega), ⟨rfl, rfl, rfl, rfl, rfl, trivial⟩⟩
      · -- else
        refine AW.skip ?_
        refine nrm_and ?_
        refine AW.seq ?_
        refine AW.rs ?_
        refine AL.val rfl (.inl rfl) (HV.mv rfl) ?_
        refine AL.val rfl (.inl rfl) (HV.nn Try.underlying81 (hrv.ext X50).isSl rfl rfl) ?_
        refine AL.val rfl (.inl rfl) (HV.mv rfl) ?_
        cases c68 : nn vv
        · -- false
          refine AL.off rfl rfl (by decide) rfl ?_
          refine AL.off rfl rfl (by decide) rfl ?_
          refine AL.off rfl rfl (by decide) rfl ?_
          refine AL.off rfl rfl (by decide) rfl ?_
          refine AL.val rfl (.inl rfl) (HV.pickF rfl rfl) ?_
          refine AL.nx ?_
          refine AW.cond rfl (fun h => by cases h) (fun _ => ?_)
          refine AW.skip ?_
          refine nrm_and ?_
          refine AW.reg ?_
          refine AL.val rfl (.inl rfl) (HV.mv rfl) ?_
          refine AL.val rfl (.inl rfl) (HV.as rfl) ?_
          refine AL.nil ?_
          refine nrm_blk (nrm_and ?_)
          refine AW.reg ?_
          refine AL.val rfl (.inl rfl) (HV.mv rfl) ?_
          refine AL.val rfl (.inl rfl) (HV.addu rfl rfl (by omega)) ?_
          refine AL.val rfl (.inl rfl) (HV.as rfl) ?_
          refine AL.nil ?_
          refine nrm_and ?_
          have hne : eligC n l g i := hel.2 (fun e => by simp_all)
          have hnn : nn v42 = true := nn_pos hr46 (by rw [ansL_len, hA]; omega)
          have hall' : (∀ q, q < i + 1 → eligC n l g q → nn v42 = true ∧ (ansL l g (spr (oth n g) i (oth n g).length) (2 ^ g.length)) = aQ n l g q) ∧ (nn v42 = true → ∃ q0, q0 < i + 1 ∧ eligC n l g q0 ∧ (ansL l g (spr (oth n g) i (oth n g).length) (2 ^ g.length)) = aQ n l g q0) := ⟨fun q hq he => ⟨hnn, (Nat.lt_or_ge q i).elim (fun h1 => by obtain ⟨h2, h3⟩ := hall q h1 he; first | (rw [h2] at c68; cases c68; done) | (rw [← h3]; exact Eq.symm (by assumption))) (fun h1 => by obtain rfl : q = i := (by omega); rfl)⟩, fun _ => ⟨i, by omega, hne, rfl⟩⟩
          exact ⟨(i + 1, v42, (ansL l g (spr (oth n g) i (oth n g).length) (2 ^ g.length))), ⟨X47, X48, X49, hb51, by omega, hall'.1, hall'.2, (hr46).okk (fun _ _ _ => trivial), trivial⟩, by first | omega | (dsimp only; omega), ⟨rfl, rfl, rfl, rfl, rfl, trivial⟩⟩
        · -- true
          refine AL.val rfl (.inr ⟨_, _, _, rfl, rfl, rfl⟩) (HV.mv rfl) ?_
          refine AL.val rfl (.inr ⟨_, _, _, rfl, rfl, rfl⟩) (HV.mv rfl) ?_
          refine AL.w rfl (.inr ⟨_, _, _, rfl, rfl, rfl⟩) (WV.call fn102 rfl (eqB_ok (hrv.ext X50) hr46)) ?_
          rintro _ H70 ⟨rfl, hx71⟩
          have X72 := Ext.trans X47 hx71
          have X73 := Ext.trans X48 hx71
          have X74 := Ext.trans X49 hx71
          have X75 := Ext.trans X50 hx71
          have X76 := Ext.trans X52 hx71
          have hb77 := hb51.ext hx71
          refine AL.val rfl (.inr ⟨_, _, _, rfl, rfl, rfl⟩) (HV.not rfl) ?_
          refine AL.val rfl (.inl rfl) (HV.pickT rfl rfl) ?_
          refine AL.nx ?_
          refine AW.ifn rfl (fun c78 => ?_) (fun c78 => ?_)
          · -- then
            refine AW.rs ?_
            refine AL.val rfl (.inl rfl) (HV.as rfl) ?_
            refine AL.nx ?_
            refine AW.ret ?_
            refine ret_and (ret_blk (ret_and (ret_and (ret_blk (ret_and ?_)))))
            refine post_one rfl rfl ?_ (.inr rfl)
            exact ⟨dec_f (fun h => by
      have hne : eligC n l g i := hel.2 (fun e => by simp_all)
      obtain ⟨q0, h1, h2, h3⟩ := hsome (by assumption)
      exact absurd (h3.trans (h.2 q0 (by omega) i (by omega) h2 hne)) (by assumption)), X72⟩
          · -- else
            refine AW.skip ?_
            refine nrm_and ?_
            refine AW.reg ?_
            refine AL.val rfl (.inl rfl) (HV.mv rfl) ?_
            refine AL.val rfl (.inl rfl) (HV.as rfl) ?_
            refine AL.nil ?_
            refine nrm_blk (nrm_and ?_)
            refine AW.reg ?_
            refine AL.val rfl (.inl rfl) (HV.mv rfl) ?_
            refine AL.val rfl (.inl rfl) (HV.addu rfl rfl (by omega)) ?_
            refine AL.val rfl (.inl rfl) (HV.as rfl) ?_
            refine AL.nil ?_
            refine nrm_and ?_
            have hne : eligC n l g i := hel.2 (fun e => by simp_all)
            have hnn : nn v42 = true := nn_pos (hr46.ext X76) (by rw [ansL_len, hA]; omega)
            have hall' : (∀ q, q < i + 1 → eligC n l g q → nn v42 = true ∧ (ansL l g (spr (oth n g) i (oth n g).length) (2 ^ g.length)) = aQ n l g q) ∧ (nn v42 = true → ∃ q0, q0 < i + 1 ∧ eligC n l g q0 ∧ (ansL l g (spr (oth n g) i (oth n g).length) (2 ^ g.length)) = aQ n l g q0) := ⟨fun q hq he => ⟨hnn, (Nat.lt_or_ge q i).elim (fun h1 => by obtain ⟨h2, h3⟩ := hall q h1 he; first | (rw [h2] at c78; cases c78; done) | (rw [← h3]; exact Eq.symm (by assumption))) (fun h1 => by obtain rfl : q = i := (by omega); rfl)⟩, fun _ => ⟨i, by omega, hne, rfl⟩⟩
            exact ⟨(i + 1, v42, (ansL l g (spr (oth n g) i (oth n g).length) (2 ^ g.length))), ⟨X72, X73, X74, hb77, by omega, hall'.1, hall'.2, ((hr46.ext X76)).okk (fun _ _ _ => trivial), trivial⟩, by first | omega | (dsimp only; omega), ⟨rfl, rfl, rfl, rfl, rfl, trivial⟩⟩
    · -- else
      refine AW.exit ?_
      refine ex_and (ex_and (ex_blk ?_))
      refine nrm_and ?_
      refine AW.rs ?_
      refine AL.val rfl (.inl rfl) (HV.as rfl) ?_
      refine AL.nx ?_
      refine AW.ret ?_
      refine post_one rfl rfl ?_ (.inr rfl)
      have cM : M ≤ i := (by have c := c34; rw [Int.toNat_natCast, hM] at c; omega); exact ⟨dec_t ⟨by omega, fun q hq q' hq' e e' => by
      rw [hM] at hq hq'
      have h1 := (hall q (by omega) e).2; have h2 := (hall q' (by omega) e').2
      exact h1.symm.trans h2⟩, X29⟩

set_option maxRecDepth 100000 in
theorem l02Module_ok {v vg : Value} {l : List (List Int)} {g : List Int} {ok ok2 : Nat → Prop} {n : Int} {b : Nat} (hr : RdK (kR kI) W H ok v l) (hr2 : RdK kI W H ok2 vg g) (hb : At W H b ⟨42, [.int .i64 n, v], 2⟩) (hok : okI n l) (hg : Ris 0 (n - 1) g) : ACalls Try.prog W 67 #[.pointer (some ⟨b, 0, none⟩), vg] H (fun r H' => (∃ v, r = .tuple #[v, .bool (decide (modI n l g))]) ∧ Ext H H') := by
  refine ACalls.of (args := [.pointer (some ⟨b, 0, none⟩), vg]) Try.func67 rfl rfl ?_
  have X0 := Ext.refl H
  have hm1 := hr2.max
  have hmL := hr.max
  have hn := hok.1
  obtain ⟨N, hN, hN2, hN1⟩ := shl7 hn
  have hTL : (tabI n l).length = N := by rw [tabI_length, hN2]
  have hbI := (bits_nat hn hg).1
  have hmN : bitN g < N := by rw [← hN2]; exact (bits_nat hn hg).2.2
  have hOr : ∀ a b : Nat, a < N → b < N → a ||| b < N := fun a b ha hb => by rw [← hN2] at *; exact Nat.or_lt_two_pow ha hb
  refine AW.rs ?_
  refine AL.val rfl (.inl rfl) (HV.as rfl) ?_
  refine AL.val rfl (.inl rfl) (HV.as rfl) ?_
  refine AL.nx ?_
  refine AW.rs ?_
  refine AL.val rfl (.inl rfl) (HV.mv rfl) ?_
  refine AL.w rfl (.inl rfl) (WV.call fn61 rfl (l01Table_ok hr hb hn)) ?_
  rintro v2 H3 ⟨hx4, ho5⟩
  have X7 := Ext.trans X0 hx4
  have hb8 := hb.ext hx4
  have X9 := Ext.refl H3
  have hr6 := ho5.rd
  refine AL.val rfl (.inl rfl) (HV.as rfl) ?_
  refine AL.nx ?_
  refine AW.rs ?_
  refine AL.val rfl (.inl rfl) (HV.mv rfl) ?_
  refine AL.w rfl (.inl rfl) (WV.call fn52 rfl (l01Bits_ok (hr2.ext X7))) ?_
  rintro _ H10 ⟨rfl, hx11⟩
  have X12 := Ext.trans X7 hx11
  have X13 := Ext.trans X9 hx11
  have hb14 := hb8.ext hx11
  refine AL.val rfl (.inl rfl) (HV.as rfl) ?_
  rw [hbI]
  refine AL.nx ?_
  refine AW.rs ?_
  refine AL.val rfl (.inl rfl) (HV.mv rfl) ?_
  refine AL.val rfl (.inl rfl) (HV.len Try.underlying81 rfl hr6.isSl) ?_
  have X15 := Ext.refl H10
  have y16 := hb14.lt
  have o17 := X12.bd
  have o18 := X13.bd
  have o19 := X15.bd
  refine AL.w rfl (.inl rfl) (WV.mkK (K := kB) false (fun _ _ _ => rfl) sl81 rfl rfl rfl (by omega) (by omega) (by omega)) ?_
  rintro v20 H21 ⟨hx22, ho23⟩
  have X24 := Ext.trans X12 hx22
  have X25 := Ext.trans X13 hx22
  have X26 := Ext.trans X15 hx22
  have hb27 := hb14.ext hx22
  refine AL.val rfl (.inl rfl) (HV.as rfl) ?_
  refine AL.nx ?_
  refine AW.rs ?_
  refine AL.val rfl (.inl rfl) (HV.as rfl) ?_
  refine AL.nx ?_
  refine AW.seq ?_
  refine AW.rs ?_
  refine AL.val rfl (.inl rfl) (HV.as rfl) ?_
  refine AL.nx ?_
  refine AW.block ?_
  refine AW.loop (σ := Nat × Bool × List Bool) (fun ⟨i, fd, k⟩ => [(1, vg), (6, v2), (7, .int .i64 ((bitN g : Nat) : Int)), (8, v20), (8, v20), (9, .bool (decide (fd = true))), (10, .int .i64 (i : Int))]) (fun ⟨i, fd, k⟩ H' => Ext H H' ∧ Ext H3 H' ∧ Ext H10 H' ∧ At W H' b ⟨42, [.int .i64 n, v], 2⟩ ∧ i ≤ N ∧ k.length = N ∧ (∀ x, x < i → eligI l (bitN g) x → fd = true ∧ ∀ y, y < N → y &&& bitN g = y → k.getD y false = decide (opI ((x ||| y : Nat) : Int) l)) ∧ (fd = true → ∃ x, x < i ∧ eligI l (bitN g) x) ∧ OwnK kB 4 W H' (fun b => H10.bd ≤ b) v20 k ∧ True) (fun ⟨i, fd, k⟩ => N - i) (0, false, (List.replicate (((tabI n l).length : Int) : Int).toNat false)) ⟨X24, X25, X26, hb27, Nat.zero_le _, by simp [hTL], fun x hx => absurd hx (Nat.not_lt_zero _), (fun h => by cases h), ho23, trivial⟩ ⟨rfl, rfl, rfl, rfl, rfl, rfl, rfl, trivial⟩ ?_
  rintro ⟨i, fd, k⟩ H29 ⟨X30, X31, X32, hb33, hi, hk, hall, hsome, hoL, _⟩
  refine AW.seq ?_
  refine AW.rs ?_
  refine AL.val rfl (.inl rfl) (HV.mv rfl) ?_
  refine AL.val rfl (.inl rfl) (HV.mv rfl) ?_
  refine AL.val rfl (.inl rfl) (HV.len Try.underlying81 rfl hr6.isSl) ?_
  refine AL.val rfl (.inl rfl) (HV.lti rfl rfl) ?_
  refine AL.nx ?_
  refine AW.ifd rfl (fun c34 => ?_) (fun c34 => ?_)
  · -- then
    refine AW.skip ?_
    refine nrm_and ?_
    refine AW.seq ?_
    refine AW.block ?_
    refine AW.seq ?_
    refine AW.rs ?_
    refine AL.val rfl (.inl rfl) (HV.mv rfl) ?_
    refine AL.val rfl (.inl rfl) (HV.mv rfl) ?_
    refine AL.val rfl (.inl rfl) (HV.bits (by simp) rfl rfl) ?_
    rw [(bt_nat .i64 (.inl rfl) (show i < 128 by omega) (show bitN g < 128 by omega)).2]
    refine AL.val rfl (.inl rfl) (HV.nei rfl rfl) ?_
    refine AL.val rfl (.inl rfl) (HV.mv rfl) ?_
    by_cases c35 : ((i &&& bitN g : Nat) : Int) ≠ 0
    · -- true
      have c35_ : decide (((i &&& bitN g : Nat) : Int) ≠ 0) = true := decide_eq_true c35
      rw [c35_]
      refine AL.off rfl rfl (by decide) rfl ?_
      refine AL.off rfl rfl (by decide) rfl ?_
      refine AL.off rfl rfl (by decide) rfl ?_
      refine AL.off rfl rfl (by decide) rfl ?_
      refine AL.val rfl (.inl rfl) (HV.pickT rfl rfl) ?_
      refine AL.val rfl (.inl rfl) (HV.mv rfl) ?_
      refine AL.off rfl rfl (by decide) rfl ?_
      refine AL.off rfl rfl (by decide) rfl ?_
      refine AL.off rfl rfl (by decide) rfl ?_
      refine AL.off rfl rfl (by decide) rfl ?_
      refine AL.off rfl rfl (by decide) rfl ?_
      refine AL.off rfl rfl (by decide) rfl ?_
      refine AL.off rfl rfl (by decide) rfl ?_
      refine AL.val rfl (.inl rfl) (HV.pickT rfl rfl) ?_
      refine AL.nx ?_
      refine AW.cond rfl (fun _ => ?_) (fun h => by cases h)
      refine AW.exit ?_
      refine ex_and (ex_blk ?_)
      refine nrm_and ?_
      refine AW.reg ?_
      refine AL.val rfl (.inl rfl) (HV.mv rfl) ?_
      refine AL.val rfl (.inl rfl) (HV.add rfl rfl (by omega)) ?_
      refine AL.val rfl (.inl rfl) (HV.as rfl) ?_
      refine AL.nil ?_
      refine nrm_and ?_
      have hnot : ¬ eligI l (bitN g) i := fun he => by (obtain ⟨e1, e2, e3⟩ := he; first | omega)
      exact ⟨(i + 1, fd, k), ⟨X30, X31, X32, hb33, by omega, hk, fun x hx he => (Nat.lt_or_ge x i).elim (fun h1 => hall x h1 he) (fun h1 => by have e0 : x = i := (by omega); rw [e0] at he; exact absurd he hnot), fun h => by obtain ⟨x, h1, h2⟩ := hsome h; exact ⟨x, by omega, h2⟩, hoL, trivial⟩, by first | omega | (dsimp only; omega), ⟨rfl, rfl, rfl, rfl, rfl, rfl, rfl, trivial⟩⟩
    · -- false
      have c35_ : decide (((i &&& bitN g : Nat) : Int) ≠ 0) = false := decide_eq_false c35
      rw [c35_]
      refine AL.val rfl (.inr ⟨_, _, _, rfl, rfl, rfl⟩) (HV.mv rfl) ?_
      refine AL.val rfl (.inr ⟨_, _, _, rfl, rfl, rfl⟩) (HV.mv rfl) ?_
      obtain ⟨p37, z38, cs39, hz40, hK41, hC42, hP43⟩ := RdK.ix (q := (i : Int)) hr6 sl81 (by omega) (by omega)
      obtain rfl : cs39 = [.bool z38] := hK41
      refine AL.val rfl (.inr ⟨_, _, _, rfl, rfl, rfl⟩) (hP43 rfl rfl) ?_
      refine AL.val rfl (.inr ⟨_, _, _, rfl, rfl, rfl⟩) (HV.ld rfl va4 (cells_first (hC42.ext X31) rfl)) ?_
      refine AL.val rfl (.inl rfl) (HV.pickF rfl rfl) ?_
      refine AL.val rfl (.inl rfl) (HV.mv rfl) ?_
      cases c44 : z38
      · -- false
        refine AL.val rfl (.inr ⟨_, _, _, rfl, rfl, rfl⟩) (HV.mv rfl) ?_
        refine AL.val rfl (.inr ⟨_, _, _, rfl, rfl, rfl⟩) (HV.mv rfl) ?_
        refine AL.val rfl (.inr ⟨_, _, _, rfl, rfl, rfl⟩) (HV.mv rfl) ?_
        refine AL.val rfl (.inr ⟨_, _, _, rfl, rfl, rfl⟩) (HV.bits (by simp) rfl rfl) ?_
        rw [(bt_nat .i64 (.inl rfl) (show i < 128 by omega) (show bitN g < 128 by omega)).1]
        obtain ⟨p45, z46, cs47, hz48, hK49, hC50, hP51⟩ := RdK.ix (q := ((i ||| bitN g : Nat) : Int)) hr6 sl81 (by omega) (by have := hOr i (bitN g) (by omega) hmN; omega)
        obtain rfl : cs47 = [.bool z46] := hK49
        refine AL.val rfl (.inr ⟨_, _, _, rfl, rfl, rfl⟩) (hP51 rfl rfl) ?_
        refine AL.val rfl (.inr ⟨_, _, _, rfl, rfl, rfl⟩) (HV.ld rfl va4 (cells_first (hC50.ext X31) rfl)) ?_
        refine AL.val rfl (.inr ⟨_, _, _, rfl, rfl, rfl⟩) (HV.not rfl) ?_
        refine AL.val rfl (.inl rfl) (HV.pickF rfl rfl) ?_
        refine AL.nx ?_
        refine AW.cond rfl (fun c52 => ?_) (fun c52 => ?_)
        · -- then
          refine AW.exit ?_
          refine ex_and (ex_blk ?_)
          refine nrm_and ?_
          refine AW.reg ?_
          refine AL.val rfl (.inl rfl) (HV.mv rfl) ?_
          refine AL.val rfl (.inl rfl) (HV.add rfl rfl (by omega)) ?_
          refine AL.val rfl (.inl rfl) (HV.as rfl) ?_
          refine AL.nil ?_
          refine nrm_and ?_
          have z33_ := tab_z hz40 rfl (show i < 2 ^ n.toNat by omega)
          have z41_ := tab_z hz48 rfl (hN2.symm ▸ hOr i (bitN g) (by omega) (by omega))
          have hnot : ¬ eligI l (bitN g) i := fun he => by (obtain ⟨e1, e2, e3⟩ := he; first | omega | exact e2 (of_decide_eq_true (z33_.symm.trans (by assumption))) | exact absurd e3 (of_decide_eq_false (z41_.symm.trans (by simpa using (by assumption : (!z46) = true)))))
          exact ⟨(i + 1, fd, k), ⟨X30, X31, X32, hb33, by omega, hk, fun x hx he => (Nat.lt_or_ge x i).elim (fun h1 => hall x h1 he) (fun h1 => by have e0 : x = i := (by omega); rw [e0] at he; exact absurd he hnot), fun h => by obtain ⟨x, h1, h2⟩ := hsome h; exact ⟨x, by omega, h2⟩, hoL, trivial⟩, by first | omega | (dsimp only; omega), ⟨rfl, rfl, rfl, rfl, rfl, rfl, rfl, trivial⟩⟩
        · -- else
          refine AW.skip ?_
          refine nrm_and ?_
          refine AW.seq ?_
          refine AW.rs ?_
          refine AL.val rfl (.inl rfl) (HV.as rfl) ?_
          refine AL.nx ?_
          refine AW.block ?_
          have z33_ := tab_z hz40 rfl (show i < 2 ^ n.toNat by omega)
          have z41_ := tab_z hz48 rfl (hN2.symm ▸ hOr i (bitN g) (by omega) (by omega))
          have hel : eligI l (bitN g) i := ⟨by omega, of_decide_eq_false (z33_.symm.trans (by assumption : z38 = false)), of_decide_eq_true (z41_.symm.trans (by simpa using (by assumption : (!z46) = false)))⟩
          refine AW.loop (σ := Nat × List Bool) (fun ⟨j, k2⟩ => [(1, vg), (6, v2), (7, .int .i64 ((bitN g : Nat) : Int)), (8, v20), (9, .bool (decide (fd = true))), (10, .int .i64 (i : Int)), (19, .int .i64 (i : Int)), (20, v2), (21, .int .i64 ((tabI n l).length : Int)), (22, .bool (decide ((i : Int) < ((tabI n l).length : Int)))), (25, .int .i64 (i : Int)), (26, .int .i64 ((bitN g : Nat) : Int)), (27, .int .i64 ((i &&& bitN g : Nat) : Int)), (28, .bool false), (29, .bool false), (30, v2), (31, .int .i64 (i : Int)), (32, .pointer (some p37)), (33, .bool false), (34, .bool false), (35, .bool false), (36, v2), (37, .int .i64 (i : Int)), (38, .int .i64 ((bitN g : Nat) : Int)), (39, .int .i64 ((i ||| bitN g : Nat) : Int)), (40, .pointer (some p45)), (41, .bool z46), (42, .bool (!z46)), (43, .bool (!z46)), (8, v20), (11, .int .i64 (j : Int))]) (fun ⟨j, k2⟩ H' => Ext H H' ∧ Ext H3 H' ∧ Ext H10 H' ∧ At W H' b ⟨42, [.int .i64 n, v], 2⟩ ∧ j ≤ N ∧ k2.length = N ∧ (∀ x, x < i → eligI l (bitN g) x → ∀ y, y < N → y &&& bitN g = y → k2.getD y false = decide (opI ((x ||| y : Nat) : Int) l)) ∧ (∀ y, y < j → y &&& bitN g = y → k2.getD y false = decide (opI ((i ||| y : Nat) : Int) l)) ∧ OwnK kB 4 W H' (fun b => H10.bd ≤ b) v20 k2 ∧ True) (fun ⟨j, k2⟩ => N - j) (0, k) ⟨X30, X31, X32, hb33, Nat.zero_le _, hk, fun x hx he => (hall x hx he).2, fun y hy => absurd hy (Nat.not_lt_zero _), hoL, trivial⟩ ⟨rfl, rfl, rfl, rfl, rfl, rfl, rfl, rfl, rfl, rfl, rfl, rfl, rfl, rfl, rfl, rfl, rfl, rfl, rfl, rfl, rfl, rfl, rfl, rfl, rfl, rfl, rfl, rfl, rfl, rfl, rfl, trivial⟩ ?_
          rintro ⟨j, k2⟩ H53 ⟨X54, X55, X56, hb57, hj, hk2, hold, hnew, hoL2, _⟩
          refine AW.seq ?_
          refine AW.rs ?_
          refine AL.val rfl (.inl rfl) (HV.mv rfl) ?_
          refine AL.val rfl (.inl rfl) (HV.mv rfl) ?_
          refine AL.val rfl (.inl rfl) (HV.len Try.underlying81 rfl hr6.isSl) ?_
          refine AL.val rfl (.inl rfl) (HV.lti rfl rfl) ?_
          refine AL.nx ?_
          refine AW.ifd rfl (fun c58 => ?_) (fun c58 => ?_)
          · -- then
            refine AW.skip ?_
            refine nrm_and ?_
            refine AW.seq ?_
            refine AW.block ?_
            refine AW.seq ?_
            refine AW.rs ?_
            refine AL.val rfl (.inl rfl) (HV.mv rfl) ?_
            refine AL.val rfl (.inl rfl) (HV.mv rfl) ?_
            refine AL.val rfl (.inl rfl) (HV.bits (by simp) rfl rfl) ?_
            rw [(bt_nat .i64 (.inl rfl) (show j < 128 by omega) (show bitN g < 128 by omega)).2]
            refine AL.val rfl (.inl rfl) (HV.mv rfl) ?_
            refine AL.val rfl (.inl rfl) (HV.nei rfl rfl) ?_
            refine AL.nx ?_
            refine AW.ifd rfl (fun c59 => ?_) (fun c59 => ?_)
            · -- then
              refine AW.exit ?_
              refine ex_and (ex_blk ?_)
              refine nrm_and ?_
              refine AW.reg ?_
              refine AL.val rfl (.inl rfl) (HV.mv rfl) ?_
              refine AL.val rfl (.inl rfl) (HV.add rfl rfl (by omega)) ?_
              refine AL.val rfl (.inl rfl) (HV.as rfl) ?_
              refine AL.nil ?_
              refine nrm_and ?_
              exact ⟨(j + 1, k2), ⟨X54, X55, X56, hb57, by omega, hk2, hold, fun y hy hm => (Nat.lt_or_ge y j).elim (fun h1 => hnew y h1 hm) (fun h1 => by have e0 : y = j := (by omega); rw [e0] at hm; exfalso; omega), hoL2, trivial⟩, by first | omega | (dsimp only; omega), ⟨rfl, rfl, rfl, rfl, rfl, rfl, rfl, rfl, rfl, rfl, rfl, rfl, rfl, rfl, rfl, rfl, rfl, rfl, rfl, rfl, rfl, rfl, rfl, rfl, rfl, rfl, rfl, rfl, rfl, rfl, rfl, trivial⟩⟩
            · -- else
              refine AW.skip ?_
              refine nrm_and ?_
              refine AW.seq ?_
              refine AW.seq ?_
              refine AW.draw' [0, 1, 3, 3, 15, 31, 3, 3, 3, 387, 963, 1987, 4095, 8191] mixed (by rfl) ?_
              refine Dr.read 0 _ 55 _ rfl rfl rfl rfl rfl (RV.of (by intro _ _ h; cases h) (.inl rfl) (fun _ xd => HV.mv rfl)) ?_
              refine Dr.read 1 _ 56 _ rfl rfl rfl rfl rfl (RV.of (by intro _ _ h; cases h) (.inl rfl) (fun _ xd => HV.mv rfl)) ?_
              by_cases c60 : fd = true
              · -- true
                have c60_ : decide (fd = true) = true := decide_eq_true c60
                rw [c60_]
                refine Dr.read 2 _ 57 _ rfl rfl rfl rfl rfl (RV.of (by intro _ _ h; cases h) (.inr ⟨_, _, _, rfl, rfl, rfl⟩) (fun _ xd => HV.mv rfl)) ?_
                refine Dr.read 3 _ 58 _ rfl rfl rfl rfl rfl (RV.of (by intro _ _ h; cases h) (.inr ⟨_, _, _, rfl, rfl, rfl⟩) (fun _ xd => HV.mv rfl)) ?_
                obtain ⟨g61, z62, cs63, hz64, hK65, hC66, hg67, hP68⟩ := OwnK.ix (q := (j : Int)) hoL2 sl81 (by omega) (by omega)
                have X69 := Ext.refl H53
                obtain rfl : cs63 = [.bool z62] := hK65
                refine Dr.read 4 _ 59 _ rfl rfl rfl rfl rfl (RV.of (by intro _ _ h; cases h) (.inr ⟨_, _, _, rfl, rfl, rfl⟩) (fun _ xd => hP68 rfl rfl)) ?_
                refine Dr.read 5 _ 60 _ rfl rfl rfl rfl rfl (RV.of (by intro _ _ h; cases h) (.inr ⟨_, _, _, rfl, rfl, rfl⟩) (fun _ xd => HV.ld rfl va4 (rdc_ext xd (cells_first hC66 rfl)))) ?_
                refine Dr.read 6 _ 61 _ rfl rfl rfl rfl rfl (RV.of (by intro _ _ h; cases h) (.inr ⟨_, _, _, rfl, rfl, rfl⟩) (fun _ xd => HV.mv rfl)) ?_
                refine Dr.read 7 _ 62 _ rfl rfl rfl rfl rfl (RV.of (by intro _ _ h; cases h) (.inr ⟨_, _, _, rfl, rfl, rfl⟩) (fun _ xd => HV.mv rfl)) ?_
                refine Dr.read 8 _ 63 _ rfl rfl rfl rfl rfl (RV.of (by intro _ _ h; cases h) (.inr ⟨_, _, _, rfl, rfl, rfl⟩) (fun _ xd => HV.mv rfl)) ?_
                refine Dr.read 9 _ 64 _ rfl rfl rfl rfl rfl (RV.of (by intro _ _ h; cases h) (.inr ⟨_, _, _, rfl, rfl, rfl⟩) (fun _ xd => HV.bits (by simp) rfl rfl)) ?_
                rw [(bt_nat .i64 (.inl rfl) (show i < 128 by omega) (show j < 128 by omega)).1]
                obtain ⟨p70, z71, cs72, hz73, hK74, hC75, hP76⟩ := RdK.ix (q := ((i ||| j : Nat) : Int)) hr6 sl81 (by omega) (by have := hOr i j (by omega) (by omega); omega)
                obtain rfl : cs72 = [.bool z71] := hK74
                refine Dr.read 10 _ 65 _ rfl rfl rfl rfl rfl (RV.of (by intro _ _ h; cases h) (.inr ⟨_, _, _, rfl, rfl, rfl⟩) (fun _ xd => hP76 rfl rfl)) ?_
                refine Dr.read 11 _ 66 _ rfl rfl rfl rfl rfl (RV.of (by intro _ _ h; cases h) (.inr ⟨_, _, _, rfl, rfl, rfl⟩) (fun _ xd => HV.ld rfl va4 (rdc_ext xd (cells_first (hC75.ext X55) rfl)))) ?_
                refine Dr.read 12 _ 67 _ rfl rfl rfl rfl rfl (RV.of (by intro _ _ h; cases h) (.inr ⟨_, _, _, rfl, rfl, rfl⟩) (fun _ xd => HV.neb Try.underlying4 rfl rfl)) ?_
                refine Dr.read 13 _ 68 _ rfl rfl rfl rfl rfl (RV.of (by intro _ _ h; cases h) (.inl rfl) (fun _ xd => HV.pickT rfl rfl)) ?_
                refine Dr.fin rfl ?_
                refine nrm_and ?_
                refine AW.cond rfl (fun c77 => ?_) (fun c77 => ?_)
                · -- then
                  refine AW.rs ?_
                  refine AL.val rfl (.inl rfl) (HV.mv rfl) ?_
                  refine AL.val rfl (.inl rfl) (HV.as rfl) ?_
                  refine AL.val rfl (.inl rfl) (HV.as rfl) ?_
                  refine AL.nx ?_
                  refine AW.ret ?_
                  refine ret_and (ret_blk (ret_and (ret_and (ret_blk (ret_and (ret_blk (ret_and (ret_and (ret_blk (ret_and ?_))))))))))
                  refine post_two rfl rfl rfl ?_ (.inr rfl)
                  exact ⟨⟨_, by rw [decide_eq_false (fun h => by obtain ⟨x, h1, h2⟩ := hsome (by assumption); have h3 := h.2 x (by omega) i (by omega) h2 hel j (by omega) (by omega); have h4 := hold x h1 h2 j (by omega) (by omega); have g60 : k2.getD j false = z62 := gd hz64 rfl; have z33_ := tab_z hz40 rfl (show i < 2 ^ n.toNat by omega); have z41_ := tab_z hz48 rfl (hN2.symm ▸ hOr i (bitN g) (by omega) (by omega)); have z66_ := tab_z hz73 rfl (hN2.symm ▸ hOr i j (by omega) (by omega)); exact absurd (g60.symm.trans (h4.trans ((decide_eq_decide.2 h3).trans z66_.symm))) (by simpa using c77))]⟩, X54⟩
                · -- else
                  refine AW.skip ?_
                  refine nrm_and ?_
                  refine AW.reg ?_
                  refine AL.val rfl (.inl rfl) (HV.mv rfl) ?_
                  refine AL.val rfl (.inl rfl) (HV.mv rfl) ?_
                  refine AL.val rfl (.inl rfl) (HV.mv rfl) ?_
                  refine AL.val rfl (.inl rfl) (HV.mv rfl) ?_
                  refine AL.val rfl (.inl rfl) (HV.mv rfl) ?_
                  refine AL.val rfl (.inl rfl) (HV.bits (by simp) rfl rfl) ?_
                  rw [(bt_nat .i64 (.inl rfl) (show i < 128 by omega) (show j < 128 by omega)).1]
                  obtain ⟨p78, z79, cs80, hz81, hK82, hC83, hP84⟩ := RdK.ix (q := ((i ||| j : Nat) : Int)) hr6 sl81 (by omega) (by have := hOr i j (by omega) (by omega); omega)
                  obtain rfl : cs80 = [.bool z79] := hK82
                  refine AL.val rfl (.inl rfl) (hP84 rfl rfl) ?_
                  refine AL.val rfl (.inl rfl) (HV.ld rfl va4 (cells_first (hC83.ext X55) rfl)) ?_
                  obtain ⟨g85, z86, cs87, hz88, hK89, hC90, hg91, hP92⟩ := OwnK.ix (q := (j : Int)) hoL2 sl81 (by omega) (by omega)
                  obtain rfl : cs87 = [.bool z86] := hK89
                  refine AL.val rfl (.inl rfl) (hP92 rfl rfl) ?_
                  refine AL.w0 (.inl rfl) (WV.stK (okx := fun _ => False) (x' := z79) hoL2 hg91 rfl rfl va4 (by omega) rfl (fun _ h => h.elim)) ?_
                  rintro _ H93 ⟨hx94, ho95⟩
                  have X96 := Ext.thru X54 hx94 (fun b hb => Nat.le_trans o17 (hoL2.blk b hb).1)
                  have X97 := Ext.thru X55 hx94 (fun b hb => Nat.le_trans o18 (hoL2.blk b hb).1)
                  have X98 := Ext.thru X56 hx94 (fun b hb => Nat.le_trans o19 (hoL2.blk b hb).1)
                  have hb100 := hb57.but hx94 (fun e => by have q : H10.bd ≤ _ := (hoL2.blk _ e).1; omega)
                  have ho101 := ho95.okk (ok' := fun b => H10.bd ≤ b) (fun b hb _ => hb.elim id False.elim)
                  refine AL.nil ?_
                  refine nrm_blk (nrm_and ?_)
                  refine AW.reg ?_
                  refine AL.val rfl (.inl rfl) (HV.mv rfl) ?_
                  refine AL.val rfl (.inl rfl) (HV.add rfl rfl (by omega)) ?_
                  refine AL.val rfl (.inl rfl) (HV.as rfl) ?_
                  refine AL.nil ?_
                  refine nrm_and ?_
                  have z33_ := tab_z hz40 rfl (show i < 2 ^ n.toNat by omega)
                  have z41_ := tab_z hz48 rfl (hN2.symm ▸ hOr i (bitN g) (by omega) (by omega))
                  have z66_ := tab_z hz73 rfl (hN2.symm ▸ hOr i j (by omega) (by omega))
                  have z77_ := tab_z hz81 rfl (hN2.symm ▸ hOr i j (by omega) (by omega))
                  have g60 : k2.getD j false = z62 := gd hz64 rfl
                  have e60 : z62 = z71 := by simpa using (by assumption : (!(z62 == z71)) = false)
                  have hv : (k2.set ((j : Int) : Int).toNat z79).getD j false = decide (opI ((i ||| j : Nat) : Int) l) := (set_selfB (by omega)).trans z77_
                  have hs : ∀ y, y ≠ j → (k2.set ((j : Int) : Int).toNat z79).getD y false = k2.getD y false := fun y hy => set_ne hy
                  exact ⟨(j + 1, (k2.set ((j : Int) : Int).toNat z79)), ⟨X96, X97, X98, hb100, by omega, by simp [hk2], fun x hx he y hy hm => by by_cases e : y = j; (subst e; rw [hv]; have q := hold x hx he y hy hm; exact z66_.symm.trans (e60.symm.trans (g60.symm.trans q))); (rw [hs y e]; exact hold x hx he y hy hm), fun y hy hm => by by_cases e : y = j; (subst e; exact hv); (rw [hs y e]; exact hnew y (by omega) hm), ho101, trivial⟩, by first | omega | (dsimp only; omega), ⟨rfl, rfl, rfl, rfl, rfl, rfl, rfl, rfl, rfl, rfl, rfl, rfl, rfl, rfl, rfl, rfl, rfl, rfl, rfl, rfl, rfl, rfl, rfl, rfl, rfl, rfl, rfl, rfl, rfl, rfl, rfl, trivial⟩⟩
              · -- false
                have c60_ : decide (fd = true) = false := decide_eq_false c60
                rw [c60_]
                refine Dr.read 2 _ 57 _ rfl rfl rfl rfl rfl (RV.off (by intro _ _ h; cases h) rfl rfl (by decide)) ?_
                refine Dr.read 3 _ 58 _ rfl rfl rfl rfl rfl (RV.off (by intro _ _ h; cases h) rfl rfl (by decide)) ?_
                refine Dr.read 4 _ 59 _ rfl rfl rfl rfl rfl (RV.off (by intro _ _ h; cases h) rfl rfl (by decide)) ?_
                refine Dr.read 5 _ 60 _ rfl rfl rfl rfl rfl (RV.off (by intro _ _ h; cases h) rfl rfl (by decide)) ?_
                refine Dr.read 6 _ 61 _ rfl rfl rfl rfl rfl (RV.off (by intro _ _ h; cases h) rfl rfl (by decide)) ?_
                refine Dr.read 7 _ 62 _ rfl rfl rfl rfl rfl (RV.off (by intro _ _ h; cases h) rfl rfl (by decide)) ?_
                refine Dr.read 8 _ 63 _ rfl rfl rfl rfl rfl (RV.off (by intro _ _ h; cases h) rfl rfl (by decide)) ?_
                refine Dr.read 9 _ 64 _ rfl rfl rfl rfl rfl (RV.off (by intro _ _ h; cases h) rfl rfl (by decide)) ?_
                refine Dr.read 10 _ 65 _ rfl rfl rfl rfl rfl (RV.off (by intro _ _ h; cases h) rfl rfl (by decide)) ?_
                refine Dr.read 11 _ 66 _ rfl rfl rfl rfl rfl (RV.off (by intro _ _ h; cases h) rfl rfl (by decide)) ?_
                refine Dr.read 12 _ 67 _ rfl rfl rfl rfl rfl (RV.off (by intro _ _ h; cases h) rfl rfl (by decide)) ?_
                refine Dr.read 13 _ 68 _ rfl rfl rfl rfl rfl (RV.of (by intro _ _ h; cases h) (.inl rfl) (fun _ xd => HV.pickF rfl rfl)) ?_
                refine Dr.fin rfl ?_
                refine nrm_and ?_
                refine AW.cond rfl (fun h => by cases h) (fun _ => ?_)
                refine AW.skip ?_
                refine nrm_and ?_
                refine AW.reg ?_
                refine AL.val rfl (.inl rfl) (HV.mv rfl) ?_
                refine AL.val rfl (.inl rfl) (HV.mv rfl) ?_
                refine AL.val rfl (.inl rfl) (HV.mv rfl) ?_
                refine AL.val rfl (.inl rfl) (HV.mv rfl) ?_
                refine AL.val rfl (.inl rfl) (HV.mv rfl) ?_
                refine AL.val rfl (.inl rfl) (HV.bits (by simp) rfl rfl) ?_
                rw [(bt_nat .i64 (.inl rfl) (show i < 128 by omega) (show j < 128 by omega)).1]
                obtain ⟨p103, z104, cs105, hz106, hK107, hC108, hP109⟩ := RdK.ix (q := ((i ||| j : Nat) : Int)) hr6 sl81 (by omega) (by have := hOr i j (by omega) (by omega); omega)
                obtain rfl : cs105 = [.bool z104] := hK107
                refine AL.val rfl (.inl rfl) (hP109 rfl rfl) ?_
                refine AL.val rfl (.inl rfl) (HV.ld rfl va4 (cells_first (hC108.ext X55) rfl)) ?_
                obtain ⟨g110, z111, cs112, hz113, hK114, hC115, hg116, hP117⟩ := OwnK.ix (q := (j : Int)) hoL2 sl81 (by omega) (by omega)
                have X118 := Ext.refl H53
                obtain rfl : cs112 = [.bool z111] := hK114
                refine AL.val rfl (.inl rfl) (hP117 rfl rfl) ?_
                refine AL.w0 (.inl rfl) (WV.stK (okx := fun _ => False) (x' := z104) hoL2 hg116 rfl rfl va4 (by omega) rfl (fun _ h => h.elim)) ?_
                rintro _ H119 ⟨hx120, ho121⟩
                have X122 := Ext.thru X54 hx120 (fun b hb => Nat.le_trans o17 (hoL2.blk b hb).1)
                have X123 := Ext.thru X55 hx120 (fun b hb => Nat.le_trans o18 (hoL2.blk b hb).1)
                have X124 := Ext.thru X56 hx120 (fun b hb => Nat.le_trans o19 (hoL2.blk b hb).1)
                have hb126 := hb57.but hx120 (fun e => by have q : H10.bd ≤ _ := (hoL2.blk _ e).1; omega)
                have ho127 := ho121.okk (ok' := fun b => H10.bd ≤ b) (fun b hb _ => hb.elim id False.elim)
                refine AL.nil ?_
                refine nrm_blk (nrm_and ?_)
                refine AW.reg ?_
                refine AL.val rfl (.inl rfl) (HV.mv rfl) ?_
                refine AL.val rfl (.inl rfl) (HV.add rfl rfl (by omega)) ?_
                refine AL.val rfl (.inl rfl) (HV.as rfl) ?_
                refine AL.nil ?_
                refine nrm_and ?_
                have z33_ := tab_z hz40 rfl (show i < 2 ^ n.toNat by omega)
                have z41_ := tab_z hz48 rfl (hN2.symm ▸ hOr i (bitN g) (by omega) (by omega))
                have z77_ := tab_z hz106 rfl (hN2.symm ▸ hOr i j (by omega) (by omega))
                have hv : (k2.set ((j : Int) : Int).toNat z104).getD j false = decide (opI ((i ||| j : Nat) : Int) l) := (set_selfB (by omega)).trans z77_
                have hs : ∀ y, y ≠ j → (k2.set ((j : Int) : Int).toNat z104).getD y false = k2.getD y false := fun y hy => set_ne hy
                exact ⟨(j + 1, (k2.set ((j : Int) : Int).toNat z104)), ⟨X122, X123, X124, hb126, by omega, by simp [hk2], fun x hx he y hy hm => by by_cases e : y = j; (subst e; exact absurd (hall x hx he).1 (by assumption)); (rw [hs y e]; exact hold x hx he y hy hm), fun y hy hm => by by_cases e : y = j; (subst e; exact hv); (rw [hs y e]; exact hnew y (by omega) hm), ho127, trivial⟩, by first | omega | (dsimp only; omega), ⟨rfl, rfl, rfl, rfl, rfl, rfl, rfl, rfl, rfl, rfl, rfl, rfl, rfl, rfl, rfl, rfl, rfl, rfl, rfl, rfl, rfl, rfl, rfl, rfl, rfl, rfl, rfl, rfl, rfl, rfl, rfl, trivial⟩⟩
          · -- else
            refine AW.exit ?_
            refine ex_and (ex_and (ex_blk ?_))
            refine nrm_and ?_
            refine AW.reg ?_
            refine AL.val rfl (.inl rfl) (HV.as rfl) ?_
            refine AL.nil ?_
            refine nrm_blk (nrm_and ?_)
            refine AW.reg ?_
            refine AL.val rfl (.inl rfl) (HV.mv rfl) ?_
            refine AL.val rfl (.inl rfl) (HV.add rfl rfl (by omega)) ?_
            refine AL.val rfl (.inl rfl) (HV.as rfl) ?_
            refine AL.nil ?_
            refine nrm_and ?_
            exact ⟨(i + 1, true, k2), ⟨X54, X55, X56, hb57, by omega, hk2, fun x hx he => ⟨rfl, (Nat.lt_or_ge x i).elim (fun h1 => hold x h1 he) (fun h1 => by have e0 : x = i := (by omega); subst e0; exact fun y hy hm => hnew y (by omega) hm)⟩, fun _ => ⟨i, by omega, hel⟩, hoL2, trivial⟩, by first | omega | (dsimp only; omega), ⟨rfl, rfl, rfl, rfl, rfl, rfl, rfl, trivial⟩⟩
      · -- true
        refine AL.off rfl rfl (by decide) rfl ?_
        refine AL.off rfl rfl (by decide) rfl ?_
        refine AL.off rfl rfl (by decide) rfl ?_
        refine AL.off rfl rfl (by decide) rfl ?_
        refine AL.off rfl rfl (by decide) rfl ?_
        refine AL.off rfl rfl (by decide) rfl ?_
        refine AL.off rfl rfl (by decide) rfl ?_
        refine AL.val rfl (.inl rfl) (HV.pickT rfl rfl) ?_
        refine AL.nx ?_
        refine AW.cond rfl (fun _ => ?_) (fun h => by cases h)
        refine AW.exit ?_
        refine ex_and (ex_blk ?_)
        refine nrm_and ?_
        refine AW.reg ?_
        refine AL.val rfl (.inl rfl) (HV.mv rfl) ?_
        refine AL.val rfl (.inl rfl) (HV.add rfl rfl (by omega)) ?_
        refine AL.val rfl (.inl rfl) (HV.as rfl) ?_
        refine AL.nil ?_
        refine nrm_and ?_
        have z33_ := tab_z hz40 rfl (show i < 2 ^ n.toNat by omega)
        have hnot : ¬ eligI l (bitN g) i := fun he => by (obtain ⟨e1, e2, e3⟩ := he; first | omega | exact e2 (of_decide_eq_true (z33_.symm.trans (by assumption))))
        exact ⟨(i + 1, fd, k), ⟨X30, X31, X32, hb33, by omega, hk, fun x hx he => (Nat.lt_or_ge x i).elim (fun h1 => hall x h1 he) (fun h1 => by have e0 : x = i := (by omega); rw [e0] at he; exact absurd he hnot), fun h => by obtain ⟨x, h1, h2⟩ := hsome h; exact ⟨x, by omega, h2⟩, hoL, trivial⟩, by first | omega | (dsimp only; omega), ⟨rfl, rfl, rfl, rfl, rfl, rfl, rfl, trivial⟩⟩
  · -- else
    refine AW.exit ?_
    refine ex_and (ex_and (ex_blk ?_))
    refine nrm_and ?_
    refine AW.rs ?_
    refine AL.val rfl (.inl rfl) (HV.mv rfl) ?_
    refine AL.val rfl (.inl rfl) (HV.mv rfl) ?_
    refine AL.val rfl (.inl rfl) (HV.len Try.underlying25 rfl hr2.isSl) ?_
    refine AL.val rfl (.inl rfl) (HV.gti rfl rfl) ?_
    refine AL.val rfl (.inl rfl) (HV.as rfl) ?_
    refine AL.val rfl (.inl rfl) (HV.as rfl) ?_
    refine AL.nx ?_
    refine AW.ret ?_
    refine post_two rfl rfl rfl ?_ (.inr rfl)
    exact ⟨⟨_, by rw [show decide ((g.length : Int) > 0) = decide (modI n l g) from decide_eq_decide.2 ⟨fun h => ⟨by omega, fun x hx x' hx' e e' y hy hm => by have h1 := (hall x (by omega) e).2 y (by omega) hm; have h2 := (hall x' (by omega) e').2 y (by omega) hm; rw [h1] at h2; exact decide_eq_decide.1 h2⟩, fun h => by have := h.1; omega⟩]⟩, X30⟩

set_option maxRecDepth 100000 in
theorem specMod_ok {v vg : Value} {l : List (List Int)} {g : List Int} {ok ok2 : Nat → Prop} (n : Int) (hr : RdK (kR kI) W H ok v l) (hr2 : RdK kI W H ok2 vg g) : ACalls Try.prog W 29 #[.agg #[.int .i64 n, v], vg] H (fun r H' => r = (.tuple #[.bool (decide (okI n l ∧ Ris 0 (n - 1) g ∧ modI n l g)), .int .i64 (if okI n l then if Ris 0 (n - 1) g then 0 else 2 else 1)]) ∧ Ext H H') := by
  refine ACalls.of (args := [.agg #[.int .i64 n, v], vg]) Try.func29 rfl rfl ?_
  have X0 := Ext.refl H
  have hm1 := hr.max
  have hm2 := hr2.max
  refine AW.rs ?_
  refine AL.w rfl (.inl rfl) (WV.bx rfl rfl) ?_
  rintro _ H4 ⟨b3, rfl, hx5, hn6, hb7⟩
  have o8 := Nat.le_trans X0.bd hn6
  have X9 := Ext.trans X0 hx5
  have X10 := Ext.refl H4
  refine AL.val rfl (.inl rfl) (HV.as rfl) ?_
  refine AL.val rfl (.inl rfl) (HV.as rfl) ?_
  refine AL.nx ?_
  refine AW.seq ?_
  refine AW.rs ?_
  refine AL.w rfl (.inl rfl) (WV.call fn60 rfl (l01Ok_ok (hr.ext X9) hb7)) ?_
  rintro _ H11 ⟨rfl, hx12⟩
  have X13 := Ext.trans X9 hx12
  have X14 := Ext.trans X10 hx12
  have hb15 := hb7.ext hx12
  refine AL.val rfl (.inl rfl) (HV.not rfl) ?_
  refine AL.nx ?_
  refine AW.ifn rfl (fun c16 => ?_) (fun c16 => ?_)
  · -- then
    refine AW.rs ?_
    refine AL.val rfl (.inl rfl) (HV.as rfl) ?_
    refine AL.val rfl (.inl rfl) (HV.as rfl) ?_
    refine AL.nx ?_
    refine AW.ret ?_
    refine ret_and ?_
    refine post_two rfl rfl rfl ?_ (.inr rfl)
    exact ⟨by rw [if_neg c16, decide_eq_false (fun h => c16 h.1)], X13⟩
  · -- else
    refine AW.skip ?_
    refine nrm_and ?_
    refine AW.seq ?_
    refine AW.rs ?_
    refine AL.val rfl (.inl rfl) (HV.fa fl42_0 rfl) ?_
    refine AL.val rfl (.inl rfl) (HV.ld rfl va2 (at_cell hb15 rfl)) ?_
    refine AL.val rfl (.inl rfl) (HV.mv rfl) ?_
    refine AL.w rfl (.inl rfl) (WV.call fn50 rfl (l01Group_ok n (hr2.ext X13) (by have := (by assumption : okI n l).1; omega))) ?_
    rintro _ H17 ⟨rfl, hx18⟩
    have X19 := Ext.trans X13 hx18
    have X20 := Ext.trans X14 hx18
    have hb21 := hb15.ext hx18
    refine AL.val rfl (.inl rfl) (HV.not rfl) ?_
    refine AL.nx ?_
    refine AW.ifn rfl (fun c22 => ?_) (fun c22 => ?_)
    · -- then
      refine AW.rs ?_
      refine AL.val rfl (.inl rfl) (HV.as rfl) ?_
      refine AL.val rfl (.inl rfl) (HV.as rfl) ?_
      refine AL.nx ?_
      refine AW.ret ?_
      refine ret_and ?_
      refine post_two rfl rfl rfl ?_ (.inr rfl)
      have hok : okI n l := (by assumption); exact ⟨by rw [if_pos hok, if_neg c22, decide_eq_false (fun h => c22 h.2.1)], X19⟩
    · -- else
      refine AW.skip ?_
      refine nrm_and ?_
      refine AW.rs ?_
      refine AL.val rfl (.inl rfl) (HV.mv rfl) ?_
      refine AL.w rfl (.inl rfl) (WV.call fn67 rfl (l02Module_ok (hr.ext X19) (hr2.ext X19) hb21 (by assumption) (by assumption))) ?_
      rintro _ H24 ⟨⟨v23, rfl⟩, hx25⟩
      have X26 := Ext.trans X19 hx25
      have X27 := Ext.trans X20 hx25
      have hb28 := hb21.ext hx25
      refine AL.val rfl (.inl rfl) (HV.mv rfl) ?_
      refine AL.val rfl (.inl rfl) (HV.ex rfl rfl) ?_
      refine AL.val rfl (.inl rfl) (HV.ex rfl rfl) ?_
      refine AL.val rfl (.inl rfl) (HV.as rfl) ?_
      refine AL.val rfl (.inl rfl) (HV.as rfl) ?_
      refine AL.nx ?_
      refine AW.rs ?_
      refine AL.val rfl (.inl rfl) (HV.mv rfl) ?_
      refine AL.val rfl (.inl rfl) (HV.as rfl) ?_
      refine AL.val rfl (.inl rfl) (HV.as rfl) ?_
      refine AL.nx ?_
      refine AW.ret ?_
      refine post_two rfl rfl rfl ?_ (.inr rfl)
      have hok : okI n l := (by assumption); have hgr : Ris 0 (n - 1) g := (by assumption); exact ⟨by rw [if_pos hok, if_pos hgr, show decide (modI n l g) = decide (okI n l ∧ Ris 0 (n - 1) g ∧ modI n l g) from decide_eq_decide.2 ⟨fun h => ⟨hok, hgr, h⟩, fun h => h.2.2⟩]; try rfl, X26⟩

set_option maxRecDepth 100000 in
theorem implMod_ok {v vg : Value} {l : List (List Int)} {g : List Int} {ok ok2 : Nat → Prop} (n : Int) (hr : RdK (kR kI) W H ok v l) (hr2 : RdK kI W H ok2 vg g) : ACalls Try.prog W 30 #[.agg #[.int .i64 n, v], vg] H (fun r H' => r = (.tuple #[.bool (decide (okC n l ∧ Ris 0 (n - 1) g ∧ modC n l g)), .int .i64 (if okC n l then if Ris 0 (n - 1) g then 0 else 2 else 1)]) ∧ Ext H H') := by
  refine ACalls.of (args := [.agg #[.int .i64 n, v], vg]) Try.func30 rfl rfl ?_
  have X0 := Ext.refl H
  have hm1 := hr.max
  have hm2 := hr2.max
  refine AW.rs ?_
  refine AL.w rfl (.inl rfl) (WV.bx rfl rfl) ?_
  rintro _ H4 ⟨b3, rfl, hx5, hn6, hb7⟩
  have o8 := Nat.le_trans X0.bd hn6
  have X9 := Ext.trans X0 hx5
  have X10 := Ext.refl H4
  refine AL.val rfl (.inl rfl) (HV.as rfl) ?_
  refine AL.val rfl (.inl rfl) (HV.as rfl) ?_
  refine AL.nx ?_
  refine AW.seq ?_
  refine AW.rs ?_
  refine AL.val rfl (.inl rfl) (HV.lda (cs := [.int .i64 n, v]) rfl va42 (at_cells hb7 rfl)) ?_
  refine AL.w rfl (.inl rfl) (WV.call fn63 rfl (validFam_ok n (hr.ext X9))) ?_
  rintro _ H11 ⟨rfl, hx12⟩
  have X13 := Ext.trans X9 hx12
  have X14 := Ext.trans X10 hx12
  have hb15 := hb7.ext hx12
  refine AL.val rfl (.inl rfl) (HV.not rfl) ?_
  refine AL.nx ?_
  refine AW.ifn rfl (fun c16 => ?_) (fun c16 => ?_)
  · -- then
    refine AW.rs ?_
    refine AL.val rfl (.inl rfl) (HV.as rfl) ?_
    refine AL.val rfl (.inl rfl) (HV.as rfl) ?_
    refine AL.nx ?_
    refine AW.ret ?_
    refine ret_and ?_
    refine post_two rfl rfl rfl ?_ (.inr rfl)
    exact ⟨by rw [if_neg c16, decide_eq_false (fun h => c16 h.1)], X13⟩
  · -- else
    refine AW.skip ?_
    refine nrm_and ?_
    refine AW.seq ?_
    refine AW.rs ?_
    refine AL.val rfl (.inl rfl) (HV.fa fl42_0 rfl) ?_
    refine AL.val rfl (.inl rfl) (HV.ld rfl va2 (at_cell hb15 rfl)) ?_
    refine AL.val rfl (.inl rfl) (HV.mv rfl) ?_
    refine AL.w rfl (.inl rfl) (WV.call fn55 rfl (isGroup_ok n (hr2.ext X13) (by have := (by assumption : okC n l).1; omega))) ?_
    rintro _ H17 ⟨rfl, hx18⟩
    have X19 := Ext.trans X13 hx18
    have X20 := Ext.trans X14 hx18
    have hb21 := hb15.ext hx18
    refine AL.val rfl (.inl rfl) (HV.not rfl) ?_
    refine AL.nx ?_
    refine AW.ifn rfl (fun c22 => ?_) (fun c22 => ?_)
    · -- then
      refine AW.rs ?_
      refine AL.val rfl (.inl rfl) (HV.as rfl) ?_
      refine AL.val rfl (.inl rfl) (HV.as rfl) ?_
      refine AL.nx ?_
      refine AW.ret ?_
      refine ret_and ?_
      refine post_two rfl rfl rfl ?_ (.inr rfl)
      have hok : okC n l := (by assumption); exact ⟨by rw [if_pos hok, if_neg c22, decide_eq_false (fun h => c22 h.2.1)], X19⟩
    · -- else
      refine AW.skip ?_
      refine nrm_and ?_
      refine AW.rs ?_
      refine AL.val rfl (.inl rfl) (HV.lda (cs := [.int .i64 n, v]) rfl va42 (at_cells hb21 rfl)) ?_
      refine AL.val rfl (.inl rfl) (HV.mv rfl) ?_
      refine AL.w rfl (.inl rfl) (WV.call fn68 rfl (isModC_ok n (hr.ext X19) (hr2.ext X19) (by assumption) (by assumption))) ?_
      rintro _ H23 ⟨rfl, hx24⟩
      have X25 := Ext.trans X19 hx24
      have X26 := Ext.trans X20 hx24
      have hb27 := hb21.ext hx24
      refine AL.val rfl (.inl rfl) (HV.as rfl) ?_
      refine AL.val rfl (.inl rfl) (HV.as rfl) ?_
      refine AL.nx ?_
      refine AW.ret ?_
      refine post_two rfl rfl rfl ?_ (.inr rfl)
      have hok : okC n l := (by assumption); have hgr : Ris 0 (n - 1) g := (by assumption); exact ⟨by rw [if_pos hok, if_pos hgr, show decide (modC n l g) = decide (okC n l ∧ Ris 0 (n - 1) g ∧ modC n l g) from decide_eq_decide.2 ⟨fun h => ⟨hok, hgr, h⟩, fun h => h.2.2⟩]; try rfl, X25⟩

theorem implMod_ok2 {v vg : Value} {l : List (List Int)} {g : List Int} {ok ok2 : Nat → Prop} (n : Int) (hr : RdK (kR kI) W H ok v l) (hr2 : RdK kI W H ok2 vg g) : ACalls Try.prog W 30 #[.agg #[.int .i64 n, v], vg] H (fun r H' => r = (.tuple #[.bool (decide (okI n l ∧ Ris 0 (n - 1) g ∧ modI n l g)), .int .i64 (if okI n l then if Ris 0 (n - 1) g then 0 else 2 else 1)]) ∧ Ext H H') := fun w hw => by
  have e : (okI n l) = (okC n l) := propext (ok_iff n l)
  have e2 : (okI n l ∧ Ris 0 (n - 1) g ∧ modI n l g) = (okC n l ∧ Ris 0 (n - 1) g ∧ modC n l g) := by
    rw [e]; exact propext ⟨fun h => ⟨h.1, h.2.1, (mod_iff h.1 h.2.1).1 h.2.2⟩, fun h => ⟨h.1, h.2.1, (mod_iff h.1 h.2.1).2 h.2.2⟩⟩
  have f1 : decide (okI n l ∧ Ris 0 (n - 1) g ∧ modI n l g) = decide (okC n l ∧ Ris 0 (n - 1) g ∧ modC n l g) := decide_eq_decide.2 (iff_of_eq e2)
  have f2 : (if okI n l then if Ris 0 (n - 1) g then (0 : Int) else 2 else 1) = (if okC n l then if Ris 0 (n - 1) g then (0 : Int) else 2 else 1) := by
    by_cases h : okI n l
    · rw [if_pos h, if_pos ((ok_iff n l).1 h)]
    · rw [if_neg h, if_neg (fun q => h ((ok_iff n l).2 q))]
  rw [f1, f2]
  exact implMod_ok n hr hr2 w hw

set_option maxRecDepth 100000 in
theorem law_IsModule {v vg : Value} {l : List (List Int)} {g : List Int} {ok ok2 : Nat → Prop} (n : Int) (hr : RdK (kR kI) W H ok v l) (hr2 : RdK kI W H ok2 vg g) : ACalls Try.prog W 6 #[.agg #[.int .i64 n, v], vg] H (fun r H' => r = .bool true ∧ Ext H H') := by
  refine ACalls.of (args := [.agg #[.int .i64 n, v], vg]) Try.func6 rfl rfl ?_
  have X0 := Ext.refl H
  have hm1 := hr.max
  have hm2 := hr2.max
  refine AW.rs ?_
  refine AL.w rfl (.inl rfl) (WV.bx rfl rfl) ?_
  rintro _ H4 ⟨b3, rfl, hx5, hn6, hb7⟩
  have o8 := Nat.le_trans X0.bd hn6
  have X9 := Ext.trans X0 hx5
  have X10 := Ext.refl H4
  refine AL.val rfl (.inl rfl) (HV.as rfl) ?_
  refine AL.nx ?_
  refine AW.seq ?_
  refine AW.rs ?_
  refine AL.val rfl (.inl rfl) (HV.mv rfl) ?_
  refine AL.val rfl (.inl rfl) (HV.len Try.underlying25 rfl hr2.isSl) ?_
  refine AL.val rfl (.inl rfl) (HV.gti rfl rfl) ?_
  refine AL.nx ?_
  refine AW.ifd rfl (fun c11 => ?_) (fun c11 => ?_)
  · -- then
    refine AW.rs ?_
    refine AL.val rfl (.inl rfl) (HV.as rfl) ?_
    refine AL.nx ?_
    refine AW.ret ?_
    refine ret_and ?_
    refine post_one rfl rfl ?_ (.inr rfl)
    exact ⟨rfl, X9⟩
  · -- else
    refine AW.skip ?_
    refine nrm_and ?_
    refine AW.rs ?_
    refine AL.val rfl (.inl rfl) (HV.as rfl) ?_
    refine AL.nx ?_
    refine AW.rs ?_
    refine AL.val rfl (.inl rfl) (HV.lda (cs := [.int .i64 n, v]) rfl va39 (at_cells hb7 rfl)) ?_
    refine AL.val rfl (.inl rfl) (HV.mv rfl) ?_
    refine AL.w rfl (.inl rfl) (WV.call fn19 rfl (szFamily_ok n (hr.ext X9) 1048576 (by omega))) ?_
    rintro _ H12 ⟨⟨q14, rfl, ha15, hb16, he17⟩, hx13⟩
    have X18 := Ext.trans X9 hx13
    have X19 := Ext.trans X10 hx13
    have hb20 := hb7.ext hx13
    refine AL.val rfl (.inl rfl) (HV.as rfl) ?_
    refine AL.nx ?_
    refine AW.seq ?_
    refine AW.rs ?_
    refine AL.val rfl (.inl rfl) (HV.mv rfl) ?_
    refine AL.val rfl (.inl rfl) (HV.lti rfl rfl) ?_
    refine AL.nx ?_
    refine AW.ifd rfl (fun c21 => ?_) (fun c21 => ?_)
    · -- then
      refine AW.rs ?_
      refine AL.val rfl (.inl rfl) (HV.as rfl) ?_
      refine AL.nx ?_
      refine AW.ret ?_
      refine ret_and ?_
      refine post_one rfl rfl ?_ (.inr rfl)
      exact ⟨rfl, X18⟩
    · -- else
      refine AW.skip ?_
      refine nrm_and ?_
      refine AW.rs ?_
      refine AL.val rfl (.inl rfl) (HV.lda (cs := [.int .i64 n, v]) rfl va39 (at_cells hb20 rfl)) ?_
      refine AL.w rfl (.inl rfl) (WV.call fn21 rfl (toFamily_ok n (hr.ext X18) (he17 (by omega)))) ?_
      rintro _ H23 ⟨⟨v22, rfl, ho25⟩, hx24⟩
      have X27 := Ext.trans X18 hx24
      have X28 := Ext.trans X19 hx24
      have hb29 := hb20.ext hx24
      have X30 := Ext.refl H23
      have hr26 := rd_ofO ho25.rd
      refine AL.val rfl (.inl rfl) (HV.mv rfl) ?_
      refine AL.w rfl (.inl rfl) (WV.call fn15 rfl (toS_ok (hr2.ext X27) (by omega))) ?_
      rintro v31 H32 ⟨hx33, ho34⟩
      have X36 := Ext.trans X27 hx33
      have X37 := Ext.trans X28 hx33
      have X38 := Ext.trans X30 hx33
      have hb39 := hb29.ext hx33
      have X40 := Ext.refl H32
      have hr35 := ho34.rd
      refine AL.w rfl (.inl rfl) (WV.call fn29 rfl (specMod_ok n (hr26.ext X38) hr35)) ?_
      rintro _ H41 ⟨rfl, hx42⟩
      have X43 := Ext.trans X36 hx42
      have X44 := Ext.trans X37 hx42
      have X45 := Ext.trans X38 hx42
      have X46 := Ext.trans X40 hx42
      have hb47 := hb39.ext hx42
      refine AL.val rfl (.inl rfl) (HV.mv rfl) ?_
      refine AL.val rfl (.inl rfl) (HV.ex rfl rfl) ?_
      refine AL.val rfl (.inl rfl) (HV.ex rfl rfl) ?_
      refine AL.val rfl (.inl rfl) (HV.as rfl) ?_
      refine AL.val rfl (.inl rfl) (HV.as rfl) ?_
      refine AL.nx ?_
      refine AW.rs ?_
      refine AL.val rfl (.inl rfl) (HV.lda (cs := [.int .i64 n, v]) rfl va39 (at_cells hb47 rfl)) ?_
      refine AL.w rfl (.inl rfl) (WV.call fn21 rfl (toFamily_ok n (hr.ext X43) (he17 (by omega)))) ?_
      rintro _ H49 ⟨⟨v48, rfl, ho51⟩, hx50⟩
      have X53 := Ext.trans X43 hx50
      have X54 := Ext.trans X44 hx50
      have X55 := Ext.trans X45 hx50
      have X56 := Ext.trans X46 hx50
      have hb57 := hb47.ext hx50
      have X58 := Ext.refl H49
      have hr52 := rd_ofO ho51.rd
      refine AL.w rfl (.inl rfl) (WV.al ze42 rfl) ?_
      rintro _ H60 ⟨b59, rfl, hx61, hn62, hb63⟩
      have o64 := Nat.le_trans X53.bd hn62
      have o65 := Nat.le_trans X54.bd hn62
      have o66 := Nat.le_trans X55.bd hn62
      have o67 := Nat.le_trans X56.bd hn62
      have o68 := Nat.le_trans X58.bd hn62
      have ne69 : b3 ≠ b59 := by have := hb57.lt; omega
      have X70 := Ext.trans X53 hx61
      have X71 := Ext.trans X54 hx61
      have X72 := Ext.trans X55 hx61
      have X73 := Ext.trans X56 hx61
      have X74 := Ext.trans X58 hx61
      have hb75 := hb57.ext hx61
      have X76 := Ext.refl H60
      refine AL.w0 (.inl rfl) (WV.st rfl rfl va42 rfl hb63 (Nat.le_of_ble_eq_true rfl) (one_cons rfl (one_cons (sl_one1 (hr52.ext X74).isSl) one_nil))) ?_
      rintro _ H77 ⟨hx78, hb79⟩
      have X80 := Ext.thru X70 hx78 (fun z_ hz_ => by rw [hz_]; exact o64)
      have X81 := Ext.thru X71 hx78 (fun z_ hz_ => by rw [hz_]; exact o65)
      have X82 := Ext.thru X72 hx78 (fun z_ hz_ => by rw [hz_]; exact o66)
      have X83 := Ext.thru X73 hx78 (fun z_ hz_ => by rw [hz_]; exact o67)
      have X84 := Ext.thru X74 hx78 (fun z_ hz_ => by rw [hz_]; exact o68)
      have hb86 := hb75.but hx78 ne69
      have hb87 : At W H77 b59 ⟨42, [.int .i64 n, v48], 2⟩ := hb79
      refine AL.nx ?_
      refine AW.rs ?_
      refine AL.val rfl (.inl rfl) (HV.mv rfl) ?_
      refine AL.w rfl (.inl rfl) (WV.call fn15 rfl (toS_ok (hr2.ext X80) (by omega))) ?_
      rintro v88 H89 ⟨hx90, ho91⟩
      have X93 := Ext.trans X80 hx90
      have X94 := Ext.trans X81 hx90
      have X95 := Ext.trans X82 hx90
      have X96 := Ext.trans X83 hx90
      have X97 := Ext.trans X84 hx90
      have hb98 := hb86.ext hx90
      have hb99 := hb87.ext hx90
      have X100 := Ext.refl H89
      have hr92 := ho91.rd
      refine AL.val rfl (.inl rfl) (HV.as rfl) ?_
      refine AL.nx ?_
      refine AW.rs ?_
      refine AL.val rfl (.inl rfl) (HV.lda (cs := [.int .i64 n, v48]) rfl va42 (at_cells hb99 rfl)) ?_
      refine AL.val rfl (.inl rfl) (HV.mv rfl) ?_
      refine AL.w rfl (.inl rfl) (WV.call fn30 rfl (implMod_ok2 n (hr52.ext X97) hr92)) ?_
      rintro _ H101 ⟨rfl, hx102⟩
      have X103 := Ext.trans X93 hx102
      have X104 := Ext.trans X94 hx102
      have X105 := Ext.trans X95 hx102
      have X106 := Ext.trans X96 hx102
      have X107 := Ext.trans X97 hx102
      have X108 := Ext.trans X100 hx102
      have hb109 := hb98.ext hx102
      have hb110 := hb99.ext hx102
      refine AL.val rfl (.inl rfl) (HV.mv rfl) ?_
      refine AL.val rfl (.inl rfl) (HV.ex rfl rfl) ?_
      refine AL.val rfl (.inl rfl) (HV.ex rfl rfl) ?_
      refine AL.val rfl (.inl rfl) (HV.as rfl) ?_
      refine AL.val rfl (.inl rfl) (HV.as rfl) ?_
      refine AL.nx ?_
      refine AW.seq ?_
      refine AW.rs ?_
      refine AL.val rfl (.inl rfl) (HV.mv rfl) ?_
      refine AL.val rfl (.inl rfl) (HV.mv rfl) ?_
      refine AL.val rfl (.inl rfl) (HV.neb Try.underlying4 rfl rfl) ?_
      refine AL.val rfl (.inl rfl) (HV.mv rfl) ?_
      cases c111 : !(decide (okI n l ∧ Ris 0 (n - 1) g ∧ modI n l g) == decide (okI n l ∧ Ris 0 (n - 1) g ∧ modI n l g))
      · -- false
        refine AL.val rfl (.inr ⟨_, _, _, rfl, rfl, rfl⟩) (HV.mv rfl) ?_
        refine AL.val rfl (.inr ⟨_, _, _, rfl, rfl, rfl⟩) (HV.mv rfl) ?_
        refine AL.val rfl (.inr ⟨_, _, _, rfl, rfl, rfl⟩) (HV.nei rfl rfl) ?_
        refine AL.val rfl (.inl rfl) (HV.pickF rfl rfl) ?_
        refine AL.nx ?_
        refine AW.ifd rfl (fun c112 => ?_) (fun c112 => ?_)
        · -- then
          refine AW.rs ?_
          refine AL.val rfl (.inl rfl) (HV.as rfl) ?_
          refine AL.nx ?_
          refine AW.ret ?_
          refine ret_and ?_
          refine post_one rfl rfl ?_ (.inr rfl)
          exact absurd c112 (by simp)
        · -- else
          refine AW.skip ?_
          refine nrm_and ?_
          refine AW.seq ?_
          refine AW.seq ?_
          refine AW.draw' [0, 0, 2, 7, 15] mixed (by rfl) ?_
          refine Dr.read 0 _ 46 _ rfl rfl rfl rfl rfl (RV.of (by intro _ _ h; cases h) (.inl rfl) (fun _ xd => HV.lda (cs := [.int .i64 n, v48]) rfl va42 (fun j u hu => rdc_ext xd ((at_cells hb110 rfl) j u hu)))) ?_
          refine Dr.read 1 _ 47 _ rfl rfl rfl rfl rfl (RV.of (by intro _ _ h; cases h) (.inl rfl) (fun _ xd => HV.lda (cs := [.int .i64 n, v]) rfl va39 (fun j u hu => rdc_ext xd ((at_cells hb109 rfl) j u hu)))) ?_
          refine Dr.eff 2 _ _ rfl (by intro d h; cases h; exact ⟨rfl, rfl⟩) rfl rfl rfl (EC.of (by intro _ _ h; cases h) (.inl rfl) (WV.call fn21 rfl (toFamily_ok n (hr.ext X103) (he17 (by omega))))) (fun v H' h => .inl (h.2)) ?_
          rintro _ H114 ⟨⟨v113, rfl, ho116⟩, hx115⟩
          have X118 := Ext.trans X103 hx115
          have X119 := Ext.trans X104 hx115
          have X120 := Ext.trans X105 hx115
          have X121 := Ext.trans X106 hx115
          have X122 := Ext.trans X107 hx115
          have X123 := Ext.trans X108 hx115
          have hb124 := hb109.ext hx115
          have hb125 := hb110.ext hx115
          have X126 := Ext.refl H114
          have hr117 := rd_ofO ho116.rd
          refine Dr.eff 3 _ _ rfl (by intro d h; cases h; exact ⟨rfl, rfl⟩) rfl rfl rfl (EC.of (by intro _ _ h; cases h) (.inl rfl) (WV.call fn23 rfl (eqFam_ok n n (hr52.ext X122) hr117))) (fun v H' h => .inl (h.2)) ?_
          rintro _ H127 ⟨rfl, hx128⟩
          have X129 := Ext.trans X118 hx128
          have X130 := Ext.trans X119 hx128
          have X131 := Ext.trans X120 hx128
          have X132 := Ext.trans X121 hx128
          have X133 := Ext.trans X122 hx128
          have X134 := Ext.trans X123 hx128
          have X135 := Ext.trans X126 hx128
          have hb136 := hb124.ext hx128
          have hb137 := hb125.ext hx128
          refine Dr.read 4 _ 50 _ rfl rfl rfl rfl rfl (RV.of (by intro _ _ h; cases h) (.inl rfl) (fun _ xd => HV.not rfl)) ?_
          refine Dr.fin rfl ?_
          refine nrm_and ?_
          refine AW.ifn rfl (fun c138 => ?_) (fun c138 => ?_)
          · -- then
            refine AW.rs ?_
            refine AL.val rfl (.inl rfl) (HV.as rfl) ?_
            refine AL.nx ?_
            refine AW.ret ?_
            refine ret_and ?_
            refine post_one rfl rfl ?_ (.inr rfl)
            exact absurd c138 (by simp)
          · -- else
            refine AW.skip ?_
            refine nrm_and ?_
            refine AW.seq ?_
            refine AW.rs ?_
            refine AL.val rfl (.inl rfl) (HV.mv rfl) ?_
            refine AL.val rfl (.inl rfl) (HV.mv rfl) ?_
            refine AL.w rfl (.inl rfl) (WV.call fn15 rfl (toS_ok (hr2.ext X129) (by omega))) ?_
            rintro v139 H140 ⟨hx141, ho142⟩
            have X144 := Ext.trans X129 hx141
            have X145 := Ext.trans X130 hx141
            have X146 := Ext.trans X131 hx141
            have X147 := Ext.trans X132 hx141
            have X148 := Ext.trans X133 hx141
            have X149 := Ext.trans X134 hx141
            have X150 := Ext.trans X135 hx141
            have hb151 := hb136.ext hx141
            have hb152 := hb137.ext hx141
            have X153 := Ext.refl H140
            have hr143 := ho142.rd
            refine AL.w rfl (.inl rfl) (WV.call fn18 rfl (eqS_ok (hr92.ext X149) hr143)) ?_
            rintro _ H154 ⟨rfl, hx155⟩
            have X156 := Ext.trans X144 hx155
            have X157 := Ext.trans X145 hx155
            have X158 := Ext.trans X146 hx155
            have X159 := Ext.trans X147 hx155
            have X160 := Ext.trans X148 hx155
            have X161 := Ext.trans X149 hx155
            have X162 := Ext.trans X150 hx155
            have X163 := Ext.trans X153 hx155
            have hb164 := hb151.ext hx155
            have hb165 := hb152.ext hx155
            refine AL.val rfl (.inl rfl) (HV.not rfl) ?_
            refine AL.nx ?_
            refine AW.ifn rfl (fun c166 => ?_) (fun c166 => ?_)
            · -- then
              refine AW.rs ?_
              refine AL.val rfl (.inl rfl) (HV.as rfl) ?_
              refine AL.nx ?_
              refine AW.ret ?_
              refine ret_and ?_
              refine post_one rfl rfl ?_ (.inr rfl)
              exact absurd c166 (by simp)
            · -- else
              refine AW.skip ?_
              refine nrm_and ?_
              refine AW.rs ?_
              refine AL.val rfl (.inl rfl) (HV.as rfl) ?_
              refine AL.nx ?_
              refine AW.ret ?_
              refine post_one rfl rfl ?_ (.inr rfl)
              exact ⟨rfl, X156⟩
      · -- true
        refine AL.off rfl rfl (by decide) rfl ?_
        refine AL.off rfl rfl (by decide) rfl ?_
        refine AL.off rfl rfl (by decide) rfl ?_
        refine AL.val rfl (.inl rfl) (HV.pickT rfl rfl) ?_
        refine AL.nx ?_
        refine AW.cond rfl (fun _ => ?_) (fun h => by cases h)
        refine AW.rs ?_
        refine AL.val rfl (.inl rfl) (HV.as rfl) ?_
        refine AL.nx ?_
        refine AW.ret ?_
        refine ret_and ?_
        refine post_one rfl rfl ?_ (.inr rfl)
        exact absurd c111 (by simp)
end Go.Proofs.Ytbjcgcililpfdaa.VC
