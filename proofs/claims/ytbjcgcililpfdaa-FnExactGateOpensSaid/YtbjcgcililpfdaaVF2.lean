/- Walks. -/
import Derived.Test.YtbjcgcililpfdaaVF
set_option linter.unusedVariables false
set_option linter.unusedSimpArgs false
namespace Go.Proofs.Ytbjcgcililpfdaa.VC
open Go Go.RowKit
variable {W : World} {H : Hp}

/-! ### Who swings -/
theorem u64_small {j : Nat} (h : j < 7) : (IntKind.u64.wrap (j : Int)).toNat = j := by
  have : j = 0 ∨ j = 1 ∨ j = 2 ∨ j = 3 ∨ j = 4 ∨ j = 5 ∨ j = 6 := by omega
  rcases this with rfl | rfl | rfl | rfl | rfl | rfl | rfl <;> rfl
theorem fdiv_nat (s j : Nat) : (s : Int).fdiv (2 ^ j) = ((s / 2 ^ j : Nat) : Int) := by
  rw [Int.fdiv_eq_ediv_of_nonneg _ (Int.le_of_lt (Int.pow_pos (by decide)))]
  rw [show ((2 : Int) ^ j) = ((2 ^ j : Nat) : Int) by simp]
  rfl
theorem shr_i (s : Nat) {j : Nat} (h : j < 7) : (s : Int).fdiv (2 ^ min (IntKind.u64.wrap (j : Int) : Int).toNat IntKind.i64.bits) = ((s / 2 ^ j : Nat) : Int) := by
  rw [u64_small h, show min j IntKind.i64.bits = j from Nat.min_eq_left (by simp only [IntKind.bits]; omega), fdiv_nat]
theorem shr_u (s : Nat) {j : Nat} (h : j < 7) : (s : Int).fdiv (2 ^ min ((j : Int) : Int).toNat IntKind.u64.bits) = ((s / 2 ^ j : Nat) : Int) := by
  rw [Int.toNat_natCast, show min j IntKind.u64.bits = j from Nat.min_eq_left (by simp only [IntKind.bits]; omega), fdiv_nat]
theorem bit_of {k : IntKind} (hk : k = .i64 ∨ k = .u64) {s j : Nat} (hs : s < 128) : bt .and k ((s / 2 ^ j : Nat) : Int) 1 = ((s / 2 ^ j % 2 : Nat) : Int) := by
  have := (bt_nat k hk (a := s / 2 ^ j) (b := 1) (Nat.lt_of_le_of_lt (Nat.div_le_self _ _) hs) (by decide)).2
  rw [Nat.and_one_is_mod] at this
  exact this
theorem or_i {n : Int} (hn : 1 ≤ n ∧ n ≤ 7) {s j : Nat} (hs : s < 2 ^ n.toNat) (hj : (j : Int) < n) : bt .or .i64 (s : Int) (IntKind.i64.wrap (1 * 2 ^ min (IntKind.u64.wrap (j : Int) : Int).toNat IntKind.i64.bits)) = ((s ||| 2 ^ j : Nat) : Int) ∧ s ||| 2 ^ j < 2 ^ n.toNat := by
  have p7 := pow7 hn
  have px : 2 ^ j < 2 ^ n.toNat := Nat.pow_lt_pow_right (by decide) (by omega)
  have e : IntKind.i64.wrap (1 * 2 ^ min (IntKind.u64.wrap (j : Int) : Int).toNat IntKind.i64.bits) = ((2 ^ j : Nat) : Int) := by
    have : j = 0 ∨ j = 1 ∨ j = 2 ∨ j = 3 ∨ j = 4 ∨ j = 5 ∨ j = 6 := by omega
    rcases this with rfl | rfl | rfl | rfl | rfl | rfl | rfl <;> rfl
  rw [e]
  exact ⟨(bt_nat .i64 (.inl rfl) (by omega) (by omega)).1, Nat.or_lt_two_pow hs px⟩
theorem or_u {n : Int} (hn : 1 ≤ n ∧ n ≤ 7) {s j : Nat} (hs : s < 2 ^ n.toNat) (hj : (j : Int) < n) : bt .or .u64 (s : Int) (IntKind.u64.wrap (1 * 2 ^ min ((j : Int) : Int).toNat IntKind.u64.bits)) = ((s ||| 2 ^ j : Nat) : Int) ∧ s ||| 2 ^ j < 2 ^ n.toNat := by
  have p7 := pow7 hn
  have px : 2 ^ j < 2 ^ n.toNat := Nat.pow_lt_pow_right (by decide) (by omega)
  have e : IntKind.u64.wrap (1 * 2 ^ min ((j : Int) : Int).toNat IntKind.u64.bits) = ((2 ^ j : Nat) : Int) := by
    have : j = 0 ∨ j = 1 ∨ j = 2 ∨ j = 3 ∨ j = 4 ∨ j = 5 ∨ j = 6 := by omega
    rcases this with rfl | rfl | rfl | rfl | rfl | rfl | rfl <;> rfl
  rw [e]
  exact ⟨(bt_nat .u64 (.inr rfl) (by omega) (by omega)).1, Nat.or_lt_two_pow hs px⟩
theorem opN {n : Int} {l : List (List Int)} {s : Nat} (h : okC n l) (hs : s < 2 ^ n.toNat) : opI s l ↔ opC s l := by
  have p7 := pow7 h.1
  have hx : ∀ x ∈ l, Ris 0 (n - 1) x := fun x hx => by
    obtain ⟨i, hi, rfl⟩ := List.getElem_of_mem hx
    have := (h.2 i hi).1.1
    simpa [hi] using this
  have one : ∀ x ∈ l, (bt .and .i64 (bitsI x) s = bitsI x ↔ bt .and .u64 s (crowd x) = crowd x) := fun x hm => by
    obtain ⟨a1, a2, a3⟩ := bits_nat h.1 (hx x hm)
    rw [a1, a2, (bt_nat .i64 (.inl rfl) (by omega) (by omega)).2, (bt_nat .u64 (.inr rfl) (by omega) (by omega)).2, Nat.and_comm]
  constructor
  · rintro ⟨x, hm, e⟩; exact ⟨x, hm, (one x hm).1 e⟩
  · rintro ⟨x, hm, e⟩; exact ⟨x, hm, (one x hm).2 e⟩
theorem tab_z {n : Int} {l : List (List Int)} {q : Int} {s : Nat} {z : Bool} (hz : (tabI n l)[q.toNat]? = some z) (hq : q = s) (hs : s < 2 ^ n.toNat) : z = decide (opI s l) := by
  subst hq
  have e : (tabI n l).getD s false = z := gd hz rfl
  rw [← e, tabI_get hs]
def swP (l : List (List Int)) (s j : Nat) : Prop := s / 2 ^ j % 2 = 0 ∧ ¬ opI s l ∧ opI ((s ||| 2 ^ j : Nat) : Int) l
noncomputable instance (l : List (List Int)) (s j : Nat) : Decidable (swP l s j) := Classical.propDecidable _
noncomputable def swStep (l : List (List Int)) (s : Nat) (k : List Int) (j : Nat) : List Int := if swP l s j then k.set j (k.getD j 0 + 1) else k
noncomputable def swRow (l : List (List Int)) (s : Nat) (k : List Int) (j : Nat) : List Int := (List.range j).foldl (swStep l s) k
noncomputable def swAll (l : List (List Int)) (m i : Nat) : List Int := (List.range i).foldl (fun k s => swRow l s k m) (List.replicate m 0)
theorem swRow_zero (l : List (List Int)) (s : Nat) (k : List Int) : swRow l s k 0 = k := rfl
theorem swRow_succ (l : List (List Int)) (s : Nat) (k : List Int) (j : Nat) : swRow l s k (j + 1) = swStep l s (swRow l s k j) j := by
  unfold swRow
  rw [List.range_succ, List.foldl_append]; rfl
theorem swAll_succ (l : List (List Int)) (m i : Nat) : swAll l m (i + 1) = swRow l i (swAll l m i) m := by
  unfold swAll
  rw [List.range_succ, List.foldl_append]; rfl
theorem sw_yes {l : List (List Int)} {s j : Nat} {k : List Int} {z : Int} (hz : (swRow l s k j)[(j : Int).toNat]? = some z) (h : swP l s j) : swRow l s k (j + 1) = (swRow l s k j).set (j : Int).toNat (z + 1) := by
  rw [swRow_succ, swStep, if_pos h, gd hz rfl, Int.toNat_natCast]
theorem sw_no {l : List (List Int)} {s j : Nat} {k : List Int} (h : ¬ swP l s j) : swRow l s k (j + 1) = swRow l s k j := by
  rw [swRow_succ, swStep, if_neg h]
theorem swStep_length (l : List (List Int)) (s : Nat) (k : List Int) (j : Nat) : (swStep l s k j).length = k.length := by
  unfold swStep; split <;> simp
theorem swRow_length (l : List (List Int)) (s : Nat) (k : List Int) : ∀ j, (swRow l s k j).length = k.length
  | 0 => rfl
  | j + 1 => by rw [swRow_succ, swStep_length, swRow_length l s k j]
theorem swAll_length (l : List (List Int)) (m : Nat) : ∀ i, (swAll l m i).length = m
  | 0 => by simp [swAll]
  | i + 1 => by rw [swAll_succ, swRow_length, swAll_length l m i]
def Within (B : Int) (k : List Int) : Prop := ∀ x ∈ k, 0 ≤ x ∧ x ≤ B
theorem swStep_in {l : List (List Int)} {s j : Nat} {k : List Int} {B : Int} (hB : 0 ≤ B) (h : Within B k) : Within (B + 1) (swStep l s k j) := by
  unfold swStep
  split
  · intro x hx
    rcases List.mem_or_eq_of_mem_set hx with hx | rfl
    · have := h x hx; omega
    · have : 0 ≤ k.getD j 0 ∧ k.getD j 0 ≤ B := by
        rw [List.getD_eq_getElem?_getD]
        cases e : k[j]? with
        | none => exact ⟨Int.le_refl _, hB⟩
        | some y => exact h y (List.mem_of_getElem? e)
      omega
  · intro x hx
    have := h x hx; omega
theorem swRow_in {l : List (List Int)} {s : Nat} {k : List Int} {B : Int} (hB : 0 ≤ B) (h : Within B k) : ∀ j : Nat, Within (B + j) (swRow l s k j)
  | 0 => by simpa [swRow_zero] using h
  | j + 1 => by
    rw [swRow_succ]
    have := swStep_in (l := l) (s := s) (j := j) (by omega) (swRow_in (l := l) (s := s) hB h j)
    intro x hx
    have := this x hx
    omega
theorem swAll_in (l : List (List Int)) (m : Nat) : ∀ i : Nat, Within ((i * m : Nat) : Int) (swAll l m i)
  | 0 => fun x hx => by
    have : x = 0 := List.eq_of_mem_replicate (by simpa [swAll] using hx)
    omega
  | i + 1 => by
    rw [swAll_succ]
    have := swRow_in (l := l) (s := i) (by omega) (swAll_in l m i) m
    intro x hx
    have := this x hx
    rw [Nat.succ_mul]
    omega
theorem sw_max {l : List (List Int)} {m i j : Nat} {q : Int} {z : Int} (hz : (swRow l i (swAll l m i) j)[q.toNat]? = some z) (hi : i ≤ 128) (hm : m ≤ 7) (hj : j ≤ 7) : 0 ≤ z ∧ z ≤ 1000 := by
  have := swRow_in (l := l) (s := i) (by omega) (swAll_in l m i) j z (List.mem_of_getElem? hz)
  have h2 : i * m ≤ 128 * 7 := Nat.mul_le_mul hi hm
  omega
theorem mark_step {k : List Int} {q p : Int} {i : Nat} (he : ∀ j, j < i → k.getD j 0 = q + (j : Int)) (hi : i < k.length) (hp : p = q + i) : ∀ j, j < i + 1 → (k.set (i : Int).toNat p).getD j 0 = q + (j : Int) := fun j hj => by
  rw [Int.toNat_natCast]
  simp only [List.getD_eq_getElem?_getD] at he ⊢
  by_cases e : j = i
  · subst e; simp [hi, hp]
  · rw [List.getElem?_set_ne (fun e' => e e'.symm)]; exact he j (by omega)
theorem sw_len {k : List Int} {n : Int} {l : List (List Int)} {m : Nat} (h : k = if okI n l then swAll l n.toNat m else []) : k.length ≤ 8 := by
  by_cases h0 : okI n l
  · rw [if_pos h0] at h
    rw [h, swAll_length]
    have := h0.1
    omega
  · rw [if_neg h0] at h
    rw [h]; exact Nat.zero_le _
set_option maxRecDepth 100000 in
theorem has_ok (s j : Nat) (hs : s < 128) (hj : j < 7) : ACalls Try.prog W 66 #[.int .u64 (s : Int), .int .i64 (j : Int)] H (fun r H' => r = .bool (decide (s / 2 ^ j % 2 = 1)) ∧ Ext H H') := by
  refine ACalls.of (args := [.int .u64 (s : Int), .int .i64 (j : Int)]) Try.func66 rfl rfl ?_
  have X0 := Ext.refl H
  refine AW.rs ?_
  refine AL.val rfl (.inl rfl) (HV.as rfl) ?_
  refine AL.nx ?_
  refine AW.rs ?_
  refine AL.val rfl (.inl rfl) (HV.mv rfl) ?_
  refine AL.val rfl (.inl rfl) (HV.mv rfl) ?_
  refine AL.val rfl (.inl rfl) (HV.shr rfl rfl (by omega)) ?_
  refine AL.val rfl (.inl rfl) (HV.bits (by simp) rfl rfl) ?_
  refine AL.val rfl (.inl rfl) (HV.eqi rfl rfl) ?_
  refine AL.val rfl (.inl rfl) (HV.as rfl) ?_
  refine AL.nx ?_
  refine AW.ret ?_
  refine post_one rfl rfl ?_ (.inr rfl)
  exact ⟨congrArg Value.bool (decide_eq_decide.2 (by rw [shr_u s hj, bit_of (.inr rfl) hs]; omega)), X0⟩

set_option maxRecDepth 100000 in
theorem everybody_ok {n : Int} (hn : 1 ≤ n ∧ n ≤ 7) : ACalls Try.prog W 65 #[.int .i64 n] H (fun r H' => r = .int .u64 (((2 ^ n.toNat : Nat) : Int) - 1) ∧ Ext H H') := by
  refine ACalls.of (args := [.int .i64 n]) Try.func65 rfl rfl ?_
  have X0 := Ext.refl H
  refine AW.rs ?_
  refine AL.val rfl (.inl rfl) (HV.as rfl) ?_
  refine AL.nx ?_
  refine AW.rs ?_
  refine AL.val rfl (.inl rfl) (HV.mv rfl) ?_
  refine AL.val rfl (.inl rfl) (HV.shl rfl rfl (by omega)) ?_
  refine AL.val rfl (.inl rfl) (HV.subw rfl rfl) ?_
  refine AL.val rfl (.inl rfl) (HV.as rfl) ?_
  refine AL.nx ?_
  refine AW.ret ?_
  refine post_one rfl rfl ?_ (.inr rfl)
  exact ⟨congrArg (Value.int .u64) (by
    have : n = 1 ∨ n = 2 ∨ n = 3 ∨ n = 4 ∨ n = 5 ∨ n = 6 ∨ n = 7 := by omega
    rcases this with rfl | rfl | rfl | rfl | rfl | rfl | rfl <;> rfl), X0⟩

set_option maxRecDepth 100000 in
theorem specSw_ok {v : Value} {l : List (List Int)} {ok : Nat → Prop} (n : Int) (hr : RdK (kR kI) W H ok v l) : ACalls Try.prog W 24 #[.agg #[.int .i64 n, v]] H (fun r H' => (∃ v k, r = .tuple #[v, .int .i64 (if okI n l then 0 else 1)] ∧ k = (if okI n l then swAll l n.toNat (2 ^ n.toNat) else []) ∧ OwnK kI 2 W H' (fun b => H.bd ≤ b) v k) ∧ Ext H H') := by
  refine ACalls.of (args := [.agg #[.int .i64 n, v]]) Try.func24 rfl rfl ?_
  have X0 := Ext.refl H
  have hm1 := hr.max
  refine AW.rs ?_
  refine AL.w rfl (.inl rfl) (WV.bx rfl rfl) ?_
  rintro _ H3 ⟨b2, rfl, hx4, hn5, hb6⟩
  have o7 := Nat.le_trans X0.bd hn5
  have X8 := Ext.trans X0 hx4
  have X9 := Ext.refl H3
  refine AL.val rfl (.inl rfl) (HV.as rfl) ?_
  refine AL.val rfl (.inl rfl) (HV.as rfl) ?_
  refine AL.nx ?_
  refine AW.seq ?_
  refine AW.rs ?_
  refine AL.w rfl (.inl rfl) (WV.call fn60 rfl (l01Ok_ok (hr.ext X8) hb6)) ?_
  rintro _ H10 ⟨rfl, hx11⟩
  have X12 := Ext.trans X8 hx11
  have X13 := Ext.trans X9 hx11
  have hb14 := hb6.ext hx11
  refine AL.val rfl (.inl rfl) (HV.not rfl) ?_
  refine AL.nx ?_
  refine AW.ifn rfl (fun c15 => ?_) (fun c15 => ?_)
  · -- then
    refine AW.rs ?_
    have X16 := Ext.refl H10
    have y17 := hb14.lt
    have o18 := X12.bd
    have o19 := X13.bd
    have o20 := X16.bd
    refine AL.w rfl (.inl rfl) (WV.bsK (K := kI) (l := ([] : List Int)) (css := []) sl25 rfl rfl (by first | rfl | (simp [Instr.fill, Value.cells, kI, kB, kU, kS, Kd.sc]; done) | (simp [Instr.fill, Value.cells, kI, kB, kU, kS, Kd.sc, rng1, rng2, rng3, rng4, kP])) rfl segs_nil) ?_
    rintro v21 H22 ⟨hx23, ho24⟩
    have X25 := Ext.trans X12 hx23
    have X26 := Ext.trans X13 hx23
    have X27 := Ext.trans X16 hx23
    have hb28 := hb14.ext hx23
    refine AL.val rfl (.inl rfl) (HV.as rfl) ?_
    refine AL.val rfl (.inl rfl) (HV.as rfl) ?_
    refine AL.nx ?_
    refine AW.ret ?_
    refine ret_and ?_
    refine post_two rfl rfl rfl ?_ (.inr rfl)
    exact ⟨⟨_, [], by rw [if_neg c15], by rw [if_neg c15], ho24.okk (fun b hb _ => Nat.le_trans o18 hb)⟩, X25⟩
  · -- else
    refine AW.skip ?_
    refine nrm_and ?_
    refine AW.rs ?_
    refine AL.w rfl (.inl rfl) (WV.call fn61 rfl (l01Table_ok (hr.ext X12) hb14 (by assumption : okI n l).1)) ?_
    rintro v30 H31 ⟨hx32, ho33⟩
    have X35 := Ext.trans X12 hx32
    have X36 := Ext.trans X13 hx32
    have hb37 := hb14.ext hx32
    have X38 := Ext.refl H31
    have hr34 := ho33.rd
    refine AL.val rfl (.inl rfl) (HV.as rfl) ?_
    refine AL.nx ?_
    refine AW.rs ?_
    refine AL.val rfl (.inl rfl) (HV.fa fl42_0 rfl) ?_
    refine AL.val rfl (.inl rfl) (HV.ld rfl va2 (at_cell hb37 rfl)) ?_
    have y39 := hb37.lt
    have o40 := X35.bd
    have o41 := X36.bd
    have o42 := X38.bd
    refine AL.w rfl (.inl rfl) (WV.mkK (K := kI) (0 : Int) (fun _ _ _ => rfl) sl25 rfl rfl rfl (by have := (by assumption : okI n l).1; omega) (by have := (by assumption : okI n l).1; omega) (by have := (by assumption : okI n l).1; omega)) ?_
    rintro v43 H44 ⟨hx45, ho46⟩
    have X47 := Ext.trans X35 hx45
    have X48 := Ext.trans X36 hx45
    have X49 := Ext.trans X38 hx45
    have hb50 := hb37.ext hx45
    refine AL.val rfl (.inl rfl) (HV.as rfl) ?_
    refine AL.nx ?_
    refine AW.seq ?_
    refine AW.rs ?_
    refine AL.val rfl (.inl rfl) (HV.as rfl) ?_
    refine AL.nx ?_
    refine AW.block ?_
    have hok : okI n l := (by assumption)
    have hn := hok.1
    obtain ⟨N, hN, hN2, hN1⟩ := shl7 hn
    have hTL : (tabI n l).length = N := by rw [tabI_length, hN2]
    refine AW.loop (σ := Nat) (fun i => [(1, .pointer (some ⟨b2, 0, none⟩)), (2, (.slice none 0 0)), (3, .int .i64 0), (4, v30), (5, v43), (5, v43), (6, .int .i64 (i : Int))]) (fun i H' => Ext H H' ∧ Ext H3 H' ∧ Ext H31 H' ∧ At W H' b2 ⟨42, [.int .i64 n, v], 2⟩ ∧ i ≤ N ∧ OwnK kI 2 W H' (fun b => H31.bd ≤ b) v43 (swAll l n.toNat i) ∧ True) (fun i => N - i) 0 ⟨X47, X48, X49, hb50, Nat.zero_le _, ho46, trivial⟩ ⟨rfl, rfl, rfl, rfl, rfl, rfl, rfl, trivial⟩ ?_
    rintro i H52 ⟨X53, X54, X55, hb56, hi, hoL, _⟩
    refine AW.seq ?_
    refine AW.rs ?_
    refine AL.val rfl (.inl rfl) (HV.mv rfl) ?_
    refine AL.val rfl (.inl rfl) (HV.mv rfl) ?_
    refine AL.val rfl (.inl rfl) (HV.len Try.underlying81 rfl hr34.isSl) ?_
    refine AL.val rfl (.inl rfl) (HV.lti rfl rfl) ?_
    refine AL.nx ?_
    refine AW.ifd rfl (fun c57 => ?_) (fun c57 => ?_)
    · -- then
      refine AW.skip ?_
      refine nrm_and ?_
      refine AW.seq ?_
      refine AW.block ?_
      refine AW.rs ?_
      refine AL.val rfl (.inl rfl) (HV.as rfl) ?_
      refine AL.nx ?_
      refine AW.block ?_
      refine AW.loop (σ := Nat) (fun j => [(1, .pointer (some ⟨b2, 0, none⟩)), (2, (.slice none 0 0)), (3, .int .i64 0), (4, v30), (5, v43), (6, .int .i64 (i : Int)), (15, .int .i64 (i : Int)), (16, v30), (17, .int .i64 ((tabI n l).length : Int)), (18, .bool (decide ((i : Int) < ((tabI n l).length : Int)))), (5, v43), (7, .int .i64 (j : Int))]) (fun j H' => Ext H H' ∧ Ext H3 H' ∧ Ext H31 H' ∧ At W H' b2 ⟨42, [.int .i64 n, v], 2⟩ ∧ (j : Int) ≤ n ∧ OwnK kI 2 W H' (fun b => H31.bd ≤ b) v43 (swRow l i (swAll l n.toNat i) j) ∧ True) (fun j => n.toNat - j) 0 ⟨X53, X54, X55, hb56, by omega, hoL, trivial⟩ ⟨rfl, rfl, rfl, rfl, rfl, rfl, rfl, rfl, rfl, rfl, rfl, rfl, trivial⟩ ?_
      rintro j H58 ⟨X59, X60, X61, hb62, hj, hoL2, _⟩
      refine AW.seq ?_
      refine AW.rs ?_
      refine AL.val rfl (.inl rfl) (HV.mv rfl) ?_
      refine AL.val rfl (.inl rfl) (HV.fa fl42_0 rfl) ?_
      refine AL.val rfl (.inl rfl) (HV.ld rfl va2 (at_cell hb62 rfl)) ?_
      refine AL.val rfl (.inl rfl) (HV.lti rfl rfl) ?_
      refine AL.nx ?_
      refine AW.ifd rfl (fun c63 => ?_) (fun c63 => ?_)
      · -- then
        refine AW.skip ?_
        refine nrm_and ?_
        refine AW.seq ?_
        refine AW.block ?_
        refine AW.rs ?_
        refine AL.val rfl (.inl rfl) (HV.mv rfl) ?_
        refine AL.val rfl (.inl rfl) (HV.mv rfl) ?_
        refine AL.val rfl (.inl rfl) (HV.cv (by rw [Try.underlying2]; rfl) Try.underlying75 rfl) ?_
        refine AL.val rfl (.inl rfl) (HV.shr rfl rfl (u64_nonneg _)) ?_
        refine AL.val rfl (.inl rfl) (HV.bits (by simp) rfl rfl) ?_
        refine AL.val rfl (.inl rfl) (HV.eqi rfl rfl) ?_
        refine AL.val rfl (.inl rfl) (HV.mv rfl) ?_
        by_cases c64 : (bt .and .i64 (((i : Int) : Int).fdiv (2 ^ min (IntKind.u64.wrap (j : Int) : Int).toNat IntKind.i64.bits)) 1) = 0
        · -- true
          have c64_ : decide ((bt .and .i64 (((i : Int) : Int).fdiv (2 ^ min (IntKind.u64.wrap (j : Int) : Int).toNat IntKind.i64.bits)) 1) = 0) = true := decide_eq_true c64
          rw [c64_]
          refine AL.val rfl (.inr ⟨_, _, _, rfl, rfl, rfl⟩) (HV.mv rfl) ?_
          refine AL.val rfl (.inr ⟨_, _, _, rfl, rfl, rfl⟩) (HV.mv rfl) ?_
          obtain ⟨p65, z66, cs67, hz68, hK69, hC70, hP71⟩ := RdK.ix (q := (i : Int)) hr34 sl81 (by omega) (by omega)
          obtain rfl : cs67 = [.bool z66] := hK69
          refine AL.val rfl (.inr ⟨_, _, _, rfl, rfl, rfl⟩) (hP71 rfl rfl) ?_
          refine AL.val rfl (.inr ⟨_, _, _, rfl, rfl, rfl⟩) (HV.ld rfl va4 (cells_first (hC70.ext X61) rfl)) ?_
          refine AL.val rfl (.inr ⟨_, _, _, rfl, rfl, rfl⟩) (HV.not rfl) ?_
          refine AL.val rfl (.inl rfl) (HV.pickT rfl rfl) ?_
          refine AL.val rfl (.inl rfl) (HV.mv rfl) ?_
          cases c72 : (!z66)
          · -- false
            refine AL.off rfl rfl (by decide) rfl ?_
            refine AL.off rfl rfl (by decide) rfl ?_
            refine AL.off rfl rfl (by decide) rfl ?_
            refine AL.off rfl rfl (by decide) rfl ?_
            refine AL.off rfl rfl (by decide) rfl ?_
            refine AL.off rfl rfl (by decide) rfl ?_
            refine AL.off rfl rfl (by decide) rfl ?_
            refine AL.off rfl rfl (by decide) rfl ?_
            refine AL.val rfl (.inl rfl) (HV.pickF rfl rfl) ?_
            refine AL.nx ?_
            refine AW.cond rfl (fun h => by cases h) (fun _ => ?_)
            refine AW.skip ?_
            refine nrm_blk (nrm_and ?_)
            refine AW.reg ?_
            refine AL.val rfl (.inl rfl) (HV.mv rfl) ?_
            refine AL.val rfl (.inl rfl) (HV.add rfl rfl (by omega)) ?_
            refine AL.val rfl (.inl rfl) (HV.as rfl) ?_
            refine AL.nil ?_
            refine nrm_and ?_
            exact ⟨j + 1, ⟨X59, X60, X61, hb62, by omega, by rw [sw_no (fun hs => by have h1 := hs.1; have h2 := hs.2.1; have h3 := hs.2.2; have b1 : bt .and .i64 ((i : Int).fdiv (2 ^ min (IntKind.u64.wrap (j : Int) : Int).toNat IntKind.i64.bits)) 1 = ((i / 2 ^ j % 2 : Nat) : Int) := (by rw [shr_i i (show j < 7 by omega), bit_of (.inl rfl) (by omega)]); have z37_ := tab_z hz68 rfl (show i < 2 ^ n.toNat by omega); first | omega | simp_all)]; exact hoL2, trivial⟩, by first | omega | (dsimp only; omega), ⟨rfl, rfl, rfl, rfl, rfl, rfl, rfl, rfl, rfl, rfl, rfl, rfl, trivial⟩⟩
          · -- true
            refine AL.val rfl (.inr ⟨_, _, _, rfl, rfl, rfl⟩) (HV.mv rfl) ?_
            refine AL.val rfl (.inr ⟨_, _, _, rfl, rfl, rfl⟩) (HV.mv rfl) ?_
            refine AL.val rfl (.inr ⟨_, _, _, rfl, rfl, rfl⟩) (HV.mv rfl) ?_
            refine AL.val rfl (.inr ⟨_, _, _, rfl, rfl, rfl⟩) (HV.cv (by rw [Try.underlying2]; rfl) Try.underlying75 rfl) ?_
            refine AL.val rfl (.inr ⟨_, _, _, rfl, rfl, rfl⟩) (HV.shl rfl rfl (u64_nonneg _)) ?_
            refine AL.val rfl (.inr ⟨_, _, _, rfl, rfl, rfl⟩) (HV.bits (by simp) rfl rfl) ?_
            obtain ⟨p74, z75, cs76, hz77, hK78, hC79, hP80⟩ := RdK.ix (q := bt .or .i64 (i : Int) (IntKind.i64.wrap (1 * 2 ^ min (IntKind.u64.wrap (j : Int) : Int).toNat IntKind.i64.bits))) hr34 sl81 (by rw [(or_i hn (show i < 2 ^ n.toNat by omega) (show (j : Int) < n by omega)).1]; omega) (by rw [(or_i hn (show i < 2 ^ n.toNat by omega) (show (j : Int) < n by omega)).1, hTL]; have := (or_i hn (show i < 2 ^ n.toNat by omega) (show (j : Int) < n by omega)).2; omega)
            obtain rfl : cs76 = [.bool z75] := hK78
            refine AL.val rfl (.inr ⟨_, _, _, rfl, rfl, rfl⟩) (hP80 rfl rfl) ?_
            refine AL.val rfl (.inr ⟨_, _, _, rfl, rfl, rfl⟩) (HV.ld rfl va4 (cells_first (hC79.ext X61) rfl)) ?_
            refine AL.val rfl (.inl rfl) (HV.pickT rfl rfl) ?_
            refine AL.nx ?_
            refine AW.cond rfl (fun c81 => ?_) (fun c81 => ?_)
            · -- then
              refine AW.reg ?_
              refine AL.val rfl (.inl rfl) (HV.mv rfl) ?_
              refine AL.val rfl (.inl rfl) (HV.mv rfl) ?_
              obtain ⟨g82, z83, cs84, hz85, hK86, hC87, hg88, hP89⟩ := OwnK.ix (q := (j : Int)) hoL2 sl25 (by omega) (by have := swRow_length l i (swAll l n.toNat i) j; have := swAll_length l n.toNat i; omega)
              have X90 := Ext.refl H58
              obtain rfl : cs84 = [.int .i64 z83] := hK86
              refine AL.val rfl (.inl rfl) (hP89 rfl rfl) ?_
              refine AL.val rfl (.inl rfl) (HV.ld rfl va2 (cells_first hC87 rfl)) ?_
              refine AL.val rfl (.inl rfl) (HV.add rfl rfl (by have := sw_max hz85 (by omega) (by omega) (by omega); omega)) ?_
              obtain ⟨g91, z92, cs93, hz94, hK95, hC96, hg97, hP98⟩ := OwnK.ix (q := (j : Int)) hoL2 sl25 (by omega) (by have := swRow_length l i (swAll l n.toNat i) j; have := swAll_length l n.toNat i; omega)
              obtain rfl : cs93 = [.int .i64 z92] := hK95
              refine AL.val rfl (.inl rfl) (hP98 rfl rfl) ?_
              refine AL.w0 (.inl rfl) (WV.stK (okx := fun _ => False) (x' := z83 + 1) hoL2 hg97 rfl rfl va2 (by have := swRow_length l i (swAll l n.toNat i) j; have := swAll_length l n.toNat i; omega) rfl (fun _ h => h.elim)) ?_
              rintro _ H99 ⟨hx100, ho101⟩
              have X102 := Ext.thru X59 hx100 (fun b hb => Nat.le_trans o40 (hoL2.blk b hb).1)
              have X103 := Ext.thru X60 hx100 (fun b hb => Nat.le_trans o41 (hoL2.blk b hb).1)
              have X104 := Ext.thru X61 hx100 (fun b hb => Nat.le_trans o42 (hoL2.blk b hb).1)
              have hb106 := hb62.but hx100 (fun e => by have q : H31.bd ≤ _ := (hoL2.blk _ e).1; omega)
              have ho107 := ho101.okk (ok' := fun b => H31.bd ≤ b) (fun b hb _ => hb.elim id False.elim)
              refine AL.nil ?_
              refine nrm_blk (nrm_and ?_)
              refine AW.reg ?_
              refine AL.val rfl (.inl rfl) (HV.mv rfl) ?_
              refine AL.val rfl (.inl rfl) (HV.add rfl rfl (by omega)) ?_
              refine AL.val rfl (.inl rfl) (HV.as rfl) ?_
              refine AL.nil ?_
              refine nrm_and ?_
              exact ⟨j + 1, ⟨X102, X103, X104, hb106, by omega, by rw [sw_yes hz85 (by have b1 : bt .and .i64 ((i : Int).fdiv (2 ^ min (IntKind.u64.wrap (j : Int) : Int).toNat IntKind.i64.bits)) 1 = ((i / 2 ^ j % 2 : Nat) : Int) := (by rw [shr_i i (show j < 7 by omega), bit_of (.inl rfl) (by omega)]); have z37_ := tab_z hz68 rfl (show i < 2 ^ n.toNat by omega); have z48_ := tab_z hz77 (or_i hn (show i < 2 ^ n.toNat by omega) (show (j : Int) < n by omega)).1 (or_i hn (show i < 2 ^ n.toNat by omega) (show (j : Int) < n by omega)).2; exact ⟨by omega, by simp_all, by simp_all⟩)]; exact ho107, trivial⟩, by first | omega | (dsimp only; omega), ⟨rfl, rfl, rfl, rfl, rfl, rfl, rfl, rfl, rfl, rfl, rfl, rfl, trivial⟩⟩
            · -- else
              refine AW.skip ?_
              refine nrm_blk (nrm_and ?_)
              refine AW.reg ?_
              refine AL.val rfl (.inl rfl) (HV.mv rfl) ?_
              refine AL.val rfl (.inl rfl) (HV.add rfl rfl (by omega)) ?_
              refine AL.val rfl (.inl rfl) (HV.as rfl) ?_
              refine AL.nil ?_
              refine nrm_and ?_
              exact ⟨j + 1, ⟨X59, X60, X61, hb62, by omega, by rw [sw_no (fun hs => by have h1 := hs.1; have h2 := hs.2.1; have h3 := hs.2.2; have b1 : bt .and .i64 ((i : Int).fdiv (2 ^ min (IntKind.u64.wrap (j : Int) : Int).toNat IntKind.i64.bits)) 1 = ((i / 2 ^ j % 2 : Nat) : Int) := (by rw [shr_i i (show j < 7 by omega), bit_of (.inl rfl) (by omega)]); have z37_ := tab_z hz68 rfl (show i < 2 ^ n.toNat by omega); have z48_ := tab_z hz77 (or_i hn (show i < 2 ^ n.toNat by omega) (show (j : Int) < n by omega)).1 (or_i hn (show i < 2 ^ n.toNat by omega) (show (j : Int) < n by omega)).2; first | omega | simp_all)]; exact hoL2, trivial⟩, by first | omega | (dsimp only; omega), ⟨rfl, rfl, rfl, rfl, rfl, rfl, rfl, rfl, rfl, rfl, rfl, rfl, trivial⟩⟩
        · -- false
          have c64_ : decide ((bt .and .i64 (((i : Int) : Int).fdiv (2 ^ min (IntKind.u64.wrap (j : Int) : Int).toNat IntKind.i64.bits)) 1) = 0) = false := decide_eq_false c64
          rw [c64_]
          refine AL.off rfl rfl (by decide) rfl ?_
          refine AL.off rfl rfl (by decide) rfl ?_
          refine AL.off rfl rfl (by decide) rfl ?_
          refine AL.off rfl rfl (by decide) rfl ?_
          refine AL.off rfl rfl (by decide) rfl ?_
          refine AL.val rfl (.inl rfl) (HV.pickF rfl rfl) ?_
          refine AL.val rfl (.inl rfl) (HV.mv rfl) ?_
          refine AL.off rfl rfl (by decide) rfl ?_
          refine AL.off rfl rfl (by decide) rfl ?_
          refine AL.off rfl rfl (by decide) rfl ?_
          refine AL.off rfl rfl (by decide) rfl ?_
          refine AL.off rfl rfl (by decide) rfl ?_
          refine AL.off rfl rfl (by decide) rfl ?_
          refine AL.off rfl rfl (by decide) rfl ?_
          refine AL.off rfl rfl (by decide) rfl ?_
          refine AL.val rfl (.inl rfl) (HV.pickF rfl rfl) ?_
          refine AL.nx ?_
          refine AW.cond rfl (fun h => by cases h) (fun _ => ?_)
          refine AW.skip ?_
          refine nrm_blk (nrm_and ?_)
          refine AW.reg ?_
          refine AL.val rfl (.inl rfl) (HV.mv rfl) ?_
          refine AL.val rfl (.inl rfl) (HV.add rfl rfl (by omega)) ?_
          refine AL.val rfl (.inl rfl) (HV.as rfl) ?_
          refine AL.nil ?_
          refine nrm_and ?_
          exact ⟨j + 1, ⟨X59, X60, X61, hb62, by omega, by rw [sw_no (fun hs => by have h1 := hs.1; have h2 := hs.2.1; have h3 := hs.2.2; have b1 : bt .and .i64 ((i : Int).fdiv (2 ^ min (IntKind.u64.wrap (j : Int) : Int).toNat IntKind.i64.bits)) 1 = ((i / 2 ^ j % 2 : Nat) : Int) := (by rw [shr_i i (show j < 7 by omega), bit_of (.inl rfl) (by omega)]); first | omega | simp_all)]; exact hoL2, trivial⟩, by first | omega | (dsimp only; omega), ⟨rfl, rfl, rfl, rfl, rfl, rfl, rfl, rfl, rfl, rfl, rfl, rfl, trivial⟩⟩
      · -- else
        refine AW.exit ?_
        refine ex_and (ex_and (ex_blk ?_))
        refine nrm_blk (nrm_and ?_)
        refine AW.reg ?_
        refine AL.val rfl (.inl rfl) (HV.mv rfl) ?_
        refine AL.val rfl (.inl rfl) (HV.add rfl rfl (by omega)) ?_
        refine AL.val rfl (.inl rfl) (HV.as rfl) ?_
        refine AL.nil ?_
        refine nrm_and ?_
        exact ⟨i + 1, ⟨X59, X60, X61, hb62, by omega, by rw [swAll_succ]; exact (show j = n.toNat by omega) ▸ hoL2, trivial⟩, by first | omega | (dsimp only; omega), ⟨rfl, rfl, rfl, rfl, rfl, rfl, rfl, trivial⟩⟩
    · -- else
      refine AW.exit ?_
      refine ex_and (ex_and (ex_blk ?_))
      refine nrm_and ?_
      refine AW.rs ?_
      refine AL.val rfl (.inl rfl) (HV.mv rfl) ?_
      refine AL.val rfl (.inl rfl) (HV.as rfl) ?_
      refine AL.val rfl (.inl rfl) (HV.as rfl) ?_
      refine AL.nx ?_
      refine AW.ret ?_
      refine post_two rfl rfl rfl ?_ (.inr rfl)
      exact ⟨⟨_, _, by rw [if_pos hok], by rw [if_pos hok, hN2]; exact congrArg _ (by omega), hoL.okk (fun b hb _ => Nat.le_trans o40 hb)⟩, X53⟩

set_option maxRecDepth 100000 in
theorem implSw_ok {v : Value} {l : List (List Int)} {ok : Nat → Prop} (n : Int) (hr : RdK (kR kI) W H ok v l) : ACalls Try.prog W 25 #[.agg #[.int .i64 n, v]] H (fun r H' => (∃ v k, r = .tuple #[v, .int .i64 (if okI n l then 0 else 1)] ∧ k = (if okI n l then swAll l n.toNat (2 ^ n.toNat) else []) ∧ OwnK kI 2 W H' (fun b => H.bd ≤ b) v k) ∧ Ext H H') := by
  refine ACalls.of (args := [.agg #[.int .i64 n, v]]) Try.func25 rfl rfl ?_
  have X0 := Ext.refl H
  have hm1 := hr.max
  refine AW.rs ?_
  refine AL.w rfl (.inl rfl) (WV.bx rfl rfl) ?_
  rintro _ H3 ⟨b2, rfl, hx4, hn5, hb6⟩
  have o7 := Nat.le_trans X0.bd hn5
  have X8 := Ext.trans X0 hx4
  have X9 := Ext.refl H3
  refine AL.val rfl (.inl rfl) (HV.as rfl) ?_
  refine AL.val rfl (.inl rfl) (HV.as rfl) ?_
  refine AL.nx ?_
  refine AW.seq ?_
  refine AW.rs ?_
  refine AL.val rfl (.inl rfl) (HV.lda (cs := [.int .i64 n, v]) rfl va42 (at_cells hb6 rfl)) ?_
  refine AL.w rfl (.inl rfl) (WV.call fn63 rfl (validFam_ok n (hr.ext X8))) ?_
  rintro _ H10 ⟨rfl, hx11⟩
  have X12 := Ext.trans X8 hx11
  have X13 := Ext.trans X9 hx11
  have hb14 := hb6.ext hx11
  refine AL.val rfl (.inl rfl) (HV.not rfl) ?_
  refine AL.nx ?_
  refine AW.ifn rfl (fun c15 => ?_) (fun c15 => ?_)
  · -- then
    refine AW.rs ?_
    refine AL.val rfl (.inl rfl) (HV.as rfl) ?_
    refine AL.val rfl (.inl rfl) (HV.as rfl) ?_
    refine AL.nx ?_
    refine AW.ret ?_
    refine ret_and ?_
    refine post_two rfl rfl rfl ?_ (.inr rfl)
    have hno : ¬ okI n l := (fun h => c15 ((ok_iff n l).1 h)); exact ⟨⟨_, [], by rw [if_neg hno], by rw [if_neg hno], OwnK.nil _⟩, X12⟩
  · -- else
    refine AW.skip ?_
    refine nrm_and ?_
    refine AW.rs ?_
    refine AL.val rfl (.inl rfl) (HV.fa fl42_0 rfl) ?_
    refine AL.val rfl (.inl rfl) (HV.ld rfl va2 (at_cell hb14 rfl)) ?_
    have X16 := Ext.refl H10
    have y17 := hb14.lt
    have o18 := X12.bd
    have o19 := X13.bd
    have o20 := X16.bd
    refine AL.w rfl (.inl rfl) (WV.mkK (K := kI) (0 : Int) (fun _ _ _ => rfl) sl25 rfl rfl rfl (by have := (by assumption : okC n l).1; omega) (by have := (by assumption : okC n l).1; omega) (by have := (by assumption : okC n l).1; omega)) ?_
    rintro v21 H22 ⟨hx23, ho24⟩
    have X25 := Ext.trans X12 hx23
    have X26 := Ext.trans X13 hx23
    have X27 := Ext.trans X16 hx23
    have hb28 := hb14.ext hx23
    refine AL.val rfl (.inl rfl) (HV.as rfl) ?_
    refine AL.nx ?_
    refine AW.seq ?_
    refine AW.rs ?_
    refine AL.val rfl (.inl rfl) (HV.as rfl) ?_
    refine AL.nx ?_
    refine AW.block ?_
    have hokC : okC n l := (by assumption)
    have hok := (ok_iff n l).2 hokC
    have hn := hok.1
    obtain ⟨N, hN, hN2, hN1⟩ := shl7 hn
    refine AW.loop (σ := Nat) (fun i => [(1, .pointer (some ⟨b2, 0, none⟩)), (2, (.slice none 0 0)), (3, .int .i64 0), (4, v21), (4, v21), (5, .int .u64 (i : Int))]) (fun i H' => Ext H H' ∧ Ext H3 H' ∧ Ext H10 H' ∧ At W H' b2 ⟨42, [.int .i64 n, v], 2⟩ ∧ i ≤ N ∧ OwnK kI 2 W H' (fun b => H10.bd ≤ b) v21 (swAll l n.toNat i) ∧ True) (fun i => N - i) 0 ⟨X25, X26, X27, hb28, Nat.zero_le _, ho24, trivial⟩ ⟨rfl, rfl, rfl, rfl, rfl, rfl, trivial⟩ ?_
    rintro i H30 ⟨X31, X32, X33, hb34, hi, hoL, _⟩
    refine AW.seq ?_
    refine AW.rs ?_
    refine AL.val rfl (.inl rfl) (HV.mv rfl) ?_
    refine AL.val rfl (.inl rfl) (HV.fa fl42_0 rfl) ?_
    refine AL.val rfl (.inl rfl) (HV.ld rfl va2 (at_cell hb34 rfl)) ?_
    refine AL.w rfl (.inl rfl) (WV.call fn65 rfl (everybody_ok (W := W) hn)) ?_
    rintro _ H35 ⟨rfl, hx36⟩
    have X37 := Ext.trans X31 hx36
    have X38 := Ext.trans X32 hx36
    have X39 := Ext.trans X33 hx36
    have ho40 := hoL.ext hx36
    have hb41 := hb34.ext hx36
    refine AL.val rfl (.inl rfl) (HV.lei rfl rfl) ?_
    refine AL.nx ?_
    refine AW.ifd rfl (fun c42 => ?_) (fun c42 => ?_)
    · -- then
      refine AW.skip ?_
      refine nrm_and ?_
      refine AW.seq ?_
      refine AW.block ?_
      refine AW.rs ?_
      refine AL.val rfl (.inl rfl) (HV.fa fl42_0 rfl) ?_
      refine AL.val rfl (.inl rfl) (HV.ld rfl va2 (at_cell hb41 rfl)) ?_
      refine AL.val rfl (.inl rfl) (HV.mv rfl) ?_
      refine AL.nx ?_
      refine AW.block ?_
      refine AW.loop (σ := Nat) (fun j => [(1, .pointer (some ⟨b2, 0, none⟩)), (2, (.slice none 0 0)), (3, .int .i64 0), (4, v21), (5, .int .u64 (i : Int)), (13, .int .u64 (i : Int)), (14, .pointer (some ⟨b2, 0, none⟩)), (15, .int .i64 n), (16, .int .u64 (((2 ^ (n : Int).toNat : Nat) : Int) - 1)), (17, .bool (decide ((i : Int) ≤ (((2 ^ (n : Int).toNat : Nat) : Int) - 1)))), (20, .pointer (some ⟨b2, 0, none⟩)), (21, .int .i64 n), (4, v21), (22, .int .i64 (j : Int))]) (fun j H' => Ext H H' ∧ Ext H3 H' ∧ Ext H10 H' ∧ At W H' b2 ⟨42, [.int .i64 n, v], 2⟩ ∧ (j : Int) ≤ n ∧ OwnK kI 2 W H' (fun b => H10.bd ≤ b) v21 (swRow l i (swAll l n.toNat i) j) ∧ True) (fun j => n.toNat - j) 0 ⟨X37, X38, X39, hb41, by omega, ho40, trivial⟩ ⟨rfl, rfl, rfl, rfl, rfl, rfl, rfl, rfl, rfl, rfl, rfl, rfl, rfl, rfl, trivial⟩ ?_
      rintro j H43 ⟨X44, X45, X46, hb47, hj, hoL2, _⟩
      refine AW.rs ?_
      refine AL.val rfl (.inl rfl) (HV.lti rfl rfl) ?_
      refine AL.nx ?_
      refine AW.seq ?_
      refine AW.ifd rfl (fun c48 => ?_) (fun c48 => ?_)
      · -- then
        refine AW.skip ?_
        refine nrm_and ?_
        refine AW.seq ?_
        refine AW.block ?_
        refine AW.rs ?_
        refine AL.val rfl (.inl rfl) (HV.mv rfl) ?_
        refine AL.val rfl (.inl rfl) (HV.as rfl) ?_
        refine AL.nx ?_
        refine AW.seq ?_
        refine AW.draw' [0, 0, 3, 7, 15, 31, 31, 127, 255, 511, 1023, 2047, 2047, 2047, 10239, 30719, 65535, 131071] mixed (by rfl) ?_
        refine Dr.read 0 _ 25 _ rfl rfl rfl rfl rfl (RV.of (by intro _ _ h; cases h) (.inl rfl) (fun _ xd => HV.mv rfl)) ?_
        refine Dr.read 1 _ 26 _ rfl rfl rfl rfl rfl (RV.of (by intro _ _ h; cases h) (.inl rfl) (fun _ xd => HV.mv rfl)) ?_
        refine Dr.eff 2 _ _ rfl (by intro d h; cases h; exact ⟨rfl, rfl⟩) rfl rfl rfl (EC.of (by intro _ _ h; cases h) (.inl rfl) (WV.call fn66 rfl (has_ok (W := W) i j (by omega) (by omega)))) (fun v H' h => .inl (h.2)) ?_
        rintro _ H49 ⟨rfl, hx50⟩
        have X51 := Ext.trans X44 hx50
        have X52 := Ext.trans X45 hx50
        have X53 := Ext.trans X46 hx50
        have ho54 := hoL2.ext hx50
        have hb55 := hb47.ext hx50
        refine Dr.read 3 _ 28 _ rfl rfl rfl rfl rfl (RV.of (by intro _ _ h; cases h) (.inl rfl) (fun _ xd => HV.not rfl)) ?_
        refine Dr.read 4 _ 29 _ rfl rfl rfl rfl rfl (RV.of (by intro _ _ h; cases h) (.inl rfl) (fun _ xd => HV.mv rfl)) ?_
        by_cases c56 : i / 2 ^ j % 2 = 1
        · -- false
          have c56_ : (!decide (i / 2 ^ j % 2 = 1)) = false := by rw [decide_eq_true c56]; rfl
          rw [c56_]
          refine Dr.read 5 _ 30 _ rfl rfl rfl rfl rfl (RV.off (by intro _ _ h; cases h) rfl rfl (by decide)) ?_
          refine Dr.read 6 _ 31 _ rfl rfl rfl rfl rfl (RV.off (by intro _ _ h; cases h) rfl rfl (by decide)) ?_
          refine Dr.read 7 _ 32 _ rfl rfl rfl rfl rfl (RV.off (by intro _ _ h; cases h) rfl rfl (by decide)) ?_
          refine Dr.read 8 _ 33 _ rfl rfl rfl rfl rfl (RV.off (by intro _ _ h; cases h) rfl rfl (by decide)) ?_
          refine Dr.read 9 _ 34 _ rfl rfl rfl rfl rfl (RV.of (by intro _ _ h; cases h) (.inl rfl) (fun _ xd => HV.pickF rfl rfl)) ?_
          refine Dr.read 10 _ 35 _ rfl rfl rfl rfl rfl (RV.of (by intro _ _ h; cases h) (.inl rfl) (fun _ xd => HV.mv rfl)) ?_
          refine Dr.read 11 _ 36 _ rfl rfl rfl rfl rfl (RV.off (by intro _ _ h; cases h) rfl rfl (by decide)) ?_
          refine Dr.read 12 _ 37 _ rfl rfl rfl rfl rfl (RV.off (by intro _ _ h; cases h) rfl rfl (by decide)) ?_
          refine Dr.read 13 _ 38 _ rfl rfl rfl rfl rfl (RV.off (by intro _ _ h; cases h) rfl rfl (by decide)) ?_
          refine Dr.read 14 _ 39 _ rfl rfl rfl rfl rfl (RV.off (by intro _ _ h; cases h) rfl rfl (by decide)) ?_
          refine Dr.read 15 _ 40 _ rfl rfl rfl rfl rfl (RV.off (by intro _ _ h; cases h) rfl rfl (by decide)) ?_
          refine Dr.read 16 _ 41 _ rfl rfl rfl rfl rfl (RV.off (by intro _ _ h; cases h) rfl rfl (by decide)) ?_
          refine Dr.read 17 _ 42 _ rfl rfl rfl rfl rfl (RV.of (by intro _ _ h; cases h) (.inl rfl) (fun _ xd => HV.pickF rfl rfl)) ?_
          refine Dr.fin rfl ?_
          refine nrm_and ?_
          refine AW.cond rfl (fun h => by cases h) (fun _ => ?_)
          refine AW.skip ?_
          refine nrm_blk (nrm_and ?_)
          refine AW.reg ?_
          refine AL.val rfl (.inl rfl) (HV.add rfl rfl (by omega)) ?_
          refine AL.val rfl (.inl rfl) (HV.mv rfl) ?_
          refine AL.nil ?_
          refine nrm_and ?_
          exact ⟨j + 1, ⟨X51, X52, X53, hb55, by omega, by rw [sw_no (fun hs => by have h1 := hs.1; have h2 := hs.2.1; have h3 := hs.2.2; have e := (or_u hn (show i < 2 ^ n.toNat by omega) (show (j : Int) < n by omega)); first | omega | exact h2 ((opN hokC (show i < 2 ^ n.toNat by omega)).2 (by assumption)) | exact absurd ((opN hokC e.2).1 h3) (by rw [← e.1]; assumption))]; exact ho54, trivial⟩, by first | omega | (dsimp only; omega), ⟨rfl, rfl, rfl, rfl, rfl, rfl, rfl, rfl, rfl, rfl, rfl, rfl, rfl, rfl, trivial⟩⟩
        · -- true
          have c56_ : (!decide (i / 2 ^ j % 2 = 1)) = true := by rw [decide_eq_false c56]; rfl
          rw [c56_]
          refine Dr.read 5 _ 30 _ rfl rfl rfl rfl rfl (RV.of (by intro _ _ h; cases h) (.inr ⟨_, _, _, rfl, rfl, rfl⟩) (fun _ xd => HV.lda (cs := [.int .i64 n, v]) rfl va42 (fun j u hu => rdc_ext xd ((at_cells hb55 rfl) j u hu)))) ?_
          refine Dr.read 6 _ 31 _ rfl rfl rfl rfl rfl (RV.of (by intro _ _ h; cases h) (.inr ⟨_, _, _, rfl, rfl, rfl⟩) (fun _ xd => HV.mv rfl)) ?_
          refine Dr.eff 7 _ _ rfl (by intro d h; cases h; exact ⟨rfl, rfl⟩) rfl rfl rfl (EC.of (by intro _ _ h; cases h) (.inr ⟨_, _, _, rfl, rfl, rfl⟩) (WV.call fn64 rfl (opens_ok n (hr.ext X51) (i : Int) (okC_low hokC)))) (fun v H' h => .inl (h.2)) ?_
          rintro _ H58 ⟨rfl, hx59⟩
          have X60 := Ext.trans X51 hx59
          have X61 := Ext.trans X52 hx59
          have X62 := Ext.trans X53 hx59
          have ho63 := ho54.ext hx59
          have hb64 := hb55.ext hx59
          refine Dr.read 8 _ 33 _ rfl rfl rfl rfl rfl (RV.of (by intro _ _ h; cases h) (.inr ⟨_, _, _, rfl, rfl, rfl⟩) (fun _ xd => HV.not rfl)) ?_
          refine Dr.read 9 _ 34 _ rfl rfl rfl rfl rfl (RV.of (by intro _ _ h; cases h) (.inl rfl) (fun _ xd => HV.pickT rfl rfl)) ?_
          refine Dr.read 10 _ 35 _ rfl rfl rfl rfl rfl (RV.of (by intro _ _ h; cases h) (.inl rfl) (fun _ xd => HV.mv rfl)) ?_
          by_cases c65 : opC (i : Int) l
          · -- false
            have c65_ : (!decide (opC (i : Int) l)) = false := by rw [decide_eq_true c65]; rfl
            rw [c65_]
            refine Dr.read 11 _ 36 _ rfl rfl rfl rfl rfl (RV.off (by intro _ _ h; cases h) rfl rfl (by decide)) ?_
            refine Dr.read 12 _ 37 _ rfl rfl rfl rfl rfl (RV.off (by intro _ _ h; cases h) rfl rfl (by decide)) ?_
            refine Dr.read 13 _ 38 _ rfl rfl rfl rfl rfl (RV.off (by intro _ _ h; cases h) rfl rfl (by decide)) ?_
            refine Dr.read 14 _ 39 _ rfl rfl rfl rfl rfl (RV.off (by intro _ _ h; cases h) rfl rfl (by decide)) ?_
            refine Dr.read 15 _ 40 _ rfl rfl rfl rfl rfl (RV.off (by intro _ _ h; cases h) rfl rfl (by decide)) ?_
            refine Dr.read 16 _ 41 _ rfl rfl rfl rfl rfl (RV.off (by intro _ _ h; cases h) rfl rfl (by decide)) ?_
            refine Dr.read 17 _ 42 _ rfl rfl rfl rfl rfl (RV.of (by intro _ _ h; cases h) (.inl rfl) (fun _ xd => HV.pickF rfl rfl)) ?_
            refine Dr.fin rfl ?_
            refine nrm_and ?_
            refine AW.cond rfl (fun h => by cases h) (fun _ => ?_)
            refine AW.skip ?_
            refine nrm_blk (nrm_and ?_)
            refine AW.reg ?_
            refine AL.val rfl (.inl rfl) (HV.add rfl rfl (by omega)) ?_
            refine AL.val rfl (.inl rfl) (HV.mv rfl) ?_
            refine AL.nil ?_
            refine nrm_and ?_
            exact ⟨j + 1, ⟨X60, X61, X62, hb64, by omega, by rw [sw_no (fun hs => by have h1 := hs.1; have h2 := hs.2.1; have h3 := hs.2.2; have e := (or_u hn (show i < 2 ^ n.toNat by omega) (show (j : Int) < n by omega)); first | omega | exact h2 ((opN hokC (show i < 2 ^ n.toNat by omega)).2 (by assumption)) | exact absurd ((opN hokC e.2).1 h3) (by rw [← e.1]; assumption))]; exact ho63, trivial⟩, by first | omega | (dsimp only; omega), ⟨rfl, rfl, rfl, rfl, rfl, rfl, rfl, rfl, rfl, rfl, rfl, rfl, rfl, rfl, trivial⟩⟩
          · -- true
            have c65_ : (!decide (opC (i : Int) l)) = true := by rw [decide_eq_false c65]; rfl
            rw [c65_]
            refine Dr.read 11 _ 36 _ rfl rfl rfl rfl rfl (RV.of (by intro _ _ h; cases h) (.inr ⟨_, _, _, rfl, rfl, rfl⟩) (fun _ xd => HV.lda (cs := [.int .i64 n, v]) rfl va42 (fun j u hu => rdc_ext xd ((at_cells hb64 rfl) j u hu)))) ?_
            refine Dr.read 12 _ 37 _ rfl rfl rfl rfl rfl (RV.of (by intro _ _ h; cases h) (.inr ⟨_, _, _, rfl, rfl, rfl⟩) (fun _ xd => HV.mv rfl)) ?_
            refine Dr.read 13 _ 38 _ rfl rfl rfl rfl rfl (RV.of (by intro _ _ h; cases h) (.inr ⟨_, _, _, rfl, rfl, rfl⟩) (fun _ xd => HV.mv rfl)) ?_
            refine Dr.read 14 _ 39 _ rfl rfl rfl rfl rfl (RV.of (by intro _ _ h; cases h) (.inr ⟨_, _, _, rfl, rfl, rfl⟩) (fun _ xd => HV.shl rfl rfl (by omega))) ?_
            refine Dr.read 15 _ 40 _ rfl rfl rfl rfl rfl (RV.of (by intro _ _ h; cases h) (.inr ⟨_, _, _, rfl, rfl, rfl⟩) (fun _ xd => HV.bits (by simp) rfl rfl)) ?_
            refine Dr.eff 16 _ _ rfl (by intro d h; cases h; exact ⟨rfl, rfl⟩) rfl rfl rfl (EC.of (by intro _ _ h; cases h) (.inr ⟨_, _, _, rfl, rfl, rfl⟩) (WV.call fn64 rfl (opens_ok n (hr.ext X60) (bt .or .u64 (i : Int) (IntKind.u64.wrap (1 * 2 ^ min ((j : Int) : Int).toNat IntKind.u64.bits))) (okC_low hokC)))) (fun v H' h => .inl (h.2)) ?_
            rintro _ H67 ⟨rfl, hx68⟩
            have X69 := Ext.trans X60 hx68
            have X70 := Ext.trans X61 hx68
            have X71 := Ext.trans X62 hx68
            have ho72 := ho63.ext hx68
            have hb73 := hb64.ext hx68
            refine Dr.read 17 _ 42 _ rfl rfl rfl rfl rfl (RV.of (by intro _ _ h; cases h) (.inl rfl) (fun _ xd => HV.pickT rfl rfl)) ?_
            refine Dr.fin rfl ?_
            refine nrm_and ?_
            refine AW.ifd rfl (fun c74 => ?_) (fun c74 => ?_)
            · -- then
              refine AW.reg ?_
              refine AL.val rfl (.inl rfl) (HV.mv rfl) ?_
              refine AL.val rfl (.inl rfl) (HV.mv rfl) ?_
              obtain ⟨g75, z76, cs77, hz78, hK79, hC80, hg81, hP82⟩ := OwnK.ix (q := (j : Int)) ho72 sl25 (by omega) (by have := swRow_length l i (swAll l n.toNat i) j; have := swAll_length l n.toNat i; omega)
              have X83 := Ext.refl H67
              obtain rfl : cs77 = [.int .i64 z76] := hK79
              refine AL.val rfl (.inl rfl) (hP82 rfl rfl) ?_
              refine AL.val rfl (.inl rfl) (HV.ld rfl va2 (cells_first hC80 rfl)) ?_
              refine AL.val rfl (.inl rfl) (HV.add rfl rfl (by have := sw_max hz78 (by omega) (by omega) (by omega); omega)) ?_
              obtain ⟨g84, z85, cs86, hz87, hK88, hC89, hg90, hP91⟩ := OwnK.ix (q := (j : Int)) ho72 sl25 (by omega) (by have := swRow_length l i (swAll l n.toNat i) j; have := swAll_length l n.toNat i; omega)
              obtain rfl : cs86 = [.int .i64 z85] := hK88
              refine AL.val rfl (.inl rfl) (hP91 rfl rfl) ?_
              refine AL.w0 (.inl rfl) (WV.stK (okx := fun _ => False) (x' := z76 + 1) ho72 hg90 rfl rfl va2 (by have := swRow_length l i (swAll l n.toNat i) j; have := swAll_length l n.toNat i; omega) rfl (fun _ h => h.elim)) ?_
              rintro _ H92 ⟨hx93, ho94⟩
              have X95 := Ext.thru X69 hx93 (fun b hb => Nat.le_trans o18 (ho72.blk b hb).1)
              have X96 := Ext.thru X70 hx93 (fun b hb => Nat.le_trans o19 (ho72.blk b hb).1)
              have X97 := Ext.thru X71 hx93 (fun b hb => Nat.le_trans o20 (ho72.blk b hb).1)
              have hb99 := hb73.but hx93 (fun e => by have q : H10.bd ≤ _ := (ho72.blk _ e).1; omega)
              have ho100 := ho94.okk (ok' := fun b => H10.bd ≤ b) (fun b hb _ => hb.elim id False.elim)
              refine AL.nil ?_
              refine nrm_blk (nrm_and ?_)
              refine AW.reg ?_
              refine AL.val rfl (.inl rfl) (HV.add rfl rfl (by omega)) ?_
              refine AL.val rfl (.inl rfl) (HV.mv rfl) ?_
              refine AL.nil ?_
              refine nrm_and ?_
              exact ⟨j + 1, ⟨X95, X96, X97, hb99, by omega, by rw [sw_yes hz78 (by have e := (or_u hn (show i < 2 ^ n.toNat by omega) (show (j : Int) < n by omega)); exact ⟨by omega, fun h => absurd ((opN hokC (show i < 2 ^ n.toNat by omega)).1 h) (by assumption), (opN hokC e.2).2 (by rw [← e.1]; assumption)⟩)]; exact ho100, trivial⟩, by first | omega | (dsimp only; omega), ⟨rfl, rfl, rfl, rfl, rfl, rfl, rfl, rfl, rfl, rfl, rfl, rfl, rfl, rfl, trivial⟩⟩
            · -- else
              refine AW.skip ?_
              refine nrm_blk (nrm_and ?_)
              refine AW.reg ?_
              refine AL.val rfl (.inl rfl) (HV.add rfl rfl (by omega)) ?_
              refine AL.val rfl (.inl rfl) (HV.mv rfl) ?_
              refine AL.nil ?_
              refine nrm_and ?_
              exact ⟨j + 1, ⟨X69, X70, X71, hb73, by omega, by rw [sw_no (fun hs => by have h1 := hs.1; have h2 := hs.2.1; have h3 := hs.2.2; have e := (or_u hn (show i < 2 ^ n.toNat by omega) (show (j : Int) < n by omega)); first | omega | exact h2 ((opN hokC (show i < 2 ^ n.toNat by omega)).2 (by assumption)) | exact absurd ((opN hokC e.2).1 h3) (by rw [← e.1]; assumption))]; exact ho72, trivial⟩, by first | omega | (dsimp only; omega), ⟨rfl, rfl, rfl, rfl, rfl, rfl, rfl, rfl, rfl, rfl, rfl, rfl, rfl, rfl, trivial⟩⟩
      · -- else
        refine AW.exit ?_
        refine ex_and (ex_and (ex_blk ?_))
        refine nrm_blk (nrm_and ?_)
        refine AW.reg ?_
        refine AL.val rfl (.inl rfl) (HV.mv rfl) ?_
        refine AL.val rfl (.inl rfl) (HV.addu rfl rfl (by omega)) ?_
        refine AL.val rfl (.inl rfl) (HV.as rfl) ?_
        refine AL.nil ?_
        refine nrm_and ?_
        exact ⟨i + 1, ⟨X44, X45, X46, hb47, by omega, by rw [swAll_succ]; exact (show j = n.toNat by omega) ▸ hoL2, trivial⟩, by first | omega | (dsimp only; omega), ⟨rfl, rfl, rfl, rfl, rfl, rfl, trivial⟩⟩
    · -- else
      refine AW.exit ?_
      refine ex_and (ex_and (ex_blk ?_))
      refine nrm_and ?_
      refine AW.rs ?_
      refine AL.val rfl (.inl rfl) (HV.mv rfl) ?_
      refine AL.val rfl (.inl rfl) (HV.as rfl) ?_
      refine AL.val rfl (.inl rfl) (HV.as rfl) ?_
      refine AL.nx ?_
      refine AW.ret ?_
      refine post_two rfl rfl rfl ?_ (.inr rfl)
      exact ⟨⟨_, _, by rw [if_pos hok], by rw [if_pos hok, hN2]; exact congrArg _ (by omega), ho40.okk (fun b hb _ => Nat.le_trans o18 hb)⟩, X37⟩

set_option maxRecDepth 100000 in
theorem markS_ok {v : Value} {l : List Int} {ok : Nat → Prop} (q : Int) (ho : OwnK kI 2 W H ok v l) (hq : 0 ≤ q ∧ q + l.length ≤ 1000000000000000) : ACalls Try.prog W 27 #[v, .int .i64 q] H (fun r H' => ∃ k, r = .int .i64 (q + (l.length : Int)) ∧ k.length = l.length ∧ (∀ j : Nat, j < k.length → k.getD j 0 = q + (j : Int)) ∧ But (fun b => some b = v.ownBlock) H H' ∧ OwnK kI 2 W H' ok v k) := by
  refine ACalls.of (args := [v, .int .i64 q]) Try.func27 rfl rfl ?_
  have X0 := Ext.refl H
  have B0 := But.refl (fun b => some b = v.ownBlock) H
  have hmL := ho.rd.max
  refine AW.rs ?_
  refine AL.val rfl (.inl rfl) (HV.as rfl) ?_
  refine AL.nx ?_
  refine AW.seq ?_
  refine AW.rs ?_
  refine AL.val rfl (.inl rfl) (HV.as rfl) ?_
  refine AL.nx ?_
  refine AW.block ?_
  refine AW.loop (σ := Nat × Int × List Int) (fun ⟨i, p, k⟩ => [(0, v), (4, .int .i64 0), (0, v), (1, .int .i64 p), (5, .int .i64 (i : Int))]) (fun ⟨i, p, k⟩ H' => i ≤ l.length ∧ p = q + i ∧ k.length = l.length ∧ (∀ j : Nat, j < i → k.getD j 0 = q + (j : Int)) ∧ OwnK kI 2 W H' ok v k ∧ But (fun b => some b = v.ownBlock) H H' ∧ True) (fun ⟨i, p, k⟩ => l.length - i) (0, q, l) ⟨Nat.zero_le _, by omega, rfl, fun j hj => absurd hj (Nat.not_lt_zero _), ho, B0, trivial⟩ ⟨rfl, rfl, rfl, rfl, rfl, trivial⟩ ?_
  rintro ⟨i, p, k⟩ H1 ⟨hi, hp, hk, he, hoL, hB, _⟩
  refine AW.seq ?_
  refine AW.rs ?_
  refine AL.val rfl (.inl rfl) (HV.mv rfl) ?_
  refine AL.val rfl (.inl rfl) (HV.mv rfl) ?_
  refine AL.val rfl (.inl rfl) (HV.len Try.underlying25 rfl hoL.rd.isSl) ?_
  refine AL.val rfl (.inl rfl) (HV.lti rfl rfl) ?_
  refine AL.nx ?_
  refine AW.ifd rfl (fun c2 => ?_) (fun c2 => ?_)
  · -- then
    refine AW.skip ?_
    refine nrm_and ?_
    refine AW.seq ?_
    refine AW.block ?_
    refine AW.rs ?_
    refine AL.val rfl (.inl rfl) (HV.mv rfl) ?_
    refine AL.val rfl (.inl rfl) (HV.mv rfl) ?_
    refine AL.val rfl (.inl rfl) (HV.mv rfl) ?_
    obtain ⟨g3, z4, cs5, hz6, hK7, hC8, hg9, hP10⟩ := OwnK.ix (q := (i : Int)) hoL sl25 (by omega) (by omega)
    have X11 := Ext.refl H1
    obtain rfl : cs5 = [.int .i64 z4] := hK7
    refine AL.val rfl (.inl rfl) (hP10 rfl rfl) ?_
    refine AL.w0 (.inl rfl) (WV.stK (okx := fun _ => False) (x' := p) hoL hg9 rfl rfl va2 (by omega) rfl (fun _ h => h.elim)) ?_
    rintro _ H12 ⟨hx13, ho14⟩
    have B16 := But.trans hB hx13
    have ho17 := ho14.okk (ok' := ok) (fun b hb _ => hb.elim id False.elim)
    refine AL.nx ?_
    refine AW.reg ?_
    refine AL.val rfl (.inl rfl) (HV.mv rfl) ?_
    refine AL.val rfl (.inl rfl) (HV.add rfl rfl (by omega)) ?_
    refine AL.val rfl (.inl rfl) (HV.as rfl) ?_
    refine AL.nil ?_
    refine nrm_blk (nrm_and ?_)
    refine AW.reg ?_
    refine AL.val rfl (.inl rfl) (HV.mv rfl) ?_
    refine AL.val rfl (.inl rfl) (HV.add rfl rfl (by omega)) ?_
    refine AL.val rfl (.inl rfl) (HV.as rfl) ?_
    refine AL.nil ?_
    refine nrm_and ?_
    exact ⟨(i + 1, p + 1, (k.set ((i : Int) : Int).toNat p)), ⟨by omega, by omega, by simp [hk], mark_step he (by omega) hp, ho17, B16, trivial⟩, by first | omega | (dsimp only; omega), ⟨rfl, rfl, rfl, rfl, rfl, trivial⟩⟩
  · -- else
    refine AW.exit ?_
    refine ex_and (ex_and (ex_blk ?_))
    refine nrm_and ?_
    refine AW.rs ?_
    refine AL.val rfl (.inl rfl) (HV.mv rfl) ?_
    refine AL.val rfl (.inl rfl) (HV.as rfl) ?_
    refine AL.nx ?_
    refine AW.ret ?_
    refine post_one rfl rfl ?_ (.inr rfl)
    exact ⟨k, congrArg (Value.int .i64) (by omega), hk, fun j hj => he j (by omega), hB, hoL⟩

set_option maxRecDepth 100000 in
theorem heldS_ok {v : Value} {l : List Int} {ok : Nat → Prop} (q : Int) (hr : RdK kI W H ok v l) (hq : 0 ≤ q ∧ q + l.length ≤ 1000000000000000) (hl : (∀ j : Nat, j < l.length → l.getD j 0 = q + (j : Int))) : ACalls Try.prog W 28 #[v, .int .i64 q] H (fun r H' => r = .int .i64 (q + (l.length : Int)) ∧ Ext H H') := by
  refine ACalls.of (args := [v, .int .i64 q]) Try.func28 rfl rfl ?_
  have X0 := Ext.refl H
  have hm1 := hr.max
  refine AW.rs ?_
  refine AL.val rfl (.inl rfl) (HV.as rfl) ?_
  refine AL.nx ?_
  refine AW.seq ?_
  refine AW.rs ?_
  refine AL.val rfl (.inl rfl) (HV.as rfl) ?_
  refine AL.nx ?_
  refine AW.block ?_
  refine AW.loop (σ := Nat × Int) (fun ⟨i, p⟩ => [(0, v), (1, .int .i64 p), (5, .int .i64 (i : Int))]) (fun ⟨i, p⟩ H' => Ext H H' ∧ i ≤ l.length ∧ p = q + i ∧ True) (fun ⟨i, p⟩ => l.length - i) (0, q) ⟨X0, Nat.zero_le _, by omega, trivial⟩ ⟨rfl, rfl, rfl, trivial⟩ ?_
  rintro ⟨i, p⟩ H2 ⟨X3, hi, hp, _⟩
  refine AW.seq ?_
  refine AW.rs ?_
  refine AL.val rfl (.inl rfl) (HV.mv rfl) ?_
  refine AL.val rfl (.inl rfl) (HV.mv rfl) ?_
  refine AL.val rfl (.inl rfl) (HV.len Try.underlying25 rfl hr.isSl) ?_
  refine AL.val rfl (.inl rfl) (HV.lti rfl rfl) ?_
  refine AL.nx ?_
  refine AW.ifd rfl (fun c4 => ?_) (fun c4 => ?_)
  · -- then
    refine AW.skip ?_
    refine nrm_and ?_
    refine AW.seq ?_
    refine AW.block ?_
    refine AW.seq ?_
    refine AW.rs ?_
    refine AL.val rfl (.inl rfl) (HV.mv rfl) ?_
    refine AL.val rfl (.inl rfl) (HV.mv rfl) ?_
    obtain ⟨p5, z6, cs7, hz8, hK9, hC10, hP11⟩ := RdK.ix (q := (i : Int)) hr sl25 (by omega) (by omega)
    obtain rfl : cs7 = [.int .i64 z6] := hK9
    refine AL.val rfl (.inl rfl) (hP11 rfl rfl) ?_
    refine AL.val rfl (.inl rfl) (HV.ld rfl va2 (cells_first (hC10.ext X3) rfl)) ?_
    refine AL.val rfl (.inl rfl) (HV.mv rfl) ?_
    refine AL.val rfl (.inl rfl) (HV.nei rfl rfl) ?_
    refine AL.nx ?_
    refine AW.ifd rfl (fun c12 => ?_) (fun c12 => ?_)
    · -- then
      refine AW.rs ?_
      refine AL.val rfl (.inl rfl) (HV.as rfl) ?_
      refine AL.nx ?_
      refine AW.ret ?_
      refine ret_and (ret_blk (ret_and (ret_and (ret_blk (ret_and ?_)))))
      refine post_one rfl rfl ?_ (.inr rfl)
      exact absurd (by have := hl i (by omega); rw [gd hz8 rfl] at this; omega) c12
    · -- else
      refine AW.skip ?_
      refine nrm_and ?_
      refine AW.reg ?_
      refine AL.val rfl (.inl rfl) (HV.mv rfl) ?_
      refine AL.val rfl (.inl rfl) (HV.add rfl rfl (by omega)) ?_
      refine AL.val rfl (.inl rfl) (HV.as rfl) ?_
      refine AL.nil ?_
      refine nrm_blk (nrm_and ?_)
      refine AW.reg ?_
      refine AL.val rfl (.inl rfl) (HV.mv rfl) ?_
      refine AL.val rfl (.inl rfl) (HV.add rfl rfl (by omega)) ?_
      refine AL.val rfl (.inl rfl) (HV.as rfl) ?_
      refine AL.nil ?_
      refine nrm_and ?_
      exact ⟨(i + 1, p + 1), ⟨X3, by omega, by omega, trivial⟩, by first | omega | (dsimp only; omega), ⟨rfl, rfl, rfl, trivial⟩⟩
  · -- else
    refine AW.exit ?_
    refine ex_and (ex_and (ex_blk ?_))
    refine nrm_and ?_
    refine AW.rs ?_
    refine AL.val rfl (.inl rfl) (HV.mv rfl) ?_
    refine AL.val rfl (.inl rfl) (HV.as rfl) ?_
    refine AL.nx ?_
    refine AW.ret ?_
    refine post_one rfl rfl ?_ (.inr rfl)
    exact ⟨congrArg (Value.int .i64) (by omega), X3⟩

set_option maxRecDepth 100000 in
theorem markSS_ok {v : Value} {l : List (List Int)} {ok : Nat → Prop} (ho : OwnD (kO 2 kI) 25 W H ok v l) (hl : (l.length ≤ 1048576 ∧ ∀ x ∈ l, x.length ≤ 1048576)) (q : Int) (hq : 0 ≤ q ∧ q ≤ 1048576) : ACalls Try.prog W 46 #[v, .int .i64 q] H (fun r H' => (∃ q' : Int, r = .int .i64 q' ∧ 0 ≤ q') ∧ But ok H H') := by
  refine ACalls.of (args := [v, .int .i64 q]) Try.func46 rfl rfl ?_
  have X0 := Ext.refl H
  have B0 := But.refl ok H
  have hmL := ho.rd.max
  refine AW.rs ?_
  refine AL.val rfl (.inl rfl) (HV.as rfl) ?_
  refine AL.nx ?_
  refine AW.seq ?_
  refine AW.rs ?_
  refine AL.val rfl (.inl rfl) (HV.as rfl) ?_
  refine AL.nx ?_
  refine AW.block ?_
  refine AW.loop (σ := Nat × Int × List (List Int)) (fun ⟨i, p, k⟩ => [(0, v), (4, .int .i64 0), (0, v), (1, .int .i64 p), (5, .int .i64 (i : Int))]) (fun ⟨i, p, k⟩ H' => i ≤ l.length ∧ 0 ≤ p ∧ p ≤ 1048576 + (i : Int) * 1048576 ∧ k.length = l.length ∧ (∀ x ∈ k, x.length ≤ 1048576) ∧ OwnD (kO 2 kI) 25 W H' ok v k ∧ But ok H H' ∧ True) (fun ⟨i, p, k⟩ => l.length - i) (0, q, l) ⟨Nat.zero_le _, hq.1, by omega, rfl, hl.2, ho, B0, trivial⟩ ⟨rfl, rfl, rfl, rfl, rfl, trivial⟩ ?_
  rintro ⟨i, p, k⟩ H1 ⟨hi, hp0, hp, hk, hkl, hoL, hB, _⟩
  refine AW.seq ?_
  refine AW.rs ?_
  refine AL.val rfl (.inl rfl) (HV.mv rfl) ?_
  refine AL.val rfl (.inl rfl) (HV.mv rfl) ?_
  refine AL.val rfl (.inl rfl) (HV.len Try.underlying37 rfl (rd_ofO hoL.rd).isSl) ?_
  refine AL.val rfl (.inl rfl) (HV.lti rfl rfl) ?_
  refine AL.nx ?_
  refine AW.ifd rfl (fun c2 => ?_) (fun c2 => ?_)
  · -- then
    refine AW.skip ?_
    refine nrm_and ?_
    refine AW.seq ?_
    refine AW.block ?_
    refine AW.reg ?_
    refine AL.val rfl (.inl rfl) (HV.mv rfl) ?_
    refine AL.val rfl (.inl rfl) (HV.mv rfl) ?_
    obtain ⟨g3, z4, cs5, hz6, hK7, hC8, hg9, hP10⟩ := OwnK.ix (q := (i : Int)) hoL.own sl37 (by omega) (by omega)
    have X11 := Ext.refl H1
    obtain ⟨v12, rfl, hr13⟩ := hK7
    have hO14 := hr13
    replace hr13 := hr13.rd
    have hm15 := hr13.max
    refine AL.val rfl (.inl rfl) (hP10 rfl rfl) ?_
    refine AL.val rfl (.inl rfl) (HV.ld rfl va25 (cells_first hC8 rfl)) ?_
    refine AL.val rfl (.inl rfl) (HV.mv rfl) ?_
    refine AL.w rfl (.inl rfl) (WV.call fn27 rfl (markS_ok p hO14 (by have := hkl _ (List.mem_of_getElem? hz6); have := hl.1; omega))) ?_
    rintro _ H16 ⟨k17, rfl, hk18, hh19, hx20, ho21⟩
    have hd22 := OwnD.mark (i := ((i : Int) : Int).toNat) kI_flat hoL hg9 (Cells.one hC8) (by omega) hx20 ho21
    have B24 := But.trans hB (But.mono hx20 hd22.2)
    have ho25 := hd22.1
    refine AL.val rfl (.inl rfl) (HV.as rfl) ?_
    refine AL.nil ?_
    refine nrm_blk (nrm_and ?_)
    refine AW.reg ?_
    refine AL.val rfl (.inl rfl) (HV.mv rfl) ?_
    refine AL.val rfl (.inl rfl) (HV.add rfl rfl (by omega)) ?_
    refine AL.val rfl (.inl rfl) (HV.as rfl) ?_
    refine AL.nil ?_
    refine nrm_and ?_
    exact ⟨(i + 1, (p + (z4.length : Int)), (k.set ((i : Int) : Int).toNat k17)), ⟨by omega, by omega, by have := hkl _ (List.mem_of_getElem? hz6); omega, by simp [hk], fun x hx => by rcases List.mem_or_eq_of_mem_set hx with hx | rfl; (exact hkl x hx); (rw [hk18]; exact hkl _ (List.mem_of_getElem? hz6)), ho25, B24, trivial⟩, by first | omega | (dsimp only; omega), ⟨rfl, rfl, rfl, rfl, rfl, trivial⟩⟩
  · -- else
    refine AW.exit ?_
    refine ex_and (ex_and (ex_blk ?_))
    refine nrm_and ?_
    refine AW.rs ?_
    refine AL.val rfl (.inl rfl) (HV.mv rfl) ?_
    refine AL.val rfl (.inl rfl) (HV.as rfl) ?_
    refine AL.nx ?_
    refine AW.ret ?_
    refine post_one rfl rfl ?_ (.inr rfl)
    exact ⟨⟨_, rfl, hp0⟩, hB⟩

set_option maxRecDepth 100000 in
theorem markFam_ok (n : Int) {v : Value} {l : List (List Int)} {ok : Nat → Prop} (ho : OwnD (kO 2 kI) 25 W H ok v l) (hl : (l.length ≤ 1048576 ∧ ∀ x ∈ l, x.length ≤ 1048576)) (q : Int) (hq : 0 ≤ q ∧ q ≤ 1048576) : ACalls Try.prog W 26 #[.agg #[.int .i64 n, v], .int .i64 q] H (fun r H' => (∃ q' : Int, r = .int .i64 q' ∧ 0 ≤ q') ∧ But ok H H') := by
  refine ACalls.of (args := [.agg #[.int .i64 n, v], .int .i64 q]) Try.func26 rfl rfl ?_
  have X0 := Ext.refl H
  have B0 := But.refl ok H
  have hmL := ho.rd.max
  refine AW.rs ?_
  refine AL.w rfl (.inl rfl) (WV.bx rfl rfl) ?_
  rintro _ H2 ⟨b1, rfl, hx3, hn4, hb5⟩
  have o6 := Nat.le_trans X0.bd hn4
  have X7 := Ext.trans X0 hx3
  have B8 := But.trans B0 (Ext.but hx3 _)
  have ho9 := ho.ext hx3
  have X10 := Ext.refl H2
  refine AL.val rfl (.inl rfl) (HV.as rfl) ?_
  refine AL.nx ?_
  refine AW.rs ?_
  refine AL.val rfl (.inl rfl) (HV.fa fl42_1 rfl) ?_
  refine AL.val rfl (.inl rfl) (HV.ld rfl va37 (at_cell_add hb5 rfl)) ?_
  refine AL.val rfl (.inl rfl) (HV.mv rfl) ?_
  refine AL.w rfl (.inl rfl) (WV.call fn46 rfl (markSS_ok ho9 hl q (by omega))) ?_
  rintro _ H11 ⟨⟨q12, rfl, ha13⟩, hx14⟩
  have B17 := But.trans B8 hx14
  refine AL.val rfl (.inl rfl) (HV.as rfl) ?_
  refine AL.nx ?_
  refine AW.rs ?_
  refine AL.val rfl (.inl rfl) (HV.mv rfl) ?_
  refine AL.val rfl (.inl rfl) (HV.as rfl) ?_
  refine AL.nx ?_
  refine AW.ret ?_
  refine post_one rfl rfl ?_ (.inr rfl)
  exact ⟨⟨_, rfl, ha13⟩, B17⟩

set_option maxRecDepth 100000 in
theorem law_SwingsOf {v : Value} {l : List (List Int)} {ok : Nat → Prop} (n : Int) (hr : RdK (kR kI) W H ok v l) : ACalls Try.prog W 5 #[.agg #[.int .i64 n, v]] H (fun r H' => r = .bool true ∧ Ext H H') := by
  refine ACalls.of (args := [.agg #[.int .i64 n, v]]) Try.func5 rfl rfl ?_
  have X0 := Ext.refl H
  have hm1 := hr.max
  refine AW.rs ?_
  refine AL.w rfl (.inl rfl) (WV.bx rfl rfl) ?_
  rintro _ H3 ⟨b2, rfl, hx4, hn5, hb6⟩
  have o7 := Nat.le_trans X0.bd hn5
  have X8 := Ext.trans X0 hx4
  have X9 := Ext.refl H3
  refine AL.val rfl (.inl rfl) (HV.as rfl) ?_
  refine AL.nx ?_
  refine AW.rs ?_
  refine AL.val rfl (.inl rfl) (HV.as rfl) ?_
  refine AL.nx ?_
  refine AW.rs ?_
  refine AL.val rfl (.inl rfl) (HV.lda (cs := [.int .i64 n, v]) rfl va39 (at_cells hb6 rfl)) ?_
  refine AL.val rfl (.inl rfl) (HV.mv rfl) ?_
  refine AL.w rfl (.inl rfl) (WV.call fn19 rfl (szFamily_ok n (hr.ext X8) 1048576 (by omega))) ?_
  rintro _ H10 ⟨⟨q12, rfl, ha13, hb14, he15⟩, hx11⟩
  have X16 := Ext.trans X8 hx11
  have X17 := Ext.trans X9 hx11
  have hb18 := hb6.ext hx11
  refine AL.val rfl (.inl rfl) (HV.as rfl) ?_
  refine AL.nx ?_
  refine AW.seq ?_
  refine AW.rs ?_
  refine AL.val rfl (.inl rfl) (HV.mv rfl) ?_
  refine AL.val rfl (.inl rfl) (HV.lti rfl rfl) ?_
  refine AL.nx ?_
  refine AW.ifd rfl (fun c19 => ?_) (fun c19 => ?_)
  · -- then
    refine AW.rs ?_
    refine AL.val rfl (.inl rfl) (HV.as rfl) ?_
    refine AL.nx ?_
    refine AW.ret ?_
    refine ret_and ?_
    refine post_one rfl rfl ?_ (.inr rfl)
    exact ⟨rfl, X16⟩
  · -- else
    refine AW.skip ?_
    refine nrm_and ?_
    refine AW.rs ?_
    refine AL.val rfl (.inl rfl) (HV.lda (cs := [.int .i64 n, v]) rfl va39 (at_cells hb18 rfl)) ?_
    refine AL.w rfl (.inl rfl) (WV.call fn21 rfl (toFamily_ok n (hr.ext X16) (he15 (by omega)))) ?_
    rintro _ H21 ⟨⟨v20, rfl, ho23⟩, hx22⟩
    have X25 := Ext.trans X16 hx22
    have X26 := Ext.trans X17 hx22
    have hb27 := hb18.ext hx22
    have X28 := Ext.refl H21
    have hr24 := rd_ofO ho23.rd
    have y29 := hb27.lt
    have o30 := X25.bd
    have o31 := X26.bd
    have o32 := X28.bd
    refine AL.w rfl (.inl rfl) (WV.call fn24 rfl (specSw_ok n hr24)) ?_
    rintro _ H36 ⟨⟨v33, k34, rfl, hk35, ho38⟩, hx37⟩
    have X40 := Ext.trans X25 hx37
    have X41 := Ext.trans X26 hx37
    have X42 := Ext.trans X28 hx37
    have hb43 := hb27.ext hx37
    have X44 := Ext.refl H36
    have hr39 := ho38.rd
    refine AL.val rfl (.inl rfl) (HV.mv rfl) ?_
    refine AL.val rfl (.inl rfl) (HV.ex rfl rfl) ?_
    refine AL.val rfl (.inl rfl) (HV.ex rfl rfl) ?_
    refine AL.val rfl (.inl rfl) (HV.as rfl) ?_
    refine AL.val rfl (.inl rfl) (HV.as rfl) ?_
    refine AL.nx ?_
    refine AW.rs ?_
    refine AL.val rfl (.inl rfl) (HV.lda (cs := [.int .i64 n, v]) rfl va39 (at_cells hb43 rfl)) ?_
    have y45 := hb43.lt
    have o46 := X40.bd
    have o47 := X41.bd
    have o48 := X42.bd
    have o49 := X44.bd
    refine AL.w rfl (.inl rfl) (WV.call fn21 rfl (toFamily_ok n (hr.ext X40) (he15 (by omega)))) ?_
    rintro _ H51 ⟨⟨u50, rfl, ho53⟩, hx52⟩
    have X55 := Ext.trans X40 hx52
    have X56 := Ext.trans X41 hx52
    have X57 := Ext.trans X42 hx52
    have X58 := Ext.trans X44 hx52
    have hb59 := hb43.ext hx52
    have X60 := Ext.refl H51
    have ho54 := ho53.lo
    refine AL.w rfl (.inl rfl) (WV.al ze42 rfl) ?_
    rintro _ H63 ⟨b62, rfl, hx64, hn65, hb66⟩
    have o67 := Nat.le_trans X55.bd hn65
    have o68 := Nat.le_trans X56.bd hn65
    have o69 := Nat.le_trans X57.bd hn65
    have o70 := Nat.le_trans X58.bd hn65
    have o71 := Nat.le_trans X60.bd hn65
    have ne72 : b2 ≠ b62 := by have := hb59.lt; omega
    have X73 := Ext.trans X55 hx64
    have X74 := Ext.trans X56 hx64
    have X75 := Ext.trans X57 hx64
    have X76 := Ext.trans X58 hx64
    have X77 := Ext.trans X60 hx64
    have ho78 := ho54.ext hx64
    have hb79 := hb59.ext hx64
    have X80 := Ext.refl H63
    refine AL.w0 (.inl rfl) (WV.st rfl rfl va42 rfl hb66 (Nat.le_of_ble_eq_true rfl) (one_cons rfl (one_cons (sl_one1 (rd_ofO ho78.rd).isSl) one_nil))) ?_
    rintro _ H81 ⟨hx82, hb83⟩
    have X84 := Ext.thru X73 hx82 (fun z_ hz_ => by rw [hz_]; exact o67)
    have X85 := Ext.thru X74 hx82 (fun z_ hz_ => by rw [hz_]; exact o68)
    have X86 := Ext.thru X75 hx82 (fun z_ hz_ => by rw [hz_]; exact o69)
    have X87 := Ext.thru X76 hx82 (fun z_ hz_ => by rw [hz_]; exact o70)
    have X88 := Ext.thru X77 hx82 (fun z_ hz_ => by rw [hz_]; exact o71)
    have ho90 := ho78.but hx82 (fun b hb _ e => by have hb' : H36.bd ≤ b ∧ b < H51.bd := hb; have e' : b = b62 := e; omega) (fun z_ hz_ => by rw [hz_]; exact hb66.w)
    have hb91 := hb79.but hx82 ne72
    have hb92 : At W H81 b62 ⟨42, [.int .i64 n, u50], 2⟩ := hb83
    refine AL.nx ?_
    refine AW.rs ?_
    refine AL.val rfl (.inl rfl) (HV.lda (cs := [.int .i64 n, u50]) rfl va42 (at_cells hb92 rfl)) ?_
    have X93 := Ext.refl H81
    have y94 := hb91.lt
    have y95 := hb92.lt
    have o96 := X84.bd
    have o97 := X85.bd
    have o98 := X86.bd
    have o99 := X87.bd
    have o100 := X88.bd
    have o101 := X93.bd
    have a102 := ho90.ltb
    have s103 := ho90.lo
    refine AL.w rfl (.inl rfl) (WV.call fn25 rfl (implSw_ok n (rd_ofO ho90.rd))) ?_
    rintro _ H107 ⟨⟨v104, k105, rfl, hk106, ho109⟩, hx108⟩
    have X111 := Ext.trans X84 hx108
    have X112 := Ext.trans X85 hx108
    have X113 := Ext.trans X86 hx108
    have X114 := Ext.trans X87 hx108
    have X115 := Ext.trans X88 hx108
    have X116 := Ext.trans X93 hx108
    have s118 := s103.ext hx108
    have ho117 := ho90.ext hx108
    have hb119 := hb91.ext hx108
    have hb120 := hb92.ext hx108
    have X121 := Ext.refl H107
    have := sw_len hk106
    refine AL.val rfl (.inl rfl) (HV.mv rfl) ?_
    refine AL.val rfl (.inl rfl) (HV.ex rfl rfl) ?_
    refine AL.val rfl (.inl rfl) (HV.ex rfl rfl) ?_
    refine AL.val rfl (.inl rfl) (HV.as rfl) ?_
    refine AL.val rfl (.inl rfl) (HV.as rfl) ?_
    refine AL.nx ?_
    refine AW.seq ?_
    refine AW.rs ?_
    refine AL.val rfl (.inl rfl) (HV.mv rfl) ?_
    refine AL.val rfl (.inl rfl) (HV.mv rfl) ?_
    refine AL.w rfl (.inl rfl) (WV.call fn18 rfl (eqS_ok ho109.rd (hr39.ext X114))) ?_
    rintro _ H123 ⟨rfl, hx124⟩
    have X125 := Ext.trans X111 hx124
    have X126 := Ext.trans X112 hx124
    have X127 := Ext.trans X113 hx124
    have X128 := Ext.trans X114 hx124
    have X129 := Ext.trans X115 hx124
    have X130 := Ext.trans X116 hx124
    have X131 := Ext.trans X121 hx124
    have s133 := s118.ext hx124
    have ho132 := ho117.ext hx124
    have ho134 := ho109.ext hx124
    have hb135 := hb119.ext hx124
    have hb136 := hb120.ext hx124
    refine AL.val rfl (.inl rfl) (HV.not rfl) ?_
    refine AL.val rfl (.inl rfl) (HV.mv rfl) ?_
    by_cases c137 : k105 = k34
    · -- false
      have c137_ : (!decide (k105 = k34)) = false := by rw [decide_eq_true c137]; rfl
      rw [c137_]
      refine AL.val rfl (.inr ⟨_, _, _, rfl, rfl, rfl⟩) (HV.mv rfl) ?_
      refine AL.val rfl (.inr ⟨_, _, _, rfl, rfl, rfl⟩) (HV.mv rfl) ?_
      refine AL.val rfl (.inr ⟨_, _, _, rfl, rfl, rfl⟩) (HV.nei rfl rfl) ?_
      refine AL.val rfl (.inl rfl) (HV.pickF rfl rfl) ?_
      refine AL.nx ?_
      refine AW.ifd rfl (fun c138 => ?_) (fun c138 => ?_)
      · -- then
        refine AW.rs ?_
        refine AL.val rfl (.inl rfl) (HV.as rfl) ?_
        refine AL.nx ?_
        refine AW.ret ?_
        refine ret_and ?_
        refine post_one rfl rfl ?_ (.inr rfl)
        exfalso; first | omega | exact absurd (hk106.trans hk35.symm) c138 | (simp at c138; done) | exact absurd c138 (by simp)
      · -- else
        refine AW.skip ?_
        refine nrm_and ?_
        refine AW.seq ?_
        refine AW.seq ?_
        refine AW.draw' [0, 0, 2, 7, 15] mixed (by rfl) ?_
        refine Dr.read 0 _ 41 _ rfl rfl rfl rfl rfl (RV.of (by intro _ _ h; cases h) (.inl rfl) (fun _ xd => HV.lda (cs := [.int .i64 n, u50]) rfl va42 (fun j u hu => rdc_ext xd ((at_cells hb136 rfl) j u hu)))) ?_
        refine Dr.read 1 _ 42 _ rfl rfl rfl rfl rfl (RV.of (by intro _ _ h; cases h) (.inl rfl) (fun _ xd => HV.lda (cs := [.int .i64 n, v]) rfl va39 (fun j u hu => rdc_ext xd ((at_cells hb135 rfl) j u hu)))) ?_
        refine Dr.eff 2 _ _ rfl (by intro d h; cases h; exact ⟨rfl, rfl⟩) rfl rfl rfl (EC.of (by intro _ _ h; cases h) (.inl rfl) (WV.call fn21 rfl (toFamily_ok n (hr.ext X125) (he15 (by omega))))) (fun v H' h => .inl (h.2)) ?_
        rintro _ H140 ⟨⟨v139, rfl, ho142⟩, hx141⟩
        have X144 := Ext.trans X125 hx141
        have X145 := Ext.trans X126 hx141
        have X146 := Ext.trans X127 hx141
        have X147 := Ext.trans X128 hx141
        have X148 := Ext.trans X129 hx141
        have X149 := Ext.trans X130 hx141
        have X150 := Ext.trans X131 hx141
        have s152 := s133.ext hx141
        have ho151 := ho132.ext hx141
        have ho153 := ho134.ext hx141
        have hb154 := hb135.ext hx141
        have hb155 := hb136.ext hx141
        have X156 := Ext.refl H140
        have hr143 := rd_ofO ho142.rd
        refine Dr.eff 3 _ _ rfl (by intro d h; cases h; exact ⟨rfl, rfl⟩) rfl rfl rfl (EC.of (by intro _ _ h; cases h) (.inl rfl) (WV.call fn23 rfl (eqFam_ok n n (rd_ofO ho151.rd) hr143))) (fun v H' h => .inl (h.2)) ?_
        rintro _ H157 ⟨rfl, hx158⟩
        have X159 := Ext.trans X144 hx158
        have X160 := Ext.trans X145 hx158
        have X161 := Ext.trans X146 hx158
        have X162 := Ext.trans X147 hx158
        have X163 := Ext.trans X148 hx158
        have X164 := Ext.trans X149 hx158
        have X165 := Ext.trans X150 hx158
        have X166 := Ext.trans X156 hx158
        have s168 := s152.ext hx158
        have ho167 := ho151.ext hx158
        have ho169 := ho153.ext hx158
        have hb170 := hb154.ext hx158
        have hb171 := hb155.ext hx158
        refine Dr.read 4 _ 45 _ rfl rfl rfl rfl rfl (RV.of (by intro _ _ h; cases h) (.inl rfl) (fun _ xd => HV.not rfl)) ?_
        refine Dr.fin rfl ?_
        refine nrm_and ?_
        refine AW.ifn rfl (fun c172 => ?_) (fun c172 => ?_)
        · -- then
          refine AW.rs ?_
          refine AL.val rfl (.inl rfl) (HV.as rfl) ?_
          refine AL.nx ?_
          refine AW.ret ?_
          refine ret_and ?_
          refine post_one rfl rfl ?_ (.inr rfl)
          exfalso; first | omega | exact absurd (hk106.trans hk35.symm) c172 | (simp at c172; done) | exact absurd c172 (by simp)
        · -- else
          refine AW.skip ?_
          refine nrm_and ?_
          refine AW.rs ?_
          refine AL.val rfl (.inl rfl) (HV.as rfl) ?_
          refine AL.nx ?_
          refine AW.rs ?_
          refine AL.val rfl (.inl rfl) (HV.lda (cs := [.int .i64 n, u50]) rfl va42 (at_cells hb171 rfl)) ?_
          refine AL.val rfl (.inl rfl) (HV.mv rfl) ?_
          refine AL.w rfl (.inl rfl) (WV.call fn26 rfl (markFam_ok n ho167 (he15 (by omega)) 1 (by omega))) ?_
          rintro _ H173 ⟨⟨q174, rfl, ha175⟩, hx176⟩
          have X177 := Ext.thru X159 hx176 (fun b hb => Nat.le_trans o46 hb.1)
          have X178 := Ext.thru X160 hx176 (fun b hb => Nat.le_trans o47 hb.1)
          have X179 := Ext.thru X161 hx176 (fun b hb => Nat.le_trans o48 hb.1)
          have X180 := Ext.thru X162 hx176 (fun b hb => Nat.le_trans o49 hb.1)
          have ho185 := ho169.but hx176 (fun b hb _ e => by have h1 : H81.bd ≤ b := hb; have h2 : H36.bd ≤ b ∧ b < H51.bd := e; omega) (fun b hb => by have h2 : H36.bd ≤ b ∧ b < H51.bd := hb; have := hb170.w; omega)
          have hb186 := hb170.but hx176 (fun e => by have q : H36.bd ≤ b2 ∧ b2 < H51.bd := e; omega)
          refine AL.val rfl (.inl rfl) (HV.as rfl) ?_
          refine AL.nx ?_
          refine AW.seq ?_
          refine AW.rs ?_
          refine AL.val rfl (.inl rfl) (HV.mv rfl) ?_
          refine AL.val rfl (.inl rfl) (HV.lti rfl rfl) ?_
          refine AL.val rfl (.inl rfl) (HV.mv rfl) ?_
          by_cases c188 : q174 < 0
          · -- true
            have c188_ : decide (q174 < 0) = true := decide_eq_true c188
            rw [c188_]
            refine AL.off rfl rfl (by decide) rfl ?_
            refine AL.off rfl rfl (by decide) rfl ?_
            refine AL.off rfl rfl (by decide) rfl ?_
            refine AL.off rfl rfl (by decide) rfl ?_
            refine AL.val rfl (.inl rfl) (HV.pickT rfl rfl) ?_
            refine AL.val rfl (.inl rfl) (HV.mv rfl) ?_
            refine AL.off rfl rfl (by decide) rfl ?_
            refine AL.off rfl rfl (by decide) rfl ?_
            refine AL.off rfl rfl (by decide) rfl ?_
            refine AL.val rfl (.inl rfl) (HV.pickT rfl rfl) ?_
            refine AL.nx ?_
            refine AW.cond rfl (fun _ => ?_) (fun h => by cases h)
            refine AW.rs ?_
            refine AL.val rfl (.inl rfl) (HV.as rfl) ?_
            refine AL.nx ?_
            refine AW.ret ?_
            refine ret_and ?_
            refine post_one rfl rfl ?_ (.inr rfl)
            exfalso; first | omega | exact absurd (hk106.trans hk35.symm) c188 | (simp at c188; done) | exact absurd c188 (by simp)
          · -- false
            have c188_ : decide (q174 < 0) = false := decide_eq_false c188
            rw [c188_]
            refine AL.val rfl (.inr ⟨_, _, _, rfl, rfl, rfl⟩) (HV.mv rfl) ?_
            refine AL.val rfl (.inr ⟨_, _, _, rfl, rfl, rfl⟩) (HV.mv rfl) ?_
            refine AL.w rfl (.inr ⟨_, _, _, rfl, rfl, rfl⟩) (WV.call fn18 rfl (eqS_ok ho185.rd (hr39.ext X180))) ?_
            rintro _ H190 ⟨rfl, hx191⟩
            have X192 := Ext.trans X177 hx191
            have X193 := Ext.trans X178 hx191
            have X194 := Ext.trans X179 hx191
            have X195 := Ext.trans X180 hx191
            have ho196 := ho185.ext hx191
            have hb197 := hb186.ext hx191
            refine AL.val rfl (.inr ⟨_, _, _, rfl, rfl, rfl⟩) (HV.not rfl) ?_
            refine AL.val rfl (.inl rfl) (HV.pickF rfl rfl) ?_
            refine AL.val rfl (.inl rfl) (HV.mv rfl) ?_
            by_cases c198 : k105 = k34
            · -- false
              have c198_ : (!decide (k105 = k34)) = false := by rw [decide_eq_true c198]; rfl
              rw [c198_]
              refine AL.val rfl (.inr ⟨_, _, _, rfl, rfl, rfl⟩) (HV.mv rfl) ?_
              refine AL.val rfl (.inr ⟨_, _, _, rfl, rfl, rfl⟩) (HV.mv rfl) ?_
              refine AL.val rfl (.inr ⟨_, _, _, rfl, rfl, rfl⟩) (HV.nei rfl rfl) ?_
              refine AL.val rfl (.inl rfl) (HV.pickF rfl rfl) ?_
              refine AL.nx ?_
              refine AW.ifd rfl (fun c199 => ?_) (fun c199 => ?_)
              · -- then
                refine AW.rs ?_
                refine AL.val rfl (.inl rfl) (HV.as rfl) ?_
                refine AL.nx ?_
                refine AW.ret ?_
                refine ret_and ?_
                refine post_one rfl rfl ?_ (.inr rfl)
                exfalso; first | omega | exact absurd (hk106.trans hk35.symm) c199 | (simp at c199; done) | exact absurd c199 (by simp)
              · -- else
                refine AW.skip ?_
                refine nrm_and ?_
                refine AW.rs ?_
                refine AL.val rfl (.inl rfl) (HV.as rfl) ?_
                refine AL.nx ?_
                refine AW.rs ?_
                refine AL.val rfl (.inl rfl) (HV.mv rfl) ?_
                refine AL.val rfl (.inl rfl) (HV.mv rfl) ?_
                refine AL.w rfl (.inl rfl) (WV.call fn27 rfl (markS_ok 1 ho196 (by omega))) ?_
                rintro _ H200 ⟨k201, rfl, hk202, hh203, hx204, ho205⟩
                have X206 := Ext.thru X192 hx204 (fun b hb => Nat.le_trans o96 (ho196.blk b hb).1)
                have X207 := Ext.thru X193 hx204 (fun b hb => Nat.le_trans o97 (ho196.blk b hb).1)
                have X208 := Ext.thru X194 hx204 (fun b hb => Nat.le_trans o98 (ho196.blk b hb).1)
                have X209 := Ext.thru X195 hx204 (fun b hb => Nat.le_trans o99 (ho196.blk b hb).1)
                have hb210 := hb197.but hx204 (fun e => by have q : H81.bd ≤ _ := (ho196.blk _ e).1; omega)
                refine AL.val rfl (.inl rfl) (HV.as rfl) ?_
                refine AL.nx ?_
                refine AW.rs ?_
                refine AL.val rfl (.inl rfl) (HV.as rfl) ?_
                refine AL.nx ?_
                refine AW.rs ?_
                refine AL.val rfl (.inl rfl) (HV.mv rfl) ?_
                refine AL.val rfl (.inl rfl) (HV.mv rfl) ?_
                refine AL.w rfl (.inl rfl) (WV.call fn28 rfl (heldS_ok 1 ho205.rd (by omega) hh203)) ?_
                rintro _ H211 ⟨rfl, hx212⟩
                have X213 := Ext.trans X206 hx212
                have X214 := Ext.trans X207 hx212
                have X215 := Ext.trans X208 hx212
                have X216 := Ext.trans X209 hx212
                have ho217 := ho205.ext hx212
                have hb218 := hb210.ext hx212
                refine AL.val rfl (.inl rfl) (HV.as rfl) ?_
                refine AL.nx ?_
                refine AW.seq ?_
                refine AW.rs ?_
                refine AL.val rfl (.inl rfl) (HV.mv rfl) ?_
                refine AL.val rfl (.inl rfl) (HV.lti rfl rfl) ?_
                refine AL.nx ?_
                refine AW.ifd rfl (fun c219 => ?_) (fun c219 => ?_)
                · -- then
                  refine AW.rs ?_
                  refine AL.val rfl (.inl rfl) (HV.as rfl) ?_
                  refine AL.nx ?_
                  refine AW.ret ?_
                  refine ret_and ?_
                  refine post_one rfl rfl ?_ (.inr rfl)
                  exfalso; first | omega | exact absurd (hk106.trans hk35.symm) c219 | (simp at c219; done) | exact absurd c219 (by simp)
                · -- else
                  refine AW.skip ?_
                  refine nrm_and ?_
                  refine AW.seq ?_
                  refine AW.rs ?_
                  refine AL.val rfl (.inl rfl) (HV.mv rfl) ?_
                  refine AL.val rfl (.inl rfl) (HV.mv rfl) ?_
                  refine AL.val rfl (.inl rfl) (HV.nei rfl rfl) ?_
                  refine AL.nx ?_
                  refine AW.ifd rfl (fun c220 => ?_) (fun c220 => ?_)
                  · -- then
                    refine AW.rs ?_
                    refine AL.val rfl (.inl rfl) (HV.as rfl) ?_
                    refine AL.nx ?_
                    refine AW.ret ?_
                    refine ret_and ?_
                    refine post_one rfl rfl ?_ (.inr rfl)
                    exfalso; first | omega | exact absurd (hk106.trans hk35.symm) c220 | (simp at c220; done) | exact absurd c220 (by simp)
                  · -- else
                    refine AW.skip ?_
                    refine nrm_and ?_
                    refine AW.rs ?_
                    refine AL.val rfl (.inl rfl) (HV.lda (cs := [.int .i64 n, v]) rfl va39 (at_cells hb218 rfl)) ?_
                    refine AL.w rfl (.inl rfl) (WV.call fn21 rfl (toFamily_ok n (hr.ext X213) (he15 (by omega)))) ?_
                    rintro _ H222 ⟨⟨v221, rfl, ho224⟩, hx223⟩
                    have X226 := Ext.trans X213 hx223
                    have X227 := Ext.trans X214 hx223
                    have X228 := Ext.trans X215 hx223
                    have X229 := Ext.trans X216 hx223
                    have ho230 := ho217.ext hx223
                    have hb231 := hb218.ext hx223
                    have X232 := Ext.refl H222
                    have hr225 := rd_ofO ho224.rd
                    have y233 := hb231.lt
                    have o234 := X226.bd
                    have o235 := X227.bd
                    have o236 := X228.bd
                    have o237 := X229.bd
                    have o238 := X232.bd
                    have a239 := ho230.ltb
                    refine AL.w rfl (.inl rfl) (WV.call fn25 rfl (implSw_ok n hr225)) ?_
                    rintro _ H243 ⟨⟨v240, k241, rfl, hk242, ho245⟩, hx244⟩
                    have X247 := Ext.trans X226 hx244
                    have X248 := Ext.trans X227 hx244
                    have X249 := Ext.trans X228 hx244
                    have X250 := Ext.trans X229 hx244
                    have X251 := Ext.trans X232 hx244
                    have ho252 := ho230.ext hx244
                    have hb253 := hb231.ext hx244
                    have X254 := Ext.refl H243
                    have hr246 := ho245.rd
                    refine AL.val rfl (.inl rfl) (HV.mv rfl) ?_
                    refine AL.val rfl (.inl rfl) (HV.ex rfl rfl) ?_
                    refine AL.val rfl (.inl rfl) (HV.ex rfl rfl) ?_
                    refine AL.val rfl (.inl rfl) (HV.as rfl) ?_
                    refine AL.val rfl (.inl rfl) (HV.as rfl) ?_
                    refine AL.nx ?_
                    refine AW.seq ?_
                    refine AW.rs ?_
                    refine AL.val rfl (.inl rfl) (HV.mv rfl) ?_
                    refine AL.val rfl (.inl rfl) (HV.mv rfl) ?_
                    refine AL.w rfl (.inl rfl) (WV.call fn18 rfl (eqS_ok hr246 (hr39.ext X250))) ?_
                    rintro _ H255 ⟨rfl, hx256⟩
                    have X257 := Ext.trans X247 hx256
                    have X258 := Ext.trans X248 hx256
                    have X259 := Ext.trans X249 hx256
                    have X260 := Ext.trans X250 hx256
                    have X261 := Ext.trans X251 hx256
                    have X262 := Ext.trans X254 hx256
                    have ho263 := ho252.ext hx256
                    have hb264 := hb253.ext hx256
                    refine AL.val rfl (.inl rfl) (HV.not rfl) ?_
                    refine AL.val rfl (.inl rfl) (HV.mv rfl) ?_
                    by_cases c265 : k241 = k34
                    · -- false
                      have c265_ : (!decide (k241 = k34)) = false := by rw [decide_eq_true c265]; rfl
                      rw [c265_]
                      refine AL.val rfl (.inr ⟨_, _, _, rfl, rfl, rfl⟩) (HV.mv rfl) ?_
                      refine AL.val rfl (.inr ⟨_, _, _, rfl, rfl, rfl⟩) (HV.mv rfl) ?_
                      refine AL.val rfl (.inr ⟨_, _, _, rfl, rfl, rfl⟩) (HV.nei rfl rfl) ?_
                      refine AL.val rfl (.inl rfl) (HV.pickF rfl rfl) ?_
                      refine AL.nx ?_
                      refine AW.ifd rfl (fun c266 => ?_) (fun c266 => ?_)
                      · -- then
                        refine AW.rs ?_
                        refine AL.val rfl (.inl rfl) (HV.as rfl) ?_
                        refine AL.nx ?_
                        refine AW.ret ?_
                        refine ret_and ?_
                        refine post_one rfl rfl ?_ (.inr rfl)
                        exfalso; first | omega | exact absurd (hk106.trans hk35.symm) c266 | exact absurd (hk242.trans hk35.symm) c266 | (simp at c266; done) | exact absurd c266 (by simp)
                      · -- else
                        refine AW.skip ?_
                        refine nrm_and ?_
                        refine AW.rs ?_
                        refine AL.val rfl (.inl rfl) (HV.as rfl) ?_
                        refine AL.nx ?_
                        refine AW.rs ?_
                        refine AL.val rfl (.inl rfl) (HV.mv rfl) ?_
                        refine AL.val rfl (.inl rfl) (HV.mv rfl) ?_
                        refine AL.w rfl (.inl rfl) (WV.call fn28 rfl (heldS_ok 1 ho263.rd (by omega) hh203)) ?_
                        rintro _ H267 ⟨rfl, hx268⟩
                        have X269 := Ext.trans X257 hx268
                        have X270 := Ext.trans X258 hx268
                        have X271 := Ext.trans X259 hx268
                        have X272 := Ext.trans X260 hx268
                        have X273 := Ext.trans X261 hx268
                        have X274 := Ext.trans X262 hx268
                        have ho275 := ho263.ext hx268
                        have hb276 := hb264.ext hx268
                        refine AL.val rfl (.inl rfl) (HV.as rfl) ?_
                        refine AL.nx ?_
                        refine AW.seq ?_
                        refine AW.rs ?_
                        refine AL.val rfl (.inl rfl) (HV.mv rfl) ?_
                        refine AL.val rfl (.inl rfl) (HV.lti rfl rfl) ?_
                        refine AL.nx ?_
                        refine AW.ifd rfl (fun c277 => ?_) (fun c277 => ?_)
                        · -- then
                          refine AW.rs ?_
                          refine AL.val rfl (.inl rfl) (HV.as rfl) ?_
                          refine AL.nx ?_
                          refine AW.ret ?_
                          refine ret_and ?_
                          refine post_one rfl rfl ?_ (.inr rfl)
                          exfalso; first | omega | exact absurd (hk106.trans hk35.symm) c277 | exact absurd (hk242.trans hk35.symm) c277 | (simp at c277; done) | exact absurd c277 (by simp)
                        · -- else
                          refine AW.skip ?_
                          refine nrm_and ?_
                          refine AW.seq ?_
                          refine AW.rs ?_
                          refine AL.val rfl (.inl rfl) (HV.mv rfl) ?_
                          refine AL.val rfl (.inl rfl) (HV.mv rfl) ?_
                          refine AL.val rfl (.inl rfl) (HV.nei rfl rfl) ?_
                          refine AL.nx ?_
                          refine AW.ifd rfl (fun c278 => ?_) (fun c278 => ?_)
                          · -- then
                            refine AW.rs ?_
                            refine AL.val rfl (.inl rfl) (HV.as rfl) ?_
                            refine AL.nx ?_
                            refine AW.ret ?_
                            refine ret_and ?_
                            refine post_one rfl rfl ?_ (.inr rfl)
                            exfalso; first | omega | exact absurd (hk106.trans hk35.symm) c278 | exact absurd (hk242.trans hk35.symm) c278 | (simp at c278; done) | exact absurd c278 (by simp)
                          · -- else
                            refine AW.skip ?_
                            refine nrm_and ?_
                            refine AW.rs ?_
                            refine AL.val rfl (.inl rfl) (HV.as rfl) ?_
                            refine AL.nx ?_
                            refine AW.ret ?_
                            refine post_one rfl rfl ?_ (.inr rfl)
                            exact ⟨rfl, X269⟩
                    · -- true
                      have c265_ : (!decide (k241 = k34)) = true := by rw [decide_eq_false c265]; rfl
                      rw [c265_]
                      refine AL.off rfl rfl (by decide) rfl ?_
                      refine AL.off rfl rfl (by decide) rfl ?_
                      refine AL.off rfl rfl (by decide) rfl ?_
                      refine AL.val rfl (.inl rfl) (HV.pickT rfl rfl) ?_
                      refine AL.nx ?_
                      refine AW.cond rfl (fun _ => ?_) (fun h => by cases h)
                      refine AW.rs ?_
                      refine AL.val rfl (.inl rfl) (HV.as rfl) ?_
                      refine AL.nx ?_
                      refine AW.ret ?_
                      refine ret_and ?_
                      refine post_one rfl rfl ?_ (.inr rfl)
                      exfalso; first | omega | exact absurd (hk106.trans hk35.symm) c265 | exact absurd (hk242.trans hk35.symm) c265 | (simp at c265; done) | exact absurd c265 (by simp)
            · -- true
              have c198_ : (!decide (k105 = k34)) = true := by rw [decide_eq_false c198]; rfl
              rw [c198_]
              refine AL.off rfl rfl (by decide) rfl ?_
              refine AL.off rfl rfl (by decide) rfl ?_
              refine AL.off rfl rfl (by decide) rfl ?_
              refine AL.val rfl (.inl rfl) (HV.pickT rfl rfl) ?_
              refine AL.nx ?_
              refine AW.cond rfl (fun _ => ?_) (fun h => by cases h)
              refine AW.rs ?_
              refine AL.val rfl (.inl rfl) (HV.as rfl) ?_
              refine AL.nx ?_
              refine AW.ret ?_
              refine ret_and ?_
              refine post_one rfl rfl ?_ (.inr rfl)
              exfalso; first | omega | exact absurd (hk106.trans hk35.symm) c198 | exact absurd (hk242.trans hk35.symm) c198 | (simp at c198; done) | exact absurd c198 (by simp)
    · -- true
      have c137_ : (!decide (k105 = k34)) = true := by rw [decide_eq_false c137]; rfl
      rw [c137_]
      refine AL.off rfl rfl (by decide) rfl ?_
      refine AL.off rfl rfl (by decide) rfl ?_
      refine AL.off rfl rfl (by decide) rfl ?_
      refine AL.val rfl (.inl rfl) (HV.pickT rfl rfl) ?_
      refine AL.nx ?_
      refine AW.cond rfl (fun _ => ?_) (fun h => by cases h)
      refine AW.rs ?_
      refine AL.val rfl (.inl rfl) (HV.as rfl) ?_
      refine AL.nx ?_
      refine AW.ret ?_
      refine ret_and ?_
      refine post_one rfl rfl ?_ (.inr rfl)
      exfalso; first | omega | exact absurd (hk106.trans hk35.symm) c137 | exact absurd (hk242.trans hk35.symm) c137 | (simp at c137; done) | exact absurd c137 (by simp)
end Go.Proofs.Ytbjcgcililpfdaa.VC
