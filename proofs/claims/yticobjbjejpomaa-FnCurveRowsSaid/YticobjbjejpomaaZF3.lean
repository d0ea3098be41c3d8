/- Walks. -/
import Derived.Test.YticobjbjejpomaaZF2
set_option linter.unusedVariables false
set_option linter.unusedSimpArgs false
namespace Go.Proofs.Yticobjbjejpomaa.VC
open Go Go.RowKit
theorem bt_nat (k : IntKind) (hk : k = .i64 ∨ k = .u64) {a b : Nat} (ha : a < 128) (hb : b < 128) : bt .or k a b = ((a ||| b : Nat) : Int) ∧ bt .and k a b = ((a &&& b : Nat) : Int) := by
  have h1 : a ||| b < 128 := Nat.or_lt_two_pow (n := 7) ha hb
  have h2 : a &&& b < 128 := Nat.lt_of_le_of_lt Nat.and_le_left ha
  have w1 : ∀ (c : Nat), c < 128 → k.wrap (c : Int) = c := fun c hc => by
    rcases hk with rfl | rfl
    · have h1 : (c : Int) % 18446744073709551616 = c := by omega
      simp [IntKind.wrap, IntKind.signed, IntKind.bits, h1]; omega
    · have h1 : (c : Int) % 18446744073709551616 = c := by omega
      simp [IntKind.wrap, IntKind.signed, IntKind.bits, h1]
  have e : k.bits = 64 := by rcases hk with rfl | rfl <;> rfl
  have f : ∀ c : Nat, c < 128 → (BitVec.ofInt k.bits (c : Int)).toNat = c := fun c hc => by
    rw [e, BitVec.toNat_ofInt]; omega
  constructor
  · simp only [bt, BitVec.toNat_or]
    rw [f a ha, f b hb, w1 _ h1]
  · simp only [bt, BitVec.toNat_and]
    rw [f a ha, f b hb, w1 _ h2]
def bitN (l : List Int) : Nat := l.foldl (fun a h => a ||| 2 ^ h.toNat) 0
theorem fold_nat {n : Int} (hn : 1 ≤ n ∧ n ≤ 7) : ∀ (l : List Int) (a : Nat), a < 2 ^ n.toNat → (∀ x ∈ l, 0 ≤ x ∧ x ≤ n - 1) →
    l.foldl (fun a h => bt .or .i64 a (IntKind.i64.wrap (1 * 2 ^ min (IntKind.u64.wrap h).toNat IntKind.i64.bits))) (a : Int) = ((l.foldl (fun a h => a ||| 2 ^ h.toNat) a : Nat) : Int) ∧
    l.foldl (fun a h => bt .or .u64 a (IntKind.u64.wrap (1 * 2 ^ min h.toNat IntKind.u64.bits))) (a : Int) = ((l.foldl (fun a h => a ||| 2 ^ h.toNat) a : Nat) : Int) ∧
    l.foldl (fun a h => a ||| 2 ^ h.toNat) a < 2 ^ n.toNat
  | [], a, ha, _ => ⟨rfl, rfl, ha⟩
  | x :: l, a, ha, h => by
    obtain ⟨hx, hl⟩ := List.forall_mem_cons.1 h
    have hx7 : x = 0 ∨ x = 1 ∨ x = 2 ∨ x = 3 ∨ x = 4 ∨ x = 5 ∨ x = 6 := by omega
    have e1 : IntKind.i64.wrap (1 * 2 ^ min (IntKind.u64.wrap x).toNat IntKind.i64.bits) = ((2 ^ x.toNat : Nat) : Int) := by
      rcases hx7 with rfl | rfl | rfl | rfl | rfl | rfl | rfl <;> rfl
    have e2 : IntKind.u64.wrap (1 * 2 ^ min x.toNat IntKind.u64.bits) = ((2 ^ x.toNat : Nat) : Int) := by
      rcases hx7 with rfl | rfl | rfl | rfl | rfl | rfl | rfl <;> rfl
    have p7 : 2 ^ n.toNat ≤ 128 := Nat.pow_le_pow_right (n := 2) (by decide) (show n.toNat ≤ 7 by omega)
    have px : 2 ^ x.toNat < 2 ^ n.toNat := Nat.pow_lt_pow_right (by decide) (by omega)
    have ha' : a ||| 2 ^ x.toNat < 2 ^ n.toNat := Nat.or_lt_two_pow ha px
    simp only [List.foldl_cons]
    rw [e1, e2, (bt_nat .i64 (.inl rfl) (by omega) (by omega)).1, (bt_nat .u64 (.inr rfl) (by omega) (by omega)).1]
    exact fold_nat hn l _ ha' hl
theorem ris_in {n : Int} {l : List Int} (h : Ris 0 (n - 1) l) : ∀ x ∈ l, 0 ≤ x ∧ x ≤ n - 1 := fun x hx => by
  obtain ⟨j, hj, rfl⟩ := List.getElem_of_mem hx
  have q := h j hj
  have e : l.getD j 0 = l[j] := by simp [hj]
  unfold RisAt at q
  rw [e] at q
  exact ⟨q.1, q.2.1⟩
theorem bits_nat {n : Int} {l : List Int} (hn : 1 ≤ n ∧ n ≤ 7) (h : Ris 0 (n - 1) l) : bitsI l = bitN l ∧ crowd l = bitN l ∧ bitN l < 2 ^ n.toNat :=
  fold_nat hn l 0 (Nat.two_pow_pos _) (ris_in h)
theorem pow7 {n : Int} (hn : 1 ≤ n ∧ n ≤ 7) : 2 ^ n.toNat ≤ 128 := Nat.pow_le_pow_right (n := 2) (by decide) (show n.toNat ≤ 7 by omega)
theorem fdiv_nat (s j : Nat) : (s : Int).fdiv (2 ^ j) = ((s / 2 ^ j : Nat) : Int) := by
  rw [Int.fdiv_eq_ediv_of_nonneg _ (Int.le_of_lt (Int.pow_pos (by decide)))]
  rw [show ((2 : Int) ^ j) = ((2 ^ j : Nat) : Int) by simp]
  rfl
theorem shr_u (s : Nat) {j : Nat} (h : j < 7) : (s : Int).fdiv (2 ^ min ((j : Int) : Int).toNat IntKind.u64.bits) = ((s / 2 ^ j : Nat) : Int) := by
  rw [Int.toNat_natCast, show min j IntKind.u64.bits = j from Nat.min_eq_left (by simp only [IntKind.bits]; omega), fdiv_nat]
theorem bit_of {k : IntKind} (hk : k = .i64 ∨ k = .u64) {s j : Nat} (hs : s < 128) : bt .and k ((s / 2 ^ j : Nat) : Int) 1 = ((s / 2 ^ j % 2 : Nat) : Int) := by
  have := (bt_nat k hk (a := s / 2 ^ j) (b := 1) (Nat.lt_of_le_of_lt (Nat.div_le_self _ _) hs) (by decide)).2
  rw [Nat.and_one_is_mod] at this
  exact this
theorem ex_get {g : List Int} {p : Int → Prop} : (∃ i, i < g.length ∧ p (g.getD i 0)) ↔ ∃ x ∈ g, p x := by
  constructor
  · rintro ⟨i, hi, h⟩
    refine ⟨g[i], List.getElem_mem hi, ?_⟩
    simpa [hi] using h
  · rintro ⟨x, hx, h⟩
    obtain ⟨i, hi, rfl⟩ := List.getElem_of_mem hx
    exact ⟨i, hi, by simpa [hi] using h⟩
theorem fold_bitI {t : Nat} : ∀ (g : List Int) (a : Nat), (g.foldl (fun a h => a ||| 2 ^ h.toNat) a).testBit t = true ↔ a.testBit t = true ∨ ∃ x ∈ g, x.toNat = t
  | [], a => by simp
  | y :: g, a => by
    rw [List.foldl_cons, fold_bitI g, Nat.testBit_or, Bool.or_eq_true, Nat.testBit_two_pow, decide_eq_true_iff]
    simp only [List.mem_cons, exists_eq_or_imp, or_assoc]
theorem bitN_bit {g : List Int} {t : Nat} : (bitN g).testBit t = true ↔ ∃ i, i < g.length ∧ (g.getD i 0).toNat = t := by
  unfold bitN
  rw [fold_bitI, ex_get (p := fun x => x.toNat = t)]
  simp
theorem mem_bit {n : Int} {g : List Int} (h : Ris 0 (n - 1) g) {t : Nat} : (bitN g).testBit t = true ↔ (t : Int) ∈ g := by
  rw [bitN_bit]
  constructor
  · rintro ⟨i, hi, e⟩
    have h0 := (h i hi).1
    have e2 : g.getD i 0 = g[i] := by simp [hi]
    rw [e2] at e h0
    have : (t : Int) = g[i] := by omega
    rw [this]; exact List.getElem_mem hi
  · intro hm
    obtain ⟨i, hi, e⟩ := List.getElem_of_mem hm
    exact ⟨i, hi, by simp [hi, e]⟩
/-- The places that a test picks. -/
def idxB (f : Int → Bool) (o : List Int) : Nat → List Int
  | 0 => []
  | i + 1 => if f (o.getD i 0) = true then idxB f o i ++ [(i : Int)] else idxB f o i
theorem idxB_yes {f : Int → Bool} {o : List Int} {i : Nat} {z : Int} (hz : o[(i : Int).toNat]? = some z) (h : f z = true) : idxB f o (i + 1) = idxB f o i ++ [(i : Int)] := by
  have e : o.getD i 0 = z := gd hz rfl
  simp only [idxB]
  rw [e, if_pos h]
theorem idxB_no {f : Int → Bool} {o : List Int} {i : Nat} {z : Int} (hz : o[(i : Int).toNat]? = some z) (h : ¬ f z = true) : idxB f o (i + 1) = idxB f o i := by
  have e : o.getD i 0 = z := gd hz rfl
  simp only [idxB]
  rw [e, if_neg h]
theorem idxB_in {f : Int → Bool} {o : List Int} : ∀ (i : Nat), ∀ q ∈ idxB f o i, 0 ≤ q ∧ q < i
  | 0, q, h => by cases h
  | i + 1, q, h => by
    simp only [idxB] at h
    split at h
    · rcases List.mem_append.1 h with h | h
      · have := idxB_in i q h; omega
      · have : q = (i : Int) := by simpa using h
        omega
    · have := idxB_in i q h; omega
theorem idxB_len {f : Int → Bool} {o : List Int} : ∀ (i : Nat), (idxB f o i).length ≤ i
  | 0 => Nat.le_refl _
  | i + 1 => by
    have := idxB_len (f := f) (o := o) i
    simp only [idxB]
    split
    · simp; omega
    · omega
theorem idxB_congr {f g : Int → Bool} {o : List Int} : ∀ (i : Nat), i ≤ o.length → (∀ x ∈ o, f x = g x) → idxB f o i = idxB g o i
  | 0, _, _ => rfl
  | i + 1, hi, h => by
    have e : o.getD i 0 = o[i] := by simp [show i < o.length by omega]
    simp only [idxB]
    rw [idxB_congr i (by omega) h, e, h _ (List.getElem_mem (by omega))]
def inG (g : List Int) (x : Int) : Bool := decide (x ∈ g)
def inS (s : Nat) (x : Int) : Bool := decide (s / 2 ^ x.toNat % 2 = 1)
def idxG (o g : List Int) : List Int := idxB (inG g) o o.length
theorem inS_inG {n : Int} {g : List Int} (hg : Ris 0 (n - 1) g) {x : Int} (hx : 0 ≤ x) : inS (bitN g) x = inG g x := by
  unfold inS inG
  apply decide_eq_decide.2
  have := mem_bit hg (t := x.toNat)
  rw [Int.toNat_of_nonneg hx] at this
  rw [← this, Nat.testBit_eq_decide_div_mod_eq, decide_eq_true_iff]
theorem idx_SG {n : Int} {o g : List Int} (hg : Ris 0 (n - 1) g) (ho : ∀ x ∈ o, 0 ≤ x) : idxB (inS (bitN g)) o o.length = idxG o g := idxB_congr _ (Nat.le_refl _) (fun x hx => inS_inG hg (ho x hx))
/-- The rows at some places. -/
def partL (l : List (List Int)) (idx : List Int) : List (List Int) := idx.map (fun q => l.getD q.toNat [])
theorem partL_len (l : List (List Int)) (idx : List Int) : (partL l idx).length = idx.length := by simp [partL]
theorem partL_snoc {l : List (List Int)} {idx : List Int} {i : Nat} {q : Int} {z : List Int} (hq : idx[(i : Int).toNat]? = some q) (hz : l[q.toNat]? = some z) : partL l (idx.take (i + 1)) = partL l (idx.take i) ++ [z] := by
  rw [tk_snoc hq]
  unfold partL
  rw [List.map_append]
  have : l.getD q.toNat [] = z := by rw [List.getD_eq_getElem?_getD, hz]; rfl
  simp only [List.map_cons, List.map_nil]
  rw [this]
theorem part_rect {p : Int} {K : Nat} {l : List (List Int)} {idx : List Int} (h : rect p K l) (hi : ∀ q ∈ idx, 0 ≤ q ∧ q < l.length) : rect p K (partL l idx) := fun i hil => by
  rw [partL_len] at hil
  have e : (partL l idx).getD i [] = l.getD (idx[i]).toNat [] := by simp [partL, hil]
  have := hi _ (List.getElem_mem hil)
  rw [e]; exact h _ (by omega)
noncomputable def askC (n : Int) (o : List Int) (p k : Int) (l : List (List Int)) (g : List Int) : Int := if okSc n o p k l then if Ris 0 (n - 1) g then 0 else 2 else 1
theorem askC_1 {n : Int} {o : List Int} {p k : Int} {l : List (List Int)} {g : List Int} (h : ¬ okSc n o p k l) : askC n o p k l g = 1 := if_neg h
theorem askC_2 {n : Int} {o : List Int} {p k : Int} {l : List (List Int)} {g : List Int} (h : okSc n o p k l) (h2 : ¬ Ris 0 (n - 1) g) : askC n o p k l g = 2 := by unfold askC; rw [if_pos h, if_neg h2]
theorem askC_0 {n : Int} {o : List Int} {p k : Int} {l : List (List Int)} {g : List Int} (h : okSc n o p k l) (h2 : Ris 0 (n - 1) g) : askC n o p k l g = 0 := by unfold askC; rw [if_pos h, if_pos h2]
theorem askC_z {n : Int} {o : List Int} {p k : Int} {l : List (List Int)} {g : List Int} (h : askC n o p k l g = 0) : okSc n o p k l ∧ Ris 0 (n - 1) g := by
  unfold askC at h
  split at h
  · split at h
    · exact ⟨by assumption, by assumption⟩
    · omega
  · omega
noncomputable def withC (n : Int) (o : List Int) (p k : Int) (l : List (List Int)) (g h : List Int) : Int := if askC n o p k l g = 0 then if elems p h ∧ (h.length : Int) = (idxG o g).length then 0 else 2 else askC n o p k l g
theorem withC_n {n : Int} {o : List Int} {p k : Int} {l : List (List Int)} {g h : List Int} (h0 : ¬ askC n o p k l g = 0) : withC n o p k l g h = askC n o p k l g := if_neg h0
theorem withC_2 {n : Int} {o : List Int} {p k : Int} {l : List (List Int)} {g h : List Int} (h0 : askC n o p k l g = 0) (h1 : ¬ (elems p h ∧ (h.length : Int) = (idxG o g).length)) : withC n o p k l g h = 2 := by unfold withC; rw [if_pos h0, if_neg h1]
theorem withC_0 {n : Int} {o : List Int} {p k : Int} {l : List (List Int)} {g h : List Int} (h0 : askC n o p k l g = 0) (h1 : elems p h ∧ (h.length : Int) = (idxG o g).length) : withC n o p k l g h = askC n o p k l g := by unfold withC; rw [if_pos h0, if_pos h1, h0]
theorem withC_z {n : Int} {o : List Int} {p k : Int} {l : List (List Int)} {g h : List Int} (hc : withC n o p k l g h = 0) : okSc n o p k l ∧ Ris 0 (n - 1) g ∧ elems p h ∧ h.length = (idxG o g).length := by
  by_cases h0 : askC n o p k l g = 0
  · by_cases h1 : elems p h ∧ (h.length : Int) = (idxG o g).length
    · exact ⟨(askC_z h0).1, (askC_z h0).2, h1.1, by omega⟩
    · rw [withC_2 h0 h1] at hc; omega
  · rw [withC_n h0] at hc; exact absurd hc h0
/-- What a right scheme is. -/
structure ScF (n : Int) (o : List Int) (p k : Int) (l : List (List Int)) : Prop where
  q : isPr p = true
  hn : 1 ≤ n ∧ n ≤ 7
  k0 : k = (k.toNat : Int)
  k1 : 1 ≤ k.toNat ∧ k.toNat ≤ 12
  r : rect p k.toNat l
  R : l.length ≤ 20
  ol : o.length = l.length
  ob : ∀ x ∈ o, 0 ≤ x ∧ x ≤ n - 1
theorem okSc_f {n : Int} {o : List Int} {p k : Int} {l : List (List Int)} (h : okSc n o p k l) : ScF n o p k l := by
  obtain ⟨h1, ⟨m1, m2, m3, m4⟩, h3, h4, h5⟩ := h
  refine ⟨isPr_of m1, h1, by omega, by omega, fun i hi => ?_, m3, h4, h5⟩
  have e : l.getD i [] = l[i] := by simp [hi]
  have := m4 _ (List.getElem_mem hi)
  rw [e]; exact ⟨by omega, this.1⟩
theorem ScF.pb {n : Int} {o : List Int} {p k : Int} {l : List (List Int)} (h : ScF n o p k l) : 2 ≤ p ∧ p ≤ 31 := isPr_bd h.q
theorem ScF.part {n : Int} {o : List Int} {p k : Int} {l : List (List Int)} (h : ScF n o p k l) (g : List Int) : rect p k.toNat (partL l (idxG o g)) ∧ (idxG o g).length ≤ 20 ∧ ∀ q ∈ idxG o g, 0 ≤ q ∧ q < l.length := by
  have h1 : ∀ q ∈ idxG o g, 0 ≤ q ∧ q < l.length := fun q hq => by have := idxB_in _ q hq; rw [h.ol] at this; exact this
  have h2 := idxB_len (f := inG g) (o := o) o.length
  exact ⟨part_rect h.r h1, by have := h.R; have := h.ol; unfold idxG; omega, h1⟩
noncomputable def conB (n : Int) (o : List Int) (p k : Int) (l : List (List Int)) (g h : List Int) : Bool := if withC n o p k l g h = 0 then (solM p k.toNat (besL (partL l (idxG o g)) [h] (partL l (idxG o g)).length)).2 else false
variable {W : World} {H : Hp}

set_option maxRecDepth 100000 in
theorem has_ok (s j : Nat) (hs : s < 128) (hj : j < 7) : ACalls Try.prog W 148 #[.int .u64 (s : Int), .int .i64 (j : Int)] H (fun r H' => r = .bool (decide (s / 2 ^ j % 2 = 1)) ∧ Ext H H') := by
  refine ACalls.of (args := [.int .u64 (s : Int), .int .i64 (j : Int)]) Try.func148 rfl rfl ?_
  have X0 := Ext.refl H
  refine AW.rs ?_
  refine AL.val rfl (.inl rfl) (HV.as rfl) ?_
  refine AL.nx ?_
  refine AW.rs ?_
  refine AL.val rfl (.inl rfl) (HV.mv rfl) ?_
  refine AL.val rfl (.inl rfl) (HV.mv rfl) ?_
  refine AL.val rfl (.inl rfl) (HV.shr rfl rfl (by omega)) ?_
  refine AL.val rfl (.inl rfl) (HV.bits (by simp) rfl rfl) ?_
  refine AL.val rfl (.inl rfl) (HV.eqi rfl rfl) ?_
  refine AL.val rfl (.inl rfl) (HV.as rfl) ?_
  refine AL.nx ?_
  refine AW.ret ?_
  refine post_one rfl rfl ?_ (.inr rfl)
  exact ⟨congrArg Value.bool (decide_eq_decide.2 (by rw [shr_u s hj, bit_of (.inr rfl) hs]; omega)), X0⟩

theorem hasS_ok {S : Int} {s : Nat} {h : Int} (hS : S = (s : Int)) (hs : s < 128) (hh : 0 ≤ h ∧ h ≤ 6) : ACalls Try.prog W 148 #[.int .u64 S, .int .i64 h] H (fun r H' => r = .bool (decide (inS s h = true)) ∧ Ext H H') := by
  obtain ⟨j, rfl⟩ : ∃ j : Nat, h = (j : Int) := ⟨h.toNat, by omega⟩
  subst hS
  have e : decide (inS s (j : Int) = true) = decide (s / 2 ^ j % 2 = 1) := by unfold inS; rw [Int.toNat_natCast]; simp
  rw [e]; exact has_ok s j hs (by omega)

set_option maxRecDepth 100000 in
theorem rowsHeld_ok {vo v : Value} {o : List Int} {l : List (List Int)} {oko ok : Nat → Prop} (n p k : Int) (ho : RdK kI W H oko vo o) (hr : RdK (kR kI) W H ok v l) {S : Int} {s : Nat} (hS : S = (s : Int)) (hs : s < 128) (hob : ∀ x ∈ o, 0 ≤ x ∧ x ≤ 6) (hol : o.length ≤ 40) : ACalls Try.prog W 93 #[.agg #[.int .i64 n, vo, .int .i64 p, .int .i64 k, v], .int .u64 S] H (fun r H' => Ext H H' ∧ OwnK kI 2 W H' (fun b => H.bd ≤ b) r (idxB (inS s) o o.length)) := by
  refine ACalls.of (args := [.agg #[.int .i64 n, vo, .int .i64 p, .int .i64 k, v], .int .u64 S]) Try.func93 rfl rfl ?_
  have X0 := Ext.refl H
  have hm1 := ho.max
  have hm2 := hr.max
  refine AW.rs ?_
  refine AL.w rfl (.inl rfl) (WV.bx rfl rfl) ?_
  rintro _ H4 ⟨b3, rfl, hx5, hn6, hb7⟩
  have o8 := Nat.le_trans X0.bd hn6
  have X9 := Ext.trans X0 hx5
  have X10 := Ext.refl H4
  refine AL.val rfl (.inl rfl) (HV.as rfl) ?_
  refine AL.nx ?_
  refine AW.rs ?_
  have y11 := hb7.lt
  have o12 := X9.bd
  have o13 := X10.bd
  refine AL.w rfl (.inl rfl) (WV.bsK (K := kI) (l := ([] : List Int)) (css := []) sl22 rfl rfl (by first | rfl | (simp [Instr.fill, Value.cells, kI, kB, kU, kU8, kS, Kd.sc]; done) | (simp [Instr.fill, Value.cells, kI, kB, kU, kU8, kS, Kd.sc, rng1, rng2, rng3, rng4, kP])) rfl segs_nil) ?_
  rintro v14 H15 ⟨hx16, ho17⟩
  have X18 := Ext.trans X9 hx16
  have X19 := Ext.trans X10 hx16
  have hb20 := hb7.ext hx16
  refine AL.val rfl (.inl rfl) (HV.as rfl) ?_
  refine AL.nx ?_
  refine AW.seq ?_
  refine AW.rs ?_
  refine AL.val rfl (.inl rfl) (HV.fa fl31_1 rfl) ?_
  refine AL.val rfl (.inl rfl) (HV.ld rfl va22 (at_cell_add (j := 1) hb20 rfl)) ?_
  refine AL.val rfl (.inl rfl) (HV.len Try.underlying22 rfl ho.isSl) ?_
  refine AL.val rfl (.inl rfl) (HV.mv rfl) ?_
  refine AL.nx ?_
  refine AW.block ?_
  refine AW.loop (σ := Nat × Value) (fun ⟨i, vv⟩ => [(1, .int .u64 S), (4, (.slice none 0 0)), (10, vo), (11, .int .i64 (o.length : Int)), (5, vv), (12, .int .i64 (i : Int))]) (fun ⟨i, vv⟩ H' => Ext H H' ∧ Ext H4 H' ∧ At W H' b3 ⟨31, [.int .i64 n, vo, .int .i64 p, .int .i64 k, v], 5⟩ ∧ i ≤ o.length ∧ OwnK kI 2 W H' (fun b => H4.bd ≤ b) vv (idxB (inS s) o i) ∧ True) (fun ⟨i, vv⟩ => o.length - i) (0, v14) ⟨X18, X19, hb20, Nat.zero_le _, ho17, trivial⟩ ⟨rfl, rfl, rfl, rfl, rfl, rfl, trivial⟩ ?_
  rintro ⟨i, vv⟩ H22 ⟨X23, X24, hb25, hi, hoL, _⟩
  have hil := idxB_len (f := (inS s)) (o := o) i
  refine AW.rs ?_
  refine AL.val rfl (.inl rfl) (HV.lti rfl rfl) ?_
  refine AL.nx ?_
  refine AW.seq ?_
  refine AW.ifd rfl (fun c26 => ?_) (fun c26 => ?_)
  · -- then
    refine AW.skip ?_
    refine nrm_and ?_
    refine AW.seq ?_
    refine AW.block ?_
    refine AW.rs ?_
    refine AL.val rfl (.inl rfl) (HV.mv rfl) ?_
    obtain ⟨p27, z28, cs29, hz30, hK31, hC32, hP33⟩ := RdK.ix (q := (i : Int)) ho sl22 (by omega) (by omega)
    obtain rfl : cs29 = [.int .i64 z28] := hK31
    refine AL.val rfl (.inl rfl) (hP33 rfl rfl) ?_
    refine AL.val rfl (.inl rfl) (HV.ld rfl va2 (cells_first (hC32.ext X23) rfl)) ?_
    refine AL.val rfl (.inl rfl) (HV.as rfl) ?_
    refine AL.val rfl (.inl rfl) (HV.as rfl) ?_
    refine AL.nx ?_
    refine AW.rs ?_
    refine AL.val rfl (.inl rfl) (HV.mv rfl) ?_
    refine AL.val rfl (.inl rfl) (HV.mv rfl) ?_
    refine AL.w rfl (.inl rfl) (WV.call fn148 rfl (hasS_ok (W := W) hS hs (by have := hob _ (List.mem_of_getElem? hz30); omega))) ?_
    rintro _ H34 ⟨rfl, hx35⟩
    have X36 := Ext.trans X23 hx35
    have X37 := Ext.trans X24 hx35
    have ho38 := hoL.ext hx35
    have hb39 := hb25.ext hx35
    refine AL.nx ?_
    refine AW.ifd rfl (fun c40 => ?_) (fun c40 => ?_)
    · -- then
      refine AW.reg ?_
      refine AL.val rfl (.inl rfl) (HV.mv rfl) ?_
      refine AL.val rfl (.inl rfl) (HV.mv rfl) ?_
      have X41 := Ext.refl H34
      have y42 := hb39.lt
      have o43 := X36.bd
      have o44 := X37.bd
      have o45 := X41.bd
      have a46 := ho38.ltb
      refine AL.w rfl (.inl rfl) (WV.bsK (K := kI) (l := ([(i : Int)] : List Int)) (css := [[.int .i64 (i : Int)]]) sl22 rfl rfl (by first | rfl | (simp [Instr.fill, Value.cells, kI, kB, kU, kU8, kS, Kd.sc]; done) | (simp [Instr.fill, Value.cells, kI, kB, kU, kU8, kS, Kd.sc, rng1, rng2, rng3, rng4, kP])) rfl (segs_cons rfl segs_nil)) ?_
      rintro v47 H48 ⟨hx49, ho50⟩
      have X51 := Ext.trans X36 hx49
      have X52 := Ext.trans X37 hx49
      have X53 := Ext.trans X41 hx49
      have ho54 := ho38.ext hx49
      have hb55 := hb39.ext hx49
      have X57 := Ext.refl H48
      refine AL.w rfl (.inl rfl) (WV.apk sl22 rfl rfl ho54 ho50.rd (by simp; omega) (by simp; omega) (fun b hb _ e => Nat.lt_irrefl _ (Nat.lt_of_lt_of_le (a46 b e) hb))) ?_
      rintro v58 H59 ⟨hx60, ho61, hb62⟩
      have ho63 := ho61.narrow (ok' := fun b => H4.bd ≤ b) kI_flat (fun b q => (hb62 b q).elim (fun e => (ho54.blk b e).1) (fun e => Nat.le_trans X52.bd e))
      have X64 := Ext.thru X51 hx60 (fun b hb => Nat.le_trans o12 (ho54.blk b hb).1)
      have X65 := Ext.thru X52 hx60 (fun b hb => Nat.le_trans o13 (ho54.blk b hb).1)
      have hb69 := hb55.but hx60 (fun e => by have q : H4.bd ≤ _ := (ho54.blk _ e).1; omega)
      refine AL.val rfl (.inl rfl) (HV.as rfl) ?_
      refine AL.nil ?_
      refine nrm_blk (nrm_and ?_)
      refine AW.reg ?_
      refine AL.val rfl (.inl rfl) (HV.add rfl rfl (by omega)) ?_
      refine AL.val rfl (.inl rfl) (HV.mv rfl) ?_
      refine AL.nil ?_
      refine nrm_and ?_
      exact ⟨(i + 1, v58), ⟨X64, X65, hb69, by omega, by rw [idxB_yes hz30 c40]; exact ho63, trivial⟩, by first | omega | (dsimp only; omega), ⟨rfl, rfl, rfl, rfl, rfl, rfl, trivial⟩⟩
    · -- else
      refine AW.skip ?_
      refine nrm_blk (nrm_and ?_)
      refine AW.reg ?_
      refine AL.val rfl (.inl rfl) (HV.add rfl rfl (by omega)) ?_
      refine AL.val rfl (.inl rfl) (HV.mv rfl) ?_
      refine AL.nil ?_
      refine nrm_and ?_
      exact ⟨(i + 1, vv), ⟨X36, X37, hb39, by omega, by rw [idxB_no hz30 c40]; exact ho38, trivial⟩, by first | omega | (dsimp only; omega), ⟨rfl, rfl, rfl, rfl, rfl, rfl, trivial⟩⟩
  · -- else
    refine AW.exit ?_
    refine ex_and (ex_and (ex_blk ?_))
    refine nrm_and ?_
    refine AW.rs ?_
    refine AL.val rfl (.inl rfl) (HV.mv rfl) ?_
    refine AL.val rfl (.inl rfl) (HV.as rfl) ?_
    refine AL.nx ?_
    refine AW.ret ?_
    refine post_one rfl rfl ?_ (.inr rfl)
    exact ⟨X23, by (try unfold idxG); rw [show o.length = i by omega]; exact hoL.okk (fun b hb _ => Nat.le_trans o12 hb)⟩

set_option maxRecDepth 100000 in
theorem rowsAt_ok {v : Value} {l : List (List Int)} {ok : Nat → Prop} (p k : Int) (hr : RdK (kR kI) W H ok v l) {vi : Value} {idx : List Int} {oki : Nat → Prop} (hri : RdK kI W H oki vi idx) {K : Nat} (hrc : rect p K l) (hK : K ≤ 40) (hR : l.length ≤ 40) (hix : ∀ q ∈ idx, 0 ≤ q ∧ q < l.length) (hil : idx.length ≤ 40) : ACalls Try.prog W 94 #[.agg #[.int .i64 p, .int .i64 k, v], vi] H (fun r H' => (∃ u, r = .agg #[.int .i64 p, .int .i64 k, u] ∧ OwnD (kO 2 kI) 22 W H' (fun b => H.bd ≤ b) u (partL l idx)) ∧ Ext H H') := by
  refine ACalls.of (args := [.agg #[.int .i64 p, .int .i64 k, v], vi]) Try.func94 rfl rfl ?_
  have X0 := Ext.refl H
  have hm1 := hr.max
  have hm2 := hri.max
  have hmx := hr.max
  refine AW.rs ?_
  refine AL.w rfl (.inl rfl) (WV.bx rfl rfl) ?_
  rintro _ H4 ⟨b3, rfl, hx5, hn6, hb7⟩
  have o8 := Nat.le_trans X0.bd hn6
  have X9 := Ext.trans X0 hx5
  have X10 := Ext.refl H4
  refine AL.w rfl (.inl rfl) (WV.al ze29 rfl) ?_
  rintro _ H12 ⟨b11, rfl, hx13, hn14, hb15⟩
  have o16 := Nat.le_trans X9.bd hn14
  have o17 := Nat.le_trans X10.bd hn14
  have ne18 : b3 ≠ b11 := by have := hb7.lt; omega
  have X19 := Ext.trans X9 hx13
  have X20 := Ext.trans X10 hx13
  have hb21 := hb7.ext hx13
  have X22 := Ext.refl H12
  refine AL.nx ?_
  refine AW.rs ?_
  refine AL.val rfl (.inl rfl) (HV.fa fl29_0 rfl) ?_
  refine AL.val rfl (.inl rfl) (HV.ld rfl va2 (at_cell hb21 rfl)) ?_
  refine AL.val rfl (.inl rfl) (HV.fa fl29_1 rfl) ?_
  refine AL.val rfl (.inl rfl) (HV.ld rfl va2 (at_cell_add (j := 1) hb21 rfl)) ?_
  refine AL.val rfl (.inl rfl) (HV.bd rfl (bd29_0_1 p k)) ?_
  refine AL.w rfl (.inl rfl) (WV.al ze29 rfl) ?_
  rintro _ H24 ⟨b23, rfl, hx25, hn26, hb27⟩
  have o28 := Nat.le_trans X19.bd hn26
  have o29 := Nat.le_trans X20.bd hn26
  have o30 := Nat.le_trans X22.bd hn26
  have ne31 : b3 ≠ b23 := by have := hb21.lt; omega
  have ne32 : b11 ≠ b23 := by have := hb15.lt; omega
  have X33 := Ext.trans X19 hx25
  have X34 := Ext.trans X20 hx25
  have X35 := Ext.trans X22 hx25
  have hb36 := hb21.ext hx25
  have hb37 := hb15.ext hx25
  have X38 := Ext.refl H24
  refine AL.w0 (.inl rfl) (WV.st rfl rfl va29 rfl hb27 (Nat.le_of_ble_eq_true rfl) (one_cons rfl (one_cons rfl (one_cons (sl_one1 ⟨none, 0, rfl⟩) one_nil)))) ?_
  rintro _ H39 ⟨hx40, hb41⟩
  have X42 := Ext.thru X33 hx40 (fun z_ hz_ => by rw [hz_]; exact o28)
  have X43 := Ext.thru X34 hx40 (fun z_ hz_ => by rw [hz_]; exact o29)
  have X44 := Ext.thru X35 hx40 (fun z_ hz_ => by rw [hz_]; exact o30)
  have hb46 := hb36.but hx40 ne31
  have hb47 := hb37.but hx40 ne32
  have hb48 : At W H39 b23 ⟨29, [.int .i64 p, .int .i64 k, (.slice none 0 0)], 3⟩ := hb41
  refine AL.nx ?_
  refine AW.seq ?_
  refine AW.rs ?_
  refine AL.val rfl (.inl rfl) (HV.mv rfl) ?_
  refine AL.val rfl (.inl rfl) (HV.len Try.underlying22 rfl hri.isSl) ?_
  refine AL.val rfl (.inl rfl) (HV.mv rfl) ?_
  refine AL.nx ?_
  refine AW.block ?_
  have X49 := Ext.refl H39
  have y50 := hb46.lt
  have y51 := hb47.lt
  have y52 := hb48.lt
  have o53 := X42.bd
  have o54 := X43.bd
  have o55 := X44.bd
  have o56 := X49.bd
  have ho57 : OwnD (kO 2 kI) 22 W H39 (fun b => H39.bd ≤ b) (.slice none 0 0) ([] : List (List Int)) := OwnD.nil _
  refine AW.loop (σ := Nat × Value) (fun ⟨i, vv⟩ => [(2, .pointer (some ⟨b3, 0, none⟩)), (4, .pointer (some ⟨b11, 0, none⟩)), (5, .pointer (some ⟨b23, 0, none⟩)), (13, vi), (14, .int .i64 (idx.length : Int)), (15, .int .i64 (i : Int))]) (fun ⟨i, vv⟩ H' => Ext H H' ∧ Ext H4 H' ∧ Ext H12 H' ∧ At W H' b3 ⟨29, [.int .i64 p, .int .i64 k, v], 3⟩ ∧ At W H' b11 ⟨29, [.int .i64 0, .int .i64 0, (.slice none 0 0)], 3⟩ ∧ H39.bd ≤ H'.bd ∧ i ≤ idx.length ∧ At W H' b23 ⟨29, [.int .i64 p, .int .i64 k, vv], 3⟩ ∧ OwnD (kO 2 kI) 22 W H' (fun b => H39.bd ≤ b) vv (partL l (idx.take i)) ∧ True) (fun ⟨i, vv⟩ => idx.length - i) (0, (.slice none 0 0)) ⟨X42, X43, X44, hb46, hb47, X49.bd, Nat.zero_le _, hb48, ho57, trivial⟩ ⟨rfl, rfl, rfl, rfl, rfl, rfl, trivial⟩ ?_
  rintro ⟨i, vv⟩ H59 ⟨X60, X61, X62, hb63, hb64, q65, hi, hbB, hoL, _⟩
  refine AW.rs ?_
  refine AL.val rfl (.inl rfl) (HV.lti rfl rfl) ?_
  refine AL.nx ?_
  refine AW.seq ?_
  refine AW.ifd rfl (fun c66 => ?_) (fun c66 => ?_)
  · -- then
    refine AW.skip ?_
    refine nrm_and ?_
    refine AW.seq ?_
    refine AW.block ?_
    refine AW.rs ?_
    obtain ⟨p67, z68, cs69, hz70, hK71, hC72, hP73⟩ := RdK.ix (q := (i : Int)) hri sl22 (by omega) (by omega)
    obtain rfl : cs69 = [.int .i64 z68] := hK71
    refine AL.val rfl (.inl rfl) (hP73 rfl rfl) ?_
    refine AL.val rfl (.inl rfl) (HV.ld rfl va2 (cells_first (hC72.ext X60) rfl)) ?_
    refine AL.val rfl (.inl rfl) (HV.as rfl) ?_
    refine AL.nx ?_
    refine AW.draw' [0, 1, 0, 4, 0, 28, 60, 124, 252, 511, 1023, 2047] mixed (by rfl) ?_
    refine Dr.read 0 _ 19 _ rfl rfl rfl rfl rfl (RV.of (by intro _ _ h; cases h) (.inl rfl) (fun _ xd => HV.fa fl29_2 rfl)) ?_
    refine Dr.read 1 _ 20 _ rfl rfl rfl rfl rfl (RV.of (by intro _ _ h; cases h) (.inl rfl) (fun _ xd => HV.ld rfl va23 (rdc_ext xd (at_cell_add (j := 2) hbB rfl)))) ?_
    refine Dr.read 2 _ 21 _ rfl rfl rfl rfl rfl (RV.of (by intro _ _ h; cases h) (.inl rfl) (fun _ xd => HV.fa fl29_2 rfl)) ?_
    refine Dr.read 3 _ 22 _ rfl rfl rfl rfl rfl (RV.of (by intro _ _ h; cases h) (.inl rfl) (fun _ xd => HV.ld rfl va23 (rdc_ext xd (at_cell_add (j := 2) hb63 rfl)))) ?_
    refine Dr.read 4 _ 23 _ rfl rfl rfl rfl rfl (RV.of (by intro _ _ h; cases h) (.inl rfl) (fun _ xd => HV.mv rfl)) ?_
    have hqb := hix _ (List.mem_of_getElem? hz70)
    obtain ⟨p74, z75, cs76, hz77, hK78, hC79, hP80⟩ := RdK.ix (q := z68) hr sl23 (by omega) (by omega)
    obtain ⟨v81, rfl, hr82⟩ := hK78
    have hm83 := hr82.max
    refine Dr.read 5 _ 24 _ rfl rfl rfl rfl rfl (RV.of (by intro _ _ h; cases h) (.inl rfl) (fun _ xd => hP80 rfl rfl)) ?_
    refine Dr.read 6 _ 25 _ rfl rfl rfl rfl rfl (RV.of (by intro _ _ h; cases h) (.inl rfl) (fun _ xd => HV.ld rfl va22 (rdc_ext xd (cells_first (hC79.ext X60) rfl)))) ?_
    have X84 := Ext.refl H59
    have y85 := hb63.lt
    have y86 := hb64.lt
    have y87 := hbB.lt
    have o88 := X60.bd
    have o89 := X61.bd
    have o90 := X62.bd
    have o91 := X84.bd
    have a92 := hoL.ltb
    have ho93 := hoL.okk (ok' := fun b => H39.bd ≤ b ∧ b < H59.bd) (fun b hb hlt => ⟨hb, hlt⟩)
    refine Dr.eff 7 _ _ rfl (by intro d h; cases h; exact ⟨rfl, rfl⟩) rfl rfl rfl (EC.of (by intro _ _ h; cases h) (.inl rfl) (WV.call fn87 rfl (cloneI_ok (hr82.ext X60) (by have := rect_at hrc hz77; omega)))) (fun v H' h => .inl (h.1)) ?_
    rintro v94 H95 ⟨hx96, ho97⟩
    have q98 := Nat.le_trans q65 hx96.bd
    have X99 := Ext.trans X60 hx96
    have X100 := Ext.trans X61 hx96
    have X101 := Ext.trans X62 hx96
    have X102 := Ext.trans X84 hx96
    have ho103 := ho93.ext hx96
    have hb104 := hb63.ext hx96
    have hb105 := hb64.ext hx96
    have hb106 := hbB.ext hx96
    have X108 := Ext.refl H95
    have y109 := hb104.lt
    have y110 := hb105.lt
    have y111 := hb106.lt
    have o112 := X99.bd
    have o113 := X100.bd
    have o114 := X101.bd
    have o115 := X102.bd
    have o116 := X108.bd
    have a117 := ho103.ltb
    have a118 := ho97.ltb
    have hc123 : v94.cells = #[v94] := by obtain ⟨A, c, e⟩ := ho97.isSl; rw [e]; rfl
    refine Dr.eff 8 _ _ rfl (by intro d h; cases h; exact ⟨rfl, rfl⟩) rfl rfl rfl (EC.of (by intro _ _ h; cases h) (.inl rfl) (WV.bsO (okx := fun b => H59.bd ≤ b) (K := (kO 2 kI)) (l := ([z75] : List (List Int))) (css := [[v94]]) sl23 rfl rfl (by simp [Instr.fill, hc123, kO, rng1]) rfl (segs_cons ⟨_, rfl, ho97⟩ segs_nil))) (fun v H' h => .inl (h.1)) ?_
    rintro v119 H120 ⟨hx121, ho122⟩
    have q125 := Nat.le_trans q98 hx121.bd
    have X126 := Ext.trans X99 hx121
    have X127 := Ext.trans X100 hx121
    have X128 := Ext.trans X101 hx121
    have X129 := Ext.trans X102 hx121
    have X130 := Ext.trans X108 hx121
    have ho131 := ho103.ext hx121
    have ho132 := ho97.ext hx121
    have hb133 := hb104.ext hx121
    have hb134 := hb105.ext hx121
    have hb135 := hb106.ext hx121
    have ho124 := ho122.okk (ok' := fun b => H59.bd ≤ b) (fun b hb _ => hb.elim id (fun e => Nat.le_trans X102.bd e))
    have X137 := Ext.refl H120
    refine Dr.eff 9 _ _ rfl (by intro d h; cases h; exact ⟨rfl, rfl⟩) rfl rfl rfl (EC.of (by intro _ _ h; cases h) (.inl rfl) (WV.apD (ok := fun b => H39.bd ≤ b) (B := H59.bd) sl23 rfl rfl ho131 ho124.rd X129.bd (by rw [partL_len, List.length_take]; first | omega | (simp; omega)) (by rw [partL_len, List.length_take]; first | omega | (simp; omega)))) (fun v H' h => .inr (.inl rfl)) ?_
    rintro v138 H139 ⟨hx140, ho141, hb142⟩
    have ho143 := ho141.okk (ok' := fun b => H39.bd ≤ b) (fun b hb _ => hb.elim id (fun e => Nat.le_trans q65 e))
    have q144 := Nat.le_trans q125 hx140.bd
    have X145 := Ext.thru X126 hx140 (fun b hb => Nat.le_trans o53 (ho131.blk b hb).1.1)
    have X146 := Ext.thru X127 hx140 (fun b hb => Nat.le_trans o54 (ho131.blk b hb).1.1)
    have X147 := Ext.thru X128 hx140 (fun b hb => Nat.le_trans o55 (ho131.blk b hb).1.1)
    have q149 := Nat.le_trans X129.bd hx140.bd
    have q151 := Nat.le_trans X130.bd hx140.bd
    have q153 := Nat.le_trans X137.bd hx140.bd
    have hb154 := hb133.but hx140 (fun e => by have q : H39.bd ≤ _ := (ho131.blk _ e).1.1; omega)
    have hb155 := hb134.but hx140 (fun e => by have q : H39.bd ≤ _ := (ho131.blk _ e).1.1; omega)
    have hb156 := hb135.but hx140 (fun e => by have q : H39.bd ≤ _ := (ho131.blk _ e).1.1; omega)
    refine Dr.read 10 _ 29 _ rfl rfl rfl rfl rfl (RV.of (by intro _ _ h; cases h) (.inl rfl) (fun _ xd => HV.fa fl29_2 rfl)) ?_
    refine Dr.eff 11 _ _ rfl (by intro d h; cases h) rfl rfl rfl (EC.of (by intro _ _ h; cases h) (.inl rfl) (WV.st rfl rfl va23 (sl_size (rd_ofO ho143.rd).isSl) hb156 (Nat.le_of_ble_eq_true rfl) (sl_one (rd_ofO ho143.rd).isSl))) (fun v H' h => .inr (.inl rfl)) ?_
    rintro _ H157 ⟨hx158, hb159⟩
    rw [sl_cells (rd_ofO ho143.rd).isSl] at hb159
    have q160 := Nat.le_trans q144 hx158.bd
    have q161 := Nat.le_trans q149 hx158.bd
    have q162 := Nat.le_trans q151 hx158.bd
    have q163 := Nat.le_trans q153 hx158.bd
    have X164 := Ext.thru X145 hx158 (fun z_ hz_ => by rw [hz_]; exact o28)
    have X165 := Ext.thru X146 hx158 (fun z_ hz_ => by rw [hz_]; exact o29)
    have X166 := Ext.thru X147 hx158 (fun z_ hz_ => by rw [hz_]; exact o30)
    have ho167 := ho143.but hx158 (fun b hb _ e => by have hb' : H39.bd ≤ b := hb; have e' : b = b23 := e; omega) (fun z_ hz_ => by rw [hz_]; exact hb156.w)
    have hb168 := hb154.but hx158 ne31
    have hb169 := hb155.but hx158 ne32
    have hb170 : At W H157 b23 ⟨29, [.int .i64 p, .int .i64 k, v138], 3⟩ := hb159
    refine Dr.fin rfl ?_
    refine nrm_blk (nrm_and ?_)
    refine AW.reg ?_
    refine AL.val rfl (.inl rfl) (HV.add rfl rfl (by omega)) ?_
    refine AL.val rfl (.inl rfl) (HV.mv rfl) ?_
    refine AL.nil ?_
    refine nrm_and ?_
    exact ⟨(i + 1, v138), ⟨X164, X165, X166, hb168, hb169, q160, by omega, hb170, by rw [partL_snoc hz70 hz77]; exact ho167, trivial⟩, by first | omega | (dsimp only; omega), ⟨rfl, rfl, rfl, rfl, rfl, rfl, trivial⟩⟩
  · -- else
    refine AW.exit ?_
    refine ex_and (ex_and (ex_blk ?_))
    refine nrm_and ?_
    refine AW.rs ?_
    refine AL.val rfl (.inl rfl) (HV.lda (cs := [.int .i64 p, .int .i64 k, vv]) rfl va29 (at_cells hbB rfl)) ?_
    refine AL.w0 (.inl rfl) (WV.st rfl rfl va29 rfl hb64 (Nat.le_of_ble_eq_true rfl) (one_cons rfl (one_cons rfl (one_cons (sl_one1 (rd_ofO hoL.rd).isSl) one_nil)))) ?_
    rintro _ H171 ⟨hx172, hb173⟩
    have q174 := Nat.le_trans q65 hx172.bd
    have X175 := Ext.thru X60 hx172 (fun z_ hz_ => by rw [hz_]; exact o16)
    have X176 := Ext.thru X61 hx172 (fun z_ hz_ => by rw [hz_]; exact o17)
    have q178 := Nat.le_trans X62.bd hx172.bd
    have ho179 := hoL.but hx172 (fun b hb _ e => by have hb' : H39.bd ≤ b := hb; have e' : b = b11 := e; omega) (fun z_ hz_ => by rw [hz_]; exact hb64.w)
    have hb180 := hb63.but hx172 ne18
    have hb181 := hbB.but hx172 (fun e => ne32 e.symm)
    have hb182 : At W H171 b11 ⟨29, [.int .i64 p, .int .i64 k, vv], 3⟩ := hb173
    refine AL.nx ?_
    refine AW.ret ?_
    refine post_cell rfl rfl va29 hb182 ?_ (.inr rfl)
    exact ⟨⟨_, rfl, by rw [show idx = idx.take i by rw [List.take_of_length_le (by omega)]]; exact ho179.okk (fun b hb _ => Nat.le_trans o53 hb)⟩, X175⟩

set_option maxRecDepth 100000 in
theorem held_ok {vo v : Value} {o : List Int} {l : List (List Int)} {oko ok : Nat → Prop} (n p k : Int) (ho : RdK kI W H oko vo o) (hr : RdK (kR kI) W H ok v l) {g : List Int} (hok : okSc n o p k l) (hg : Ris 0 (n - 1) g) : ACalls Try.prog W 73 #[.agg #[.int .i64 n, vo, .int .i64 p, .int .i64 k, v], .int .u64 (crowd g)] H (fun r H' => (∃ u, r = .agg #[.int .i64 p, .int .i64 k, u] ∧ OwnD (kO 2 kI) 22 W H' (fun b => H.bd ≤ b) u (partL l (idxG o g))) ∧ Ext H H') := by
  refine ACalls.of (args := [.agg #[.int .i64 n, vo, .int .i64 p, .int .i64 k, v], .int .u64 (crowd g)]) Try.func73 rfl rfl ?_
  have X0 := Ext.refl H
  have hm1 := ho.max
  have hm2 := hr.max
  have hF := okSc_f hok
  have hp := hF.pb
  have hk1 := hF.k1
  have hk0 := hF.k0
  have hF1 := hF.R
  have hF2 := hF.ol
  obtain ⟨hP1, hP2, hP3⟩ := hF.part g
  refine AW.rs ?_
  refine AL.w rfl (.inl rfl) (WV.bx rfl rfl) ?_
  rintro _ H4 ⟨b3, rfl, hx5, hn6, hb7⟩
  have o8 := Nat.le_trans X0.bd hn6
  have X9 := Ext.trans X0 hx5
  have X10 := Ext.refl H4
  refine AL.w rfl (.inl rfl) (WV.al ze29 rfl) ?_
  rintro _ H12 ⟨b11, rfl, hx13, hn14, hb15⟩
  have o16 := Nat.le_trans X9.bd hn14
  have o17 := Nat.le_trans X10.bd hn14
  have ne18 : b3 ≠ b11 := by have := hb7.lt; omega
  have X19 := Ext.trans X9 hx13
  have X20 := Ext.trans X10 hx13
  have hb21 := hb7.ext hx13
  have X22 := Ext.refl H12
  refine AL.nx ?_
  refine AW.seq ?_
  refine AW.draw' [0, 1, 0, 0, 12, 31, 63] mixed (by rfl) ?_
  refine Dr.read 0 _ 5 _ rfl rfl rfl rfl rfl (RV.of (by intro _ _ h; cases h) (.inl rfl) (fun _ xd => HV.fa fl31_2 rfl)) ?_
  refine Dr.read 1 _ 6 _ rfl rfl rfl rfl rfl (RV.of (by intro _ _ h; cases h) (.inl rfl) (fun _ xd => HV.lda (cs := [.int .i64 p, .int .i64 k, v]) rfl va29 (fun j u hu => rdc_ext xd ((at_cells hb21 rfl) j u hu)))) ?_
  refine Dr.read 2 _ 7 _ rfl rfl rfl rfl rfl (RV.of (by intro _ _ h; cases h) (.inl rfl) (fun _ xd => HV.lda (cs := [.int .i64 n, vo, .int .i64 p, .int .i64 k, v]) rfl va31 (fun j u hu => rdc_ext xd ((at_cells hb21 rfl) j u hu)))) ?_
  refine Dr.read 3 _ 8 _ rfl rfl rfl rfl rfl (RV.of (by intro _ _ h; cases h) (.inl rfl) (fun _ xd => HV.mv rfl)) ?_
  refine Dr.eff 4 _ _ rfl (by intro d h; cases h; exact ⟨rfl, rfl⟩) rfl rfl rfl (EC.of (by intro _ _ h; cases h) (.inl rfl) (WV.call fn93 rfl (rowsHeld_ok n p k (ho.ext X19) (hr.ext X19) (bits_nat hF.hn hg).2.1 (Nat.lt_of_lt_of_le (bits_nat hF.hn hg).2.2 (pow7 hF.hn)) (fun x hx => by have := hF.ob x hx; have := hF.hn; omega) (by omega)))) (fun v H' h => .inl (h.1)) ?_
  rintro v23 H24 ⟨hx25, ho26⟩
  have X28 := Ext.trans X19 hx25
  have X29 := Ext.trans X20 hx25
  have X30 := Ext.trans X22 hx25
  have hb31 := hb21.ext hx25
  have hb32 := hb15.ext hx25
  have X33 := Ext.refl H24
  have hr27 : RdK kI W H24 _ v23 (idxB (inS (bitN g)) o o.length) := ho26.rd
  have hr34 := hr27
  rw [idx_SG (n := n) hg (fun x hx => (hF.ob x hx).1)] at hr34
  have y35 := hb31.lt
  have y36 := hb32.lt
  have o37 := X28.bd
  have o38 := X29.bd
  have o39 := X30.bd
  have o40 := X33.bd
  refine Dr.eff 5 _ _ rfl (by intro d h; cases h; exact ⟨rfl, rfl⟩) rfl rfl rfl (EC.of (by intro _ _ h; cases h) (.inl rfl) (WV.call fn94 rfl (rowsAt_ok p k (hr.ext X28) hr34 hF.r (by omega) (by omega) hP3 (by omega)))) (fun v H' h => .inl (h.2)) ?_
  rintro _ H42 ⟨⟨u41, rfl, ho44⟩, hx43⟩
  have X45 := Ext.trans X28 hx43
  have X46 := Ext.trans X29 hx43
  have X47 := Ext.trans X30 hx43
  have X48 := Ext.trans X33 hx43
  have hb49 := hb31.ext hx43
  have hb50 := hb32.ext hx43
  have X51 := Ext.refl H42
  refine Dr.eff 6 _ _ rfl (by intro d h; cases h) rfl rfl rfl (EC.of (by intro _ _ h; cases h) (.inl rfl) (WV.st rfl rfl va29 rfl hb50 (Nat.le_of_ble_eq_true rfl) (one_cons rfl (one_cons rfl (one_cons (sl_one1 (rd_ofO ho44.rd).isSl) one_nil))))) (fun v H' h => .inr (.inl rfl)) ?_
  rintro _ H53 ⟨hx54, hb55⟩
  have X56 := Ext.thru X45 hx54 (fun z_ hz_ => by rw [hz_]; exact o16)
  have X57 := Ext.thru X46 hx54 (fun z_ hz_ => by rw [hz_]; exact o17)
  have ho61 := ho44.but hx54 (fun b hb _ e => by have hb' : H24.bd ≤ b := hb; have e' : b = b11 := e; omega) (fun z_ hz_ => by rw [hz_]; exact hb50.w)
  have hb62 := hb49.but hx54 ne18
  have hb63 : At W H53 b11 ⟨29, [.int .i64 p, .int .i64 k, u41], 3⟩ := hb55
  refine Dr.fin rfl ?_
  refine nrm_and ?_
  refine AW.ret ?_
  refine post_cell rfl rfl va29 hb63 ?_ (.inr rfl)
  exact ⟨⟨_, rfl, ho61.okk (fun b hb _ => Nat.le_trans o37 hb)⟩, X56⟩

set_option maxRecDepth 100000 in
theorem schemeCode_ok {vo v : Value} {o : List Int} {l : List (List Int)} {oko ok : Nat → Prop} (n p k : Int) (ho : RdK kI W H oko vo o) (hr : RdK (kR kI) W H ok v l) {vg : Value} {g : List Int} {okg : Nat → Prop} (hrg : RdK kI W H okg vg g) : ACalls Try.prog W 78 #[.agg #[.int .i64 n, vo, .int .i64 p, .int .i64 k, v], vg] H (fun r H' => r = .int .i64 (askC n o p k l g) ∧ Ext H H') := by
  refine ACalls.of (args := [.agg #[.int .i64 n, vo, .int .i64 p, .int .i64 k, v], vg]) Try.func78 rfl rfl ?_
  have X0 := Ext.refl H
  have hm1 := ho.max
  have hm2 := hr.max
  have hm3 := hrg.max
  refine AW.rs ?_
  refine AL.w rfl (.inl rfl) (WV.bx rfl rfl) ?_
  rintro _ H5 ⟨b4, rfl, hx6, hn7, hb8⟩
  have o9 := Nat.le_trans X0.bd hn7
  have X10 := Ext.trans X0 hx6
  have X11 := Ext.refl H5
  refine AL.val rfl (.inl rfl) (HV.as rfl) ?_
  refine AL.nx ?_
  refine AW.seq ?_
  refine AW.block ?_
  refine AW.rs ?_
  refine AL.val rfl (.inl rfl) (HV.lda (cs := [.int .i64 n, vo, .int .i64 p, .int .i64 k, v]) rfl va31 (at_cells hb8 rfl)) ?_
  refine AL.w rfl (.inl rfl) (WV.call fn92 rfl (ValidS_ok n p k (ho.ext X10) (hr.ext X10))) ?_
  rintro _ H12 ⟨rfl, hx13⟩
  have X14 := Ext.trans X10 hx13
  have X15 := Ext.trans X11 hx13
  have hb16 := hb8.ext hx13
  refine AL.val rfl (.inl rfl) (HV.not rfl) ?_
  refine AL.val rfl (.inl rfl) (HV.as rfl) ?_
  refine AL.nx ?_
  refine AW.ifn rfl (fun c17 => ?_) (fun c17 => ?_)
  · -- then
    refine AW.rs ?_
    refine AL.val rfl (.inl rfl) (HV.as rfl) ?_
    refine AL.nx ?_
    refine AW.ret ?_
    refine ret_blk (ret_and ?_)
    refine post_one rfl rfl ?_ (.inr rfl)
    exact ⟨congrArg (Value.int .i64) (by rw [askC_1 c17]), X14⟩
  · -- else
    refine AW.rs ?_
    refine AL.val rfl (.inl rfl) (HV.fa fl31_0 rfl) ?_
    refine AL.val rfl (.inl rfl) (HV.ld rfl va2 (at_cell hb16 rfl)) ?_
    refine AL.val rfl (.inl rfl) (HV.mv rfl) ?_
    refine AL.w rfl (.inl rfl) (WV.call fn137 rfl (isGroup_ok n (hrg.ext X14) (by have := (by assumption : okSc n o p k l).1; omega))) ?_
    rintro _ H18 ⟨rfl, hx19⟩
    have X20 := Ext.trans X14 hx19
    have X21 := Ext.trans X15 hx19
    have hb22 := hb16.ext hx19
    refine AL.val rfl (.inl rfl) (HV.not rfl) ?_
    refine AL.val rfl (.inl rfl) (HV.as rfl) ?_
    refine AL.nx ?_
    refine AW.ifn rfl (fun c23 => ?_) (fun c23 => ?_)
    · -- then
      refine AW.rs ?_
      refine AL.val rfl (.inl rfl) (HV.as rfl) ?_
      refine AL.nx ?_
      refine AW.ret ?_
      refine ret_blk (ret_and ?_)
      refine post_one rfl rfl ?_ (.inr rfl)
      exact ⟨congrArg (Value.int .i64) (by rw [askC_2 (by assumption) c23]), X20⟩
    · -- else
      refine AW.skip ?_
      refine nrm_blk (nrm_and ?_)
      refine AW.rs ?_
      refine AL.val rfl (.inl rfl) (HV.as rfl) ?_
      refine AL.nx ?_
      refine AW.ret ?_
      refine post_one rfl rfl ?_ (.inr rfl)
      exact ⟨congrArg (Value.int .i64) (by rw [askC_0 (by assumption) (by assumption)]), X20⟩

set_option maxRecDepth 100000 in
theorem heldCode_ok {vo v : Value} {o : List Int} {l : List (List Int)} {oko ok : Nat → Prop} (n p k : Int) (ho : RdK kI W H oko vo o) (hr : RdK (kR kI) W H ok v l) {vg : Value} {g : List Int} {okg : Nat → Prop} (hrg : RdK kI W H okg vg g) {vh : Value} {h : List Int} {okh : Nat → Prop} (hrh : RdK kI W H okh vh h) : ACalls Try.prog W 72 #[.agg #[.int .i64 n, vo, .int .i64 p, .int .i64 k, v], vg, vh] H (fun r H' => r = .int .i64 (withC n o p k l g h) ∧ Ext H H') := by
  refine ACalls.of (args := [.agg #[.int .i64 n, vo, .int .i64 p, .int .i64 k, v], vg, vh]) Try.func72 rfl rfl ?_
  have X0 := Ext.refl H
  have hm1 := ho.max
  have hm2 := hr.max
  have hm3 := hrg.max
  have hm4 := hrh.max
  refine AW.rs ?_
  refine AL.w rfl (.inl rfl) (WV.bx rfl rfl) ?_
  rintro _ H6 ⟨b5, rfl, hx7, hn8, hb9⟩
  have o10 := Nat.le_trans X0.bd hn8
  have X11 := Ext.trans X0 hx7
  have X12 := Ext.refl H6
  refine AL.val rfl (.inl rfl) (HV.as rfl) ?_
  refine AL.nx ?_
  refine AW.rs ?_
  refine AL.val rfl (.inl rfl) (HV.lda (cs := [.int .i64 n, vo, .int .i64 p, .int .i64 k, v]) rfl va31 (at_cells hb9 rfl)) ?_
  refine AL.val rfl (.inl rfl) (HV.mv rfl) ?_
  refine AL.w rfl (.inl rfl) (WV.call fn78 rfl (schemeCode_ok n p k (ho.ext X11) (hr.ext X11) (hrg.ext X11))) ?_
  rintro _ H13 ⟨rfl, hx14⟩
  have X15 := Ext.trans X11 hx14
  have X16 := Ext.trans X12 hx14
  have hb17 := hb9.ext hx14
  refine AL.val rfl (.inl rfl) (HV.as rfl) ?_
  refine AL.nx ?_
  refine AW.seq ?_
  refine AW.seq ?_
  refine AW.draw' [0, 1, 3, 7, 15, 7, 7, 71, 231, 487, 1023, 2047, 4095, 8191, 16383, 4095, 65535, 131071, 262143, 524287] mixed (by rfl) ?_
  refine Dr.read 0 _ 11 _ rfl rfl rfl rfl rfl (RV.of (by intro _ _ h; cases h) (.inl rfl) (fun _ xd => HV.mv rfl)) ?_
  refine Dr.read 1 _ 12 _ rfl rfl rfl rfl rfl (RV.of (by intro _ _ h; cases h) (.inl rfl) (fun _ xd => HV.eqi rfl rfl)) ?_
  refine Dr.read 2 _ 13 _ rfl rfl rfl rfl rfl (RV.of (by intro _ _ h; cases h) (.inl rfl) (fun _ xd => HV.mv rfl)) ?_
  by_cases c18 : (askC n o p k l g) = 0
  · -- true
    have c18_ : decide ((askC n o p k l g) = 0) = true := decide_eq_true c18
    rw [c18_]
    refine Dr.read 3 _ 14 _ rfl rfl rfl rfl rfl (RV.of (by intro _ _ h; cases h) (.inr ⟨_, _, _, rfl, rfl, rfl⟩) (fun _ xd => HV.mv rfl)) ?_
    refine Dr.read 4 _ 15 _ rfl rfl rfl rfl rfl (RV.of (by intro _ _ h; cases h) (.inr ⟨_, _, _, rfl, rfl, rfl⟩) (fun _ xd => HV.len Try.underlying22 rfl hrh.isSl)) ?_
    refine Dr.read 5 _ 16 _ rfl rfl rfl rfl rfl (RV.of (by intro _ _ h; cases h) (.inr ⟨_, _, _, rfl, rfl, rfl⟩) (fun _ xd => HV.lda (cs := [.int .i64 n, vo, .int .i64 p, .int .i64 k, v]) rfl va31 (fun j u hu => rdc_ext xd ((at_cells hb17 rfl) j u hu)))) ?_
    refine Dr.read 6 _ 17 _ rfl rfl rfl rfl rfl (RV.of (by intro _ _ h; cases h) (.inr ⟨_, _, _, rfl, rfl, rfl⟩) (fun _ xd => HV.mv rfl)) ?_
    refine Dr.eff 7 _ _ rfl (by intro d h; cases h; exact ⟨rfl, rfl⟩) rfl rfl rfl (EC.of (by intro _ _ h; cases h) (.inr ⟨_, _, _, rfl, rfl, rfl⟩) (WV.call fn74 rfl (crowdOf_ok (hrg.ext X15) (by have hF := okSc_f (askC_z (by assumption : askC n o p k l g = 0)).1; have hg := (askC_z (by assumption : askC n o p k l g = 0)).2; have hF1 := hF.R; have hF2 := hF.ol; exact ris_low hF.hn hg)))) (fun v H' h => .inl (h.2)) ?_
    rintro _ H19 ⟨rfl, hx20⟩
    have X21 := Ext.trans X15 hx20
    have X22 := Ext.trans X16 hx20
    have hb23 := hb17.ext hx20
    refine Dr.eff 8 _ _ rfl (by intro d h; cases h; exact ⟨rfl, rfl⟩) rfl rfl rfl (EC.of (by intro _ _ h; cases h) (.inr ⟨_, _, _, rfl, rfl, rfl⟩) (WV.call fn93 rfl (rowsHeld_ok n p k (ho.ext X21) (hr.ext X21) (by have hF := okSc_f (askC_z (by assumption : askC n o p k l g = 0)).1; have hg := (askC_z (by assumption : askC n o p k l g = 0)).2; have hF1 := hF.R; have hF2 := hF.ol; exact (bits_nat hF.hn hg).2.1) (by have hF := okSc_f (askC_z (by assumption : askC n o p k l g = 0)).1; have hg := (askC_z (by assumption : askC n o p k l g = 0)).2; have hF1 := hF.R; have hF2 := hF.ol; exact Nat.lt_of_lt_of_le (bits_nat hF.hn hg).2.2 (pow7 hF.hn)) (by have hF := okSc_f (askC_z (by assumption : askC n o p k l g = 0)).1; have hg := (askC_z (by assumption : askC n o p k l g = 0)).2; have hF1 := hF.R; have hF2 := hF.ol; exact (fun x hx => by have := hF.ob x hx; have := hF.hn; omega)) (by have hF := okSc_f (askC_z (by assumption : askC n o p k l g = 0)).1; have hg := (askC_z (by assumption : askC n o p k l g = 0)).2; have hF1 := hF.R; have hF2 := hF.ol; omega)))) (fun v H' h => .inl (h.1)) ?_
    rintro v24 H25 ⟨hx26, ho27⟩
    have X29 := Ext.trans X21 hx26
    have X30 := Ext.trans X22 hx26
    have hb31 := hb23.ext hx26
    have X32 := Ext.refl H25
    have hr28 : RdK kI W H25 _ v24 (idxB (inS (bitN g)) o o.length) := ho27.rd
    have hF := okSc_f (askC_z (by assumption : askC n o p k l g = 0)).1; have hg := (askC_z (by assumption : askC n o p k l g = 0)).2; have hF1 := hF.R; have hF2 := hF.ol
    have hr33 := hr28
    rw [idx_SG (n := n) hg (fun x hx => (hF.ob x hx).1)] at hr33
    refine Dr.read 9 _ 20 _ rfl rfl rfl rfl rfl (RV.of (by intro _ _ h; cases h) (.inr ⟨_, _, _, rfl, rfl, rfl⟩) (fun _ xd => HV.len Try.underlying22 rfl hr33.isSl)) ?_
    refine Dr.read 10 _ 21 _ rfl rfl rfl rfl rfl (RV.of (by intro _ _ h; cases h) (.inr ⟨_, _, _, rfl, rfl, rfl⟩) (fun _ xd => HV.nei rfl rfl)) ?_
    refine Dr.read 11 _ 22 _ rfl rfl rfl rfl rfl (RV.of (by intro _ _ h; cases h) (.inr ⟨_, _, _, rfl, rfl, rfl⟩) (fun _ xd => HV.mv rfl)) ?_
    by_cases c34 : (h.length : Int) ≠ ((idxG o g).length : Int)
    · -- true
      have c34_ : decide ((h.length : Int) ≠ ((idxG o g).length : Int)) = true := decide_eq_true c34
      rw [c34_]
      refine Dr.read 12 _ 23 _ rfl rfl rfl rfl rfl (RV.off (by intro _ _ h; cases h) rfl rfl (by decide)) ?_
      refine Dr.read 13 _ 24 _ rfl rfl rfl rfl rfl (RV.off (by intro _ _ h; cases h) rfl rfl (by decide)) ?_
      refine Dr.read 14 _ 25 _ rfl rfl rfl rfl rfl (RV.off (by intro _ _ h; cases h) rfl rfl (by decide)) ?_
      refine Dr.read 15 _ 26 _ rfl rfl rfl rfl rfl (RV.off (by intro _ _ h; cases h) rfl rfl (by decide)) ?_
      refine Dr.read 16 _ 27 _ rfl rfl rfl rfl rfl (RV.off (by intro _ _ h; cases h) rfl rfl (by decide)) ?_
      refine Dr.read 17 _ 28 _ rfl rfl rfl rfl rfl (RV.off (by intro _ _ h; cases h) rfl rfl (by decide)) ?_
      refine Dr.read 18 _ 29 _ rfl rfl rfl rfl rfl (RV.of (by intro _ _ h; cases h) (.inr ⟨_, _, _, rfl, rfl, rfl⟩) (fun _ xd => HV.pickT rfl rfl)) ?_
      refine Dr.read 19 _ 30 _ rfl rfl rfl rfl rfl (RV.of (by intro _ _ h; cases h) (.inl rfl) (fun _ xd => HV.pickT rfl rfl)) ?_
      refine Dr.fin rfl ?_
      refine nrm_and ?_
      refine AW.cond rfl (fun _ => ?_) (fun h => by cases h)
      refine AW.reg ?_
      refine AL.val rfl (.inl rfl) (HV.as rfl) ?_
      refine AL.nil ?_
      refine nrm_and ?_
      refine AW.rs ?_
      refine AL.val rfl (.inl rfl) (HV.mv rfl) ?_
      refine AL.val rfl (.inl rfl) (HV.as rfl) ?_
      refine AL.nx ?_
      refine AW.ret ?_
      refine post_one rfl rfl ?_ (.inr rfl)
      exact ⟨congrArg (Value.int .i64) (withC_2 (by assumption) (fun q => by have q2 := q.2; first | omega | exact c34 ⟨(askC_z (by assumption : askC n o p k l g = 0)).1.2.1.1, q.1⟩)).symm, X29⟩
    · -- false
      have c34_ : decide ((h.length : Int) ≠ ((idxG o g).length : Int)) = false := decide_eq_false c34
      rw [c34_]
      refine Dr.read 12 _ 23 _ rfl rfl rfl rfl rfl (RV.of (by intro _ _ h; cases h) (.inr ⟨_, _, _, rfl, rfl, rfl⟩) (fun _ xd => HV.fa fl31_2 rfl)) ?_
      refine Dr.read 13 _ 24 _ rfl rfl rfl rfl rfl (RV.of (by intro _ _ h; cases h) (.inr ⟨_, _, _, rfl, rfl, rfl⟩) (fun _ xd => HV.fa fl29_0 rfl)) ?_
      refine Dr.read 14 _ 25 _ rfl rfl rfl rfl rfl (RV.of (by intro _ _ h; cases h) (.inr ⟨_, _, _, rfl, rfl, rfl⟩) (fun _ xd => HV.ld rfl va2 (rdc_ext xd (at_cell_add (j := 2) hb31 rfl)))) ?_
      refine Dr.read 15 _ 26 _ rfl rfl rfl rfl rfl (RV.of (by intro _ _ h; cases h) (.inr ⟨_, _, _, rfl, rfl, rfl⟩) (fun _ xd => HV.mv rfl)) ?_
      refine Dr.eff 16 _ _ rfl (by intro d h; cases h; exact ⟨rfl, rfl⟩) rfl rfl rfl (EC.of (by intro _ _ h; cases h) (.inr ⟨_, _, _, rfl, rfl, rfl⟩) (WV.call fn86 rfl (areEl_ok p (hrh.ext X29)))) (fun v H' h => .inl (h.2)) ?_
      rintro _ H36 ⟨rfl, hx37⟩
      have X38 := Ext.trans X29 hx37
      have X39 := Ext.trans X30 hx37
      have X40 := Ext.trans X32 hx37
      have hb41 := hb31.ext hx37
      refine Dr.read 17 _ 28 _ rfl rfl rfl rfl rfl (RV.of (by intro _ _ h; cases h) (.inr ⟨_, _, _, rfl, rfl, rfl⟩) (fun _ xd => HV.not rfl)) ?_
      refine Dr.read 18 _ 29 _ rfl rfl rfl rfl rfl (RV.of (by intro _ _ h; cases h) (.inr ⟨_, _, _, rfl, rfl, rfl⟩) (fun _ xd => HV.pickF rfl rfl)) ?_
      refine Dr.read 19 _ 30 _ rfl rfl rfl rfl rfl (RV.of (by intro _ _ h; cases h) (.inl rfl) (fun _ xd => HV.pickT rfl rfl)) ?_
      refine Dr.fin rfl ?_
      refine nrm_and ?_
      refine AW.ifn rfl (fun c42 => ?_) (fun c42 => ?_)
      · -- then
        refine AW.reg ?_
        refine AL.val rfl (.inl rfl) (HV.as rfl) ?_
        refine AL.nil ?_
        refine nrm_and ?_
        refine AW.rs ?_
        refine AL.val rfl (.inl rfl) (HV.mv rfl) ?_
        refine AL.val rfl (.inl rfl) (HV.as rfl) ?_
        refine AL.nx ?_
        refine AW.ret ?_
        refine post_one rfl rfl ?_ (.inr rfl)
        exact ⟨congrArg (Value.int .i64) (withC_2 (by assumption) (fun q => by have q2 := q.2; first | omega | exact c42 ⟨(askC_z (by assumption : askC n o p k l g = 0)).1.2.1.1, q.1⟩)).symm, X38⟩
      · -- else
        refine AW.skip ?_
        refine nrm_and ?_
        refine AW.rs ?_
        refine AL.val rfl (.inl rfl) (HV.mv rfl) ?_
        refine AL.val rfl (.inl rfl) (HV.as rfl) ?_
        refine AL.nx ?_
        refine AW.ret ?_
        refine post_one rfl rfl ?_ (.inr rfl)
        exact ⟨congrArg (Value.int .i64) (by first | rw [withC_n (by assumption)] | rw [withC_0 (by assumption) ⟨(by assumption : primeI p ∧ elems p h).2, by omega⟩]), X38⟩
  · -- false
    have c18_ : decide ((askC n o p k l g) = 0) = false := decide_eq_false c18
    rw [c18_]
    refine Dr.read 3 _ 14 _ rfl rfl rfl rfl rfl (RV.off (by intro _ _ h; cases h) rfl rfl (by decide)) ?_
    refine Dr.read 4 _ 15 _ rfl rfl rfl rfl rfl (RV.off (by intro _ _ h; cases h) rfl rfl (by decide)) ?_
    refine Dr.read 5 _ 16 _ rfl rfl rfl rfl rfl (RV.off (by intro _ _ h; cases h) rfl rfl (by decide)) ?_
    refine Dr.read 6 _ 17 _ rfl rfl rfl rfl rfl (RV.off (by intro _ _ h; cases h) rfl rfl (by decide)) ?_
    refine Dr.read 7 _ 18 _ rfl rfl rfl rfl rfl (RV.off (by intro _ _ h; cases h) rfl rfl (by decide)) ?_
    refine Dr.read 8 _ 19 _ rfl rfl rfl rfl rfl (RV.off (by intro _ _ h; cases h) rfl rfl (by decide)) ?_
    refine Dr.read 9 _ 20 _ rfl rfl rfl rfl rfl (RV.off (by intro _ _ h; cases h) rfl rfl (by decide)) ?_
    refine Dr.read 10 _ 21 _ rfl rfl rfl rfl rfl (RV.off (by intro _ _ h; cases h) rfl rfl (by decide)) ?_
    refine Dr.read 11 _ 22 _ rfl rfl rfl rfl rfl (RV.off (by intro _ _ h; cases h) rfl rfl (by decide)) ?_
    refine Dr.read 12 _ 23 _ rfl rfl rfl rfl rfl (RV.offu (by intro _ _ h; cases h) rfl rfl) ?_
    refine Dr.read 13 _ 24 _ rfl rfl rfl rfl rfl (RV.offu (by intro _ _ h; cases h) rfl rfl) ?_
    refine Dr.read 14 _ 25 _ rfl rfl rfl rfl rfl (RV.offu (by intro _ _ h; cases h) rfl rfl) ?_
    refine Dr.read 15 _ 26 _ rfl rfl rfl rfl rfl (RV.offu (by intro _ _ h; cases h) rfl rfl) ?_
    refine Dr.read 16 _ 27 _ rfl rfl rfl rfl rfl (RV.offu (by intro _ _ h; cases h) rfl rfl) ?_
    refine Dr.read 17 _ 28 _ rfl rfl rfl rfl rfl (RV.offu (by intro _ _ h; cases h) rfl rfl) ?_
    refine Dr.read 18 _ 29 _ rfl rfl rfl rfl rfl (RV.off (by intro _ _ h; cases h) rfl rfl (by decide)) ?_
    refine Dr.read 19 _ 30 _ rfl rfl rfl rfl rfl (RV.of (by intro _ _ h; cases h) (.inl rfl) (fun _ xd => HV.pickF rfl rfl)) ?_
    refine Dr.fin rfl ?_
    refine nrm_and ?_
    refine AW.cond rfl (fun h => by cases h) (fun _ => ?_)
    refine AW.skip ?_
    refine nrm_and ?_
    refine AW.rs ?_
    refine AL.val rfl (.inl rfl) (HV.mv rfl) ?_
    refine AL.val rfl (.inl rfl) (HV.as rfl) ?_
    refine AL.nx ?_
    refine AW.ret ?_
    refine post_one rfl rfl ?_ (.inr rfl)
    exact ⟨congrArg (Value.int .i64) (by first | rw [withC_n (by assumption)] | rw [withC_0 (by assumption) ⟨(by assumption : primeI p ∧ elems p h).2, by omega⟩]), X15⟩

end Go.Proofs.Yticobjbjejpomaa.VC

