/- Walks. -/
import Derived.Test.YticobjbjejpomaaZF25
set_option linter.unusedVariables false
set_option linter.unusedSimpArgs false
namespace Go.Proofs.Yticobjbjejpomaa.VC
open Go Go.RowKit
theorem bt_nat (k : IntKind) (hk : k = .i64 ∨ k = .u64) {a b : Nat} (ha : a < 128) (hb : b < 128) : bt .or k a b = ((a ||| b : Nat) : Int) ∧ bt .and k a b = ((a &&& b : Nat) : Int) := by
  have h1 : a ||| b < 128 := Nat.or_lt_two_pow (n := 7) ha hb
  have h2 : a &&& b < 128 := Nat.lt_of_le_of_lt Nat.and_le_left ha
  have w1 : ∀ (c : Nat), c < 128 → k.wrap (c : Int) = c := fun c hc => by
    rcases hk with rfl | rfl
    · have h1 : (c : Int) % 18446744073709551616 = c := by omega
      simp [IntKind.wrap, IntKind.signed, IntKind.bits, h1]; omega
    · have h1 : (c : Int) % 18446744073709551616 = c := by omega
      simp [IntKind.wrap, IntKind.signed, IntKind.bits, h1]
  have e : k.bits = 64 := by rcases hk with rfl | rfl <;> rfl
  have f : ∀ c : Nat, c < 128 → (BitVec.ofInt k.bits (c : Int)).toNat = c := fun c hc => by
    rw [e, BitVec.toNat_ofInt]; omega
  constructor
  · simp only [bt, BitVec.toNat_or]
    rw [f a ha, f b hb, w1 _ h1]
  · simp only [bt, BitVec.toNat_and]
    rw [f a ha, f b hb, w1 _ h2]
def bitN (l : List Int) : Nat := l.foldl (fun a h => a ||| 2 ^ h.toNat) 0
theorem fold_nat {n : Int} (hn : 1 ≤ n ∧ n ≤ 7) : ∀ (l : List Int) (a : Nat), a < 2 ^ n.toNat → (∀ x ∈ l, 0 ≤ x ∧ x ≤ n - 1) →
    l.foldl (fun a h => bt .or .i64 a (IntKind.i64.wrap (1 * 2 ^ min (IntKind.u64.wrap h).toNat IntKind.i64.bits))) (a : Int) = ((l.foldl (fun a h => a ||| 2 ^ h.toNat) a : Nat) : Int) ∧
    l.foldl (fun a h => bt .or .u64 a (IntKind.u64.wrap (1 * 2 ^ min h.toNat IntKind.u64.bits))) (a : Int) = ((l.foldl (fun a h => a ||| 2 ^ h.toNat) a : Nat) : Int) ∧
    l.foldl (fun a h => a ||| 2 ^ h.toNat) a < 2 ^ n.toNat
  | [], a, ha, _ => ⟨rfl, rfl, ha⟩
  | x :: l, a, ha, h => by
    obtain ⟨hx, hl⟩ := List.forall_mem_cons.1 h
    have hx7 : x = 0 ∨ x = 1 ∨ x = 2 ∨ x = 3 ∨ x = 4 ∨ x = 5 ∨ x = 6 := by omega
    have e1 : IntKind.i64.wrap (1 * 2 ^ min (IntKind.u64.wrap x).toNat IntKind.i64.bits) = ((2 ^ x.toNat : Nat) : Int) := by
      rcases hx7 with rfl | rfl | rfl | rfl | rfl | rfl | rfl <;> rfl
    have e2 : IntKind.u64.wrap (1 * 2 ^ min x.toNat IntKind.u64.bits) = ((2 ^ x.toNat : Nat) : Int) := by
      rcases hx7 with rfl | rfl | rfl | rfl | rfl | rfl | rfl <;> rfl
    have p7 : 2 ^ n.toNat ≤ 128 := Nat.pow_le_pow_right (n := 2) (by decide) (show n.toNat ≤ 7 by omega)
    have px : 2 ^ x.toNat < 2 ^ n.toNat := Nat.pow_lt_pow_right (by decide) (by omega)
    have ha' : a ||| 2 ^ x.toNat < 2 ^ n.toNat := Nat.or_lt_two_pow ha px
    simp only [List.foldl_cons]
    rw [e1, e2, (bt_nat .i64 (.inl rfl) (by omega) (by omega)).1, (bt_nat .u64 (.inr rfl) (by omega) (by omega)).1]
    exact fold_nat hn l _ ha' hl
theorem ris_in {n : Int} {l : List Int} (h : Ris 0 (n - 1) l) : ∀ x ∈ l, 0 ≤ x ∧ x ≤ n - 1 := fun x hx => by
  obtain ⟨j, hj, rfl⟩ := List.getElem_of_mem hx
  have q := h j hj
  have e : l.getD j 0 = l[j] := by simp [hj]
  unfold RisAt at q
  rw [e] at q
  exact ⟨q.1, q.2.1⟩
theorem bits_nat {n : Int} {l : List Int} (hn : 1 ≤ n ∧ n ≤ 7) (h : Ris 0 (n - 1) l) : bitsI l = bitN l ∧ crowd l = bitN l ∧ bitN l < 2 ^ n.toNat :=
  fold_nat hn l 0 (Nat.two_pow_pos _) (ris_in h)
theorem pow7 {n : Int} (hn : 1 ≤ n ∧ n ≤ 7) : 2 ^ n.toNat ≤ 128 := Nat.pow_le_pow_right (n := 2) (by decide) (show n.toNat ≤ 7 by omega)
theorem inI_iff {n : Int} {x y : List Int} (hn : 1 ≤ n ∧ n ≤ 7) (hx : Ris 0 (n - 1) x) (hy : Ris 0 (n - 1) y) : inI x y ↔ bitN x &&& bitN y = bitN x := by
  obtain ⟨a1, _, a3⟩ := bits_nat hn hx
  obtain ⟨b1, _, b3⟩ := bits_nat hn hy
  have p7 := pow7 hn
  unfold inI
  rw [a1, b1, (bt_nat .i64 (.inl rfl) (by omega) (by omega)).2]
  omega
theorem inC_iff {n : Int} {x y : List Int} (hn : 1 ≤ n ∧ n ≤ 7) (hx : Ris 0 (n - 1) x) (hy : Ris 0 (n - 1) y) : inC x y ↔ bitN x &&& bitN y = bitN y := by
  obtain ⟨_, a1, a3⟩ := bits_nat hn hx
  obtain ⟨_, b1, b3⟩ := bits_nat hn hy
  have p7 := pow7 hn
  unfold inC
  rw [a1, b1, (bt_nat .u64 (.inr rfl) (by omega) (by omega)).2]
  omega
theorem inCI {n : Int} {x y : List Int} (hn : 1 ≤ n ∧ n ≤ 7) (hx : Ris 0 (n - 1) x) (hy : Ris 0 (n - 1) y) : inC x y ↔ inI y x := by
  rw [inC_iff hn hx hy, inI_iff hn hy hx, Nat.and_comm]
theorem ok_iff (n : Int) (l : List (List Int)) : okI n l ↔ okC n l := by
  constructor
  · rintro ⟨hn, h1, h2⟩
    refine ⟨hn, fun i hi => ⟨h1 i hi, fun j hj => ⟨?_, ?_⟩⟩⟩
    · rw [inCI hn (h1 j (by omega)).1 (h1 i hi).1]; exact h2 i hi j (by omega) (by omega)
    · rw [inCI hn (h1 i hi).1 (h1 j (by omega)).1]; exact h2 j (by omega) i hi (by omega)
  · rintro ⟨hn, h⟩
    refine ⟨hn, fun i hi => (h i hi).1, fun i hi j hj hne => ?_⟩
    rw [← inCI hn (h j hj).1.1 (h i hi).1.1]
    rcases Nat.lt_or_ge i j with g | g
    · exact ((h j hj).2 i g).2
    · exact ((h i hi).2 j (by omega)).1
theorem ex_get {g : List Int} {p : Int → Prop} : (∃ i, i < g.length ∧ p (g.getD i 0)) ↔ ∃ x ∈ g, p x := by
  constructor
  · rintro ⟨i, hi, h⟩
    refine ⟨g[i], List.getElem_mem hi, ?_⟩
    simpa [hi] using h
  · rintro ⟨x, hx, h⟩
    obtain ⟨i, hi, rfl⟩ := List.getElem_of_mem hx
    exact ⟨i, hi, by simpa [hi] using h⟩
theorem fold_bitI {t : Nat} : ∀ (g : List Int) (a : Nat), (g.foldl (fun a h => a ||| 2 ^ h.toNat) a).testBit t = true ↔ a.testBit t = true ∨ ∃ x ∈ g, x.toNat = t
  | [], a => by simp
  | y :: g, a => by
    rw [List.foldl_cons, fold_bitI g, Nat.testBit_or, Bool.or_eq_true, Nat.testBit_two_pow, decide_eq_true_iff]
    simp only [List.mem_cons, exists_eq_or_imp, or_assoc]
theorem bitN_bit {g : List Int} {t : Nat} : (bitN g).testBit t = true ↔ ∃ i, i < g.length ∧ (g.getD i 0).toNat = t := by
  unfold bitN
  rw [fold_bitI, ex_get (p := fun x => x.toNat = t)]
  simp
theorem ris_get {n : Int} {g : List Int} (h : Ris 0 (n - 1) g) : ∀ j : Nat, j < g.length → (j : Int) ≤ g.getD j 0
  | 0, hj => (h 0 hj).1
  | j + 1, hj => by
    have h1 := ris_get h j (by omega)
    have h2 := (h (j + 1) hj).2.2 (by omega)
    rw [Nat.add_sub_cancel] at h2
    omega
theorem ris_len {n : Int} {g : List Int} (hn : 1 ≤ n ∧ n ≤ 7) (h : Ris 0 (n - 1) g) : (g.length : Int) ≤ n := by
  rcases Nat.eq_zero_or_pos g.length with h0 | h0
  · omega
  · have h1 := ris_get h (g.length - 1) (by omega)
    have h2 := (h (g.length - 1) (by omega)).2.1
    omega
theorem mem_bit {n : Int} {g : List Int} (h : Ris 0 (n - 1) g) {t : Nat} : (bitN g).testBit t = true ↔ (t : Int) ∈ g := by
  rw [bitN_bit]
  constructor
  · rintro ⟨i, hi, e⟩
    have h0 := (h i hi).1
    have e2 : g.getD i 0 = g[i] := by simp [hi]
    rw [e2] at e h0
    have : (t : Int) = g[i] := by omega
    rw [this]; exact List.getElem_mem hi
  · intro hm
    obtain ⟨i, hi, e⟩ := List.getElem_of_mem hm
    exact ⟨i, hi, by simp [hi, e]⟩
theorem ok_ris {n : Int} {l : List (List Int)} (h : okC n l) : ∀ x ∈ l, Ris 0 (n - 1) x := fun x hx => by
  obtain ⟨i, hi, rfl⟩ := List.getElem_of_mem hx
  have := (h.2 i hi).1.1
  simpa [hi] using this
theorem ok_anti {n : Int} {l : List (List Int)} (h : okC n l) {x y : List Int} (hx : x ∈ l) (hy : y ∈ l) (hs : ∀ t : Nat, (t : Int) ∈ x → (t : Int) ∈ y) : x = y := by
  obtain ⟨i, hi, rfl⟩ := List.getElem_of_mem hx
  obtain ⟨j, hj, rfl⟩ := List.getElem_of_mem hy
  by_cases e : i = j
  · subst e; rfl
  · exfalso
    have rx := ok_ris h l[i] hx
    have ry := ok_ris h l[j] hy
    have hI := ((ok_iff n l).2 h).2.2 i hi j hj e
    apply hI
    rw [show l.getD i [] = l[i] by simp [hi], show l.getD j [] = l[j] by simp [hj]]
    rw [inI_iff h.1 rx ry]
    refine Nat.eq_of_testBit_eq fun t => ?_
    rw [Nat.testBit_and]
    cases hb : (bitN l[i]).testBit t
    · rfl
    · rw [(mem_bit ry).2 (hs t ((mem_bit rx).1 hb))]; rfl
/-! ### The gate of a family -/
def kM {α β : Type} (f : α → β) (K : Kd β) : Kd α where
  sz := K.sz
  rd := fun W H ok x cs => K.rd W H ok (f x) cs
  len := fun h => K.len h
  one := fun h => K.one h
  but := fun h1 h2 h3 h4 => K.but h1 h2 h3 h4
  okk := fun h1 h2 => K.okk h1 h2
def kLf : Kd Int where
  sz := 3
  rd := fun _ _ _ x cs => cs = [.int .i64 x, .int .i64 0, .slice none 0 0]
  len := fun h => by rw [h]; rfl
  one := fun h => by rw [h]; exact one_cons rfl (one_cons rfl (one_cons rfl one_nil))
  but := fun _ _ _ h => h
  okk := fun _ h => h
theorem kLf_flat : Flat kLf := fun _ _ _ _ _ _ _ h => h
def lf (h : Int) : GT 1 := (h, 0, [])
def nd (g : List Int) : GT 2 := (-1, (g.length : Int), g.map lf)
def famG (l : List (List Int)) : GT 3 := (-1, 1, l.map nd)
def kNd : Kd (List Int) := kM nd (kG 2)
section
variable {W : World} {H : Hp}
theorem RdK.map {α β : Type} {f : α → β} {K : Kd α} {K' : Kd β} {ok : Nat → Prop} {v : Value} {l : List α} (hs : K.sz = K'.sz) (hf : ∀ x cs, K.rd W H ok x cs → K'.rd W H ok (f x) cs) (h : RdK K W H ok v l) : RdK K' W H ok v (l.map f) := by
  obtain ⟨css, h1, h2⟩ := h
  refine ⟨css, ⟨by rw [List.length_map]; exact h1.1, fun i x cs q1 q2 => ?_⟩, by rw [List.length_map, ← hs]; exact h2⟩
  rw [List.getElem?_map] at q1
  cases e : l[i]? with
  | none => rw [e] at q1; cases q1
  | some y =>
    rw [e] at q1
    cases q1
    exact hf _ _ (h1.2 i y cs e q2)
theorem lf_rd {ok : Nat → Prop} {x : Int} {cs : List Value} (h : kLf.rd W H ok x cs) : (kG 1).rd W H ok (lf x) cs := by
  have e : cs = [.int .i64 x, .int .i64 0, .slice none 0 0] := h
  rw [e]
  exact kG_succ.2 ⟨_, rfl, (OwnK.nil (K := kG 0) (e := 0) ok).rd⟩
theorem nd_rd {ok : Nat → Prop} {g : List Int} {v : Value} (h : RdK kLf W H ok v g) : kNd.rd W H ok g [.int .i64 (-1), .int .i64 (g.length : Int), v] :=
  show (kG 2).rd W H ok (nd g) _ from kG_succ.2 ⟨_, rfl, h.map (by rw [kG_sz]; rfl) (fun _ _ q => lf_rd q)⟩
theorem fam_rd {ok : Nat → Prop} {l : List (List Int)} {v : Value} (h : RdK kNd W H ok v l) : (kG 3).rd W H ok (famG l) [.int .i64 (-1), .int .i64 1, v] :=
  kG_succ.2 ⟨_, rfl, h.map (K' := kG 2) rfl (fun _ _ q => q)⟩
theorem tk1 {α : Type} {l : List α} {i : Nat} {z : α} (h : l[i]? = some z) : l.take (i + 1) = l.take i ++ [z] := by
  obtain ⟨hi, rfl⟩ := List.getElem?_eq_some_iff.1 h
  exact List.take_succ_eq_append_getElem hi
end
theorem pig : ∀ (N : Nat) (l : List Nat), l.Nodup → (∀ x ∈ l, x < N) → l.length ≤ N
  | 0, l, _, h => by
    cases l with
    | nil => exact Nat.le_refl _
    | cons a t => exact absurd (h a List.mem_cons_self) (Nat.not_lt_zero _)
  | N + 1, l, hd, h => by
    have h1 := pig N (l.erase N) (hd.erase N) (fun x hx => by
      have a := h x (List.mem_of_mem_erase hx)
      have b := (List.Nodup.mem_erase_iff hd).1 hx
      omega)
    by_cases hm : N ∈ l
    · have := List.length_erase_of_mem hm; omega
    · rw [List.erase_of_not_mem hm] at h1; omega
theorem ok_le {n : Int} {l : List (List Int)} (h : okC n l) : l.length ≤ 128 := by
  have hn : (l.map bitN).Nodup := by
    refine List.pairwise_iff_getElem.2 fun i j hi hj hij => ?_
    rw [List.length_map] at hi hj
    rw [List.getElem_map, List.getElem_map]
    intro e
    have hI := ((ok_iff n l).2 h).2.2 i hi j hj (by omega)
    have rx := ok_ris h l[i] (List.getElem_mem hi)
    have ry := ok_ris h l[j] (List.getElem_mem hj)
    apply hI
    rw [show l.getD i [] = l[i] by simp [hi], show l.getD j [] = l[j] by simp [hj], inI_iff h.1 rx ry, e, Nat.and_self]
  have h2 := pig 128 _ hn (fun x hx => by
    obtain ⟨g, hg, rfl⟩ := List.mem_map.1 hx
    have := (bits_nat h.1 (ok_ris h g hg)).2.2
    have := pow7 h.1
    omega)
  rwa [List.length_map] at h2
theorem szL_lf : ∀ g : List Int, szL 1 (g.map lf) = g.length
  | [] => rfl
  | a :: g => by
    have := szL_lf g
    show szG 1 (lf a) + szL 1 (g.map lf) = _
    rw [this, List.length_cons]
    show 1 + 0 + g.length = _
    omega
theorem szL_nd {m : Nat} : ∀ l : List (List Int), (∀ g ∈ l, g.length ≤ m) → szL 2 (l.map nd) ≤ l.length * (m + 1)
  | [], _ => Nat.zero_le _
  | g :: l, h => by
    have h1 := szL_nd l (fun x hx => h x (List.mem_cons_of_mem _ hx))
    have h2 := h g List.mem_cons_self
    have e : szG 2 (nd g) = 1 + g.length := by show 1 + szL 1 (g.map lf) = _; rw [szL_lf]
    show szG 2 (nd g) + szL 2 (l.map nd) ≤ _
    rw [e, List.length_cons, Nat.succ_mul]
    omega
theorem fam_sz {n : Int} {l : List (List Int)} (h : okC n l) : szG 3 (famG l) ≤ 2000000 := by
  have h1 := ok_le h
  have h2 := szL_nd l (m := 7) (fun g hg => by have := ris_len h.1 (ok_ris h g hg); have := h.1; omega)
  show 1 + szL 2 (l.map nd) ≤ _
  omega
noncomputable def gfC (n : Int) (l : List (List Int)) : Int := if okC n l then if l.getD 0 [] = [] then 4 else if vG n 3 (famG l) then 0 else 3 else 1
theorem gf_1 {n : Int} {l : List (List Int)} (h : ¬ okC n l) : gfC n l = 1 := if_neg h
theorem gf_4 {n : Int} {l : List (List Int)} (h : okC n l) (h2 : l.getD 0 [] = []) : gfC n l = 4 := by unfold gfC; rw [if_pos h, if_pos h2]
theorem gf_g {n : Int} {l : List (List Int)} (h : okC n l) (h2 : ¬ l.getD 0 [] = []) : gfC n l = if vG n 3 (famG l) then 0 else 3 := by unfold gfC; rw [if_pos h, if_neg h2]
theorem gf_e {n : Int} {l : List (List Int)} (h : okC n l) {i : Nat} {g : List Int} (hi : l[i]? = some g) (hg : g = []) : gfC n l = 4 := by
  subst hg
  obtain ⟨hl, e⟩ := List.getElem?_eq_some_iff.1 hi
  have h0 : 0 < l.length := by omega
  refine gf_4 h ?_
  rw [show l.getD 0 [] = l[0] by simp [h0]]
  exact (ok_anti h (List.mem_of_getElem? hi) (List.getElem_mem h0) (fun t ht => by cases ht)).symm
theorem gf_ok {n : Int} {l : List (List Int)} (h : gfC n l = 0) : vG n 3 (famG l) := by
  unfold gfC at h
  split at h
  · split at h
    · omega
    · split at h
      · assumption
      · omega
  · omega
noncomputable def sfC (n p : Int) (l : List (List Int)) : Int := if primeI p then if gfC n l = 0 then lgC n p 3 (famG l) else gfC n l else 2
theorem sf_2 {n p : Int} {l : List (List Int)} (h : ¬ primeI p) : sfC n p l = 2 := if_neg h
theorem sf_g {n p : Int} {l : List (List Int)} (h : primeI p) (h2 : ¬ gfC n l = 0) : sfC n p l = gfC n l := by unfold sfC; rw [if_pos h, if_neg h2]
theorem sf_l {n p : Int} {l : List (List Int)} (h : primeI p) (h2 : gfC n l = 0) : sfC n p l = lgC n p 3 (famG l) := by unfold sfC; rw [if_pos h, if_pos h2]
theorem sf_s {n p : Int} {l : List (List Int)} (h : primeI p) (h2 : gfC n l = 0) : sfC n p l = sgC n p 3 (famG l) := by
  have hv := gf_ok h2
  rw [sf_l h h2, sgC_l ⟨h, hv.1⟩ hv]
theorem sf_ok {n p : Int} {l : List (List Int)} (h : sfC n p l = 0) : okSc n (gsO p 3 (famG l)) p (gsK p 3 (famG l) : Int) (gsL p 3 (famG l)) := by
  unfold sfC at h
  split at h
  · split at h
    · exact lgC_ok h
    · omega
  · omega
theorem sf_len {n p : Int} {l : List (List Int)} : (zL (sfC n p l) (gsO p 3 (famG l))).length ≤ 1048576 ∧ (zL (sfC n p l) (gsL p 3 (famG l))).length ≤ 1048576 ∧ ∀ x ∈ zL (sfC n p l) (gsL p 3 (famG l)), x.length ≤ 1048576 := sc_len (fun h => sf_ok h)
variable {W : World} {H : Hp}

set_option maxRecDepth 100000 in
theorem validFam_ok {v : Value} {l : List (List Int)} {ok : Nat → Prop} (n : Int) (hr : RdK (kR kI) W H ok v l) : ACalls Try.prog W 166 #[.agg #[.int .i64 n, v]] H (fun r H' => r = .bool (decide (okC n l)) ∧ Ext H H') := by
  refine ACalls.of (args := [.agg #[.int .i64 n, v]]) Try.func166 rfl rfl ?_
  have X0 := Ext.refl H
  have hm1 := hr.max
  refine AW.rs ?_
  refine AL.w rfl (.inl rfl) (WV.bx rfl rfl) ?_
  rintro _ H3 ⟨b2, rfl, hx4, hn5, hb6⟩
  have o7 := Nat.le_trans X0.bd hn5
  have X8 := Ext.trans X0 hx4
  have X9 := Ext.refl H3
  refine AL.val rfl (.inl rfl) (HV.as rfl) ?_
  refine AL.nx ?_
  refine AW.seq ?_
  refine AW.rs ?_
  refine AL.val rfl (.inl rfl) (HV.fa fl70_0 rfl) ?_
  refine AL.val rfl (.inl rfl) (HV.ld rfl va2 (at_cell hb6 rfl)) ?_
  refine AL.w rfl (.inl rfl) (WV.call fn104 rfl (within_ok (W := W) n 1 7)) ?_
  rintro _ H10 ⟨rfl, hx11⟩
  have X12 := Ext.trans X8 hx11
  have X13 := Ext.trans X9 hx11
  have hb14 := hb6.ext hx11
  refine AL.val rfl (.inl rfl) (HV.not rfl) ?_
  refine AL.nx ?_
  refine AW.ifn rfl (fun c15 => ?_) (fun c15 => ?_)
  · -- then
    refine AW.rs ?_
    refine AL.val rfl (.inl rfl) (HV.as rfl) ?_
    refine AL.nx ?_
    refine AW.ret ?_
    refine ret_and ?_
    refine post_one rfl rfl ?_ (.inr rfl)
    exact ⟨dec_f (fun h => c15 h.1), X12⟩
  · -- else
    refine AW.skip ?_
    refine nrm_and ?_
    refine AW.seq ?_
    refine AW.rs ?_
    refine AL.val rfl (.inl rfl) (HV.fa fl70_1 rfl) ?_
    refine AL.val rfl (.inl rfl) (HV.ld rfl va23 (at_cell_add (j := 1) hb14 rfl)) ?_
    refine AL.val rfl (.inl rfl) (HV.len Try.underlying23 rfl hr.isSl) ?_
    refine AL.val rfl (.inl rfl) (HV.mv rfl) ?_
    refine AL.nx ?_
    refine AW.block ?_
    have hn : 1 ≤ n ∧ n ≤ 7 := by omega
    have X16 := Ext.refl H10
    refine AW.loop (σ := Nat) (fun i => [(1, .pointer (some ⟨b2, 0, none⟩)), (14, v), (15, .int .i64 (l.length : Int)), (16, .int .i64 (i : Int))]) (fun i H' => Ext H H' ∧ Ext H3 H' ∧ Ext H10 H' ∧ At W H' b2 ⟨70, [.int .i64 n, v], 2⟩ ∧ i ≤ l.length ∧ (∀ k, k < i → RowAt n l k ∧ ∀ j, j < k → ¬ inC (l.getD j []) (l.getD k []) ∧ ¬ inC (l.getD k []) (l.getD j [])) ∧ True) (fun i => l.length - i) 0 ⟨X12, X13, X16, hb14, Nat.zero_le _, fun j hj => absurd hj (Nat.not_lt_zero _), trivial⟩ ⟨rfl, rfl, rfl, rfl, trivial⟩ ?_
    rintro i H17 ⟨X18, X19, X20, hb21, hi, he, _⟩
    refine AW.rs ?_
    refine AL.val rfl (.inl rfl) (HV.lti rfl rfl) ?_
    refine AL.nx ?_
    refine AW.seq ?_
    refine AW.ifd rfl (fun c22 => ?_) (fun c22 => ?_)
    · -- then
      refine AW.skip ?_
      refine nrm_and ?_
      refine AW.seq ?_
      refine AW.block ?_
      refine AW.rs ?_
      refine AL.val rfl (.inl rfl) (HV.mv rfl) ?_
      obtain ⟨p23, z24, cs25, hz26, hK27, hC28, hP29⟩ := RdK.ix (q := (i : Int)) hr sl23 (by omega) (by omega)
      obtain ⟨v30, rfl, hr31⟩ := hK27
      have hm32 := hr31.max
      refine AL.val rfl (.inl rfl) (hP29 rfl rfl) ?_
      refine AL.val rfl (.inl rfl) (HV.ld rfl va22 (cells_first (hC28.ext X18) rfl)) ?_
      refine AL.val rfl (.inl rfl) (HV.as rfl) ?_
      refine AL.val rfl (.inl rfl) (HV.as rfl) ?_
      refine AL.nx ?_
      refine AW.seq ?_
      refine AW.rs ?_
      refine AL.val rfl (.inl rfl) (HV.fa fl70_0 rfl) ?_
      refine AL.val rfl (.inl rfl) (HV.ld rfl va2 (at_cell hb21 rfl)) ?_
      refine AL.val rfl (.inl rfl) (HV.mv rfl) ?_
      refine AL.w rfl (.inl rfl) (WV.call fn137 rfl (isGroup_ok n (hr31.ext X18) (by omega))) ?_
      rintro _ H33 ⟨rfl, hx34⟩
      have X35 := Ext.trans X18 hx34
      have X36 := Ext.trans X19 hx34
      have X37 := Ext.trans X20 hx34
      have hb38 := hb21.ext hx34
      refine AL.val rfl (.inl rfl) (HV.not rfl) ?_
      refine AL.val rfl (.inl rfl) (HV.mv rfl) ?_
      by_cases c39 : Ris 0 (n - 1) z24
      · -- false
        have c39_ : (!decide (Ris 0 (n - 1) z24)) = false := by rw [decide_eq_true c39]; rfl
        rw [c39_]
        refine AL.val rfl (.inr ⟨_, _, _, rfl, rfl, rfl⟩) (HV.mv rfl) ?_
        refine AL.val rfl (.inr ⟨_, _, _, rfl, rfl, rfl⟩) (HV.gti rfl rfl) ?_
        refine AL.val rfl (.inr ⟨_, _, _, rfl, rfl, rfl⟩) (HV.mv rfl) ?_
        by_cases c40 : (i : Int) > 0
        · -- true
          have c40_ : decide ((i : Int) > 0) = true := decide_eq_true c40
          rw [c40_]
          refine AL.val rfl (.inr ⟨_, _, _, rfl, rfl, rfl⟩) (HV.fa fl70_1 rfl) ?_
          refine AL.val rfl (.inr ⟨_, _, _, rfl, rfl, rfl⟩) (HV.ld rfl va23 (at_cell_add (j := 1) hb38 rfl)) ?_
          refine AL.val rfl (.inr ⟨_, _, _, rfl, rfl, rfl⟩) (HV.mv rfl) ?_
          refine AL.val rfl (.inr ⟨_, _, _, rfl, rfl, rfl⟩) (HV.sub rfl rfl (by omega)) ?_
          obtain ⟨p41, z42, cs43, hz44, hK45, hC46, hP47⟩ := RdK.ix (q := (i : Int) - 1) hr sl23 (by omega) (by omega)
          obtain ⟨v48, rfl, hr49⟩ := hK45
          have hm50 := hr49.max
          refine AL.val rfl (.inr ⟨_, _, _, rfl, rfl, rfl⟩) (hP47 rfl rfl) ?_
          refine AL.val rfl (.inr ⟨_, _, _, rfl, rfl, rfl⟩) (HV.ld rfl va22 (cells_first (hC46.ext X35) rfl)) ?_
          refine AL.val rfl (.inr ⟨_, _, _, rfl, rfl, rfl⟩) (HV.mv rfl) ?_
          refine AL.w rfl (.inr ⟨_, _, _, rfl, rfl, rfl⟩) (WV.call fn202 rfl (lexI_ok (hr49.ext X35) (hr31.ext X35))) ?_
          rintro _ H51 ⟨rfl, hx52⟩
          have X53 := Ext.trans X35 hx52
          have X54 := Ext.trans X36 hx52
          have X55 := Ext.trans X37 hx52
          have hb56 := hb38.ext hx52
          refine AL.val rfl (.inr ⟨_, _, _, rfl, rfl, rfl⟩) (HV.gei rfl rfl) ?_
          refine AL.val rfl (.inr ⟨_, _, _, rfl, rfl, rfl⟩) (HV.pickT rfl rfl) ?_
          refine AL.val rfl (.inl rfl) (HV.pickF rfl rfl) ?_
          refine AL.nx ?_
          refine AW.ifd rfl (fun c57 => ?_) (fun c57 => ?_)
          · -- then
            refine AW.rs ?_
            refine AL.val rfl (.inl rfl) (HV.as rfl) ?_
            refine AL.nx ?_
            refine AW.ret ?_
            refine ret_and (ret_blk (ret_and (ret_and (ret_blk (ret_and ?_)))))
            refine post_one rfl rfl ?_ (.inr rfl)
            exact ⟨dec_f (fun h => by have q := (h.2 i (by omega)).1.2 (by omega); have g35 : l.getD (i - 1) [] = z42 := gd hz44 (by omega); have g20 : l.getD i [] = z24 := gd hz26 (by omega); rw [g35, g20] at q; omega), X53⟩
          · -- else
            refine AW.skip ?_
            refine nrm_and ?_
            refine AW.rs ?_
            refine AL.val rfl (.inl rfl) (HV.fa fl70_1 rfl) ?_
            refine AL.val rfl (.inl rfl) (HV.ld rfl va23 (at_cell_add (j := 1) hb56 rfl)) ?_
            refine AL.val rfl (.inl rfl) (HV.mv rfl) ?_
            have X61 := Ext.refl H51
            obtain ⟨v58, hr59, hP60⟩ := RdK.cutH (q := (i : Int)) (hr.ext X53) sl23 (by omega) (by omega)
            refine AL.val rfl (.inl rfl) (hP60 rfl rfl) ?_
            refine AL.val rfl (.inl rfl) (HV.len Try.underlying23 rfl hr59.isSl) ?_
            refine AL.val rfl (.inl rfl) (HV.mv rfl) ?_
            refine AL.nx ?_
            refine AW.block ?_
            have hrow : RowAt n l i := ⟨by have g4 : l.getD i [] = z24 := gd hz26 (by omega); rw [g4]; assumption, fun h0 => by first | omega | (have g35 : l.getD (i - 1) [] = z42 := gd hz44 (by omega); have g4 : l.getD i [] = z24 := gd hz26 (by omega); rw [g35, g4]; first | assumption | omega)⟩
            have hris := hrow.1
            have g4 : l.getD i [] = z24 := gd hz26 (by omega); rw [g4] at hris
            have hT : (l.take (i : Int).toNat).length = i := by rw [List.length_take]; omega
            refine AW.loop (σ := Nat) (fun j => [(1, .pointer (some ⟨b2, 0, none⟩)), (3, .int .i64 (i : Int)), (4, v30), (14, v), (15, .int .i64 (l.length : Int)), (16, .int .i64 (i : Int)), (17, .bool (decide ((i : Int) < (l.length : Int)))), (18, .int .i64 (i : Int)), (19, .pointer (some p23)), (20, v30), (21, .pointer (some ⟨b2, 0, none⟩)), (22, .int .i64 n), (23, v30), (24, .bool (decide (Ris 0 (n - 1) z24))), (25, .bool false), (26, .bool false), (27, .int .i64 (i : Int)), (28, .bool true), (29, .bool true), (30, .pointer (some ⟨b2, 1, none⟩)), (31, v), (32, .int .i64 (i : Int)), (33, .int .i64 ((i : Int) - 1)), (34, .pointer (some p41)), (35, v48), (36, v30), (37, .int .i64 (lexI z42 z24)), (38, .bool (decide ((lexI z42 z24) ≥ 0))), (39, .bool (decide ((lexI z42 z24) ≥ 0))), (40, .bool (decide ((lexI z42 z24) ≥ 0))), (41, .pointer (some ⟨b2, 1, none⟩)), (42, v), (43, .int .i64 (i : Int)), (44, v58), (45, .int .i64 ((l.take ((i : Int) : Int).toNat).length : Int)), (46, .int .i64 (j : Int))]) (fun j H' => Ext H H' ∧ Ext H3 H' ∧ Ext H10 H' ∧ Ext H51 H' ∧ At W H' b2 ⟨70, [.int .i64 n, v], 2⟩ ∧ j ≤ i ∧ (∀ k, k < j → ¬ inC (l.getD k []) (l.getD i []) ∧ ¬ inC (l.getD i []) (l.getD k [])) ∧ True) (fun j => i - j) 0 ⟨X53, X54, X55, X61, hb56, Nat.zero_le _, fun j hj => absurd hj (Nat.not_lt_zero _), trivial⟩ ⟨rfl, rfl, rfl, rfl, rfl, rfl, rfl, rfl, rfl, rfl, rfl, rfl, rfl, rfl, rfl, rfl, rfl, rfl, rfl, rfl, rfl, rfl, rfl, rfl, rfl, rfl, rfl, rfl, rfl, rfl, rfl, rfl, rfl, rfl, rfl, rfl, trivial⟩ ?_
            rintro j H62 ⟨X63, X64, X65, X66, hb67, hj, hk, _⟩
            refine AW.rs ?_
            refine AL.val rfl (.inl rfl) (HV.lti rfl rfl) ?_
            refine AL.nx ?_
            refine AW.seq ?_
            refine AW.ifd rfl (fun c68 => ?_) (fun c68 => ?_)
            · -- then
              refine AW.skip ?_
              refine nrm_and ?_
              refine AW.seq ?_
              refine AW.block ?_
              refine AW.rs ?_
              obtain ⟨p69, z70, cs71, hz72, hK73, hC74, hP75⟩ := RdK.ix (q := (j : Int)) hr59 sl23 (by omega) (by omega)
              obtain ⟨v76, rfl, hr77⟩ := hK73
              have hm78 := hr77.max
              refine AL.val rfl (.inl rfl) (hP75 rfl rfl) ?_
              refine AL.val rfl (.inl rfl) (HV.ld rfl va22 (cells_first (hC74.ext X66) rfl)) ?_
              refine AL.val rfl (.inl rfl) (HV.as rfl) ?_
              refine AL.nx ?_
              refine AW.rs ?_
              refine AL.val rfl (.inl rfl) (HV.mv rfl) ?_
              refine AL.w rfl (.inl rfl) (WV.call fn74 rfl (crowdOf_ok (hr77.ext X66) (ris_low hn (by have q := (he j (by omega)).1.1; rwa [gdt hz72 rfl] at q)))) ?_
              rintro _ H79 ⟨rfl, hx80⟩
              have X81 := Ext.trans X63 hx80
              have X82 := Ext.trans X64 hx80
              have X83 := Ext.trans X65 hx80
              have X84 := Ext.trans X66 hx80
              have hb85 := hb67.ext hx80
              refine AL.val rfl (.inl rfl) (HV.mv rfl) ?_
              refine AL.w rfl (.inl rfl) (WV.call fn74 rfl (crowdOf_ok (hr31.ext X81) (ris_low hn hris))) ?_
              rintro _ H86 ⟨rfl, hx87⟩
              have X88 := Ext.trans X81 hx87
              have X89 := Ext.trans X82 hx87
              have X90 := Ext.trans X83 hx87
              have X91 := Ext.trans X84 hx87
              have hb92 := hb85.ext hx87
              refine AL.val rfl (.inl rfl) (HV.as rfl) ?_
              refine AL.val rfl (.inl rfl) (HV.as rfl) ?_
              refine AL.nx ?_
              refine AW.rs ?_
              refine AL.val rfl (.inl rfl) (HV.mv rfl) ?_
              refine AL.val rfl (.inl rfl) (HV.mv rfl) ?_
              refine AL.w rfl (.inl rfl) (WV.call fn203 rfl (contains_ok (W := W) (crowd z70) (crowd z24))) ?_
              rintro _ H93 ⟨rfl, hx94⟩
              have X95 := Ext.trans X88 hx94
              have X96 := Ext.trans X89 hx94
              have X97 := Ext.trans X90 hx94
              have X98 := Ext.trans X91 hx94
              have hb99 := hb92.ext hx94
              refine AL.val rfl (.inl rfl) (HV.mv rfl) ?_
              by_cases c100 : bt .and .u64 (crowd z70) (crowd z24) = (crowd z24)
              · -- true
                have c100_ : decide (bt .and .u64 (crowd z70) (crowd z24) = (crowd z24)) = true := decide_eq_true c100
                rw [c100_]
                refine AL.off rfl rfl (by decide) rfl ?_
                refine AL.off rfl rfl (by decide) rfl ?_
                refine AL.off rfl rfl (by decide) rfl ?_
                refine AL.val rfl (.inl rfl) (HV.pickT rfl rfl) ?_
                refine AL.nx ?_
                refine AW.cond rfl (fun _ => ?_) (fun h => by cases h)
                refine AW.rs ?_
                refine AL.val rfl (.inl rfl) (HV.as rfl) ?_
                refine AL.nx ?_
                refine AW.ret ?_
                refine ret_blk (ret_and (ret_and (ret_blk (ret_blk (ret_and (ret_and (ret_blk (ret_and ?_))))))))
                refine post_one rfl rfl ?_ (.inr rfl)
                exact ⟨dec_f (fun h => by have q := ((h.2 i (by omega)).2 j (by omega)).1; have g4 : l.getD i [] = z24 := gd hz26 (by omega); rw [g4, gdt hz72 rfl] at q; exact q c100), X95⟩
              · -- false
                have c100_ : decide (bt .and .u64 (crowd z70) (crowd z24) = (crowd z24)) = false := decide_eq_false c100
                rw [c100_]
                refine AL.val rfl (.inr ⟨_, _, _, rfl, rfl, rfl⟩) (HV.mv rfl) ?_
                refine AL.val rfl (.inr ⟨_, _, _, rfl, rfl, rfl⟩) (HV.mv rfl) ?_
                refine AL.w rfl (.inr ⟨_, _, _, rfl, rfl, rfl⟩) (WV.call fn203 rfl (contains_ok (W := W) (crowd z24) (crowd z70))) ?_
                rintro _ H102 ⟨rfl, hx103⟩
                have X104 := Ext.trans X95 hx103
                have X105 := Ext.trans X96 hx103
                have X106 := Ext.trans X97 hx103
                have X107 := Ext.trans X98 hx103
                have hb108 := hb99.ext hx103
                refine AL.val rfl (.inl rfl) (HV.pickF rfl rfl) ?_
                refine AL.nx ?_
                refine AW.ifd rfl (fun c109 => ?_) (fun c109 => ?_)
                · -- then
                  refine AW.rs ?_
                  refine AL.val rfl (.inl rfl) (HV.as rfl) ?_
                  refine AL.nx ?_
                  refine AW.ret ?_
                  refine ret_blk (ret_and (ret_and (ret_blk (ret_blk (ret_and (ret_and (ret_blk (ret_and ?_))))))))
                  refine post_one rfl rfl ?_ (.inr rfl)
                  exact ⟨dec_f (fun h => by have q := ((h.2 i (by omega)).2 j (by omega)).2; have g4 : l.getD i [] = z24 := gd hz26 (by omega); rw [g4, gdt hz72 rfl] at q; exact q c109), X104⟩
                · -- else
                  refine AW.skip ?_
                  refine nrm_blk (nrm_and ?_)
                  refine AW.reg ?_
                  refine AL.val rfl (.inl rfl) (HV.add rfl rfl (by omega)) ?_
                  refine AL.val rfl (.inl rfl) (HV.mv rfl) ?_
                  refine AL.nil ?_
                  refine nrm_and ?_
                  exact ⟨j + 1, ⟨X104, X105, X106, X107, hb108, by omega, fun k hk' => by
      rcases Nat.lt_or_ge k j with h1 | h1
      · exact hk k h1
      · obtain rfl : k = j := by omega
        have g4 : l.getD i [] = z24 := gd hz26 (by omega); rw [g4, gdt hz72 rfl]; exact ⟨by assumption, by assumption⟩, trivial⟩, by first | omega | (dsimp only; omega), ⟨rfl, rfl, rfl, rfl, rfl, rfl, rfl, rfl, rfl, rfl, rfl, rfl, rfl, rfl, rfl, rfl, rfl, rfl, rfl, rfl, rfl, rfl, rfl, rfl, rfl, rfl, rfl, rfl, rfl, rfl, rfl, rfl, rfl, rfl, rfl, rfl, trivial⟩⟩
            · -- else
              refine AW.exit ?_
              refine ex_and (ex_and (ex_blk ?_))
              refine nrm_blk (nrm_and ?_)
              refine AW.reg ?_
              refine AL.val rfl (.inl rfl) (HV.add rfl rfl (by omega)) ?_
              refine AL.val rfl (.inl rfl) (HV.mv rfl) ?_
              refine AL.nil ?_
              refine nrm_and ?_
              exact ⟨i + 1, ⟨X63, X64, X65, hb67, by omega, fun k hk' => by
      rcases Nat.lt_or_ge k i with h1 | h1
      · exact he k h1
      · obtain rfl : k = i := by omega
        exact ⟨hrow, fun j' hj' => hk j' (by omega)⟩, trivial⟩, by first | omega | (dsimp only; omega), ⟨rfl, rfl, rfl, rfl, trivial⟩⟩
        · -- false
          have c40_ : decide ((i : Int) > 0) = false := decide_eq_false c40
          rw [c40_]
          refine AL.off rfl rfl (by decide) rfl ?_
          refine AL.off rfl rfl (by decide) rfl ?_
          refine AL.off rfl rfl (by decide) rfl ?_
          refine AL.off rfl rfl (by decide) rfl ?_
          refine AL.off rfl rfl (by decide) rfl ?_
          refine AL.off rfl rfl (by decide) rfl ?_
          refine AL.off rfl rfl (by decide) rfl ?_
          refine AL.off rfl rfl (by decide) rfl ?_
          refine AL.off rfl rfl (by decide) rfl ?_
          refine AL.val rfl (.inr ⟨_, _, _, rfl, rfl, rfl⟩) (HV.pickF rfl rfl) ?_
          refine AL.val rfl (.inl rfl) (HV.pickF rfl rfl) ?_
          refine AL.nx ?_
          refine AW.cond rfl (fun h => by cases h) (fun _ => ?_)
          refine AW.skip ?_
          refine nrm_and ?_
          refine AW.rs ?_
          refine AL.val rfl (.inl rfl) (HV.fa fl70_1 rfl) ?_
          refine AL.val rfl (.inl rfl) (HV.ld rfl va23 (at_cell_add (j := 1) hb38 rfl)) ?_
          refine AL.val rfl (.inl rfl) (HV.mv rfl) ?_
          have X114 := Ext.refl H33
          obtain ⟨v111, hr112, hP113⟩ := RdK.cutH (q := (i : Int)) (hr.ext X35) sl23 (by omega) (by omega)
          refine AL.val rfl (.inl rfl) (hP113 rfl rfl) ?_
          refine AL.val rfl (.inl rfl) (HV.len Try.underlying23 rfl hr112.isSl) ?_
          refine AL.val rfl (.inl rfl) (HV.mv rfl) ?_
          refine AL.nx ?_
          refine AW.block ?_
          have hrow : RowAt n l i := ⟨by have g4 : l.getD i [] = z24 := gd hz26 (by omega); rw [g4]; assumption, fun h0 => by first | omega | (have g4 : l.getD i [] = z24 := gd hz26 (by omega); rw [g35, g4]; first | assumption | omega)⟩
          have hris := hrow.1
          have g4 : l.getD i [] = z24 := gd hz26 (by omega); rw [g4] at hris
          have hT : (l.take (i : Int).toNat).length = i := by rw [List.length_take]; omega
          refine AW.loop (σ := Nat) (fun j => [(1, .pointer (some ⟨b2, 0, none⟩)), (3, .int .i64 (i : Int)), (4, v30), (14, v), (15, .int .i64 (l.length : Int)), (16, .int .i64 (i : Int)), (17, .bool (decide ((i : Int) < (l.length : Int)))), (18, .int .i64 (i : Int)), (19, .pointer (some p23)), (20, v30), (21, .pointer (some ⟨b2, 0, none⟩)), (22, .int .i64 n), (23, v30), (24, .bool (decide (Ris 0 (n - 1) z24))), (25, .bool false), (26, .bool false), (27, .int .i64 (i : Int)), (28, .bool false), (29, .bool false), (39, .bool false), (40, .bool false), (41, .pointer (some ⟨b2, 1, none⟩)), (42, v), (43, .int .i64 (i : Int)), (44, v111), (45, .int .i64 ((l.take ((i : Int) : Int).toNat).length : Int)), (46, .int .i64 (j : Int))]) (fun j H' => Ext H H' ∧ Ext H3 H' ∧ Ext H10 H' ∧ Ext H33 H' ∧ At W H' b2 ⟨70, [.int .i64 n, v], 2⟩ ∧ j ≤ i ∧ (∀ k, k < j → ¬ inC (l.getD k []) (l.getD i []) ∧ ¬ inC (l.getD i []) (l.getD k [])) ∧ True) (fun j => i - j) 0 ⟨X35, X36, X37, X114, hb38, Nat.zero_le _, fun j hj => absurd hj (Nat.not_lt_zero _), trivial⟩ ⟨rfl, rfl, rfl, rfl, rfl, rfl, rfl, rfl, rfl, rfl, rfl, rfl, rfl, rfl, rfl, rfl, rfl, rfl, rfl, rfl, rfl, rfl, rfl, rfl, rfl, rfl, rfl, trivial⟩ ?_
          rintro j H115 ⟨X116, X117, X118, X119, hb120, hj, hk, _⟩
          refine AW.rs ?_
          refine AL.val rfl (.inl rfl) (HV.lti rfl rfl) ?_
          refine AL.nx ?_
          refine AW.seq ?_
          refine AW.ifd rfl (fun c121 => ?_) (fun c121 => ?_)
          · -- then
            refine AW.skip ?_
            refine nrm_and ?_
            refine AW.seq ?_
            refine AW.block ?_
            refine AW.rs ?_
            obtain ⟨p122, z123, cs124, hz125, hK126, hC127, hP128⟩ := RdK.ix (q := (j : Int)) hr112 sl23 (by omega) (by omega)
            obtain ⟨v129, rfl, hr130⟩ := hK126
            have hm131 := hr130.max
            refine AL.val rfl (.inl rfl) (hP128 rfl rfl) ?_
            refine AL.val rfl (.inl rfl) (HV.ld rfl va22 (cells_first (hC127.ext X119) rfl)) ?_
            refine AL.val rfl (.inl rfl) (HV.as rfl) ?_
            refine AL.nx ?_
            refine AW.rs ?_
            refine AL.val rfl (.inl rfl) (HV.mv rfl) ?_
            refine AL.w rfl (.inl rfl) (WV.call fn74 rfl (crowdOf_ok (hr130.ext X119) (ris_low hn (by have q := (he j (by omega)).1.1; rwa [gdt hz125 rfl] at q)))) ?_
            rintro _ H132 ⟨rfl, hx133⟩
            have X134 := Ext.trans X116 hx133
            have X135 := Ext.trans X117 hx133
            have X136 := Ext.trans X118 hx133
            have X137 := Ext.trans X119 hx133
            have hb138 := hb120.ext hx133
            refine AL.val rfl (.inl rfl) (HV.mv rfl) ?_
            refine AL.w rfl (.inl rfl) (WV.call fn74 rfl (crowdOf_ok (hr31.ext X134) (ris_low hn hris))) ?_
            rintro _ H139 ⟨rfl, hx140⟩
            have X141 := Ext.trans X134 hx140
            have X142 := Ext.trans X135 hx140
            have X143 := Ext.trans X136 hx140
            have X144 := Ext.trans X137 hx140
            have hb145 := hb138.ext hx140
            refine AL.val rfl (.inl rfl) (HV.as rfl) ?_
            refine AL.val rfl (.inl rfl) (HV.as rfl) ?_
            refine AL.nx ?_
            refine AW.rs ?_
            refine AL.val rfl (.inl rfl) (HV.mv rfl) ?_
            refine AL.val rfl (.inl rfl) (HV.mv rfl) ?_
            refine AL.w rfl (.inl rfl) (WV.call fn203 rfl (contains_ok (W := W) (crowd z123) (crowd z24))) ?_
            rintro _ H146 ⟨rfl, hx147⟩
            have X148 := Ext.trans X141 hx147
            have X149 := Ext.trans X142 hx147
            have X150 := Ext.trans X143 hx147
            have X151 := Ext.trans X144 hx147
            have hb152 := hb145.ext hx147
            refine AL.val rfl (.inl rfl) (HV.mv rfl) ?_
            by_cases c153 : bt .and .u64 (crowd z123) (crowd z24) = (crowd z24)
            · -- true
              have c153_ : decide (bt .and .u64 (crowd z123) (crowd z24) = (crowd z24)) = true := decide_eq_true c153
              rw [c153_]
              refine AL.off rfl rfl (by decide) rfl ?_
              refine AL.off rfl rfl (by decide) rfl ?_
              refine AL.off rfl rfl (by decide) rfl ?_
              refine AL.val rfl (.inl rfl) (HV.pickT rfl rfl) ?_
              refine AL.nx ?_
              refine AW.cond rfl (fun _ => ?_) (fun h => by cases h)
              refine AW.rs ?_
              refine AL.val rfl (.inl rfl) (HV.as rfl) ?_
              refine AL.nx ?_
              refine AW.ret ?_
              refine ret_blk (ret_and (ret_and (ret_blk (ret_blk (ret_and (ret_and (ret_blk (ret_and ?_))))))))
              refine post_one rfl rfl ?_ (.inr rfl)
              exact ⟨dec_f (fun h => by have q := ((h.2 i (by omega)).2 j (by omega)).1; have g4 : l.getD i [] = z24 := gd hz26 (by omega); rw [g4, gdt hz125 rfl] at q; exact q c153), X148⟩
            · -- false
              have c153_ : decide (bt .and .u64 (crowd z123) (crowd z24) = (crowd z24)) = false := decide_eq_false c153
              rw [c153_]
              refine AL.val rfl (.inr ⟨_, _, _, rfl, rfl, rfl⟩) (HV.mv rfl) ?_
              refine AL.val rfl (.inr ⟨_, _, _, rfl, rfl, rfl⟩) (HV.mv rfl) ?_
              refine AL.w rfl (.inr ⟨_, _, _, rfl, rfl, rfl⟩) (WV.call fn203 rfl (contains_ok (W := W) (crowd z24) (crowd z123))) ?_
              rintro _ H155 ⟨rfl, hx156⟩
              have X157 := Ext.trans X148 hx156
              have X158 := Ext.trans X149 hx156
              have X159 := Ext.trans X150 hx156
              have X160 := Ext.trans X151 hx156
              have hb161 := hb152.ext hx156
              refine AL.val rfl (.inl rfl) (HV.pickF rfl rfl) ?_
              refine AL.nx ?_
              refine AW.ifd rfl (fun c162 => ?_) (fun c162 => ?_)
              · -- then
                refine AW.rs ?_
                refine AL.val rfl (.inl rfl) (HV.as rfl) ?_
                refine AL.nx ?_
                refine AW.ret ?_
                refine ret_blk (ret_and (ret_and (ret_blk (ret_blk (ret_and (ret_and (ret_blk (ret_and ?_))))))))
                refine post_one rfl rfl ?_ (.inr rfl)
                exact ⟨dec_f (fun h => by have q := ((h.2 i (by omega)).2 j (by omega)).2; have g4 : l.getD i [] = z24 := gd hz26 (by omega); rw [g4, gdt hz125 rfl] at q; exact q c162), X157⟩
              · -- else
                refine AW.skip ?_
                refine nrm_blk (nrm_and ?_)
                refine AW.reg ?_
                refine AL.val rfl (.inl rfl) (HV.add rfl rfl (by omega)) ?_
                refine AL.val rfl (.inl rfl) (HV.mv rfl) ?_
                refine AL.nil ?_
                refine nrm_and ?_
                exact ⟨j + 1, ⟨X157, X158, X159, X160, hb161, by omega, fun k hk' => by
      rcases Nat.lt_or_ge k j with h1 | h1
      · exact hk k h1
      · obtain rfl : k = j := by omega
        have g4 : l.getD i [] = z24 := gd hz26 (by omega); rw [g4, gdt hz125 rfl]; exact ⟨by assumption, by assumption⟩, trivial⟩, by first | omega | (dsimp only; omega), ⟨rfl, rfl, rfl, rfl, rfl, rfl, rfl, rfl, rfl, rfl, rfl, rfl, rfl, rfl, rfl, rfl, rfl, rfl, rfl, rfl, rfl, rfl, rfl, rfl, rfl, rfl, rfl, trivial⟩⟩
          · -- else
            refine AW.exit ?_
            refine ex_and (ex_and (ex_blk ?_))
            refine nrm_blk (nrm_and ?_)
            refine AW.reg ?_
            refine AL.val rfl (.inl rfl) (HV.add rfl rfl (by omega)) ?_
            refine AL.val rfl (.inl rfl) (HV.mv rfl) ?_
            refine AL.nil ?_
            refine nrm_and ?_
            exact ⟨i + 1, ⟨X116, X117, X118, hb120, by omega, fun k hk' => by
      rcases Nat.lt_or_ge k i with h1 | h1
      · exact he k h1
      · obtain rfl : k = i := by omega
        exact ⟨hrow, fun j' hj' => hk j' (by omega)⟩, trivial⟩, by first | omega | (dsimp only; omega), ⟨rfl, rfl, rfl, rfl, trivial⟩⟩
      · -- true
        have c39_ : (!decide (Ris 0 (n - 1) z24)) = true := by rw [decide_eq_false c39]; rfl
        rw [c39_]
        refine AL.off rfl rfl (by decide) rfl ?_
        refine AL.off rfl rfl (by decide) rfl ?_
        refine AL.off rfl rfl (by decide) rfl ?_
        refine AL.offu rfl rfl rfl ?_
        refine AL.offu rfl rfl rfl ?_
        refine AL.offu rfl rfl rfl ?_
        refine AL.offu rfl rfl rfl ?_
        refine AL.offu rfl rfl rfl ?_
        refine AL.offu rfl rfl rfl ?_
        refine AL.offu rfl rfl rfl ?_
        refine AL.offu rfl rfl rfl ?_
        refine AL.offu rfl rfl rfl ?_
        refine AL.off rfl rfl (by decide) rfl ?_
        refine AL.val rfl (.inl rfl) (HV.pickT rfl rfl) ?_
        refine AL.nx ?_
        refine AW.cond rfl (fun _ => ?_) (fun h => by cases h)
        refine AW.rs ?_
        refine AL.val rfl (.inl rfl) (HV.as rfl) ?_
        refine AL.nx ?_
        refine AW.ret ?_
        refine ret_and (ret_blk (ret_and (ret_and (ret_blk (ret_and ?_)))))
        refine post_one rfl rfl ?_ (.inr rfl)
        exact ⟨dec_f (fun h => by have q := (h.2 i (by omega)).1.1; have g20 : l.getD i [] = z24 := gd hz26 (by omega); rw [g20] at q; exact c39 q), X35⟩
    · -- else
      refine AW.exit ?_
      refine ex_and (ex_and (ex_blk ?_))
      refine nrm_and ?_
      refine AW.rs ?_
      refine AL.val rfl (.inl rfl) (HV.as rfl) ?_
      refine AL.nx ?_
      refine AW.ret ?_
      refine post_one rfl rfl ?_ (.inr rfl)
      exact ⟨dec_t ⟨hn, fun k hk => he k (by omega)⟩, X18⟩

set_option maxRecDepth 100000 in
theorem l01Ok_ok {v : Value} {l : List (List Int)} {ok : Nat → Prop} {n : Int} {b : Nat} (hr : RdK (kR kI) W H ok v l) (hb : At W H b ⟨70, [.int .i64 n, v], 2⟩) : ACalls Try.prog W 162 #[.pointer (some ⟨b, 0, none⟩)] H (fun r H' => r = .bool (decide (okI n l)) ∧ Ext H H') := by
  refine ACalls.of (args := [.pointer (some ⟨b, 0, none⟩)]) Try.func162 rfl rfl ?_
  have X0 := Ext.refl H
  have hmL := hr.max
  refine AW.rs ?_
  refine AL.val rfl (.inl rfl) (HV.as rfl) ?_
  refine AL.nx ?_
  refine AW.seq ?_
  refine AW.rs ?_
  refine AL.val rfl (.inl rfl) (HV.mv rfl) ?_
  refine AL.val rfl (.inl rfl) (HV.nc rfl) ?_
  refine AL.val rfl (.inl rfl) (HV.fa fl70_0 rfl) ?_
  refine AL.val rfl (.inl rfl) (HV.ld rfl va2 (at_cell hb rfl)) ?_
  refine AL.w rfl (.inl rfl) (WV.call fn84 rfl (l00In_ok (W := W) n 1 7)) ?_
  rintro _ H1 ⟨rfl, hx2⟩
  have X3 := Ext.trans X0 hx2
  have hb4 := hb.ext hx2
  refine AL.val rfl (.inl rfl) (HV.not rfl) ?_
  refine AL.nx ?_
  refine AW.ifn rfl (fun c5 => ?_) (fun c5 => ?_)
  · -- then
    refine AW.rs ?_
    refine AL.val rfl (.inl rfl) (HV.as rfl) ?_
    refine AL.nx ?_
    refine AW.ret ?_
    refine ret_and ?_
    refine post_one rfl rfl ?_ (.inr rfl)
    exact ⟨dec_f (fun h => c5 h.1), X3⟩
  · -- else
    refine AW.skip ?_
    refine nrm_and ?_
    refine AW.seq ?_
    refine AW.rs ?_
    refine AL.val rfl (.inl rfl) (HV.as rfl) ?_
    refine AL.nx ?_
    refine AW.block ?_
    have hn : 1 ≤ n ∧ n ≤ 7 := by omega
    have X6 := Ext.refl H1
    refine AW.loop (σ := Nat) (fun i => [(0, .pointer (some ⟨b, 0, none⟩)), (3, .int .i64 (i : Int))]) (fun i H' => Ext H H' ∧ Ext H1 H' ∧ At W H' b ⟨70, [.int .i64 n, v], 2⟩ ∧ i ≤ l.length ∧ (∀ k, k < i → RowAt n l k) ∧ True) (fun i => l.length - i) 0 ⟨X3, X6, hb4, Nat.zero_le _, fun j hj => absurd hj (Nat.not_lt_zero _), trivial⟩ ⟨rfl, rfl, trivial⟩ ?_
    rintro i H7 ⟨X8, X9, hb10, hi, he, _⟩
    refine AW.seq ?_
    refine AW.rs ?_
    refine AL.val rfl (.inl rfl) (HV.mv rfl) ?_
    refine AL.val rfl (.inl rfl) (HV.mv rfl) ?_
    refine AL.val rfl (.inl rfl) (HV.nc rfl) ?_
    refine AL.val rfl (.inl rfl) (HV.fa fl70_1 rfl) ?_
    refine AL.val rfl (.inl rfl) (HV.ld rfl va23 (at_cell_add (j := 1) hb10 rfl)) ?_
    refine AL.val rfl (.inl rfl) (HV.len Try.underlying23 rfl hr.isSl) ?_
    refine AL.val rfl (.inl rfl) (HV.lti rfl rfl) ?_
    refine AL.nx ?_
    refine AW.ifd rfl (fun c11 => ?_) (fun c11 => ?_)
    · -- then
      refine AW.skip ?_
      refine nrm_and ?_
      refine AW.seq ?_
      refine AW.block ?_
      refine AW.seq ?_
      refine AW.draw' [0, 1, 3, 7, 0, 16, 48, 112, 0, 496, 1008, 2047, 4095, 8191, 16383, 32767, 65535, 131071, 262143, 524287, 1048575, 131071, 2228223, 8388607, 16777215, 131071, 33685503, 100794367, 235012095, 131071, 1040318463, 2114060287, 4294967295, 8589934591, 17179869183, 34359738367] mixed (by rfl) ?_
      refine Dr.read 0 _ 21 _ rfl rfl rfl rfl rfl (RV.of (by intro _ _ h; cases h) (.inl rfl) (fun _ xd => HV.mv rfl)) ?_
      refine Dr.read 1 _ 22 _ rfl rfl rfl rfl rfl (RV.of (by intro _ _ h; cases h) (.inl rfl) (fun _ xd => HV.nc rfl)) ?_
      refine Dr.read 2 _ 23 _ rfl rfl rfl rfl rfl (RV.of (by intro _ _ h; cases h) (.inl rfl) (fun _ xd => HV.fa fl70_0 rfl)) ?_
      refine Dr.read 3 _ 24 _ rfl rfl rfl rfl rfl (RV.of (by intro _ _ h; cases h) (.inl rfl) (fun _ xd => HV.ld rfl va2 (rdc_ext xd (at_cell hb10 rfl)))) ?_
      refine Dr.read 4 _ 25 _ rfl rfl rfl rfl rfl (RV.of (by intro _ _ h; cases h) (.inl rfl) (fun _ xd => HV.mv rfl)) ?_
      refine Dr.read 5 _ 26 _ rfl rfl rfl rfl rfl (RV.of (by intro _ _ h; cases h) (.inl rfl) (fun _ xd => HV.nc rfl)) ?_
      refine Dr.read 6 _ 27 _ rfl rfl rfl rfl rfl (RV.of (by intro _ _ h; cases h) (.inl rfl) (fun _ xd => HV.fa fl70_1 rfl)) ?_
      refine Dr.read 7 _ 28 _ rfl rfl rfl rfl rfl (RV.of (by intro _ _ h; cases h) (.inl rfl) (fun _ xd => HV.ld rfl va23 (rdc_ext xd (at_cell_add (j := 1) hb10 rfl)))) ?_
      refine Dr.read 8 _ 29 _ rfl rfl rfl rfl rfl (RV.of (by intro _ _ h; cases h) (.inl rfl) (fun _ xd => HV.mv rfl)) ?_
      obtain ⟨p12, z13, cs14, hz15, hK16, hC17, hP18⟩ := RdK.ix (q := (i : Int)) hr sl23 (by omega) (by omega)
      obtain ⟨v19, rfl, hr20⟩ := hK16
      have hm21 := hr20.max
      refine Dr.read 9 _ 30 _ rfl rfl rfl rfl rfl (RV.of (by intro _ _ h; cases h) (.inl rfl) (fun _ xd => hP18 rfl rfl)) ?_
      refine Dr.read 10 _ 31 _ rfl rfl rfl rfl rfl (RV.of (by intro _ _ h; cases h) (.inl rfl) (fun _ xd => HV.ld rfl va22 (rdc_ext xd (cells_first (hC17.ext X8) rfl)))) ?_
      refine Dr.eff 11 _ _ rfl (by intro d h; cases h; exact ⟨rfl, rfl⟩) rfl rfl rfl (EC.of (by intro _ _ h; cases h) (.inl rfl) (WV.call fn136 rfl (l01Group_ok n (hr20.ext X8) (by omega)))) (fun v H' h => .inl (h.2)) ?_
      rintro _ H22 ⟨rfl, hx23⟩
      have X24 := Ext.trans X8 hx23
      have X25 := Ext.trans X9 hx23
      have hb26 := hb10.ext hx23
      refine Dr.read 12 _ 33 _ rfl rfl rfl rfl rfl (RV.of (by intro _ _ h; cases h) (.inl rfl) (fun _ xd => HV.not rfl)) ?_
      refine Dr.read 13 _ 34 _ rfl rfl rfl rfl rfl (RV.of (by intro _ _ h; cases h) (.inl rfl) (fun _ xd => HV.mv rfl)) ?_
      by_cases c27 : Ris 0 (n - 1) z13
      · -- false
        have c27_ : (!decide (Ris 0 (n - 1) z13)) = false := by rw [decide_eq_true c27]; rfl
        rw [c27_]
        refine Dr.read 14 _ 35 _ rfl rfl rfl rfl rfl (RV.of (by intro _ _ h; cases h) (.inr ⟨_, _, _, rfl, rfl, rfl⟩) (fun _ xd => HV.mv rfl)) ?_
        refine Dr.read 15 _ 36 _ rfl rfl rfl rfl rfl (RV.of (by intro _ _ h; cases h) (.inr ⟨_, _, _, rfl, rfl, rfl⟩) (fun _ xd => HV.gti rfl rfl)) ?_
        refine Dr.read 16 _ 37 _ rfl rfl rfl rfl rfl (RV.of (by intro _ _ h; cases h) (.inr ⟨_, _, _, rfl, rfl, rfl⟩) (fun _ xd => HV.mv rfl)) ?_
        by_cases c28 : (i : Int) > 0
        · -- true
          have c28_ : decide ((i : Int) > 0) = true := decide_eq_true c28
          rw [c28_]
          refine Dr.read 17 _ 38 _ rfl rfl rfl rfl rfl (RV.of (by intro _ _ h; cases h) (.inr ⟨_, _, _, rfl, rfl, rfl⟩) (fun _ xd => HV.mv rfl)) ?_
          refine Dr.read 18 _ 39 _ rfl rfl rfl rfl rfl (RV.of (by intro _ _ h; cases h) (.inr ⟨_, _, _, rfl, rfl, rfl⟩) (fun _ xd => HV.nc rfl)) ?_
          refine Dr.read 19 _ 40 _ rfl rfl rfl rfl rfl (RV.of (by intro _ _ h; cases h) (.inr ⟨_, _, _, rfl, rfl, rfl⟩) (fun _ xd => HV.fa fl70_1 rfl)) ?_
          refine Dr.read 20 _ 41 _ rfl rfl rfl rfl rfl (RV.of (by intro _ _ h; cases h) (.inr ⟨_, _, _, rfl, rfl, rfl⟩) (fun _ xd => HV.ld rfl va23 (rdc_ext xd (at_cell_add (j := 1) hb26 rfl)))) ?_
          refine Dr.read 21 _ 42 _ rfl rfl rfl rfl rfl (RV.of (by intro _ _ h; cases h) (.inr ⟨_, _, _, rfl, rfl, rfl⟩) (fun _ xd => HV.mv rfl)) ?_
          refine Dr.read 22 _ 43 _ rfl rfl rfl rfl rfl (RV.of (by intro _ _ h; cases h) (.inr ⟨_, _, _, rfl, rfl, rfl⟩) (fun _ xd => HV.sub rfl rfl (by omega))) ?_
          obtain ⟨p29, z30, cs31, hz32, hK33, hC34, hP35⟩ := RdK.ix (q := (i : Int) - 1) hr sl23 (by omega) (by omega)
          obtain ⟨v36, rfl, hr37⟩ := hK33
          have hm38 := hr37.max
          refine Dr.read 23 _ 44 _ rfl rfl rfl rfl rfl (RV.of (by intro _ _ h; cases h) (.inr ⟨_, _, _, rfl, rfl, rfl⟩) (fun _ xd => hP35 rfl rfl)) ?_
          refine Dr.read 24 _ 45 _ rfl rfl rfl rfl rfl (RV.of (by intro _ _ h; cases h) (.inr ⟨_, _, _, rfl, rfl, rfl⟩) (fun _ xd => HV.ld rfl va22 (rdc_ext xd (cells_first (hC34.ext X24) rfl)))) ?_
          refine Dr.read 25 _ 46 _ rfl rfl rfl rfl rfl (RV.of (by intro _ _ h; cases h) (.inr ⟨_, _, _, rfl, rfl, rfl⟩) (fun _ xd => HV.mv rfl)) ?_
          refine Dr.read 26 _ 47 _ rfl rfl rfl rfl rfl (RV.of (by intro _ _ h; cases h) (.inr ⟨_, _, _, rfl, rfl, rfl⟩) (fun _ xd => HV.nc rfl)) ?_
          refine Dr.read 27 _ 48 _ rfl rfl rfl rfl rfl (RV.of (by intro _ _ h; cases h) (.inr ⟨_, _, _, rfl, rfl, rfl⟩) (fun _ xd => HV.fa fl70_1 rfl)) ?_
          refine Dr.read 28 _ 49 _ rfl rfl rfl rfl rfl (RV.of (by intro _ _ h; cases h) (.inr ⟨_, _, _, rfl, rfl, rfl⟩) (fun _ xd => HV.ld rfl va23 (rdc_ext xd (at_cell_add (j := 1) hb26 rfl)))) ?_
          refine Dr.read 29 _ 50 _ rfl rfl rfl rfl rfl (RV.of (by intro _ _ h; cases h) (.inr ⟨_, _, _, rfl, rfl, rfl⟩) (fun _ xd => HV.mv rfl)) ?_
          obtain ⟨p39, z40, cs41, hz42, hK43, hC44, hP45⟩ := RdK.ix (q := (i : Int)) hr sl23 (by omega) (by omega)
          obtain ⟨v46, rfl, hr47⟩ := hK43
          have hm48 := hr47.max
          refine Dr.read 30 _ 51 _ rfl rfl rfl rfl rfl (RV.of (by intro _ _ h; cases h) (.inr ⟨_, _, _, rfl, rfl, rfl⟩) (fun _ xd => hP45 rfl rfl)) ?_
          refine Dr.read 31 _ 52 _ rfl rfl rfl rfl rfl (RV.of (by intro _ _ h; cases h) (.inr ⟨_, _, _, rfl, rfl, rfl⟩) (fun _ xd => HV.ld rfl va22 (rdc_ext xd (cells_first (hC44.ext X24) rfl)))) ?_
          refine Dr.eff 32 _ _ rfl (by intro d h; cases h; exact ⟨rfl, rfl⟩) rfl rfl rfl (EC.of (by intro _ _ h; cases h) (.inr ⟨_, _, _, rfl, rfl, rfl⟩) (WV.call fn200 rfl (l01Before_ok (hr37.ext X24) (hr47.ext X24)))) (fun v H' h => .inl (h.2)) ?_
          rintro _ H49 ⟨rfl, hx50⟩
          have X51 := Ext.trans X24 hx50
          have X52 := Ext.trans X25 hx50
          have hb53 := hb26.ext hx50
          refine Dr.read 33 _ 54 _ rfl rfl rfl rfl rfl (RV.of (by intro _ _ h; cases h) (.inr ⟨_, _, _, rfl, rfl, rfl⟩) (fun _ xd => HV.not rfl)) ?_
          refine Dr.read 34 _ 55 _ rfl rfl rfl rfl rfl (RV.of (by intro _ _ h; cases h) (.inr ⟨_, _, _, rfl, rfl, rfl⟩) (fun _ xd => HV.pickT rfl rfl)) ?_
          refine Dr.read 35 _ 56 _ rfl rfl rfl rfl rfl (RV.of (by intro _ _ h; cases h) (.inl rfl) (fun _ xd => HV.pickF rfl rfl)) ?_
          refine Dr.fin rfl ?_
          refine nrm_and ?_
          refine AW.ifn rfl (fun c54 => ?_) (fun c54 => ?_)
          · -- then
            refine AW.rs ?_
            refine AL.val rfl (.inl rfl) (HV.as rfl) ?_
            refine AL.nx ?_
            refine AW.ret ?_
            refine ret_blk (ret_and (ret_and (ret_blk (ret_and ?_))))
            refine post_one rfl rfl ?_ (.inr rfl)
            exact ⟨dec_f (fun h => by have q := (h.2.1 i (by omega)).2 (by omega); have g45 : l.getD (i - 1) [] = z30 := gd hz32 (by omega); have g52 : l.getD i [] = z40 := gd hz42 (by omega); rw [g45, g52] at q; exact c54 q), X51⟩
          · -- else
            refine AW.skip ?_
            refine nrm_blk (nrm_and ?_)
            refine AW.reg ?_
            refine AL.val rfl (.inl rfl) (HV.mv rfl) ?_
            refine AL.val rfl (.inl rfl) (HV.add rfl rfl (by omega)) ?_
            refine AL.val rfl (.inl rfl) (HV.as rfl) ?_
            refine AL.nil ?_
            refine nrm_and ?_
            exact ⟨i + 1, ⟨X51, X52, hb53, by omega, fun k hk' => by
      rcases Nat.lt_or_ge k i with h1 | h1
      · exact he k h1
      · obtain rfl : k = i := by omega
        exact ⟨by have g31 : l.getD k [] = z13 := gd hz15 (by omega); rw [g31]; assumption, fun h0 => by first | omega | (have g45 : l.getD (k - 1) [] = z30 := gd hz32 (by omega); have g52 : l.getD k [] = z40 := gd hz42 (by omega); rw [g45, g52]; first | assumption | omega)⟩, trivial⟩, by first | omega | (dsimp only; omega), ⟨rfl, rfl, trivial⟩⟩
        · -- false
          have c28_ : decide ((i : Int) > 0) = false := decide_eq_false c28
          rw [c28_]
          refine Dr.read 17 _ 38 _ rfl rfl rfl rfl rfl (RV.off (by intro _ _ h; cases h) rfl rfl (by decide)) ?_
          refine Dr.read 18 _ 39 _ rfl rfl rfl rfl rfl (RV.off (by intro _ _ h; cases h) rfl rfl (by decide)) ?_
          refine Dr.read 19 _ 40 _ rfl rfl rfl rfl rfl (RV.off (by intro _ _ h; cases h) rfl rfl (by decide)) ?_
          refine Dr.read 20 _ 41 _ rfl rfl rfl rfl rfl (RV.off (by intro _ _ h; cases h) rfl rfl (by decide)) ?_
          refine Dr.read 21 _ 42 _ rfl rfl rfl rfl rfl (RV.off (by intro _ _ h; cases h) rfl rfl (by decide)) ?_
          refine Dr.read 22 _ 43 _ rfl rfl rfl rfl rfl (RV.off (by intro _ _ h; cases h) rfl rfl (by decide)) ?_
          refine Dr.read 23 _ 44 _ rfl rfl rfl rfl rfl (RV.off (by intro _ _ h; cases h) rfl rfl (by decide)) ?_
          refine Dr.read 24 _ 45 _ rfl rfl rfl rfl rfl (RV.off (by intro _ _ h; cases h) rfl rfl (by decide)) ?_
          refine Dr.read 25 _ 46 _ rfl rfl rfl rfl rfl (RV.off (by intro _ _ h; cases h) rfl rfl (by decide)) ?_
          refine Dr.read 26 _ 47 _ rfl rfl rfl rfl rfl (RV.off (by intro _ _ h; cases h) rfl rfl (by decide)) ?_
          refine Dr.read 27 _ 48 _ rfl rfl rfl rfl rfl (RV.off (by intro _ _ h; cases h) rfl rfl (by decide)) ?_
          refine Dr.read 28 _ 49 _ rfl rfl rfl rfl rfl (RV.off (by intro _ _ h; cases h) rfl rfl (by decide)) ?_
          refine Dr.read 29 _ 50 _ rfl rfl rfl rfl rfl (RV.off (by intro _ _ h; cases h) rfl rfl (by decide)) ?_
          refine Dr.read 30 _ 51 _ rfl rfl rfl rfl rfl (RV.off (by intro _ _ h; cases h) rfl rfl (by decide)) ?_
          refine Dr.read 31 _ 52 _ rfl rfl rfl rfl rfl (RV.off (by intro _ _ h; cases h) rfl rfl (by decide)) ?_
          refine Dr.read 32 _ 53 _ rfl rfl rfl rfl rfl (RV.off (by intro _ _ h; cases h) rfl rfl (by decide)) ?_
          refine Dr.read 33 _ 54 _ rfl rfl rfl rfl rfl (RV.off (by intro _ _ h; cases h) rfl rfl (by decide)) ?_
          refine Dr.read 34 _ 55 _ rfl rfl rfl rfl rfl (RV.of (by intro _ _ h; cases h) (.inr ⟨_, _, _, rfl, rfl, rfl⟩) (fun _ xd => HV.pickF rfl rfl)) ?_
          refine Dr.read 35 _ 56 _ rfl rfl rfl rfl rfl (RV.of (by intro _ _ h; cases h) (.inl rfl) (fun _ xd => HV.pickF rfl rfl)) ?_
          refine Dr.fin rfl ?_
          refine nrm_and ?_
          refine AW.cond rfl (fun h => by cases h) (fun _ => ?_)
          refine AW.skip ?_
          refine nrm_blk (nrm_and ?_)
          refine AW.reg ?_
          refine AL.val rfl (.inl rfl) (HV.mv rfl) ?_
          refine AL.val rfl (.inl rfl) (HV.add rfl rfl (by omega)) ?_
          refine AL.val rfl (.inl rfl) (HV.as rfl) ?_
          refine AL.nil ?_
          refine nrm_and ?_
          exact ⟨i + 1, ⟨X24, X25, hb26, by omega, fun k hk' => by
      rcases Nat.lt_or_ge k i with h1 | h1
      · exact he k h1
      · obtain rfl : k = i := by omega
        exact ⟨by have g31 : l.getD k [] = z13 := gd hz15 (by omega); rw [g31]; assumption, fun h0 => by first | omega | (rw [g45, g52]; first | assumption | omega)⟩, trivial⟩, by first | omega | (dsimp only; omega), ⟨rfl, rfl, trivial⟩⟩
      · -- true
        have c27_ : (!decide (Ris 0 (n - 1) z13)) = true := by rw [decide_eq_false c27]; rfl
        rw [c27_]
        refine Dr.read 14 _ 35 _ rfl rfl rfl rfl rfl (RV.off (by intro _ _ h; cases h) rfl rfl (by decide)) ?_
        refine Dr.read 15 _ 36 _ rfl rfl rfl rfl rfl (RV.off (by intro _ _ h; cases h) rfl rfl (by decide)) ?_
        refine Dr.read 16 _ 37 _ rfl rfl rfl rfl rfl (RV.off (by intro _ _ h; cases h) rfl rfl (by decide)) ?_
        refine Dr.read 17 _ 38 _ rfl rfl rfl rfl rfl (RV.offu (by intro _ _ h; cases h) rfl rfl) ?_
        refine Dr.read 18 _ 39 _ rfl rfl rfl rfl rfl (RV.offu (by intro _ _ h; cases h) rfl rfl) ?_
        refine Dr.read 19 _ 40 _ rfl rfl rfl rfl rfl (RV.offu (by intro _ _ h; cases h) rfl rfl) ?_
        refine Dr.read 20 _ 41 _ rfl rfl rfl rfl rfl (RV.offu (by intro _ _ h; cases h) rfl rfl) ?_
        refine Dr.read 21 _ 42 _ rfl rfl rfl rfl rfl (RV.offu (by intro _ _ h; cases h) rfl rfl) ?_
        refine Dr.read 22 _ 43 _ rfl rfl rfl rfl rfl (RV.offu (by intro _ _ h; cases h) rfl rfl) ?_
        refine Dr.read 23 _ 44 _ rfl rfl rfl rfl rfl (RV.offu (by intro _ _ h; cases h) rfl rfl) ?_
        refine Dr.read 24 _ 45 _ rfl rfl rfl rfl rfl (RV.offu (by intro _ _ h; cases h) rfl rfl) ?_
        refine Dr.read 25 _ 46 _ rfl rfl rfl rfl rfl (RV.offu (by intro _ _ h; cases h) rfl rfl) ?_
        refine Dr.read 26 _ 47 _ rfl rfl rfl rfl rfl (RV.offu (by intro _ _ h; cases h) rfl rfl) ?_
        refine Dr.read 27 _ 48 _ rfl rfl rfl rfl rfl (RV.offu (by intro _ _ h; cases h) rfl rfl) ?_
        refine Dr.read 28 _ 49 _ rfl rfl rfl rfl rfl (RV.offu (by intro _ _ h; cases h) rfl rfl) ?_
        refine Dr.read 29 _ 50 _ rfl rfl rfl rfl rfl (RV.offu (by intro _ _ h; cases h) rfl rfl) ?_
        refine Dr.read 30 _ 51 _ rfl rfl rfl rfl rfl (RV.offu (by intro _ _ h; cases h) rfl rfl) ?_
        refine Dr.read 31 _ 52 _ rfl rfl rfl rfl rfl (RV.offu (by intro _ _ h; cases h) rfl rfl) ?_
        refine Dr.read 32 _ 53 _ rfl rfl rfl rfl rfl (RV.offu (by intro _ _ h; cases h) rfl rfl) ?_
        refine Dr.read 33 _ 54 _ rfl rfl rfl rfl rfl (RV.offu (by intro _ _ h; cases h) rfl rfl) ?_
        refine Dr.read 34 _ 55 _ rfl rfl rfl rfl rfl (RV.off (by intro _ _ h; cases h) rfl rfl (by decide)) ?_
        refine Dr.read 35 _ 56 _ rfl rfl rfl rfl rfl (RV.of (by intro _ _ h; cases h) (.inl rfl) (fun _ xd => HV.pickT rfl rfl)) ?_
        refine Dr.fin rfl ?_
        refine nrm_and ?_
        refine AW.cond rfl (fun _ => ?_) (fun h => by cases h)
        refine AW.rs ?_
        refine AL.val rfl (.inl rfl) (HV.as rfl) ?_
        refine AL.nx ?_
        refine AW.ret ?_
        refine ret_blk (ret_and (ret_and (ret_blk (ret_and ?_))))
        refine post_one rfl rfl ?_ (.inr rfl)
        exact ⟨dec_f (fun h => by have q := (h.2.1 i (by omega)).1; have g31 : l.getD i [] = z13 := gd hz15 (by omega); rw [g31] at q; exact c27 q), X24⟩
    · -- else
      refine AW.exit ?_
      refine ex_and (ex_and (ex_blk ?_))
      refine nrm_and ?_
      refine AW.seq ?_
      refine AW.rs ?_
      refine AL.val rfl (.inl rfl) (HV.as rfl) ?_
      refine AL.nx ?_
      refine AW.block ?_
      have X57 := Ext.refl H7
      refine AW.loop (σ := Nat) (fun i2 => [(0, .pointer (some ⟨b, 0, none⟩)), (4, .int .i64 (i2 : Int))]) (fun i2 H' => Ext H H' ∧ Ext H1 H' ∧ Ext H7 H' ∧ At W H' b ⟨70, [.int .i64 n, v], 2⟩ ∧ i2 ≤ l.length ∧ (∀ i, i < i2 → ∀ j, j < l.length → i ≠ j → ¬ inI (l.getD i []) (l.getD j [])) ∧ True) (fun i2 => l.length - i2) 0 ⟨X8, X9, X57, hb10, Nat.zero_le _, fun j hj => absurd hj (Nat.not_lt_zero _), trivial⟩ ⟨rfl, rfl, trivial⟩ ?_
      rintro i2 H58 ⟨X59, X60, X61, hb62, hi2, hz, _⟩
      refine AW.seq ?_
      refine AW.rs ?_
      refine AL.val rfl (.inl rfl) (HV.mv rfl) ?_
      refine AL.val rfl (.inl rfl) (HV.mv rfl) ?_
      refine AL.val rfl (.inl rfl) (HV.nc rfl) ?_
      refine AL.val rfl (.inl rfl) (HV.fa fl70_1 rfl) ?_
      refine AL.val rfl (.inl rfl) (HV.ld rfl va23 (at_cell_add (j := 1) hb62 rfl)) ?_
      refine AL.val rfl (.inl rfl) (HV.len Try.underlying23 rfl hr.isSl) ?_
      refine AL.val rfl (.inl rfl) (HV.lti rfl rfl) ?_
      refine AL.nx ?_
      refine AW.ifd rfl (fun c63 => ?_) (fun c63 => ?_)
      · -- then
        refine AW.skip ?_
        refine nrm_and ?_
        refine AW.seq ?_
        refine AW.block ?_
        refine AW.rs ?_
        refine AL.val rfl (.inl rfl) (HV.as rfl) ?_
        refine AL.nx ?_
        refine AW.block ?_
        have X64 := Ext.refl H58
        refine AW.loop (σ := Nat) (fun j2 => [(0, .pointer (some ⟨b, 0, none⟩)), (4, .int .i64 (i2 : Int)), (57, .int .i64 (i2 : Int)), (58, .pointer (some ⟨b, 0, none⟩)), (59, .pointer (some ⟨b, 0, none⟩)), (60, .pointer (some ⟨b, 1, none⟩)), (61, v), (62, .int .i64 (l.length : Int)), (63, .bool (decide ((i2 : Int) < (l.length : Int)))), (5, .int .i64 (j2 : Int))]) (fun j2 H' => Ext H H' ∧ Ext H1 H' ∧ Ext H7 H' ∧ Ext H58 H' ∧ At W H' b ⟨70, [.int .i64 n, v], 2⟩ ∧ j2 ≤ l.length ∧ (∀ j, j < j2 → i2 ≠ j → ¬ inI (l.getD i2 []) (l.getD j [])) ∧ True) (fun j2 => l.length - j2) 0 ⟨X59, X60, X61, X64, hb62, Nat.zero_le _, fun j hj => absurd hj (Nat.not_lt_zero _), trivial⟩ ⟨rfl, rfl, rfl, rfl, rfl, rfl, rfl, rfl, rfl, rfl, trivial⟩ ?_
        rintro j2 H65 ⟨X66, X67, X68, X69, hb70, hj2, hy, _⟩
        refine AW.seq ?_
        refine AW.rs ?_
        refine AL.val rfl (.inl rfl) (HV.mv rfl) ?_
        refine AL.val rfl (.inl rfl) (HV.mv rfl) ?_
        refine AL.val rfl (.inl rfl) (HV.nc rfl) ?_
        refine AL.val rfl (.inl rfl) (HV.fa fl70_1 rfl) ?_
        refine AL.val rfl (.inl rfl) (HV.ld rfl va23 (at_cell_add (j := 1) hb70 rfl)) ?_
        refine AL.val rfl (.inl rfl) (HV.len Try.underlying23 rfl hr.isSl) ?_
        refine AL.val rfl (.inl rfl) (HV.lti rfl rfl) ?_
        refine AL.nx ?_
        refine AW.ifd rfl (fun c71 => ?_) (fun c71 => ?_)
        · -- then
          refine AW.skip ?_
          refine nrm_and ?_
          refine AW.seq ?_
          refine AW.block ?_
          refine AW.seq ?_
          refine AW.draw' [0, 0, 3, 7, 15, 31, 63, 127, 15, 511, 1023, 15, 2063, 6159, 14351, 15, 63503, 129039, 262143, 524287] mixed (by rfl) ?_
          refine Dr.read 0 _ 75 _ rfl rfl rfl rfl rfl (RV.of (by intro _ _ h; cases h) (.inl rfl) (fun _ xd => HV.mv rfl)) ?_
          refine Dr.read 1 _ 76 _ rfl rfl rfl rfl rfl (RV.of (by intro _ _ h; cases h) (.inl rfl) (fun _ xd => HV.mv rfl)) ?_
          refine Dr.read 2 _ 77 _ rfl rfl rfl rfl rfl (RV.of (by intro _ _ h; cases h) (.inl rfl) (fun _ xd => HV.nei rfl rfl)) ?_
          refine Dr.read 3 _ 78 _ rfl rfl rfl rfl rfl (RV.of (by intro _ _ h; cases h) (.inl rfl) (fun _ xd => HV.mv rfl)) ?_
          by_cases c72 : (i2 : Int) ≠ (j2 : Int)
          · -- true
            have c72_ : decide ((i2 : Int) ≠ (j2 : Int)) = true := decide_eq_true c72
            rw [c72_]
            refine Dr.read 4 _ 79 _ rfl rfl rfl rfl rfl (RV.of (by intro _ _ h; cases h) (.inr ⟨_, _, _, rfl, rfl, rfl⟩) (fun _ xd => HV.mv rfl)) ?_
            refine Dr.read 5 _ 80 _ rfl rfl rfl rfl rfl (RV.of (by intro _ _ h; cases h) (.inr ⟨_, _, _, rfl, rfl, rfl⟩) (fun _ xd => HV.nc rfl)) ?_
            refine Dr.read 6 _ 81 _ rfl rfl rfl rfl rfl (RV.of (by intro _ _ h; cases h) (.inr ⟨_, _, _, rfl, rfl, rfl⟩) (fun _ xd => HV.fa fl70_1 rfl)) ?_
            refine Dr.read 7 _ 82 _ rfl rfl rfl rfl rfl (RV.of (by intro _ _ h; cases h) (.inr ⟨_, _, _, rfl, rfl, rfl⟩) (fun _ xd => HV.ld rfl va23 (rdc_ext xd (at_cell_add (j := 1) hb70 rfl)))) ?_
            refine Dr.read 8 _ 83 _ rfl rfl rfl rfl rfl (RV.of (by intro _ _ h; cases h) (.inr ⟨_, _, _, rfl, rfl, rfl⟩) (fun _ xd => HV.mv rfl)) ?_
            obtain ⟨p73, z74, cs75, hz76, hK77, hC78, hP79⟩ := RdK.ix (q := (i2 : Int)) hr sl23 (by omega) (by omega)
            obtain ⟨v80, rfl, hr81⟩ := hK77
            have hm82 := hr81.max
            refine Dr.read 9 _ 84 _ rfl rfl rfl rfl rfl (RV.of (by intro _ _ h; cases h) (.inr ⟨_, _, _, rfl, rfl, rfl⟩) (fun _ xd => hP79 rfl rfl)) ?_
            refine Dr.read 10 _ 85 _ rfl rfl rfl rfl rfl (RV.of (by intro _ _ h; cases h) (.inr ⟨_, _, _, rfl, rfl, rfl⟩) (fun _ xd => HV.ld rfl va22 (rdc_ext xd (cells_first (hC78.ext X66) rfl)))) ?_
            refine Dr.read 11 _ 86 _ rfl rfl rfl rfl rfl (RV.of (by intro _ _ h; cases h) (.inr ⟨_, _, _, rfl, rfl, rfl⟩) (fun _ xd => HV.mv rfl)) ?_
            refine Dr.read 12 _ 87 _ rfl rfl rfl rfl rfl (RV.of (by intro _ _ h; cases h) (.inr ⟨_, _, _, rfl, rfl, rfl⟩) (fun _ xd => HV.nc rfl)) ?_
            refine Dr.read 13 _ 88 _ rfl rfl rfl rfl rfl (RV.of (by intro _ _ h; cases h) (.inr ⟨_, _, _, rfl, rfl, rfl⟩) (fun _ xd => HV.fa fl70_1 rfl)) ?_
            refine Dr.read 14 _ 89 _ rfl rfl rfl rfl rfl (RV.of (by intro _ _ h; cases h) (.inr ⟨_, _, _, rfl, rfl, rfl⟩) (fun _ xd => HV.ld rfl va23 (rdc_ext xd (at_cell_add (j := 1) hb70 rfl)))) ?_
            refine Dr.read 15 _ 90 _ rfl rfl rfl rfl rfl (RV.of (by intro _ _ h; cases h) (.inr ⟨_, _, _, rfl, rfl, rfl⟩) (fun _ xd => HV.mv rfl)) ?_
            obtain ⟨p83, z84, cs85, hz86, hK87, hC88, hP89⟩ := RdK.ix (q := (j2 : Int)) hr sl23 (by omega) (by omega)
            obtain ⟨v90, rfl, hr91⟩ := hK87
            have hm92 := hr91.max
            refine Dr.read 16 _ 91 _ rfl rfl rfl rfl rfl (RV.of (by intro _ _ h; cases h) (.inr ⟨_, _, _, rfl, rfl, rfl⟩) (fun _ xd => hP89 rfl rfl)) ?_
            refine Dr.read 17 _ 92 _ rfl rfl rfl rfl rfl (RV.of (by intro _ _ h; cases h) (.inr ⟨_, _, _, rfl, rfl, rfl⟩) (fun _ xd => HV.ld rfl va22 (rdc_ext xd (cells_first (hC88.ext X66) rfl)))) ?_
            refine Dr.eff 18 _ _ rfl (by intro d h; cases h; exact ⟨rfl, rfl⟩) rfl rfl rfl (EC.of (by intro _ _ h; cases h) (.inr ⟨_, _, _, rfl, rfl, rfl⟩) (WV.call fn201 rfl (l01Within_ok (hr81.ext X66) (hr91.ext X66)))) (fun v H' h => .inl (h.2)) ?_
            rintro _ H93 ⟨rfl, hx94⟩
            have X95 := Ext.trans X66 hx94
            have X96 := Ext.trans X67 hx94
            have X97 := Ext.trans X68 hx94
            have X98 := Ext.trans X69 hx94
            have hb99 := hb70.ext hx94
            refine Dr.read 19 _ 94 _ rfl rfl rfl rfl rfl (RV.of (by intro _ _ h; cases h) (.inl rfl) (fun _ xd => HV.pickT rfl rfl)) ?_
            refine Dr.fin rfl ?_
            refine nrm_and ?_
            refine AW.ifd rfl (fun c100 => ?_) (fun c100 => ?_)
            · -- then
              refine AW.rs ?_
              refine AL.val rfl (.inl rfl) (HV.as rfl) ?_
              refine AL.nx ?_
              refine AW.ret ?_
              refine ret_blk (ret_and (ret_and (ret_blk (ret_blk (ret_and (ret_and (ret_blk (ret_and ?_))))))))
              refine post_one rfl rfl ?_ (.inr rfl)
              exact ⟨dec_f (fun h => h.2.2 i2 (by omega) j2 (by omega) (by omega) (by have g85 : l.getD i2 [] = z74 := gd hz76 (by omega); have g92 : l.getD j2 [] = z84 := gd hz86 (by omega); rw [g85, g92]; exact c100)), X95⟩
            · -- else
              refine AW.skip ?_
              refine nrm_blk (nrm_and ?_)
              refine AW.reg ?_
              refine AL.val rfl (.inl rfl) (HV.mv rfl) ?_
              refine AL.val rfl (.inl rfl) (HV.add rfl rfl (by omega)) ?_
              refine AL.val rfl (.inl rfl) (HV.as rfl) ?_
              refine AL.nil ?_
              refine nrm_and ?_
              exact ⟨j2 + 1, ⟨X95, X96, X97, X98, hb99, by omega, fun k hk' => by
      rcases Nat.lt_or_ge k j2 with h1 | h1
      · exact hy k h1
      · obtain rfl : k = j2 := by omega
        intro hne; first | omega | (have g85 : l.getD i2 [] = z74 := gd hz76 (by omega); have g92 : l.getD k [] = z84 := gd hz86 (by omega); rw [g85, g92]; exact c100), trivial⟩, by first | omega | (dsimp only; omega), ⟨rfl, rfl, rfl, rfl, rfl, rfl, rfl, rfl, rfl, rfl, trivial⟩⟩
          · -- false
            have c72_ : decide ((i2 : Int) ≠ (j2 : Int)) = false := decide_eq_false c72
            rw [c72_]
            refine Dr.read 4 _ 79 _ rfl rfl rfl rfl rfl (RV.off (by intro _ _ h; cases h) rfl rfl (by decide)) ?_
            refine Dr.read 5 _ 80 _ rfl rfl rfl rfl rfl (RV.off (by intro _ _ h; cases h) rfl rfl (by decide)) ?_
            refine Dr.read 6 _ 81 _ rfl rfl rfl rfl rfl (RV.off (by intro _ _ h; cases h) rfl rfl (by decide)) ?_
            refine Dr.read 7 _ 82 _ rfl rfl rfl rfl rfl (RV.off (by intro _ _ h; cases h) rfl rfl (by decide)) ?_
            refine Dr.read 8 _ 83 _ rfl rfl rfl rfl rfl (RV.off (by intro _ _ h; cases h) rfl rfl (by decide)) ?_
            refine Dr.read 9 _ 84 _ rfl rfl rfl rfl rfl (RV.off (by intro _ _ h; cases h) rfl rfl (by decide)) ?_
            refine Dr.read 10 _ 85 _ rfl rfl rfl rfl rfl (RV.off (by intro _ _ h; cases h) rfl rfl (by decide)) ?_
            refine Dr.read 11 _ 86 _ rfl rfl rfl rfl rfl (RV.off (by intro _ _ h; cases h) rfl rfl (by decide)) ?_
            refine Dr.read 12 _ 87 _ rfl rfl rfl rfl rfl (RV.off (by intro _ _ h; cases h) rfl rfl (by decide)) ?_
            refine Dr.read 13 _ 88 _ rfl rfl rfl rfl rfl (RV.off (by intro _ _ h; cases h) rfl rfl (by decide)) ?_
            refine Dr.read 14 _ 89 _ rfl rfl rfl rfl rfl (RV.off (by intro _ _ h; cases h) rfl rfl (by decide)) ?_
            refine Dr.read 15 _ 90 _ rfl rfl rfl rfl rfl (RV.off (by intro _ _ h; cases h) rfl rfl (by decide)) ?_
            refine Dr.read 16 _ 91 _ rfl rfl rfl rfl rfl (RV.off (by intro _ _ h; cases h) rfl rfl (by decide)) ?_
            refine Dr.read 17 _ 92 _ rfl rfl rfl rfl rfl (RV.off (by intro _ _ h; cases h) rfl rfl (by decide)) ?_
            refine Dr.read 18 _ 93 _ rfl rfl rfl rfl rfl (RV.off (by intro _ _ h; cases h) rfl rfl (by decide)) ?_
            refine Dr.read 19 _ 94 _ rfl rfl rfl rfl rfl (RV.of (by intro _ _ h; cases h) (.inl rfl) (fun _ xd => HV.pickF rfl rfl)) ?_
            refine Dr.fin rfl ?_
            refine nrm_and ?_
            refine AW.cond rfl (fun h => by cases h) (fun _ => ?_)
            refine AW.skip ?_
            refine nrm_blk (nrm_and ?_)
            refine AW.reg ?_
            refine AL.val rfl (.inl rfl) (HV.mv rfl) ?_
            refine AL.val rfl (.inl rfl) (HV.add rfl rfl (by omega)) ?_
            refine AL.val rfl (.inl rfl) (HV.as rfl) ?_
            refine AL.nil ?_
            refine nrm_and ?_
            exact ⟨j2 + 1, ⟨X66, X67, X68, X69, hb70, by omega, fun k hk' => by
      rcases Nat.lt_or_ge k j2 with h1 | h1
      · exact hy k h1
      · obtain rfl : k = j2 := by omega
        intro hne; first | omega | (rw [g85, g92]; exact c72), trivial⟩, by first | omega | (dsimp only; omega), ⟨rfl, rfl, rfl, rfl, rfl, rfl, rfl, rfl, rfl, rfl, trivial⟩⟩
        · -- else
          refine AW.exit ?_
          refine ex_and (ex_and (ex_blk ?_))
          refine nrm_blk (nrm_and ?_)
          refine AW.reg ?_
          refine AL.val rfl (.inl rfl) (HV.mv rfl) ?_
          refine AL.val rfl (.inl rfl) (HV.add rfl rfl (by omega)) ?_
          refine AL.val rfl (.inl rfl) (HV.as rfl) ?_
          refine AL.nil ?_
          refine nrm_and ?_
          exact ⟨i2 + 1, ⟨X66, X67, X68, hb70, by omega, fun k hk' => by
      rcases Nat.lt_or_ge k i2 with h1 | h1
      · exact hz k h1
      · obtain rfl : k = i2 := by omega
        exact fun j hj => hy j (by omega), trivial⟩, by first | omega | (dsimp only; omega), ⟨rfl, rfl, trivial⟩⟩
      · -- else
        refine AW.exit ?_
        refine ex_and (ex_and (ex_blk ?_))
        refine nrm_and ?_
        refine AW.rs ?_
        refine AL.val rfl (.inl rfl) (HV.as rfl) ?_
        refine AL.nx ?_
        refine AW.ret ?_
        refine post_one rfl rfl ?_ (.inr rfl)
        exact ⟨dec_t ⟨hn, fun k hk => he k (by omega), fun i hi j hj => hz i (by omega) j hj⟩, X59⟩

set_option maxRecDepth 100000 in
theorem leaves_ok {v : Value} {l : List Int} {ok : Nat → Prop} (hr : RdK kI W H ok v l) (hl : l.length ≤ 1048576) : ACalls Try.prog W 168 #[v] H (fun r H' => Ext H H' ∧ OwnK kLf 61 W H' (fun b => H.bd ≤ b) r l) := by
  refine ACalls.of (args := [v]) Try.func168 rfl rfl ?_
  have X0 := Ext.refl H
  have hm1 := hr.max
  refine AW.rs ?_
  refine AL.val rfl (.inl rfl) (HV.as rfl) ?_
  refine AL.nx ?_
  refine AW.rs ?_
  have o2 := X0.bd
  refine AL.w rfl (.inl rfl) (WV.bsK (K := kLf) (l := ([] : List (Int))) (css := []) sl59 rfl rfl (by simp [Instr.fill]) rfl segs_nil) ?_
  rintro v3 H4 ⟨hx5, ho6⟩
  have X7 := Ext.trans X0 hx5
  refine AL.val rfl (.inl rfl) (HV.as rfl) ?_
  refine AL.nx ?_
  refine AW.seq ?_
  refine AW.rs ?_
  refine AL.val rfl (.inl rfl) (HV.mv rfl) ?_
  refine AL.val rfl (.inl rfl) (HV.len Try.underlying22 rfl hr.isSl) ?_
  refine AL.val rfl (.inl rfl) (HV.mv rfl) ?_
  refine AL.nx ?_
  refine AW.block ?_
  refine AW.loop (σ := Nat × Value) (fun ⟨i, vl⟩ => [(2, (.slice none 0 0)), (7, v), (8, .int .i64 (l.length : Int)), (3, vl), (9, .int .i64 (i : Int))]) (fun ⟨i, vl⟩ H' => Ext H H' ∧ i ≤ l.length ∧ OwnK kLf 61 W H' (fun b => H.bd ≤ b) vl (l.take i) ∧ True) (fun ⟨i, vl⟩ => l.length - i) (0, v3) ⟨X7, Nat.zero_le _, ho6, trivial⟩ ⟨rfl, rfl, rfl, rfl, rfl, trivial⟩ ?_
  rintro ⟨i, vl⟩ H9 ⟨X10, hi, hoV, _⟩
  refine AW.rs ?_
  refine AL.val rfl (.inl rfl) (HV.lti rfl rfl) ?_
  refine AL.nx ?_
  refine AW.seq ?_
  refine AW.ifd rfl (fun c11 => ?_) (fun c11 => ?_)
  · -- then
    refine AW.skip ?_
    refine nrm_and ?_
    refine AW.seq ?_
    refine AW.block ?_
    refine AW.rs ?_
    obtain ⟨p12, z13, cs14, hz15, hK16, hC17, hP18⟩ := RdK.ix (q := (i : Int)) hr sl22 (by omega) (by omega)
    obtain rfl : cs14 = [.int .i64 z13] := hK16
    refine AL.val rfl (.inl rfl) (hP18 rfl rfl) ?_
    refine AL.val rfl (.inl rfl) (HV.ld rfl va2 (cells_first (hC17.ext X10) rfl)) ?_
    refine AL.val rfl (.inl rfl) (HV.as rfl) ?_
    refine AL.nx ?_
    refine AW.reg ?_
    refine AL.val rfl (.inl rfl) (HV.mv rfl) ?_
    refine AL.val rfl (.inl rfl) (HV.mv rfl) ?_
    refine AL.val rfl (.inl rfl) (HV.bd rfl (bd61_0 z13)) ?_
    have X19 := Ext.refl H9
    have o20 := X10.bd
    have o21 := X19.bd
    have a22 := hoV.ltb
    refine AL.w rfl (.inl rfl) (WV.bsK (K := kLf) (l := [z13]) (css := [[.int .i64 z13, .int .i64 0, .slice none 0 0]]) sl59 rfl rfl (by simp [Instr.fill, Value.cells, kLf, rng3]) rfl (segs_cons rfl segs_nil)) ?_
    rintro v23 H24 ⟨hx25, ho26⟩
    have X27 := Ext.trans X10 hx25
    have X28 := Ext.trans X19 hx25
    have ho29 := hoV.ext hx25
    have X31 := Ext.refl H24
    refine AL.w rfl (.inl rfl) (WV.apk sl59 rfl rfl ho29 ho26.rd (by simp only [List.length_take, List.length_singleton]; omega) (by simp only [List.length_take, List.length_singleton]; omega) (fun b hb _ e => Nat.lt_irrefl _ (Nat.lt_of_lt_of_le (a22 b e) hb))) ?_
    rintro v32 H33 ⟨hx34, ho35, hb36⟩
    have ho37 := ho35.narrow (ok' := fun b => H.bd ≤ b) kLf_flat (fun b q => (hb36 b q).elim (fun e => (ho29.blk b e).1) (fun e => Nat.le_trans X27.bd e))
    have X38 := Ext.thru X27 hx34 (fun b hb => Nat.le_trans o2 (ho29.blk b hb).1)
    refine AL.val rfl (.inl rfl) (HV.as rfl) ?_
    refine AL.nil ?_
    refine nrm_blk (nrm_and ?_)
    refine AW.reg ?_
    refine AL.val rfl (.inl rfl) (HV.add rfl rfl (by omega)) ?_
    refine AL.val rfl (.inl rfl) (HV.mv rfl) ?_
    refine AL.nil ?_
    refine nrm_and ?_
    exact ⟨(i + 1, v32), ⟨X38, by omega, by rw [tk1 (getq hz15 rfl)]; exact ho37, trivial⟩, by first | omega | (dsimp only; omega), ⟨rfl, rfl, rfl, rfl, rfl, trivial⟩⟩
  · -- else
    refine AW.exit ?_
    refine ex_and (ex_and (ex_blk ?_))
    refine nrm_and ?_
    refine AW.rs ?_
    refine AL.val rfl (.inl rfl) (HV.mv rfl) ?_
    refine AL.val rfl (.inl rfl) (HV.as rfl) ?_
    refine AL.nx ?_
    refine AW.ret ?_
    refine post_one rfl rfl ?_ (.inr rfl)
    exact ⟨X10, by rw [List.take_of_length_le (by omega)] at hoV; exact hoV.okk (fun b hb _ => Nat.le_trans o2 hb)⟩

set_option maxRecDepth 100000 in
theorem inode_ok {u : Value} {n : Nat} (k : Int) (isl0 : IsSl u n) : ACalls Try.prog W 167 #[.int .i64 k, u] H (fun r H' => r = .agg #[.int .i64 (-1), .int .i64 k, u] ∧ Ext H H') := by
  refine ACalls.of (args := [.int .i64 k, u]) Try.func167 rfl rfl ?_
  have X0 := Ext.refl H
  refine AW.rs ?_
  refine AL.w rfl (.inl rfl) (WV.al ze61 rfl) ?_
  rintro _ H2 ⟨b1, rfl, hx3, hn4, hb5⟩
  have o6 := Nat.le_trans X0.bd hn4
  have X7 := Ext.trans X0 hx3
  have X8 := Ext.refl H2
  refine AL.nx ?_
  refine AW.rs ?_
  refine AL.val rfl (.inl rfl) (HV.mv rfl) ?_
  refine AL.val rfl (.inl rfl) (HV.mv rfl) ?_
  refine AL.val rfl (.inl rfl) (HV.bd rfl (bd61_0_1_2 (-1) k (isl0.ext X7).isSl)) ?_
  refine AL.w0 (.inl rfl) (WV.st rfl rfl va61 rfl hb5 (Nat.le_of_ble_eq_true rfl) (one_cons rfl (one_cons rfl (one_cons (sl_one1 (isl0.ext X7).isSl) one_nil)))) ?_
  rintro _ H9 ⟨hx10, hb11⟩
  have X12 := Ext.thru X7 hx10 (fun z_ hz_ => by rw [hz_]; exact o6)
  have hb14 : At W H9 b1 ⟨61, [.int .i64 (-1), .int .i64 k, u], 3⟩ := hb11
  refine AL.nx ?_
  refine AW.ret ?_
  refine post_cell rfl rfl va61 hb14 ?_ (.inr rfl)
  exact ⟨rfl, X12⟩

set_option maxRecDepth 100000 in
theorem snode_ok {u : Value} {n : Nat} (k : Int) (isl0 : IsSl u n) : ACalls Try.prog W 164 #[.int .i64 k, u] H (fun r H' => r = .agg #[.int .i64 (-1), .int .i64 k, u] ∧ Ext H H') := by
  refine ACalls.of (args := [.int .i64 k, u]) Try.func164 rfl rfl ?_
  have X0 := Ext.refl H
  refine AW.rs ?_
  refine AL.w rfl (.inl rfl) (WV.al ze61 rfl) ?_
  rintro _ H2 ⟨b1, rfl, hx3, hn4, hb5⟩
  have o6 := Nat.le_trans X0.bd hn4
  have X7 := Ext.trans X0 hx3
  have X8 := Ext.refl H2
  refine AL.nx ?_
  refine AW.rs ?_
  refine AL.val rfl (.inl rfl) (HV.mv rfl) ?_
  refine AL.val rfl (.inl rfl) (HV.mv rfl) ?_
  refine AL.val rfl (.inl rfl) (HV.bd rfl (bd61_0_1_2 (-1) k (isl0.ext X7).isSl)) ?_
  refine AL.w0 (.inl rfl) (WV.st rfl rfl va61 rfl hb5 (Nat.le_of_ble_eq_true rfl) (one_cons rfl (one_cons rfl (one_cons (sl_one1 (isl0.ext X7).isSl) one_nil)))) ?_
  rintro _ H9 ⟨hx10, hb11⟩
  have X12 := Ext.thru X7 hx10 (fun z_ hz_ => by rw [hz_]; exact o6)
  have hb14 : At W H9 b1 ⟨61, [.int .i64 (-1), .int .i64 k, u], 3⟩ := hb11
  refine AL.nx ?_
  refine AW.ret ?_
  refine post_cell rfl rfl va61 hb14 ?_ (.inr rfl)
  exact ⟨rfl, X12⟩

set_option maxRecDepth 100000 in
theorem leaf_ok (x : Int) : ACalls Try.prog W 163 #[.int .i64 x] H (fun r H' => r = .agg #[.int .i64 x, .int .i64 0, .slice none 0 0] ∧ Ext H H') := by
  refine ACalls.of (args := [.int .i64 x]) Try.func163 rfl rfl ?_
  have X0 := Ext.refl H
  refine AW.rs ?_
  refine AL.w rfl (.inl rfl) (WV.al ze61 rfl) ?_
  rintro _ H2 ⟨b1, rfl, hx3, hn4, hb5⟩
  have o6 := Nat.le_trans X0.bd hn4
  have X7 := Ext.trans X0 hx3
  have X8 := Ext.refl H2
  refine AL.nx ?_
  refine AW.rs ?_
  refine AL.val rfl (.inl rfl) (HV.mv rfl) ?_
  refine AL.val rfl (.inl rfl) (HV.bd rfl (bd61_0 x)) ?_
  refine AL.w0 (.inl rfl) (WV.st rfl rfl va61 rfl hb5 (Nat.le_of_ble_eq_true rfl) (one_cons rfl (one_cons rfl (one_cons (sl_one1 ⟨none, 0, rfl⟩) one_nil)))) ?_
  rintro _ H9 ⟨hx10, hb11⟩
  have X12 := Ext.thru X7 hx10 (fun z_ hz_ => by rw [hz_]; exact o6)
  have hb14 : At W H9 b1 ⟨61, [.int .i64 x, .int .i64 0, (.slice none 0 0)], 3⟩ := hb11
  refine AL.nx ?_
  refine AW.ret ?_
  refine post_cell rfl rfl va61 hb14 ?_ (.inr rfl)
  exact ⟨rfl, X12⟩

set_option maxRecDepth 100000 in
theorem orLim_ok {d : Nat} {ok : Nat → Prop} {z : GT d} {a l : Int} {v : Value} (hK : (kG d).rd W H ok z [.int .i64 a, .int .i64 l, v]) (n : Int) (hs : szG d z ≤ 2000000) : ACalls Try.prog W 169 #[.int .i64 n, .agg #[.int .i64 a, .int .i64 l, v]] H (fun r H' => (∃ (a' l' : Int) (u : Value) (m : Nat), r = .tuple #[.agg #[.int .i64 a', .int .i64 l', u], .int .i64 (if vG n d z then (0 : Int) else 3)] ∧ IsSl u m ∧ ((if vG n d z then (0 : Int) else 3) = 0 → a' = a ∧ l' = l ∧ u = v)) ∧ Ext H H') := by
  refine ACalls.of (args := [.int .i64 n, .agg #[.int .i64 a, .int .i64 l, v]]) Try.func169 rfl rfl ?_
  have X0 := Ext.refl H
  obtain ⟨_, isl0⟩ := gk_isl hK
  refine AW.rs ?_
  refine AL.w rfl (.inl rfl) (WV.bx rfl rfl) ?_
  rintro _ H2 ⟨b1, rfl, hx3, hn4, hb5⟩
  have o6 := Nat.le_trans X0.bd hn4
  have X7 := Ext.trans X0 hx3
  have X8 := Ext.refl H2
  refine AL.w rfl (.inl rfl) (WV.al ze61 rfl) ?_
  rintro _ H10 ⟨b9, rfl, hx11, hn12, hb13⟩
  have o14 := Nat.le_trans X7.bd hn12
  have o15 := Nat.le_trans X8.bd hn12
  have ne16 : b1 ≠ b9 := by have := hb5.lt; omega
  have X17 := Ext.trans X7 hx11
  have X18 := Ext.trans X8 hx11
  have hb19 := hb5.ext hx11
  have X20 := Ext.refl H10
  refine AL.val rfl (.inl rfl) (HV.as rfl) ?_
  refine AL.nx ?_
  refine AW.seq ?_
  refine AW.rs ?_
  refine AL.val rfl (.inl rfl) (HV.mv rfl) ?_
  refine AL.val rfl (.inl rfl) (HV.lda (cs := [.int .i64 a, .int .i64 l, v]) rfl va61 (at_cells hb19 rfl)) ?_
  refine AL.w rfl (.inl rfl) (WV.call fn105 rfl (ValidGate_ok (Kd.ext (kG d) hK X17) n hs)) ?_
  rintro _ H21 ⟨rfl, hx22⟩
  have X23 := Ext.trans X17 hx22
  have X24 := Ext.trans X18 hx22
  have X25 := Ext.trans X20 hx22
  have hb26 := hb19.ext hx22
  have hb27 := hb13.ext hx22
  refine AL.val rfl (.inl rfl) (HV.not rfl) ?_
  refine AL.nx ?_
  refine AW.ifn rfl (fun c28 => ?_) (fun c28 => ?_)
  · -- then
    refine AW.rs ?_
    refine AL.val rfl (.inl rfl) (HV.bd rfl (bd61_ )) ?_
    refine AL.w0 (.inl rfl) (WV.st rfl rfl va61 rfl hb27 (Nat.le_of_ble_eq_true rfl) (one_cons rfl (one_cons rfl (one_cons (sl_one1 ⟨none, 0, rfl⟩) one_nil)))) ?_
    rintro _ H29 ⟨hx30, hb31⟩
    have X32 := Ext.thru X23 hx30 (fun z_ hz_ => by rw [hz_]; exact o14)
    have X33 := Ext.thru X24 hx30 (fun z_ hz_ => by rw [hz_]; exact o15)
    have hb35 := hb26.but hx30 ne16
    have hb36 : At W H29 b9 ⟨61, [.int .i64 0, .int .i64 0, (.slice none 0 0)], 3⟩ := hb31
    refine AL.val rfl (.inl rfl) (HV.as rfl) ?_
    refine AL.nx ?_
    refine AW.ret ?_
    refine ret_and ?_
    refine post_ct rfl rfl rfl va61 hb36 ?_ (.inr rfl)
    have hv : ¬ vG n d z := (by assumption); rw [if_neg hv]; exact ⟨⟨_, _, _, 0, rfl, ⟨none, 0, rfl⟩, fun e => absurd e (by decide)⟩, X32⟩
  · -- else
    refine AW.skip ?_
    refine nrm_and ?_
    refine AW.rs ?_
    refine AL.val rfl (.inl rfl) (HV.lda (cs := [.int .i64 a, .int .i64 l, v]) rfl va61 (at_cells hb26 rfl)) ?_
    refine AL.w0 (.inl rfl) (WV.st rfl rfl va61 rfl hb27 (Nat.le_of_ble_eq_true rfl) (one_cons rfl (one_cons rfl (one_cons (sl_one1 (isl0.ext X23).isSl) one_nil)))) ?_
    rintro _ H37 ⟨hx38, hb39⟩
    have X40 := Ext.thru X23 hx38 (fun z_ hz_ => by rw [hz_]; exact o14)
    have X41 := Ext.thru X24 hx38 (fun z_ hz_ => by rw [hz_]; exact o15)
    have hb43 := hb26.but hx38 ne16
    have hb44 : At W H37 b9 ⟨61, [.int .i64 a, .int .i64 l, v], 3⟩ := hb39
    refine AL.val rfl (.inl rfl) (HV.as rfl) ?_
    refine AL.nx ?_
    refine AW.ret ?_
    refine post_ct rfl rfl rfl va61 hb44 ?_ (.inr rfl)
    have hv : vG n d z := (by assumption); rw [if_pos hv]; exact ⟨⟨_, _, _, _, rfl, isl0, fun _ => ⟨rfl, rfl, rfl⟩⟩, X40⟩

set_option maxRecDepth 100000 in
theorem told_ok {d : Nat} {ok : Nat → Prop} {z : GT d} {a l : Int} {v : Value} (hK : (kG d).rd W H ok z [.int .i64 a, .int .i64 l, v]) (n : Int) : ACalls Try.prog W 165 #[.int .i64 n, .agg #[.int .i64 a, .int .i64 l, v]] H (fun r H' => (∃ (a' l' : Int) (u : Value) (m : Nat), r = .tuple #[.agg #[.int .i64 a', .int .i64 l', u], .int .i64 (if vG n d z then (0 : Int) else 3)] ∧ IsSl u m ∧ ((if vG n d z then (0 : Int) else 3) = 0 → a' = a ∧ l' = l ∧ u = v)) ∧ Ext H H') := by
  refine ACalls.of (args := [.int .i64 n, .agg #[.int .i64 a, .int .i64 l, v]]) Try.func165 rfl rfl ?_
  have X0 := Ext.refl H
  obtain ⟨_, isl0⟩ := gk_isl hK
  refine AW.rs ?_
  refine AL.w rfl (.inl rfl) (WV.bx rfl rfl) ?_
  rintro _ H2 ⟨b1, rfl, hx3, hn4, hb5⟩
  have o6 := Nat.le_trans X0.bd hn4
  have X7 := Ext.trans X0 hx3
  have X8 := Ext.refl H2
  refine AL.w rfl (.inl rfl) (WV.al ze61 rfl) ?_
  rintro _ H10 ⟨b9, rfl, hx11, hn12, hb13⟩
  have o14 := Nat.le_trans X7.bd hn12
  have o15 := Nat.le_trans X8.bd hn12
  have ne16 : b1 ≠ b9 := by have := hb5.lt; omega
  have X17 := Ext.trans X7 hx11
  have X18 := Ext.trans X8 hx11
  have hb19 := hb5.ext hx11
  have X20 := Ext.refl H10
  refine AL.val rfl (.inl rfl) (HV.as rfl) ?_
  refine AL.nx ?_
  refine AW.seq ?_
  refine AW.rs ?_
  refine AL.val rfl (.inl rfl) (HV.mv rfl) ?_
  refine AL.w rfl (.inl rfl) (WV.call fn100 rfl (l02Ok_ok (Kd.ext (kG d) hK X17) (at_cells hb19 rfl) n)) ?_
  rintro _ H21 ⟨rfl, hx22⟩
  have X23 := Ext.trans X17 hx22
  have X24 := Ext.trans X18 hx22
  have X25 := Ext.trans X20 hx22
  have hb26 := hb19.ext hx22
  have hb27 := hb13.ext hx22
  refine AL.val rfl (.inl rfl) (HV.not rfl) ?_
  refine AL.nx ?_
  refine AW.ifn rfl (fun c28 => ?_) (fun c28 => ?_)
  · -- then
    refine AW.rs ?_
    refine AL.val rfl (.inl rfl) (HV.bd rfl (bd61_ )) ?_
    refine AL.w0 (.inl rfl) (WV.st rfl rfl va61 rfl hb27 (Nat.le_of_ble_eq_true rfl) (one_cons rfl (one_cons rfl (one_cons (sl_one1 ⟨none, 0, rfl⟩) one_nil)))) ?_
    rintro _ H29 ⟨hx30, hb31⟩
    have X32 := Ext.thru X23 hx30 (fun z_ hz_ => by rw [hz_]; exact o14)
    have X33 := Ext.thru X24 hx30 (fun z_ hz_ => by rw [hz_]; exact o15)
    have hb35 := hb26.but hx30 ne16
    have hb36 : At W H29 b9 ⟨61, [.int .i64 0, .int .i64 0, (.slice none 0 0)], 3⟩ := hb31
    refine AL.val rfl (.inl rfl) (HV.as rfl) ?_
    refine AL.nx ?_
    refine AW.ret ?_
    refine ret_and ?_
    refine post_ct rfl rfl rfl va61 hb36 ?_ (.inr rfl)
    have hv : ¬ vG n d z := (by assumption); rw [if_neg hv]; exact ⟨⟨_, _, _, 0, rfl, ⟨none, 0, rfl⟩, fun e => absurd e (by decide)⟩, X32⟩
  · -- else
    refine AW.skip ?_
    refine nrm_and ?_
    refine AW.rs ?_
    refine AL.val rfl (.inl rfl) (HV.lda (cs := [.int .i64 a, .int .i64 l, v]) rfl va61 (at_cells hb26 rfl)) ?_
    refine AL.w0 (.inl rfl) (WV.st rfl rfl va61 rfl hb27 (Nat.le_of_ble_eq_true rfl) (one_cons rfl (one_cons rfl (one_cons (sl_one1 (isl0.ext X23).isSl) one_nil)))) ?_
    rintro _ H37 ⟨hx38, hb39⟩
    have X40 := Ext.thru X23 hx38 (fun z_ hz_ => by rw [hz_]; exact o14)
    have X41 := Ext.thru X24 hx38 (fun z_ hz_ => by rw [hz_]; exact o15)
    have hb43 := hb26.but hx38 ne16
    have hb44 : At W H37 b9 ⟨61, [.int .i64 a, .int .i64 l, v], 3⟩ := hb39
    refine AL.val rfl (.inl rfl) (HV.as rfl) ?_
    refine AL.nx ?_
    refine AW.ret ?_
    refine post_ct rfl rfl rfl va61 hb44 ?_ (.inr rfl)
    have hv : vG n d z := (by assumption); rw [if_pos hv]; exact ⟨⟨_, _, _, _, rfl, isl0, fun _ => ⟨rfl, rfl, rfl⟩⟩, X40⟩

set_option maxRecDepth 100000 in
theorem implGF_ok {v : Value} {l : List (List Int)} {ok : Nat → Prop} (n : Int) (hr : RdK (kR kI) W H ok v l) (hl : (l.length ≤ 1048576 ∧ ∀ x ∈ l, x.length ≤ 1048576)) : ACalls Try.prog W 114 #[.agg #[.int .i64 n, v]] H (fun r H' => (∃ (a' l' : Int) (u : Value) (m : Nat), r = .tuple #[.agg #[.int .i64 a', .int .i64 l', u], .int .i64 (gfC n l)] ∧ IsSl u m ∧ (gfC n l = 0 → (kG 3).rd W H' (fun b => H.bd ≤ b) (famG l) [.int .i64 a', .int .i64 l', u])) ∧ Ext H H') := by
  refine ACalls.of (args := [.agg #[.int .i64 n, v]]) Try.func114 rfl rfl ?_
  have X0 := Ext.refl H
  have hm1 := hr.max
  have hl1 := hl.1
  refine AW.rs ?_
  refine AL.w rfl (.inl rfl) (WV.bx rfl rfl) ?_
  rintro _ H3 ⟨b2, rfl, hx4, hn5, hb6⟩
  have o7 := Nat.le_trans X0.bd hn5
  have X8 := Ext.trans X0 hx4
  have X9 := Ext.refl H3
  refine AL.w rfl (.inl rfl) (WV.al ze61 rfl) ?_
  rintro _ H11 ⟨b10, rfl, hx12, hn13, hb14⟩
  have o15 := Nat.le_trans X8.bd hn13
  have o16 := Nat.le_trans X9.bd hn13
  have ne17 : b2 ≠ b10 := by have := hb6.lt; omega
  have X18 := Ext.trans X8 hx12
  have X19 := Ext.trans X9 hx12
  have hb20 := hb6.ext hx12
  have X21 := Ext.refl H11
  refine AL.val rfl (.inl rfl) (HV.as rfl) ?_
  refine AL.nx ?_
  refine AW.seq ?_
  refine AW.rs ?_
  refine AL.val rfl (.inl rfl) (HV.lda (cs := [.int .i64 n, v]) rfl va70 (at_cells hb20 rfl)) ?_
  refine AL.w rfl (.inl rfl) (WV.call fn166 rfl (validFam_ok n (hr.ext X18))) ?_
  rintro _ H22 ⟨rfl, hx23⟩
  have X24 := Ext.trans X18 hx23
  have X25 := Ext.trans X19 hx23
  have X26 := Ext.trans X21 hx23
  have hb27 := hb20.ext hx23
  have hb28 := hb14.ext hx23
  refine AL.val rfl (.inl rfl) (HV.not rfl) ?_
  refine AL.nx ?_
  refine AW.ifn rfl (fun c29 => ?_) (fun c29 => ?_)
  · -- then
    refine AW.rs ?_
    refine AL.val rfl (.inl rfl) (HV.bd rfl (bd61_ )) ?_
    refine AL.w0 (.inl rfl) (WV.st rfl rfl va61 rfl hb28 (Nat.le_of_ble_eq_true rfl) (one_cons rfl (one_cons rfl (one_cons (sl_one1 ⟨none, 0, rfl⟩) one_nil)))) ?_
    rintro _ H30 ⟨hx31, hb32⟩
    have X33 := Ext.thru X24 hx31 (fun z_ hz_ => by rw [hz_]; exact o15)
    have X34 := Ext.thru X25 hx31 (fun z_ hz_ => by rw [hz_]; exact o16)
    have q36 := Nat.le_trans X26.bd hx31.bd
    have hb37 := hb27.but hx31 ne17
    have hb38 : At W H30 b10 ⟨61, [.int .i64 0, .int .i64 0, (.slice none 0 0)], 3⟩ := hb32
    refine AL.val rfl (.inl rfl) (HV.as rfl) ?_
    refine AL.nx ?_
    refine AW.ret ?_
    refine ret_and ?_
    refine post_ct rfl rfl rfl va61 hb38 ?_ (.inr rfl)
    have hC := gf_1 c29; rw [hC]; exact ⟨⟨_, _, _, 0, rfl, ⟨none, 0, rfl⟩, fun e => absurd e (by decide)⟩, X33⟩
  · -- else
    refine AW.skip ?_
    refine nrm_and ?_
    refine AW.seq ?_
    refine AW.rs ?_
    have hok : okC n l := (by assumption)
    refine AL.val rfl (.inl rfl) (HV.fa fl70_1 rfl) ?_
    refine AL.val rfl (.inl rfl) (HV.ld rfl va23 (at_cell_add (j := 1) hb27 rfl)) ?_
    refine AL.val rfl (.inl rfl) (HV.len Try.underlying23 rfl hr.isSl) ?_
    refine AL.val rfl (.inl rfl) (HV.eqi rfl rfl) ?_
    refine AL.val rfl (.inl rfl) (HV.mv rfl) ?_
    by_cases c39 : (l.length : Int) = 0
    · -- true
      have c39_ : decide ((l.length : Int) = 0) = true := decide_eq_true c39
      rw [c39_]
      refine AL.off rfl rfl (by decide) rfl ?_
      refine AL.off rfl rfl (by decide) rfl ?_
      refine AL.off rfl rfl (by decide) rfl ?_
      refine AL.off rfl rfl (by decide) rfl ?_
      refine AL.off rfl rfl (by decide) rfl ?_
      refine AL.off rfl rfl (by decide) rfl ?_
      refine AL.val rfl (.inl rfl) (HV.pickT rfl rfl) ?_
      refine AL.nx ?_
      refine AW.cond rfl (fun _ => ?_) (fun h => by cases h)
      refine AW.rs ?_
      refine AL.val rfl (.inl rfl) (HV.bd rfl (bd61_ )) ?_
      refine AL.w0 (.inl rfl) (WV.st rfl rfl va61 rfl hb28 (Nat.le_of_ble_eq_true rfl) (one_cons rfl (one_cons rfl (one_cons (sl_one1 ⟨none, 0, rfl⟩) one_nil)))) ?_
      rintro _ H41 ⟨hx42, hb43⟩
      have X44 := Ext.thru X24 hx42 (fun z_ hz_ => by rw [hz_]; exact o15)
      have X45 := Ext.thru X25 hx42 (fun z_ hz_ => by rw [hz_]; exact o16)
      have q47 := Nat.le_trans X26.bd hx42.bd
      have hb48 := hb27.but hx42 ne17
      have hb49 : At W H41 b10 ⟨61, [.int .i64 0, .int .i64 0, (.slice none 0 0)], 3⟩ := hb43
      refine AL.val rfl (.inl rfl) (HV.as rfl) ?_
      refine AL.nx ?_
      refine AW.ret ?_
      refine ret_and ?_
      refine post_ct rfl rfl rfl va61 hb49 ?_ (.inr rfl)
      have hC := gf_4 hok (by rw [show l = [] from List.eq_nil_of_length_eq_zero (by omega)]; rfl); rw [hC]; exact ⟨⟨_, _, _, 0, rfl, ⟨none, 0, rfl⟩, fun e => absurd e (by decide)⟩, X44⟩
    · -- false
      have c39_ : decide ((l.length : Int) = 0) = false := decide_eq_false c39
      rw [c39_]
      refine AL.val rfl (.inr ⟨_, _, _, rfl, rfl, rfl⟩) (HV.fa fl70_1 rfl) ?_
      refine AL.val rfl (.inr ⟨_, _, _, rfl, rfl, rfl⟩) (HV.ld rfl va23 (at_cell_add (j := 1) hb27 rfl)) ?_
      obtain ⟨p50, z51, cs52, hz53, hK54, hC55, hP56⟩ := RdK.ix (q := 0) hr sl23 (by omega) (by omega)
      obtain ⟨v57, rfl, hr58⟩ := hK54
      have hm59 := hr58.max
      refine AL.val rfl (.inr ⟨_, _, _, rfl, rfl, rfl⟩) (hP56 rfl rfl) ?_
      refine AL.val rfl (.inr ⟨_, _, _, rfl, rfl, rfl⟩) (HV.ld rfl va22 (cells_first (hC55.ext X24) rfl)) ?_
      refine AL.val rfl (.inr ⟨_, _, _, rfl, rfl, rfl⟩) (HV.len Try.underlying22 rfl hr58.isSl) ?_
      refine AL.val rfl (.inr ⟨_, _, _, rfl, rfl, rfl⟩) (HV.eqi rfl rfl) ?_
      refine AL.val rfl (.inl rfl) (HV.pickF rfl rfl) ?_
      refine AL.nx ?_
      refine AW.ifd rfl (fun c60 => ?_) (fun c60 => ?_)
      · -- then
        refine AW.rs ?_
        refine AL.val rfl (.inl rfl) (HV.bd rfl (bd61_ )) ?_
        refine AL.w0 (.inl rfl) (WV.st rfl rfl va61 rfl hb28 (Nat.le_of_ble_eq_true rfl) (one_cons rfl (one_cons rfl (one_cons (sl_one1 ⟨none, 0, rfl⟩) one_nil)))) ?_
        rintro _ H61 ⟨hx62, hb63⟩
        have X64 := Ext.thru X24 hx62 (fun z_ hz_ => by rw [hz_]; exact o15)
        have X65 := Ext.thru X25 hx62 (fun z_ hz_ => by rw [hz_]; exact o16)
        have q67 := Nat.le_trans X26.bd hx62.bd
        have hb68 := hb27.but hx62 ne17
        have hb69 : At W H61 b10 ⟨61, [.int .i64 0, .int .i64 0, (.slice none 0 0)], 3⟩ := hb63
        refine AL.val rfl (.inl rfl) (HV.as rfl) ?_
        refine AL.nx ?_
        refine AW.ret ?_
        refine ret_and ?_
        refine post_ct rfl rfl rfl va61 hb69 ?_ (.inr rfl)
        have hC := gf_e hok hz53 (List.eq_nil_of_length_eq_zero (by omega)); rw [hC]; exact ⟨⟨_, _, _, 0, rfl, ⟨none, 0, rfl⟩, fun e => absurd e (by decide)⟩, X64⟩
      · -- else
        refine AW.skip ?_
        refine nrm_and ?_
        refine AW.rs ?_
        have hne : ¬ l.getD 0 [] = [] := fun e => by rw [gd (d := []) hz53 (by omega)] at e; have e2 := congrArg List.length e; simp only [List.length_nil] at e2; omega
        have X70 := Ext.refl H22
        have y71 := hb27.lt
        have y72 := hb28.lt
        have o73 := X24.bd
        have o74 := X25.bd
        have o75 := X26.bd
        have o76 := X70.bd
        refine AL.w rfl (.inl rfl) (WV.bsK (K := kNd) (l := ([] : List (List Int))) (css := []) sl59 rfl rfl (by simp [Instr.fill]) rfl segs_nil) ?_
        rintro v77 H78 ⟨hx79, ho80⟩
        have X81 := Ext.trans X24 hx79
        have X82 := Ext.trans X25 hx79
        have X83 := Ext.trans X26 hx79
        have X84 := Ext.trans X70 hx79
        have hb85 := hb27.ext hx79
        have hb86 := hb28.ext hx79
        have ho87 := ho80.deep0
        refine AL.val rfl (.inl rfl) (HV.as rfl) ?_
        refine AL.nx ?_
        refine AW.seq ?_
        refine AW.rs ?_
        refine AL.val rfl (.inl rfl) (HV.fa fl70_1 rfl) ?_
        refine AL.val rfl (.inl rfl) (HV.ld rfl va23 (at_cell_add (j := 1) hb85 rfl)) ?_
        refine AL.val rfl (.inl rfl) (HV.len Try.underlying23 rfl hr.isSl) ?_
        refine AL.val rfl (.inl rfl) (HV.mv rfl) ?_
        refine AL.nx ?_
        refine AW.block ?_
        refine AW.loop (σ := Nat × Value) (fun ⟨i, vk⟩ => [(1, .pointer (some ⟨b2, 0, none⟩)), (2, .pointer (some ⟨b10, 0, none⟩)), (3, .int .i64 0), (26, v), (27, .int .i64 (l.length : Int)), (4, vk), (28, .int .i64 (i : Int))]) (fun ⟨i, vk⟩ H' => Ext H H' ∧ Ext H3 H' ∧ Ext H11 H' ∧ Ext H22 H' ∧ At W H' b2 ⟨70, [.int .i64 n, v], 2⟩ ∧ At W H' b10 ⟨61, [.int .i64 0, .int .i64 0, (.slice none 0 0)], 3⟩ ∧ i ≤ l.length ∧ OwnD kNd 61 W H' (fun b => H22.bd ≤ b) vk (l.take i) ∧ True) (fun ⟨i, vk⟩ => l.length - i) (0, v77) ⟨X81, X82, X83, X84, hb85, hb86, Nat.zero_le _, ho87, trivial⟩ ⟨rfl, rfl, rfl, rfl, rfl, rfl, rfl, trivial⟩ ?_
        rintro ⟨i, vk⟩ H89 ⟨X90, X91, X92, X93, hb94, hb95, hi, hoK, _⟩
        refine AW.rs ?_
        refine AL.val rfl (.inl rfl) (HV.lti rfl rfl) ?_
        refine AL.nx ?_
        refine AW.seq ?_
        refine AW.ifd rfl (fun c96 => ?_) (fun c96 => ?_)
        · -- then
          refine AW.skip ?_
          refine nrm_and ?_
          refine AW.seq ?_
          refine AW.block ?_
          refine AW.rs ?_
          obtain ⟨p97, z98, cs99, hz100, hK101, hC102, hP103⟩ := RdK.ix (q := (i : Int)) hr sl23 (by omega) (by omega)
          obtain ⟨v104, rfl, hr105⟩ := hK101
          have hm106 := hr105.max
          refine AL.val rfl (.inl rfl) (hP103 rfl rfl) ?_
          refine AL.val rfl (.inl rfl) (HV.ld rfl va22 (cells_first (hC102.ext X90) rfl)) ?_
          refine AL.val rfl (.inl rfl) (HV.as rfl) ?_
          refine AL.nx ?_
          refine AW.reg ?_
          refine AL.val rfl (.inl rfl) (HV.mv rfl) ?_
          refine AL.val rfl (.inl rfl) (HV.mv rfl) ?_
          refine AL.val rfl (.inl rfl) (HV.len Try.underlying22 rfl hr105.isSl) ?_
          refine AL.val rfl (.inl rfl) (HV.mv rfl) ?_
          have X107 := Ext.refl H89
          have y108 := hb94.lt
          have y109 := hb95.lt
          have o110 := X90.bd
          have o111 := X91.bd
          have o112 := X92.bd
          have o113 := X93.bd
          have o114 := X107.bd
          have a115 := hoK.ltb
          have ho116 := hoK.okk (ok' := fun b => H22.bd ≤ b ∧ b < H89.bd) (fun b hb hlt => ⟨hb, hlt⟩)
          refine AL.w rfl (.inl rfl) (WV.call fn168 rfl (leaves_ok (hr105.ext X90) (hl.2 _ (List.mem_of_getElem? hz100)))) ?_
          rintro v117 H118 ⟨hx119, ho120⟩
          have X121 := Ext.trans X90 hx119
          have X122 := Ext.trans X91 hx119
          have X123 := Ext.trans X92 hx119
          have X124 := Ext.trans X93 hx119
          have X125 := Ext.trans X107 hx119
          have ho126 := ho116.ext hx119
          have hb127 := hb94.ext hx119
          have hb128 := hb95.ext hx119
          refine AL.w rfl (.inl rfl) (WV.call fn167 rfl (inode_ok (W := W) (z98.length : Int) ho120.isSl)) ?_
          rintro _ H130 ⟨rfl, hx131⟩
          have X132 := Ext.trans X121 hx131
          have X133 := Ext.trans X122 hx131
          have X134 := Ext.trans X123 hx131
          have X135 := Ext.trans X124 hx131
          have X136 := Ext.trans X125 hx131
          have ho137 := ho126.ext hx131
          have ho138 := ho120.ext hx131
          have hb139 := hb127.ext hx131
          have hb140 := hb128.ext hx131
          have X141 := Ext.refl H130
          have y142 := hb139.lt
          have y143 := hb140.lt
          have o144 := X132.bd
          have o145 := X133.bd
          have o146 := X134.bd
          have o147 := X135.bd
          have o148 := X136.bd
          have o149 := X141.bd
          have a150 := ho137.ltb
          have a151 := ho138.ltb
          have hk156 := nd_rd ho138.rd
          refine AL.w rfl (.inl rfl) (WV.bsO (okx := fun b => H89.bd ≤ b) (K := kNd) (l := [z98]) (css := [[.int .i64 (-1), .int .i64 (z98.length : Int), v117]]) sl59 rfl rfl (by obtain ⟨A_, c_, e_⟩ := ho138.isSl; rw [e_]; simp [Instr.fill, Value.cells, kNd, kM, kG_sz, rng3]) rfl (segs_cons (by exact hk156) segs_nil)) ?_
          rintro v152 H153 ⟨hx154, ho155⟩
          have X158 := Ext.trans X132 hx154
          have X159 := Ext.trans X133 hx154
          have X160 := Ext.trans X134 hx154
          have X161 := Ext.trans X135 hx154
          have X162 := Ext.trans X136 hx154
          have X163 := Ext.trans X141 hx154
          have ho164 := ho137.ext hx154
          have ho165 := ho138.ext hx154
          have hb166 := hb139.ext hx154
          have hb167 := hb140.ext hx154
          have ho157 := ho155.okk (ok' := fun b => H89.bd ≤ b) (fun b hb _ => hb.elim id (fun e => Nat.le_trans X136.bd e))
          have X169 := Ext.refl H153
          refine AL.w rfl (.inl rfl) (WV.apD (ok := fun b => H22.bd ≤ b) (B := H89.bd) sl59 rfl rfl ho164 ho157.rd X162.bd (by simp only [List.length_take, List.length_singleton]; omega) (by simp only [List.length_take, List.length_singleton]; omega)) ?_
          rintro v170 H171 ⟨hx172, ho173, hb174⟩
          have ho175 := ho173.okk (ok' := fun b => H22.bd ≤ b) (fun b hb _ => hb.elim id (fun e => Nat.le_trans o113 e))
          have X176 := Ext.thru X158 hx172 (fun b hb => Nat.le_trans o73 (ho164.blk b hb).1.1)
          have X177 := Ext.thru X159 hx172 (fun b hb => Nat.le_trans o74 (ho164.blk b hb).1.1)
          have X178 := Ext.thru X160 hx172 (fun b hb => Nat.le_trans o75 (ho164.blk b hb).1.1)
          have X179 := Ext.thru X161 hx172 (fun b hb => Nat.le_trans o76 (ho164.blk b hb).1.1)
          have q181 := Nat.le_trans X162.bd hx172.bd
          have q183 := Nat.le_trans X163.bd hx172.bd
          have q185 := Nat.le_trans X169.bd hx172.bd
          have hb186 := hb166.but hx172 (fun e => by have q : H22.bd ≤ _ := (ho164.blk _ e).1.1; omega)
          have hb187 := hb167.but hx172 (fun e => by have q : H22.bd ≤ _ := (ho164.blk _ e).1.1; omega)
          refine AL.val rfl (.inl rfl) (HV.as rfl) ?_
          refine AL.nil ?_
          refine nrm_blk (nrm_and ?_)
          refine AW.reg ?_
          refine AL.val rfl (.inl rfl) (HV.add rfl rfl (by omega)) ?_
          refine AL.val rfl (.inl rfl) (HV.mv rfl) ?_
          refine AL.nil ?_
          refine nrm_and ?_
          exact ⟨(i + 1, v170), ⟨X176, X177, X178, X179, hb186, hb187, by omega, by rw [tk1 (getq hz100 rfl)]; exact ho175, trivial⟩, by first | omega | (dsimp only; omega), ⟨rfl, rfl, rfl, rfl, rfl, rfl, rfl, trivial⟩⟩
        · -- else
          refine AW.exit ?_
          refine ex_and (ex_and (ex_blk ?_))
          refine nrm_and ?_
          refine AW.seq ?_
          refine AW.draw' [0, 1, 0, 4, 15, 31, 31, 127, 255] mixed (by rfl) ?_
          refine Dr.read 0 _ 41 _ rfl rfl rfl rfl rfl (RV.of (by intro _ _ h; cases h) (.inl rfl) (fun _ xd => HV.fa fl70_0 rfl)) ?_
          refine Dr.read 1 _ 42 _ rfl rfl rfl rfl rfl (RV.of (by intro _ _ h; cases h) (.inl rfl) (fun _ xd => HV.ld rfl va2 (rdc_ext xd (at_cell hb94 rfl)))) ?_
          refine Dr.read 2 _ 43 _ rfl rfl rfl rfl rfl (RV.of (by intro _ _ h; cases h) (.inl rfl) (fun _ xd => HV.mv rfl)) ?_
          refine Dr.eff 3 _ _ rfl (by intro d h; cases h; exact ⟨rfl, rfl⟩) rfl rfl rfl (EC.of (by intro _ _ h; cases h) (.inl rfl) (WV.call fn167 rfl (inode_ok (W := W) 1 hoK.isSl))) (fun v H' h => .inl (h.2)) ?_
          rintro _ H188 ⟨rfl, hx189⟩
          have X190 := Ext.trans X90 hx189
          have X191 := Ext.trans X91 hx189
          have X192 := Ext.trans X92 hx189
          have X193 := Ext.trans X93 hx189
          have ho194 := hoK.ext hx189
          have hb195 := hb94.ext hx189
          have hb196 := hb95.ext hx189
          have hkf205 := fam_rd (l := l) (by have q := ho194.rd; rwa [List.take_of_length_le (by omega)] at q)
          refine Dr.eff 4 _ _ rfl (by intro d h; cases h; exact ⟨rfl, rfl⟩) rfl rfl rfl (EC.of (by intro _ _ h; cases h) (.inl rfl) (WV.call fn169 rfl (orLim_ok hkf205 n (fam_sz hok)))) (fun v H' h => .inl (h.2)) ?_
          rintro _ H201 ⟨⟨a197, l198, u199, m200, rfl, isl203, hk204⟩, hx202⟩
          have X206 := Ext.trans X190 hx202
          have X207 := Ext.trans X191 hx202
          have X208 := Ext.trans X192 hx202
          have X209 := Ext.trans X193 hx202
          have ho210 := ho194.ext hx202
          have hb211 := hb195.ext hx202
          have hb212 := hb196.ext hx202
          have X213 := Ext.refl H201
          refine Dr.read 5 _ 46 _ rfl rfl rfl rfl rfl (RV.of (by intro _ _ h; cases h) (.inl rfl) (fun _ xd => HV.ex rfl rfl)) ?_
          refine Dr.read 6 _ 47 _ rfl rfl rfl rfl rfl (RV.of (by intro _ _ h; cases h) (.inl rfl) (fun _ xd => HV.ex rfl rfl)) ?_
          refine Dr.eff 7 _ _ rfl (by intro d h; cases h) rfl rfl rfl (EC.of (by intro _ _ h; cases h) (.inl rfl) (WV.st rfl rfl va61 rfl hb212 (Nat.le_of_ble_eq_true rfl) (one_cons rfl (one_cons rfl (one_cons (sl_one1 isl203.isSl) one_nil))))) (fun v H' h => .inr (.inl rfl)) ?_
          rintro _ H214 ⟨hx215, hb216⟩
          have X217 := Ext.thru X206 hx215 (fun z_ hz_ => by rw [hz_]; exact o15)
          have X218 := Ext.thru X207 hx215 (fun z_ hz_ => by rw [hz_]; exact o16)
          have q220 := Nat.le_trans X208.bd hx215.bd
          have q222 := Nat.le_trans X209.bd hx215.bd
          have q224 := Nat.le_trans X213.bd hx215.bd
          have ho225 := ho210.but hx215 (fun b hb _ e => by have hb' : H22.bd ≤ b := hb; have e' : b = b10 := e; omega) (fun z_ hz_ => by rw [hz_]; exact hb212.w)
          have hb226 := hb211.but hx215 ne17
          have hb227 : At W H214 b10 ⟨61, [.int .i64 a197, .int .i64 l198, u199], 3⟩ := hb216
          refine Dr.read 8 _ 3 _ rfl rfl rfl rfl rfl (RV.of (by intro _ _ h; cases h) (.inl rfl) (fun _ xd => HV.as rfl)) ?_
          refine Dr.fin rfl ?_
          refine nrm_and ?_
          refine AW.ret ?_
          refine post_ct rfl rfl rfl va61 hb227 ?_ (.inr rfl)
          have hC := gf_g hok hne; rw [hC]; exact ⟨⟨_, _, _, _, rfl, isl203, fun e => by obtain ⟨rfl, rfl, rfl⟩ := hk204 e; exact (kG 3).okk (fun b hb _ => Nat.le_trans o73 hb) (fam_rd (by have q := ho225.rd; rwa [List.take_of_length_le (by omega)] at q))⟩, X217⟩

set_option maxRecDepth 100000 in
theorem specGF_ok {v : Value} {l : List (List Int)} {ok : Nat → Prop} (n : Int) (hr : RdK (kR kI) W H ok v l) (hl : (l.length ≤ 1048576 ∧ ∀ x ∈ l, x.length ≤ 1048576)) : ACalls Try.prog W 112 #[.agg #[.int .i64 n, v]] H (fun r H' => (∃ (a' l' : Int) (u : Value) (m : Nat), r = .tuple #[.agg #[.int .i64 a', .int .i64 l', u], .int .i64 (gfC n l)] ∧ IsSl u m ∧ (gfC n l = 0 → (kG 3).rd W H' (fun b => H.bd ≤ b) (famG l) [.int .i64 a', .int .i64 l', u])) ∧ Ext H H') := by
  refine ACalls.of (args := [.agg #[.int .i64 n, v]]) Try.func112 rfl rfl ?_
  have X0 := Ext.refl H
  have hm1 := hr.max
  have hl1 := hl.1
  have hlg : ∀ i : Nat, (l.getD i []).length ≤ 1048576 := fun i => by
    by_cases h : i < l.length
    · exact hl.2 _ (by rw [show l.getD i [] = l[i] by simp [h]]; exact List.getElem_mem h)
    · rw [show l.getD i [] = [] by simp [Nat.le_of_not_lt h]]; exact Nat.zero_le _
  refine AW.rs ?_
  refine AL.w rfl (.inl rfl) (WV.bx rfl rfl) ?_
  rintro _ H3 ⟨b2, rfl, hx4, hn5, hb6⟩
  have o7 := Nat.le_trans X0.bd hn5
  have X8 := Ext.trans X0 hx4
  have X9 := Ext.refl H3
  refine AL.w rfl (.inl rfl) (WV.al ze61 rfl) ?_
  rintro _ H11 ⟨b10, rfl, hx12, hn13, hb14⟩
  have o15 := Nat.le_trans X8.bd hn13
  have o16 := Nat.le_trans X9.bd hn13
  have ne17 : b2 ≠ b10 := by have := hb6.lt; omega
  have X18 := Ext.trans X8 hx12
  have X19 := Ext.trans X9 hx12
  have hb20 := hb6.ext hx12
  have X21 := Ext.refl H11
  refine AL.val rfl (.inl rfl) (HV.as rfl) ?_
  refine AL.nx ?_
  refine AW.seq ?_
  refine AW.rs ?_
  refine AL.w rfl (.inl rfl) (WV.call fn162 rfl (l01Ok_ok (hr.ext X18) hb20)) ?_
  rintro _ H22 ⟨rfl, hx23⟩
  have X24 := Ext.trans X18 hx23
  have X25 := Ext.trans X19 hx23
  have X26 := Ext.trans X21 hx23
  have hb27 := hb20.ext hx23
  have hb28 := hb14.ext hx23
  refine AL.val rfl (.inl rfl) (HV.not rfl) ?_
  refine AL.nx ?_
  refine AW.ifn rfl (fun c29 => ?_) (fun c29 => ?_)
  · -- then
    refine AW.rs ?_
    refine AL.val rfl (.inl rfl) (HV.bd rfl (bd61_ )) ?_
    refine AL.w0 (.inl rfl) (WV.st rfl rfl va61 rfl hb28 (Nat.le_of_ble_eq_true rfl) (one_cons rfl (one_cons rfl (one_cons (sl_one1 ⟨none, 0, rfl⟩) one_nil)))) ?_
    rintro _ H30 ⟨hx31, hb32⟩
    have X33 := Ext.thru X24 hx31 (fun z_ hz_ => by rw [hz_]; exact o15)
    have X34 := Ext.thru X25 hx31 (fun z_ hz_ => by rw [hz_]; exact o16)
    have q36 := Nat.le_trans X26.bd hx31.bd
    have hb37 := hb27.but hx31 ne17
    have hb38 : At W H30 b10 ⟨61, [.int .i64 0, .int .i64 0, (.slice none 0 0)], 3⟩ := hb32
    refine AL.val rfl (.inl rfl) (HV.as rfl) ?_
    refine AL.nx ?_
    refine AW.ret ?_
    refine ret_and ?_
    refine post_ct rfl rfl rfl va61 hb38 ?_ (.inr rfl)
    have hC := gf_1 (fun q => c29 ((ok_iff n l).2 q)); rw [hC]; exact ⟨⟨_, _, _, 0, rfl, ⟨none, 0, rfl⟩, fun e => absurd e (by decide)⟩, X33⟩
  · -- else
    refine AW.skip ?_
    refine nrm_and ?_
    refine AW.rs ?_
    have hok : okC n l := (ok_iff n l).1 (by assumption)
    have X39 := Ext.refl H22
    have y40 := hb27.lt
    have y41 := hb28.lt
    have o42 := X24.bd
    have o43 := X25.bd
    have o44 := X26.bd
    have o45 := X39.bd
    refine AL.w rfl (.inl rfl) (WV.bsK (K := kNd) (l := ([] : List (List Int))) (css := []) sl59 rfl rfl (by simp [Instr.fill]) rfl segs_nil) ?_
    rintro v46 H47 ⟨hx48, ho49⟩
    have X50 := Ext.trans X24 hx48
    have X51 := Ext.trans X25 hx48
    have X52 := Ext.trans X26 hx48
    have X53 := Ext.trans X39 hx48
    have hb54 := hb27.ext hx48
    have hb55 := hb28.ext hx48
    have ho56 := ho49.deep0
    refine AL.val rfl (.inl rfl) (HV.as rfl) ?_
    refine AL.nx ?_
    refine AW.seq ?_
    refine AW.rs ?_
    refine AL.val rfl (.inl rfl) (HV.as rfl) ?_
    refine AL.nx ?_
    refine AW.block ?_
    refine AW.loop (σ := Nat × Value) (fun ⟨i, vk⟩ => [(1, .pointer (some ⟨b2, 0, none⟩)), (2, .pointer (some ⟨b10, 0, none⟩)), (4, vk), (5, .int .i64 (i : Int))]) (fun ⟨i, vk⟩ H' => Ext H H' ∧ Ext H3 H' ∧ Ext H11 H' ∧ Ext H22 H' ∧ At W H' b2 ⟨70, [.int .i64 n, v], 2⟩ ∧ At W H' b10 ⟨61, [.int .i64 0, .int .i64 0, (.slice none 0 0)], 3⟩ ∧ i ≤ l.length ∧ OwnD kNd 61 W H' (fun b => H22.bd ≤ b) vk (l.take i) ∧ (∀ j, j < i → ¬ l.getD j [] = []) ∧ True) (fun ⟨i, vk⟩ => l.length - i) (0, v46) ⟨X50, X51, X52, X53, hb54, hb55, Nat.zero_le _, ho56, fun j hj => absurd hj (Nat.not_lt_zero _), trivial⟩ ⟨rfl, rfl, rfl, rfl, trivial⟩ ?_
    rintro ⟨i, vk⟩ H58 ⟨X59, X60, X61, X62, hb63, hb64, hi, hoK, hnz, _⟩
    refine AW.seq ?_
    refine AW.rs ?_
    refine AL.val rfl (.inl rfl) (HV.mv rfl) ?_
    refine AL.val rfl (.inl rfl) (HV.fa fl70_1 rfl) ?_
    refine AL.val rfl (.inl rfl) (HV.ld rfl va23 (at_cell_add (j := 1) hb63 rfl)) ?_
    refine AL.val rfl (.inl rfl) (HV.len Try.underlying23 rfl hr.isSl) ?_
    refine AL.val rfl (.inl rfl) (HV.lti rfl rfl) ?_
    refine AL.nx ?_
    refine AW.ifd rfl (fun c65 => ?_) (fun c65 => ?_)
    · -- then
      refine AW.skip ?_
      refine nrm_and ?_
      refine AW.seq ?_
      refine AW.block ?_
      refine AW.rs ?_
      have X66 := Ext.refl H58
      have y67 := hb63.lt
      have y68 := hb64.lt
      have o69 := X59.bd
      have o70 := X60.bd
      have o71 := X61.bd
      have o72 := X62.bd
      have o73 := X66.bd
      have a74 := hoK.ltb
      have ho75 := hoK.okk (ok' := fun b => H22.bd ≤ b ∧ b < H58.bd) (fun b hb hlt => ⟨hb, hlt⟩)
      refine AL.w rfl (.inl rfl) (WV.bsK (K := kLf) (l := ([] : List (Int))) (css := []) sl59 rfl rfl (by simp [Instr.fill]) rfl segs_nil) ?_
      rintro v76 H77 ⟨hx78, ho79⟩
      have X80 := Ext.trans X59 hx78
      have X81 := Ext.trans X60 hx78
      have X82 := Ext.trans X61 hx78
      have X83 := Ext.trans X62 hx78
      have X84 := Ext.trans X66 hx78
      have ho85 := ho75.ext hx78
      have hb86 := hb63.ext hx78
      have hb87 := hb64.ext hx78
      refine AL.val rfl (.inl rfl) (HV.as rfl) ?_
      refine AL.nx ?_
      refine AW.seq ?_
      refine AW.rs ?_
      refine AL.val rfl (.inl rfl) (HV.as rfl) ?_
      refine AL.nx ?_
      refine AW.block ?_
      have hlgi := hlg i
      refine AW.loop (σ := Nat × Value) (fun ⟨k, vl⟩ => [(1, .pointer (some ⟨b2, 0, none⟩)), (2, .pointer (some ⟨b10, 0, none⟩)), (4, vk), (5, .int .i64 (i : Int)), (12, .int .i64 (i : Int)), (13, .pointer (some ⟨b2, 1, none⟩)), (14, v), (15, .int .i64 (l.length : Int)), (16, .bool (decide ((i : Int) < (l.length : Int)))), (19, v76), (6, vl), (7, .int .i64 (k : Int))]) (fun ⟨k, vl⟩ H' => Ext H H' ∧ Ext H3 H' ∧ Ext H11 H' ∧ Ext H22 H' ∧ Ext H58 H' ∧ At W H' b2 ⟨70, [.int .i64 n, v], 2⟩ ∧ At W H' b10 ⟨61, [.int .i64 0, .int .i64 0, (.slice none 0 0)], 3⟩ ∧ k ≤ (l.getD i []).length ∧ OwnK kLf 61 W H' (fun b => H58.bd ≤ b) vl ((l.getD i []).take k) ∧ OwnD kNd 61 W H' (fun b => H22.bd ≤ b ∧ b < H58.bd) vk (l.take i) ∧ True) (fun ⟨k, vl⟩ => (l.getD i []).length - k) (0, v76) ⟨X80, X81, X82, X83, X84, hb86, hb87, Nat.zero_le _, ho79, ho85, trivial⟩ ⟨rfl, rfl, rfl, rfl, rfl, rfl, rfl, rfl, rfl, rfl, rfl, rfl, trivial⟩ ?_
      rintro ⟨k, vl⟩ H89 ⟨X90, X91, X92, X93, X94, hb95, hb96, hk, hoV, hoW, _⟩
      refine AW.seq ?_
      refine AW.rs ?_
      refine AL.val rfl (.inl rfl) (HV.mv rfl) ?_
      refine AL.val rfl (.inl rfl) (HV.fa fl70_1 rfl) ?_
      refine AL.val rfl (.inl rfl) (HV.ld rfl va23 (at_cell_add (j := 1) hb95 rfl)) ?_
      refine AL.val rfl (.inl rfl) (HV.mv rfl) ?_
      obtain ⟨p97, z98, cs99, hz100, hK101, hC102, hP103⟩ := RdK.ix (q := (i : Int)) hr sl23 (by omega) (by omega)
      obtain ⟨v104, rfl, hr105⟩ := hK101
      have hm106 := hr105.max
      refine AL.val rfl (.inl rfl) (hP103 rfl rfl) ?_
      refine AL.val rfl (.inl rfl) (HV.ld rfl va22 (cells_first (hC102.ext X90) rfl)) ?_
      refine AL.val rfl (.inl rfl) (HV.len Try.underlying22 rfl hr105.isSl) ?_
      refine AL.val rfl (.inl rfl) (HV.lti rfl rfl) ?_
      refine AL.nx ?_
      refine AW.ifd rfl (fun c107 => ?_) (fun c107 => ?_)
      · -- then
        refine AW.skip ?_
        refine nrm_and ?_
        refine AW.seq ?_
        refine AW.block ?_
        refine AW.reg ?_
        refine AL.val rfl (.inl rfl) (HV.mv rfl) ?_
        refine AL.val rfl (.inl rfl) (HV.fa fl70_1 rfl) ?_
        refine AL.val rfl (.inl rfl) (HV.ld rfl va23 (at_cell_add (j := 1) hb95 rfl)) ?_
        refine AL.val rfl (.inl rfl) (HV.mv rfl) ?_
        obtain ⟨p108, z109, cs110, hz111, hK112, hC113, hP114⟩ := RdK.ix (q := (i : Int)) hr sl23 (by omega) (by omega)
        obtain ⟨v115, rfl, hr116⟩ := hK112
        have hm117 := hr116.max
        refine AL.val rfl (.inl rfl) (hP114 rfl rfl) ?_
        refine AL.val rfl (.inl rfl) (HV.ld rfl va22 (cells_first (hC113.ext X90) rfl)) ?_
        refine AL.val rfl (.inl rfl) (HV.mv rfl) ?_
        have eg25 := congrArg List.length (gd (d := []) hz100 rfl)
        have eg35 := congrArg List.length ((gd (d := []) hz111 rfl).symm.trans (gd (d := []) hz100 rfl))
        obtain ⟨p118, z119, cs120, hz121, hK122, hC123, hP124⟩ := RdK.ix (q := (k : Int)) hr116 sl22 (by omega) (by omega)
        obtain rfl : cs120 = [.int .i64 z119] := hK122
        refine AL.val rfl (.inl rfl) (hP124 rfl rfl) ?_
        refine AL.val rfl (.inl rfl) (HV.ld rfl va2 (cells_first (hC123.ext X90) rfl)) ?_
        refine AL.w rfl (.inl rfl) (WV.call fn163 rfl (leaf_ok (W := W) z119)) ?_
        rintro _ H125 ⟨rfl, hx126⟩
        have X127 := Ext.trans X90 hx126
        have X128 := Ext.trans X91 hx126
        have X129 := Ext.trans X92 hx126
        have X130 := Ext.trans X93 hx126
        have X131 := Ext.trans X94 hx126
        have ho132 := hoW.ext hx126
        have ho133 := hoV.ext hx126
        have hb134 := hb95.ext hx126
        have hb135 := hb96.ext hx126
        have X136 := Ext.refl H125
        have y137 := hb134.lt
        have y138 := hb135.lt
        have o139 := X127.bd
        have o140 := X128.bd
        have o141 := X129.bd
        have o142 := X130.bd
        have o143 := X131.bd
        have o144 := X136.bd
        have a145 := ho132.ltb
        have a146 := ho133.ltb
        refine AL.w rfl (.inl rfl) (WV.bsK (K := kLf) (l := [z119]) (css := [[.int .i64 z119, .int .i64 0, .slice none 0 0]]) sl59 rfl rfl (by simp [Instr.fill, Value.cells, kLf, rng3]) rfl (segs_cons rfl segs_nil)) ?_
        rintro v147 H148 ⟨hx149, ho150⟩
        have X151 := Ext.trans X127 hx149
        have X152 := Ext.trans X128 hx149
        have X153 := Ext.trans X129 hx149
        have X154 := Ext.trans X130 hx149
        have X155 := Ext.trans X131 hx149
        have X156 := Ext.trans X136 hx149
        have ho157 := ho132.ext hx149
        have ho158 := ho133.ext hx149
        have hb159 := hb134.ext hx149
        have hb160 := hb135.ext hx149
        have X162 := Ext.refl H148
        refine AL.w rfl (.inl rfl) (WV.apk sl59 rfl rfl ho158 ho150.rd (by simp only [List.length_take, List.length_singleton]; omega) (by simp only [List.length_take, List.length_singleton]; omega) (fun b hb _ e => Nat.lt_irrefl _ (Nat.lt_of_lt_of_le (a146 b e) hb))) ?_
        rintro v163 H164 ⟨hx165, ho166, hb167⟩
        have ho168 := ho166.narrow (ok' := fun b => H58.bd ≤ b) kLf_flat (fun b q => (hb167 b q).elim (fun e => (ho158.blk b e).1) (fun e => Nat.le_trans X155.bd e))
        have X169 := Ext.thru X151 hx165 (fun b hb => Nat.le_trans o69 (ho158.blk b hb).1)
        have X170 := Ext.thru X152 hx165 (fun b hb => Nat.le_trans o70 (ho158.blk b hb).1)
        have X171 := Ext.thru X153 hx165 (fun b hb => Nat.le_trans o71 (ho158.blk b hb).1)
        have X172 := Ext.thru X154 hx165 (fun b hb => Nat.le_trans o72 (ho158.blk b hb).1)
        have X173 := Ext.thru X155 hx165 (fun b hb => Nat.le_trans o73 (ho158.blk b hb).1)
        have q175 := Nat.le_trans X156.bd hx165.bd
        have q177 := Nat.le_trans X162.bd hx165.bd
        have ho178 := ho157.but hx165 (fun b hb _ e => by have h1 : H22.bd ≤ b ∧ b < H58.bd := hb; have h2 : H58.bd ≤ b := (ho158.blk b e).1; omega) (fun b hb => (ho158.blk b hb).2.2)
        have hb180 := hb159.but hx165 (fun e => by have q : H58.bd ≤ _ := (ho158.blk _ e).1; omega)
        have hb181 := hb160.but hx165 (fun e => by have q : H58.bd ≤ _ := (ho158.blk _ e).1; omega)
        refine AL.val rfl (.inl rfl) (HV.as rfl) ?_
        refine AL.nil ?_
        refine nrm_blk (nrm_and ?_)
        refine AW.reg ?_
        refine AL.val rfl (.inl rfl) (HV.mv rfl) ?_
        refine AL.val rfl (.inl rfl) (HV.add rfl rfl (by omega)) ?_
        refine AL.val rfl (.inl rfl) (HV.as rfl) ?_
        refine AL.nil ?_
        refine nrm_and ?_
        exact ⟨(k + 1, v163), ⟨X169, X170, X171, X172, X173, hb180, hb181, by omega, by rw [tk1 (show (l.getD i [])[k]? = some z119 by rw [gd (d := []) hz111 rfl]; exact getq hz121 rfl)]; exact ho168, ho178, trivial⟩, by first | omega | (dsimp only; omega), ⟨rfl, rfl, rfl, rfl, rfl, rfl, rfl, rfl, rfl, rfl, rfl, rfl, trivial⟩⟩
      · -- else
        refine AW.exit ?_
        refine ex_and (ex_and (ex_blk ?_))
        refine nrm_and ?_
        refine AW.seq ?_
        refine AW.rs ?_
        refine AL.val rfl (.inl rfl) (HV.mv rfl) ?_
        have eg25 := congrArg List.length (gd (d := []) hz100 rfl)
        refine AL.val rfl (.inl rfl) (HV.len Try.underlying59 rfl hoV.rd.isSl) ?_
        refine AL.val rfl (.inl rfl) (HV.eqi rfl rfl) ?_
        refine AL.nx ?_
        refine AW.ifd rfl (fun c182 => ?_) (fun c182 => ?_)
        · -- then
          refine AW.rs ?_
          refine AL.val rfl (.inl rfl) (HV.bd rfl (bd61_ )) ?_
          refine AL.w0 (.inl rfl) (WV.st rfl rfl va61 rfl hb96 (Nat.le_of_ble_eq_true rfl) (one_cons rfl (one_cons rfl (one_cons (sl_one1 ⟨none, 0, rfl⟩) one_nil)))) ?_
          rintro _ H183 ⟨hx184, hb185⟩
          have X186 := Ext.thru X90 hx184 (fun z_ hz_ => by rw [hz_]; exact o15)
          have X187 := Ext.thru X91 hx184 (fun z_ hz_ => by rw [hz_]; exact o16)
          have q189 := Nat.le_trans X92.bd hx184.bd
          have q191 := Nat.le_trans X93.bd hx184.bd
          have q193 := Nat.le_trans X94.bd hx184.bd
          have ho194 := hoW.but hx184 (fun b hb _ e => by have hb' : H22.bd ≤ b ∧ b < H58.bd := hb; have e' : b = b10 := e; omega) (fun z_ hz_ => by rw [hz_]; exact hb96.w)
          have ho195 := hoV.but hx184 (fun b hb _ e => by have hb' : H58.bd ≤ b := hb; have e' : b = b10 := e; omega) (fun z_ hz_ => by rw [hz_]; exact hb96.w)
          have hb196 := hb95.but hx184 ne17
          have hb197 : At W H183 b10 ⟨61, [.int .i64 0, .int .i64 0, (.slice none 0 0)], 3⟩ := hb185
          refine AL.val rfl (.inl rfl) (HV.as rfl) ?_
          refine AL.nx ?_
          refine AW.ret ?_
          refine ret_and (ret_blk (ret_and (ret_and (ret_blk (ret_and ?_)))))
          refine post_ct rfl rfl rfl va61 hb197 ?_ (.inr rfl)
          have hC := gf_e hok (getq hz100 rfl) (List.eq_nil_of_length_eq_zero (by have q1 : ((l.getD i []).take k).length = min k (l.getD i []).length := List.length_take; have q2 := congrArg List.length (gd (d := []) hz100 rfl); omega)); rw [hC]; exact ⟨⟨_, _, _, 0, rfl, ⟨none, 0, rfl⟩, fun e => absurd e (by decide)⟩, X186⟩
        · -- else
          refine AW.skip ?_
          refine nrm_and ?_
          refine AW.reg ?_
          refine AL.val rfl (.inl rfl) (HV.mv rfl) ?_
          refine AL.val rfl (.inl rfl) (HV.mv rfl) ?_
          refine AL.val rfl (.inl rfl) (HV.len Try.underlying59 rfl hoV.rd.isSl) ?_
          refine AL.val rfl (.inl rfl) (HV.mv rfl) ?_
          refine AL.w rfl (.inl rfl) (WV.call fn164 rfl (snode_ok (W := W) (((l.getD i []).take k).length : Int) hoV.isSl)) ?_
          rintro _ H198 ⟨rfl, hx199⟩
          have X200 := Ext.trans X90 hx199
          have X201 := Ext.trans X91 hx199
          have X202 := Ext.trans X92 hx199
          have X203 := Ext.trans X93 hx199
          have X204 := Ext.trans X94 hx199
          have ho205 := hoW.ext hx199
          have ho206 := hoV.ext hx199
          have hb207 := hb95.ext hx199
          have hb208 := hb96.ext hx199
          have X209 := Ext.refl H198
          have y210 := hb207.lt
          have y211 := hb208.lt
          have o212 := X200.bd
          have o213 := X201.bd
          have o214 := X202.bd
          have o215 := X203.bd
          have o216 := X204.bd
          have o217 := X209.bd
          have a218 := ho205.ltb
          have a219 := ho206.ltb
          have hk224 := nd_rd ho206.rd
          refine AL.w rfl (.inl rfl) (WV.bsO (okx := fun b => H58.bd ≤ b) (K := kNd) (l := [((l.getD i []).take k)]) (css := [[.int .i64 (-1), .int .i64 (((l.getD i []).take k).length : Int), vl]]) sl59 rfl rfl (by obtain ⟨A_, c_, e_⟩ := ho206.isSl; rw [e_]; simp [Instr.fill, Value.cells, kNd, kM, kG_sz, rng3]) rfl (segs_cons (by exact hk224) segs_nil)) ?_
          rintro v220 H221 ⟨hx222, ho223⟩
          have X226 := Ext.trans X200 hx222
          have X227 := Ext.trans X201 hx222
          have X228 := Ext.trans X202 hx222
          have X229 := Ext.trans X203 hx222
          have X230 := Ext.trans X204 hx222
          have X231 := Ext.trans X209 hx222
          have ho232 := ho205.ext hx222
          have ho233 := ho206.ext hx222
          have hb234 := hb207.ext hx222
          have hb235 := hb208.ext hx222
          have ho225 := ho223.okk (ok' := fun b => H58.bd ≤ b) (fun b hb _ => hb.elim id (fun e => Nat.le_trans X204.bd e))
          have X237 := Ext.refl H221
          refine AL.w rfl (.inl rfl) (WV.apD (ok := fun b => H22.bd ≤ b) (B := H58.bd) sl59 rfl rfl ho232 ho225.rd X230.bd (by simp only [List.length_take, List.length_singleton]; omega) (by simp only [List.length_take, List.length_singleton]; omega)) ?_
          rintro v238 H239 ⟨hx240, ho241, hb242⟩
          have ho243 := ho241.okk (ok' := fun b => H22.bd ≤ b) (fun b hb _ => hb.elim id (fun e => Nat.le_trans o72 e))
          have X244 := Ext.thru X226 hx240 (fun b hb => Nat.le_trans o42 (ho232.blk b hb).1.1)
          have X245 := Ext.thru X227 hx240 (fun b hb => Nat.le_trans o43 (ho232.blk b hb).1.1)
          have X246 := Ext.thru X228 hx240 (fun b hb => Nat.le_trans o44 (ho232.blk b hb).1.1)
          have X247 := Ext.thru X229 hx240 (fun b hb => Nat.le_trans o45 (ho232.blk b hb).1.1)
          have q249 := Nat.le_trans X230.bd hx240.bd
          have q251 := Nat.le_trans X231.bd hx240.bd
          have q253 := Nat.le_trans X237.bd hx240.bd
          have hb254 := hb234.but hx240 (fun e => by have q : H22.bd ≤ _ := (ho232.blk _ e).1.1; omega)
          have hb255 := hb235.but hx240 (fun e => by have q : H22.bd ≤ _ := (ho232.blk _ e).1.1; omega)
          refine AL.val rfl (.inl rfl) (HV.as rfl) ?_
          refine AL.nil ?_
          refine nrm_blk (nrm_and ?_)
          refine AW.reg ?_
          refine AL.val rfl (.inl rfl) (HV.mv rfl) ?_
          refine AL.val rfl (.inl rfl) (HV.add rfl rfl (by omega)) ?_
          refine AL.val rfl (.inl rfl) (HV.as rfl) ?_
          refine AL.nil ?_
          refine nrm_and ?_
          exact ⟨(i + 1, v238), ⟨X244, X245, X246, X247, hb254, hb255, by omega, by rw [tk1 (getq hz100 rfl), ← gd (d := []) hz100 rfl, ← show (l.getD i []).take k = (l.getD i []) from List.take_of_length_le (by rw [gd (d := []) hz100 rfl]; omega)]; exact ho243, fun j hj => by
      rcases Nat.lt_or_ge j i with h1 | h1
      · exact hnz j h1
      · obtain rfl : j = i := by omega
        intro e; have q1 : ((l.getD j []).take k).length = min k (l.getD j []).length := List.length_take; have q2 := congrArg List.length e; simp only [List.length_nil] at q2; omega, trivial⟩, by first | omega | (dsimp only; omega), ⟨rfl, rfl, rfl, rfl, trivial⟩⟩
    · -- else
      refine AW.exit ?_
      refine ex_and (ex_and (ex_blk ?_))
      refine nrm_and ?_
      refine AW.seq ?_
      refine AW.rs ?_
      refine AL.val rfl (.inl rfl) (HV.mv rfl) ?_
      refine AL.val rfl (.inl rfl) (HV.len Try.underlying59 rfl hoK.rd.isSl) ?_
      refine AL.val rfl (.inl rfl) (HV.eqi rfl rfl) ?_
      refine AL.nx ?_
      refine AW.ifd rfl (fun c256 => ?_) (fun c256 => ?_)
      · -- then
        refine AW.rs ?_
        refine AL.val rfl (.inl rfl) (HV.bd rfl (bd61_ )) ?_
        refine AL.w0 (.inl rfl) (WV.st rfl rfl va61 rfl hb64 (Nat.le_of_ble_eq_true rfl) (one_cons rfl (one_cons rfl (one_cons (sl_one1 ⟨none, 0, rfl⟩) one_nil)))) ?_
        rintro _ H257 ⟨hx258, hb259⟩
        have X260 := Ext.thru X59 hx258 (fun z_ hz_ => by rw [hz_]; exact o15)
        have X261 := Ext.thru X60 hx258 (fun z_ hz_ => by rw [hz_]; exact o16)
        have q263 := Nat.le_trans X61.bd hx258.bd
        have q265 := Nat.le_trans X62.bd hx258.bd
        have ho266 := hoK.but hx258 (fun b hb _ e => by have hb' : H22.bd ≤ b := hb; have e' : b = b10 := e; omega) (fun z_ hz_ => by rw [hz_]; exact hb64.w)
        have hb267 := hb63.but hx258 ne17
        have hb268 : At W H257 b10 ⟨61, [.int .i64 0, .int .i64 0, (.slice none 0 0)], 3⟩ := hb259
        refine AL.val rfl (.inl rfl) (HV.as rfl) ?_
        refine AL.nx ?_
        refine AW.ret ?_
        refine ret_and ?_
        refine post_ct rfl rfl rfl va61 hb268 ?_ (.inr rfl)
        have hC := gf_4 hok (by have q : (l.take i).length = min i l.length := List.length_take; rw [show l = [] from List.eq_nil_of_length_eq_zero (by omega)]; rfl); rw [hC]; exact ⟨⟨_, _, _, 0, rfl, ⟨none, 0, rfl⟩, fun e => absurd e (by decide)⟩, X260⟩
      · -- else
        refine AW.skip ?_
        refine nrm_and ?_
        refine AW.seq ?_
        refine AW.draw' [0, 1, 0, 4, 15, 31, 31, 127, 255] mixed (by rfl) ?_
        have hne : ¬ l.getD 0 [] = [] := hnz 0 (by have q : (l.take i).length = min i l.length := List.length_take; omega)
        refine Dr.read 0 _ 57 _ rfl rfl rfl rfl rfl (RV.of (by intro _ _ h; cases h) (.inl rfl) (fun _ xd => HV.fa fl70_0 rfl)) ?_
        refine Dr.read 1 _ 58 _ rfl rfl rfl rfl rfl (RV.of (by intro _ _ h; cases h) (.inl rfl) (fun _ xd => HV.ld rfl va2 (rdc_ext xd (at_cell hb63 rfl)))) ?_
        refine Dr.read 2 _ 59 _ rfl rfl rfl rfl rfl (RV.of (by intro _ _ h; cases h) (.inl rfl) (fun _ xd => HV.mv rfl)) ?_
        refine Dr.eff 3 _ _ rfl (by intro d h; cases h; exact ⟨rfl, rfl⟩) rfl rfl rfl (EC.of (by intro _ _ h; cases h) (.inl rfl) (WV.call fn164 rfl (snode_ok (W := W) 1 hoK.isSl))) (fun v H' h => .inl (h.2)) ?_
        rintro _ H269 ⟨rfl, hx270⟩
        have X271 := Ext.trans X59 hx270
        have X272 := Ext.trans X60 hx270
        have X273 := Ext.trans X61 hx270
        have X274 := Ext.trans X62 hx270
        have ho275 := hoK.ext hx270
        have hb276 := hb63.ext hx270
        have hb277 := hb64.ext hx270
        have hkf286 := fam_rd (l := l) (by have q := ho275.rd; rwa [List.take_of_length_le (by omega)] at q)
        refine Dr.eff 4 _ _ rfl (by intro d h; cases h; exact ⟨rfl, rfl⟩) rfl rfl rfl (EC.of (by intro _ _ h; cases h) (.inl rfl) (WV.call fn165 rfl (told_ok hkf286 n))) (fun v H' h => .inl (h.2)) ?_
        rintro _ H282 ⟨⟨a278, l279, u280, m281, rfl, isl284, hk285⟩, hx283⟩
        have X287 := Ext.trans X271 hx283
        have X288 := Ext.trans X272 hx283
        have X289 := Ext.trans X273 hx283
        have X290 := Ext.trans X274 hx283
        have ho291 := ho275.ext hx283
        have hb292 := hb276.ext hx283
        have hb293 := hb277.ext hx283
        have X294 := Ext.refl H282
        refine Dr.read 5 _ 62 _ rfl rfl rfl rfl rfl (RV.of (by intro _ _ h; cases h) (.inl rfl) (fun _ xd => HV.ex rfl rfl)) ?_
        refine Dr.read 6 _ 63 _ rfl rfl rfl rfl rfl (RV.of (by intro _ _ h; cases h) (.inl rfl) (fun _ xd => HV.ex rfl rfl)) ?_
        refine Dr.eff 7 _ _ rfl (by intro d h; cases h) rfl rfl rfl (EC.of (by intro _ _ h; cases h) (.inl rfl) (WV.st rfl rfl va61 rfl hb293 (Nat.le_of_ble_eq_true rfl) (one_cons rfl (one_cons rfl (one_cons (sl_one1 isl284.isSl) one_nil))))) (fun v H' h => .inr (.inl rfl)) ?_
        rintro _ H295 ⟨hx296, hb297⟩
        have X298 := Ext.thru X287 hx296 (fun z_ hz_ => by rw [hz_]; exact o15)
        have X299 := Ext.thru X288 hx296 (fun z_ hz_ => by rw [hz_]; exact o16)
        have q301 := Nat.le_trans X289.bd hx296.bd
        have q303 := Nat.le_trans X290.bd hx296.bd
        have q305 := Nat.le_trans X294.bd hx296.bd
        have ho306 := ho291.but hx296 (fun b hb _ e => by have hb' : H22.bd ≤ b := hb; have e' : b = b10 := e; omega) (fun z_ hz_ => by rw [hz_]; exact hb293.w)
        have hb307 := hb292.but hx296 ne17
        have hb308 : At W H295 b10 ⟨61, [.int .i64 a278, .int .i64 l279, u280], 3⟩ := hb297
        refine Dr.read 8 _ 3 _ rfl rfl rfl rfl rfl (RV.of (by intro _ _ h; cases h) (.inl rfl) (fun _ xd => HV.as rfl)) ?_
        refine Dr.fin rfl ?_
        refine nrm_and ?_
        refine AW.ret ?_
        refine post_ct rfl rfl rfl va61 hb308 ?_ (.inr rfl)
        have hC := gf_g hok hne; rw [hC]; exact ⟨⟨_, _, _, _, rfl, isl284, fun e => by obtain ⟨rfl, rfl, rfl⟩ := hk285 e; exact (kG 3).okk (fun b hb _ => Nat.le_trans o42 hb) (fam_rd (by have q := ho306.rd; rwa [List.take_of_length_le (by omega)] at q))⟩, X298⟩
end Go.Proofs.Yticobjbjejpomaa.VC

