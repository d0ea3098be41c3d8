/- Walks. -/
import Derived.Test.YtbjcgcililpfdaaVE
set_option linter.unusedVariables false
set_option linter.unusedSimpArgs false
namespace Go.Proofs.Ytbjcgcililpfdaa.VC
open Go Go.RowKit
variable {W : World} {H : Hp}

def cmpI (a b : Int) : Int := if a < b then -1 else if a > b then 1 else 0
/-- Lexicographic order, as a number. -/
def lexI : List Int → List Int → Int
  | [], [] => 0
  | [], _ :: _ => -1
  | _ :: _, [] => 1
  | a :: l, b :: m => if a < b then -1 else if a > b then 1 else lexI l m
theorem lexI_drop {l m : List Int} : ∀ {i : Nat}, (∀ j, j < i → l.getD j 0 = m.getD j 0) → i ≤ l.length → i ≤ m.length → lexI l m = lexI (l.drop i) (m.drop i)
  | 0, _, _, _ => rfl
  | i + 1, he, h1, h2 => by
    cases l with
    | nil => simp at h1
    | cons a l => cases m with
      | nil => simp at h2
      | cons b m =>
        have h0 := he 0 (by omega)
        simp only [List.getD_cons_zero] at h0
        subst h0
        simp only [lexI, Int.lt_irrefl, gt_iff_lt, if_false, List.drop_succ_cons]
        exact lexI_drop (fun j hj => by have := he (j + 1) (by omega); simpa only [List.getD_cons_succ] using this) (by simpa using h1) (by simpa using h2)
theorem lexI_at {l m : List Int} {i : Nat} (he : ∀ j, j < i → l.getD j 0 = m.getD j 0) (h1 : i < l.length) (h2 : i < m.length) (hn : l.getD i 0 ≠ m.getD i 0) : lexI l m = cmpI (l.getD i 0) (m.getD i 0) := by
  rw [lexI_drop he (by omega) (by omega)]
  rw [List.drop_eq_getElem_cons h1, List.drop_eq_getElem_cons h2]
  have e1 : l.getD i 0 = l[i] := by simp [h1]
  have e2 : m.getD i 0 = m[i] := by simp [h2]
  rw [e1, e2] at hn ⊢
  simp only [lexI, cmpI]
  by_cases c1 : l[i] < m[i]
  · simp [c1]
  · by_cases c2 : l[i] > m[i]
    · simp [c1, c2]
    · omega
theorem lexI_end {l m : List Int} {i : Nat} (he : ∀ j, j < i → l.getD j 0 = m.getD j 0) (h1 : i ≤ l.length) (h2 : i ≤ m.length) (h : i = l.length ∨ i = m.length) : lexI l m = if l.length < m.length then -1 else if l.length > m.length then 1 else 0 := by
  rw [lexI_drop he h1 h2]
  rcases h with rfl | rfl
  · rw [List.drop_length]
    rcases Nat.lt_or_ge l.length m.length with h | h
    · rw [List.drop_eq_getElem_cons h, if_pos h]; rfl
    · have : m.drop l.length = [] := List.drop_of_length_le h
      rw [this, if_neg (by omega), if_neg (by omega)]; rfl
  · rw [List.drop_length]
    rcases Nat.lt_or_ge m.length l.length with h | h
    · rw [List.drop_eq_getElem_cons h, if_neg (by omega), if_pos h]; rfl
    · have : l.drop m.length = [] := List.drop_of_length_le h
      rw [this, if_neg (by omega), if_neg (by omega)]; rfl
theorem list_eq {α : Type} [Inhabited α] {l m : List α} {d : α} (hl : l.length = m.length) (h : ∀ j, j < l.length → l.getD j d = m.getD j d) : l = m := by
  apply List.ext_getElem hl
  intro j h1 h2
  have := h j h1
  simpa [h1, h2] using this
theorem set_step {α : Type} {k l : List α} {d z : α} {i : Nat} (he : ∀ j, j < i → k.getD j d = l.getD j d) (hk : k.length = l.length) (hz : l[i]? = some z) : ∀ j, j < i + 1 → (k.set (i : Int).toNat z).getD j d = l.getD j d := fun j hj => by
  have hi := (List.getElem?_eq_some_iff.1 hz).1
  rw [Int.toNat_natCast]
  by_cases e : j = i
  · subst e
    have h2 := (List.getElem?_eq_some_iff.1 hz).2
    simp [hk, hi, h2]
  · have := he j (by omega)
    simp only [List.getD_eq_getElem?_getD] at this ⊢
    rw [List.getElem?_set_ne (fun e' => e e'.symm)]
    exact this
theorem cmpI_zero {a b : Int} : cmpI a b = 0 ↔ a = b := by unfold cmpI; split <;> (try split) <;> omega
def bitsI (l : List Int) : Int := l.foldl (fun a h => bt .or .i64 a (IntKind.i64.wrap (1 * 2 ^ min (IntKind.u64.wrap h).toNat IntKind.i64.bits))) 0
theorem foldl_snoc0 {α β : Type} (f : β → α → β) (b : β) {l : List α} {i : Nat} {z : α} (h : l[i]? = some z) : (l.take (i + 1)).foldl f b = f ((l.take i).foldl f b) z := by
  rw [List.take_succ_eq_append_getElem (List.getElem?_eq_some_iff.1 h).1, List.foldl_append, (List.getElem?_eq_some_iff.1 h).2]; rfl
theorem bitsI_snoc {l : List Int} {i : Nat} {z : Int} (h : l[(i : Int).toNat]? = some z) : bitsI (l.take (i + 1)) = bt .or .i64 (bitsI (l.take i)) (IntKind.i64.wrap (1 * 2 ^ min (IntKind.u64.wrap z).toNat IntKind.i64.bits)) := foldl_snoc0 _ _ h
theorem u64_nonneg (x : Int) : 0 ≤ IntKind.u64.wrap x := by
  simp only [IntKind.wrap, IntKind.signed, IntKind.bits, Bool.false_and, Bool.false_eq_true, if_false]
  exact Int.emod_nonneg _ (by decide)
def RisAt (lo hi : Int) (l : List Int) (j : Nat) : Prop := lo ≤ l.getD j 0 ∧ l.getD j 0 ≤ hi ∧ (0 < j → l.getD (j - 1) 0 < l.getD j 0)
instance (lo hi : Int) (l : List Int) (j : Nat) : Decidable (RisAt lo hi l j) := by unfold RisAt; infer_instance
def Ris (lo hi : Int) (l : List Int) : Prop := ∀ j, j < l.length → RisAt lo hi l j
instance (lo hi : Int) (l : List Int) : Decidable (Ris lo hi l) := by unfold Ris; infer_instance
def crowd (l : List Int) : Int := l.foldl (fun a h => bt .or .u64 a (IntKind.u64.wrap (1 * 2 ^ min h.toNat IntKind.u64.bits))) 0
theorem foldl_snoc {α β : Type} (f : β → α → β) (b : β) {l : List α} {i : Nat} {z : α} (h : l[i]? = some z) : (l.take (i + 1)).foldl f b = f ((l.take i).foldl f b) z := by
  rw [List.take_succ_eq_append_getElem (List.getElem?_eq_some_iff.1 h).1, List.foldl_append, (List.getElem?_eq_some_iff.1 h).2]; rfl
theorem crowd_snoc {l : List Int} {i : Nat} {z : Int} (h : l[(i : Int).toNat]? = some z) : crowd (l.take (i + 1)) = bt .or .u64 (crowd (l.take i)) (IntKind.u64.wrap (1 * 2 ^ min z.toNat IntKind.u64.bits)) := foldl_snoc _ _ h
theorem gdt {α : Type} {l : List α} {q p : Int} {j : Nat} {z d : α} (h : (l.take q.toNat)[p.toNat]? = some z) (e : (j : Int) = p) : l.getD j d = z := by
  subst e
  rw [Int.toNat_natCast, List.getElem?_take] at h
  split at h
  · simp [h]
  · cases h
theorem ris_low {n : Int} {l : List Int} (hn : 1 ≤ n ∧ n ≤ 7) (h : Ris 0 (n - 1) l) : ∀ x ∈ l, 0 ≤ x ∧ x < 64 := fun x hx => by
  obtain ⟨j, hj, rfl⟩ := List.getElem_of_mem hx
  have q := h j hj
  have e : l.getD j 0 = l[j] := by simp [hj]
  unfold RisAt at q
  rw [e] at q
  omega
/-- A holder's row lies in one of the rows. -/
def opC (q : Int) (l : List (List Int)) : Prop := ∃ x ∈ l, bt .and .u64 q (crowd x) = crowd x
noncomputable instance (q : Int) (l : List (List Int)) : Decidable (opC q l) := Classical.propDecidable _
theorem shl7 {n : Int} (hn : 1 ≤ n ∧ n ≤ 7) : ∃ N : Nat, IntKind.i64.wrap (1 * 2 ^ min (IntKind.u64.wrap n : Int).toNat IntKind.i64.bits) = N ∧ 2 ^ n.toNat = N ∧ (1 ≤ N ∧ N ≤ 128) := by
  have : n = 1 ∨ n = 2 ∨ n = 3 ∨ n = 4 ∨ n = 5 ∨ n = 6 ∨ n = 7 := by omega
  rcases this with rfl | rfl | rfl | rfl | rfl | rfl | rfl <;> exact ⟨_, rfl, rfl, by decide⟩
def RowAt (n : Int) (l : List (List Int)) (i : Nat) : Prop := Ris 0 (n - 1) (l.getD i []) ∧ (0 < i → lexI (l.getD (i - 1) []) (l.getD i []) < 0)
def inI (x y : List Int) : Prop := bt .and .i64 (bitsI x) (bitsI y) = bitsI x
def inC (x y : List Int) : Prop := bt .and .u64 (crowd x) (crowd y) = crowd y
def okI (n : Int) (l : List (List Int)) : Prop := (1 ≤ n ∧ n ≤ 7) ∧ (∀ i, i < l.length → RowAt n l i) ∧ ∀ i, i < l.length → ∀ j, j < l.length → i ≠ j → ¬ inI (l.getD i []) (l.getD j [])
def okC (n : Int) (l : List (List Int)) : Prop := (1 ≤ n ∧ n ≤ 7) ∧ ∀ i, i < l.length → RowAt n l i ∧ ∀ j, j < i → ¬ inC (l.getD j []) (l.getD i []) ∧ ¬ inC (l.getD i []) (l.getD j [])
noncomputable instance (n : Int) (l : List (List Int)) : Decidable (okI n l) := Classical.propDecidable _
noncomputable instance (n : Int) (l : List (List Int)) : Decidable (okC n l) := Classical.propDecidable _
/-- A holder's row lies in one of the rows, by the reference's bits. -/
def opI (s : Int) (l : List (List Int)) : Prop := ∃ x ∈ l, bt .and .i64 (bitsI x) s = bitsI x
noncomputable instance (q : Int) (l : List (List Int)) : Decidable (opI q l) := Classical.propDecidable _
noncomputable def tabI (n : Int) (l : List (List Int)) : List Bool := (List.range (2 ^ n.toNat)).map fun (s : Nat) => decide (opI (s : Int) l)
theorem tabI_length (n : Int) (l : List (List Int)) : (tabI n l).length = 2 ^ n.toNat := by simp [tabI]
theorem tabI_get {n : Int} {l : List (List Int)} {s : Nat} (h : s < 2 ^ n.toNat) : (tabI n l).getD s false = decide (opI s l) := by
  simp [tabI, List.getD_eq_getElem?_getD, h]
theorem set_ne {k : List Bool} {i s : Nat} {b : Bool} (h : s ≠ i) : (k.set (i : Int).toNat b).getD s false = k.getD s false := by
  simp only [List.getD_eq_getElem?_getD, Int.toNat_natCast]
  rw [List.getElem?_set_ne (fun e => h e.symm)]
theorem opI_snoc {s : Int} {l : List (List Int)} {j : Nat} {z : List Int} (hz : l[(j : Int).toNat]? = some z) : opI s (l.take (j + 1)) ↔ opI s (l.take j) ∨ bt .and .i64 (bitsI z) s = bitsI z := by
  rw [Int.toNat_natCast] at hz
  rw [List.take_add_one, hz]
  simp only [opI, List.mem_append, Option.toList_some, List.mem_singleton]
  constructor
  · rintro ⟨x, hx | rfl, h⟩
    · exact .inl ⟨x, hx, h⟩
    · exact .inr h
  · rintro (⟨x, hx, h⟩ | h)
    · exact ⟨x, .inl hx, h⟩
    · exact ⟨z, .inr rfl, h⟩
theorem tab_step {k : List Bool} {i j : Nat} {l : List (List Int)} {z : List Int} {t : Bool} (hi : i < k.length) (hm : k.getD i false = decide (opI i (l.take j))) (ht : k[(i : Int).toNat]? = some t) (hc : (!t) = true) (hz : l[(j : Int).toNat]? = some z) :
    (k.set (i : Int).toNat (decide (bt .and .i64 (bitsI z) (i : Int) = bitsI z))).getD i false = decide (opI i (l.take (j + 1))) := by
  have e0 : k.getD i false = t := gd ht rfl
  have e1 : t = false := by cases t <;> simp_all
  have e2 : ¬ opI i (l.take j) := of_decide_eq_false (by rw [← hm, e0, e1])
  rw [Bool.eq_iff_iff, decide_eq_true_iff, opI_snoc hz]
  simp [hi, e2]
theorem opI_take {s : Int} {l : List (List Int)} {j : Nat} (h : opI s (l.take j)) : opI s l := by
  obtain ⟨x, hx, h⟩ := h
  exact ⟨x, List.mem_of_mem_take hx, h⟩
theorem tab_t {k : List Bool} {i j : Nat} {l : List (List Int)} {t : Bool} (hm : k.getD i false = decide (opI i (l.take j))) (ht : k[(i : Int).toNat]? = some t) (hc : (!t) = false) : k.getD i false = decide (opI i l) := by
  have e0 : k.getD i false = t := gd ht rfl
  have e1 : t = true := by cases t <;> simp_all
  have e2 : opI i (l.take j) := of_decide_eq_true (by rw [← hm, e0, e1])
  rw [e0, e1]
  exact (decide_eq_true (opI_take e2)).symm
/-! ### Bits of small numbers -/
theorem bt_nat (k : IntKind) (hk : k = .i64 ∨ k = .u64) {a b : Nat} (ha : a < 128) (hb : b < 128) : bt .or k a b = ((a ||| b : Nat) : Int) ∧ bt .and k a b = ((a &&& b : Nat) : Int) := by
  have h1 : a ||| b < 128 := Nat.or_lt_two_pow (n := 7) ha hb
  have h2 : a &&& b < 128 := Nat.lt_of_le_of_lt Nat.and_le_left ha
  have w1 : ∀ (c : Nat), c < 128 → k.wrap (c : Int) = c := fun c hc => by
    rcases hk with rfl | rfl
    · have h1 : (c : Int) % 18446744073709551616 = c := by omega
      simp [IntKind.wrap, IntKind.signed, IntKind.bits, h1]; omega
    · have h1 : (c : Int) % 18446744073709551616 = c := by omega
      simp [IntKind.wrap, IntKind.signed, IntKind.bits, h1]
  have e : k.bits = 64 := by rcases hk with rfl | rfl <;> rfl
  have f : ∀ c : Nat, c < 128 → (BitVec.ofInt k.bits (c : Int)).toNat = c := fun c hc => by
    rw [e, BitVec.toNat_ofInt]; omega
  constructor
  · simp only [bt, BitVec.toNat_or]
    rw [f a ha, f b hb, w1 _ h1]
  · simp only [bt, BitVec.toNat_and]
    rw [f a ha, f b hb, w1 _ h2]
def bitN (l : List Int) : Nat := l.foldl (fun a h => a ||| 2 ^ h.toNat) 0
theorem fold_nat {n : Int} (hn : 1 ≤ n ∧ n ≤ 7) : ∀ (l : List Int) (a : Nat), a < 2 ^ n.toNat → (∀ x ∈ l, 0 ≤ x ∧ x ≤ n - 1) →
    l.foldl (fun a h => bt .or .i64 a (IntKind.i64.wrap (1 * 2 ^ min (IntKind.u64.wrap h).toNat IntKind.i64.bits))) (a : Int) = ((l.foldl (fun a h => a ||| 2 ^ h.toNat) a : Nat) : Int) ∧
    l.foldl (fun a h => bt .or .u64 a (IntKind.u64.wrap (1 * 2 ^ min h.toNat IntKind.u64.bits))) (a : Int) = ((l.foldl (fun a h => a ||| 2 ^ h.toNat) a : Nat) : Int) ∧
    l.foldl (fun a h => a ||| 2 ^ h.toNat) a < 2 ^ n.toNat
  | [], a, ha, _ => ⟨rfl, rfl, ha⟩
  | x :: l, a, ha, h => by
    obtain ⟨hx, hl⟩ := List.forall_mem_cons.1 h
    have hx7 : x = 0 ∨ x = 1 ∨ x = 2 ∨ x = 3 ∨ x = 4 ∨ x = 5 ∨ x = 6 := by omega
    have e1 : IntKind.i64.wrap (1 * 2 ^ min (IntKind.u64.wrap x).toNat IntKind.i64.bits) = ((2 ^ x.toNat : Nat) : Int) := by
      rcases hx7 with rfl | rfl | rfl | rfl | rfl | rfl | rfl <;> rfl
    have e2 : IntKind.u64.wrap (1 * 2 ^ min x.toNat IntKind.u64.bits) = ((2 ^ x.toNat : Nat) : Int) := by
      rcases hx7 with rfl | rfl | rfl | rfl | rfl | rfl | rfl <;> rfl
    have p7 : 2 ^ n.toNat ≤ 128 := Nat.pow_le_pow_right (n := 2) (by decide) (show n.toNat ≤ 7 by omega)
    have px : 2 ^ x.toNat < 2 ^ n.toNat := Nat.pow_lt_pow_right (by decide) (by omega)
    have ha' : a ||| 2 ^ x.toNat < 2 ^ n.toNat := Nat.or_lt_two_pow ha px
    simp only [List.foldl_cons]
    rw [e1, e2, (bt_nat .i64 (.inl rfl) (by omega) (by omega)).1, (bt_nat .u64 (.inr rfl) (by omega) (by omega)).1]
    exact fold_nat hn l _ ha' hl
theorem ris_in {n : Int} {l : List Int} (h : Ris 0 (n - 1) l) : ∀ x ∈ l, 0 ≤ x ∧ x ≤ n - 1 := fun x hx => by
  obtain ⟨j, hj, rfl⟩ := List.getElem_of_mem hx
  have q := h j hj
  have e : l.getD j 0 = l[j] := by simp [hj]
  unfold RisAt at q
  rw [e] at q
  exact ⟨q.1, q.2.1⟩
theorem bits_nat {n : Int} {l : List Int} (hn : 1 ≤ n ∧ n ≤ 7) (h : Ris 0 (n - 1) l) : bitsI l = bitN l ∧ crowd l = bitN l ∧ bitN l < 2 ^ n.toNat :=
  fold_nat hn l 0 (Nat.two_pow_pos _) (ris_in h)
theorem bits_lt {n : Int} {l : List Int} (hn : 1 ≤ n ∧ n ≤ 7) (h : Ris 0 (n - 1) l) : 0 ≤ bitsI l ∧ bitsI l < ((2 ^ n.toNat : Nat) : Int) := by
  obtain ⟨h1, _, h3⟩ := bits_nat hn h
  omega
theorem pow7 {n : Int} (hn : 1 ≤ n ∧ n ≤ 7) : 2 ^ n.toNat ≤ 128 := Nat.pow_le_pow_right (n := 2) (by decide) (show n.toNat ≤ 7 by omega)
theorem inI_iff {n : Int} {x y : List Int} (hn : 1 ≤ n ∧ n ≤ 7) (hx : Ris 0 (n - 1) x) (hy : Ris 0 (n - 1) y) : inI x y ↔ bitN x &&& bitN y = bitN x := by
  obtain ⟨a1, _, a3⟩ := bits_nat hn hx
  obtain ⟨b1, _, b3⟩ := bits_nat hn hy
  have p7 := pow7 hn
  unfold inI
  rw [a1, b1, (bt_nat .i64 (.inl rfl) (by omega) (by omega)).2]
  omega
theorem inC_iff {n : Int} {x y : List Int} (hn : 1 ≤ n ∧ n ≤ 7) (hx : Ris 0 (n - 1) x) (hy : Ris 0 (n - 1) y) : inC x y ↔ bitN x &&& bitN y = bitN y := by
  obtain ⟨_, a1, a3⟩ := bits_nat hn hx
  obtain ⟨_, b1, b3⟩ := bits_nat hn hy
  have p7 := pow7 hn
  unfold inC
  rw [a1, b1, (bt_nat .u64 (.inr rfl) (by omega) (by omega)).2]
  omega
theorem inCI {n : Int} {x y : List Int} (hn : 1 ≤ n ∧ n ≤ 7) (hx : Ris 0 (n - 1) x) (hy : Ris 0 (n - 1) y) : inC x y ↔ inI y x := by
  rw [inC_iff hn hx hy, inI_iff hn hy hx, Nat.and_comm]
theorem ok_iff (n : Int) (l : List (List Int)) : okI n l ↔ okC n l := by
  constructor
  · rintro ⟨hn, h1, h2⟩
    refine ⟨hn, fun i hi => ⟨h1 i hi, fun j hj => ⟨?_, ?_⟩⟩⟩
    · rw [inCI hn (h1 j (by omega)).1 (h1 i hi).1]; exact h2 i hi j (by omega) (by omega)
    · rw [inCI hn (h1 i hi).1 (h1 j (by omega)).1]; exact h2 j (by omega) i hi (by omega)
  · rintro ⟨hn, h⟩
    refine ⟨hn, fun i hi => (h i hi).1, fun i hi j hj hne => ?_⟩
    rw [← inCI hn (h j hj).1.1 (h i hi).1.1]
    rcases Nat.lt_or_ge i j with g | g
    · exact ((h j hj).2 i g).2
    · exact ((h i hi).2 j (by omega)).1
theorem op_iff {n : Int} {l : List (List Int)} {g : List Int} (h : okC n l) (hg : Ris 0 (n - 1) g) : opI (bitsI g) l ↔ opC (crowd g) l := by
  have hx : ∀ x ∈ l, Ris 0 (n - 1) x := fun x hx => by
    obtain ⟨i, hi, rfl⟩ := List.getElem_of_mem hx
    have := (h.2 i hi).1.1
    simpa [hi] using this
  constructor
  · rintro ⟨x, hm, e⟩
    exact ⟨x, hm, (inCI h.1 hg (hx x hm)).2 e⟩
  · rintro ⟨x, hm, e⟩
    exact ⟨x, hm, (inCI h.1 hg (hx x hm)).1 e⟩
theorem okC_low {n : Int} {l : List (List Int)} (h : okC n l) : ∀ x ∈ l, ∀ y ∈ x, 0 ≤ y ∧ y < 64 := fun x hx => by
  obtain ⟨i, hi, rfl⟩ := List.getElem_of_mem hx
  have := (h.2 i hi).1.1
  exact ris_low h.1 (by simpa [hi] using this)
theorem tabv {n : Int} {l : List (List Int)} {g : List Int} {z : Bool} (hok : okI n l) (hg : Ris 0 (n - 1) g) (hz : (tabI n l)[(bitsI g).toNat]? = some z) : z = decide (okI n l ∧ Ris 0 (n - 1) g ∧ opI (bitsI g) l) := by
  obtain ⟨h0, h1⟩ := bits_lt hok.1 hg
  have e : (tabI n l).getD (bitsI g).toNat false = z := gd hz (by omega)
  rw [← e, tabI_get (by omega), decide_eq_decide, Int.toNat_of_nonneg h0]
  exact ⟨fun h => ⟨hok, hg, h⟩, fun h => h.2.2⟩
set_option maxRecDepth 100000 in
theorem szInt64S_ok {v : Value} {l : List Int} {ok : Nat → Prop} (q : Int) (hr : RdK kI W H ok v l) (hq : -1 ≤ q ∧ q ≤ 1048576) (hl : l.length ≤ 9223372036854775807) : ACalls Try.prog W 92 #[v, .int .i64 q] H (fun r H' => (∃ q' : Int, r = .int .i64 q' ∧ -1 ≤ q' ∧ q' ≤ 1048576 ∧ (0 ≤ q' → l.length ≤ 1048576)) ∧ Ext H H') := by
  refine ACalls.of (args := [v, .int .i64 q]) Try.func92 rfl rfl ?_
  have X0 := Ext.refl H
  have hm1 := hr.max
  refine AW.rs ?_
  refine AL.val rfl (.inl rfl) (HV.as rfl) ?_
  refine AL.nx ?_
  refine AW.rs ?_
  refine AL.val rfl (.inl rfl) (HV.mv rfl) ?_
  refine AL.val rfl (.inl rfl) (HV.mv rfl) ?_
  refine AL.val rfl (.inl rfl) (HV.len Try.underlying25 rfl hr.isSl) ?_
  refine AL.val rfl (.inl rfl) (HV.sub rfl rfl (by omega)) ?_
  refine AL.val rfl (.inl rfl) (HV.as rfl) ?_
  refine AL.nx ?_
  refine AW.seq ?_
  refine AW.rs ?_
  refine AL.val rfl (.inl rfl) (HV.mv rfl) ?_
  refine AL.val rfl (.inl rfl) (HV.lti rfl rfl) ?_
  refine AL.nx ?_
  refine AW.ifd rfl (fun c2 => ?_) (fun c2 => ?_)
  · -- then
    refine AW.rs ?_
    refine AL.val rfl (.inl rfl) (HV.as rfl) ?_
    refine AL.nx ?_
    refine AW.ret ?_
    refine ret_and ?_
    refine post_one rfl rfl ?_ (.inr rfl)
    exact ⟨⟨_, rfl, by omega, by omega, fun h => by omega⟩, X0⟩
  · -- else
    refine AW.skip ?_
    refine nrm_and ?_
    refine AW.rs ?_
    refine AL.val rfl (.inl rfl) (HV.mv rfl) ?_
    refine AL.val rfl (.inl rfl) (HV.as rfl) ?_
    refine AL.nx ?_
    refine AW.ret ?_
    refine post_one rfl rfl ?_ (.inr rfl)
    exact ⟨⟨_, rfl, by omega, by omega, fun h => by omega⟩, X0⟩

set_option maxRecDepth 100000 in
theorem within_ok (a b c : Int) : ACalls Try.prog W 81 #[.int .i64 a, .int .i64 b, .int .i64 c] H (fun r H' => r = .bool (decide (b ≤ a ∧ a ≤ c)) ∧ Ext H H') := by
  refine ACalls.of (args := [.int .i64 a, .int .i64 b, .int .i64 c]) Try.func81 rfl rfl ?_
  have X0 := Ext.refl H
  refine AW.rs ?_
  refine AL.val rfl (.inl rfl) (HV.as rfl) ?_
  refine AL.nx ?_
  refine AW.rs ?_
  refine AL.val rfl (.inl rfl) (HV.mv rfl) ?_
  refine AL.val rfl (.inl rfl) (HV.mv rfl) ?_
  refine AL.val rfl (.inl rfl) (HV.gei rfl rfl) ?_
  refine AL.val rfl (.inl rfl) (HV.mv rfl) ?_
  by_cases c1 : a ≥ b
  · -- true
    have c1_ : decide (a ≥ b) = true := decide_eq_true c1
    rw [c1_]
    refine AL.val rfl (.inr ⟨_, _, _, rfl, rfl, rfl⟩) (HV.mv rfl) ?_
    refine AL.val rfl (.inr ⟨_, _, _, rfl, rfl, rfl⟩) (HV.mv rfl) ?_
    refine AL.val rfl (.inr ⟨_, _, _, rfl, rfl, rfl⟩) (HV.lei rfl rfl) ?_
    refine AL.val rfl (.inl rfl) (HV.pickT rfl rfl) ?_
    refine AL.val rfl (.inl rfl) (HV.as rfl) ?_
    refine AL.nx ?_
    refine AW.ret ?_
    refine post_one rfl rfl ?_ (.inr rfl)
    exact ⟨congrArg Value.bool (by rw [Bool.eq_iff_iff]; simp; omega), X0⟩
  · -- false
    have c1_ : decide (a ≥ b) = false := decide_eq_false c1
    rw [c1_]
    refine AL.off rfl rfl (by decide) rfl ?_
    refine AL.off rfl rfl (by decide) rfl ?_
    refine AL.off rfl rfl (by decide) rfl ?_
    refine AL.val rfl (.inl rfl) (HV.pickF rfl rfl) ?_
    refine AL.val rfl (.inl rfl) (HV.as rfl) ?_
    refine AL.nx ?_
    refine AW.ret ?_
    refine post_one rfl rfl ?_ (.inr rfl)
    exact ⟨congrArg Value.bool (by rw [Bool.eq_iff_iff]; simp; omega), X0⟩

set_option maxRecDepth 100000 in
theorem l00In_ok (a b c : Int) : ACalls Try.prog W 76 #[.int .i64 a, .int .i64 b, .int .i64 c] H (fun r H' => r = .bool (decide (b ≤ a ∧ a ≤ c)) ∧ Ext H H') := by
  refine ACalls.of (args := [.int .i64 a, .int .i64 b, .int .i64 c]) Try.func76 rfl rfl ?_
  have X0 := Ext.refl H
  refine AW.rs ?_
  refine AL.val rfl (.inl rfl) (HV.as rfl) ?_
  refine AL.nx ?_
  refine AW.rs ?_
  refine AL.val rfl (.inl rfl) (HV.mv rfl) ?_
  refine AL.val rfl (.inl rfl) (HV.mv rfl) ?_
  refine AL.val rfl (.inl rfl) (HV.gei rfl rfl) ?_
  refine AL.val rfl (.inl rfl) (HV.mv rfl) ?_
  by_cases c1 : a ≥ b
  · -- true
    have c1_ : decide (a ≥ b) = true := decide_eq_true c1
    rw [c1_]
    refine AL.val rfl (.inr ⟨_, _, _, rfl, rfl, rfl⟩) (HV.mv rfl) ?_
    refine AL.val rfl (.inr ⟨_, _, _, rfl, rfl, rfl⟩) (HV.mv rfl) ?_
    refine AL.val rfl (.inr ⟨_, _, _, rfl, rfl, rfl⟩) (HV.lei rfl rfl) ?_
    refine AL.val rfl (.inl rfl) (HV.pickT rfl rfl) ?_
    refine AL.val rfl (.inl rfl) (HV.as rfl) ?_
    refine AL.nx ?_
    refine AW.ret ?_
    refine post_one rfl rfl ?_ (.inr rfl)
    exact ⟨congrArg Value.bool (by rw [Bool.eq_iff_iff]; simp; omega), X0⟩
  · -- false
    have c1_ : decide (a ≥ b) = false := decide_eq_false c1
    rw [c1_]
    refine AL.off rfl rfl (by decide) rfl ?_
    refine AL.off rfl rfl (by decide) rfl ?_
    refine AL.off rfl rfl (by decide) rfl ?_
    refine AL.val rfl (.inl rfl) (HV.pickF rfl rfl) ?_
    refine AL.val rfl (.inl rfl) (HV.as rfl) ?_
    refine AL.nx ?_
    refine AW.ret ?_
    refine post_one rfl rfl ?_ (.inr rfl)
    exact ⟨congrArg Value.bool (by rw [Bool.eq_iff_iff]; simp; omega), X0⟩

set_option maxRecDepth 100000 in
theorem crowdOf_ok {v : Value} {l : List Int} {ok : Nat → Prop} (hr : RdK kI W H ok v l) (hb : ∀ x ∈ l, 0 ≤ x ∧ x < 64) : ACalls Try.prog W 57 #[v] H (fun r H' => r = .int .u64 (crowd l) ∧ Ext H H') := by
  refine ACalls.of (args := [v]) Try.func57 rfl rfl ?_
  have X0 := Ext.refl H
  have hm1 := hr.max
  refine AW.rs ?_
  refine AL.val rfl (.inl rfl) (HV.as rfl) ?_
  refine AL.nx ?_
  refine AW.rs ?_
  refine AL.val rfl (.inl rfl) (HV.as rfl) ?_
  refine AL.nx ?_
  refine AW.seq ?_
  refine AW.rs ?_
  refine AL.val rfl (.inl rfl) (HV.mv rfl) ?_
  refine AL.val rfl (.inl rfl) (HV.len Try.underlying25 rfl hr.isSl) ?_
  refine AL.val rfl (.inl rfl) (HV.mv rfl) ?_
  refine AL.nx ?_
  refine AW.block ?_
  refine AW.loop (σ := Nat × Int) (fun ⟨i, acc⟩ => [(2, .int .u64 0), (6, v), (7, .int .i64 (l.length : Int)), (3, .int .u64 acc), (8, .int .i64 (i : Int))]) (fun ⟨i, acc⟩ H' => Ext H H' ∧ i ≤ l.length ∧ acc = crowd (l.take i) ∧ True) (fun ⟨i, acc⟩ => l.length - i) (0, 0) ⟨X0, Nat.zero_le _, rfl, trivial⟩ ⟨rfl, rfl, rfl, rfl, rfl, trivial⟩ ?_
  rintro ⟨i, acc⟩ H2 ⟨X3, hi, ha, _⟩
  refine AW.rs ?_
  refine AL.val rfl (.inl rfl) (HV.lti rfl rfl) ?_
  refine AL.nx ?_
  refine AW.seq ?_
  refine AW.ifd rfl (fun c4 => ?_) (fun c4 => ?_)
  · -- then
    refine AW.skip ?_
    refine nrm_and ?_
    refine AW.seq ?_
    refine AW.block ?_
    refine AW.rs ?_
    obtain ⟨p5, z6, cs7, hz8, hK9, hC10, hP11⟩ := RdK.ix (q := (i : Int)) hr sl25 (by omega) (by omega)
    obtain rfl : cs7 = [.int .i64 z6] := hK9
    refine AL.val rfl (.inl rfl) (hP11 rfl rfl) ?_
    refine AL.val rfl (.inl rfl) (HV.ld rfl va2 (cells_first (hC10.ext X3) rfl)) ?_
    refine AL.val rfl (.inl rfl) (HV.as rfl) ?_
    refine AL.nx ?_
    refine AW.reg ?_
    refine AL.val rfl (.inl rfl) (HV.mv rfl) ?_
    refine AL.val rfl (.inl rfl) (HV.mv rfl) ?_
    refine AL.val rfl (.inl rfl) (HV.shl rfl rfl (hb _ (List.mem_of_getElem? hz8)).1) ?_
    refine AL.val rfl (.inl rfl) (HV.bits (by simp) rfl rfl) ?_
    refine AL.val rfl (.inl rfl) (HV.as rfl) ?_
    refine AL.nil ?_
    refine nrm_blk (nrm_and ?_)
    refine AW.reg ?_
    refine AL.val rfl (.inl rfl) (HV.add rfl rfl (by omega)) ?_
    refine AL.val rfl (.inl rfl) (HV.mv rfl) ?_
    refine AL.nil ?_
    refine nrm_and ?_
    exact ⟨(i + 1, bt .or .u64 acc (IntKind.u64.wrap (1 * 2 ^ min (z6 : Int).toNat IntKind.u64.bits))), ⟨X3, by omega, by rw [ha]; exact (crowd_snoc hz8).symm, trivial⟩, by first | omega | (dsimp only; omega), ⟨rfl, rfl, rfl, rfl, rfl, trivial⟩⟩
  · -- else
    refine AW.exit ?_
    refine ex_and (ex_and (ex_blk ?_))
    refine nrm_and ?_
    refine AW.rs ?_
    refine AL.val rfl (.inl rfl) (HV.mv rfl) ?_
    refine AL.val rfl (.inl rfl) (HV.as rfl) ?_
    refine AL.nx ?_
    refine AW.ret ?_
    refine post_one rfl rfl ?_ (.inr rfl)
    exact ⟨by rw [ha, List.take_of_length_le (by omega)], X3⟩

set_option maxRecDepth 100000 in
theorem isGroup_ok {v : Value} {l : List Int} {ok : Nat → Prop} (h : Int) (hr : RdK kI W H ok v l) (hh : -1000000000 ≤ h ∧ h ≤ 1000000000) : ACalls Try.prog W 55 #[.int .i64 h, v] H (fun r H' => r = .bool (decide (Ris 0 (h - 1) l)) ∧ Ext H H') := by
  refine ACalls.of (args := [.int .i64 h, v]) Try.func55 rfl rfl ?_
  have X0 := Ext.refl H
  have hm1 := hr.max
  refine AW.rs ?_
  refine AL.val rfl (.inl rfl) (HV.as rfl) ?_
  refine AL.nx ?_
  refine AW.seq ?_
  refine AW.rs ?_
  refine AL.val rfl (.inl rfl) (HV.mv rfl) ?_
  refine AL.val rfl (.inl rfl) (HV.len Try.underlying25 rfl hr.isSl) ?_
  refine AL.val rfl (.inl rfl) (HV.mv rfl) ?_
  refine AL.nx ?_
  refine AW.block ?_
  refine AW.loop (σ := Nat) (fun i => [(0, .int .i64 h), (1, v), (7, v), (8, .int .i64 (l.length : Int)), (9, .int .i64 (i : Int))]) (fun i H' => Ext H H' ∧ i ≤ l.length ∧ (∀ j, j < i → RisAt 0 (h - 1) l j) ∧ True) (fun i => l.length - i) 0 ⟨X0, Nat.zero_le _, fun j hj => absurd hj (Nat.not_lt_zero _), trivial⟩ ⟨rfl, rfl, rfl, rfl, rfl, trivial⟩ ?_
  rintro i H2 ⟨X3, hi, hi2, _⟩
  refine AW.rs ?_
  refine AL.val rfl (.inl rfl) (HV.lti rfl rfl) ?_
  refine AL.nx ?_
  refine AW.seq ?_
  refine AW.ifd rfl (fun c4 => ?_) (fun c4 => ?_)
  · -- then
    refine AW.skip ?_
    refine nrm_and ?_
    refine AW.seq ?_
    refine AW.block ?_
    refine AW.rs ?_
    refine AL.val rfl (.inl rfl) (HV.mv rfl) ?_
    obtain ⟨p5, z6, cs7, hz8, hK9, hC10, hP11⟩ := RdK.ix (q := (i : Int)) hr sl25 (by omega) (by omega)
    obtain rfl : cs7 = [.int .i64 z6] := hK9
    refine AL.val rfl (.inl rfl) (hP11 rfl rfl) ?_
    refine AL.val rfl (.inl rfl) (HV.ld rfl va2 (cells_first (hC10.ext X3) rfl)) ?_
    refine AL.val rfl (.inl rfl) (HV.as rfl) ?_
    refine AL.val rfl (.inl rfl) (HV.as rfl) ?_
    refine AL.nx ?_
    refine AW.rs ?_
    refine AL.val rfl (.inl rfl) (HV.mv rfl) ?_
    refine AL.val rfl (.inl rfl) (HV.mv rfl) ?_
    refine AL.val rfl (.inl rfl) (HV.sub rfl rfl (by omega)) ?_
    refine AL.w rfl (.inl rfl) (WV.call fn81 rfl (within_ok (W := W) z6 0 (h - 1))) ?_
    rintro _ H12 ⟨rfl, hx13⟩
    have X14 := Ext.trans X3 hx13
    refine AL.val rfl (.inl rfl) (HV.not rfl) ?_
    refine AL.val rfl (.inl rfl) (HV.mv rfl) ?_
    by_cases c15 : 0 ≤ z6 ∧ z6 ≤ (h - 1)
    · -- false
      have c15_ : (!decide (0 ≤ z6 ∧ z6 ≤ (h - 1))) = false := by rw [decide_eq_true c15]; rfl
      rw [c15_]
      refine AL.val rfl (.inr ⟨_, _, _, rfl, rfl, rfl⟩) (HV.mv rfl) ?_
      refine AL.val rfl (.inr ⟨_, _, _, rfl, rfl, rfl⟩) (HV.gti rfl rfl) ?_
      refine AL.val rfl (.inr ⟨_, _, _, rfl, rfl, rfl⟩) (HV.mv rfl) ?_
      by_cases c16 : (i : Int) > 0
      · -- true
        have c16_ : decide ((i : Int) > 0) = true := decide_eq_true c16
        rw [c16_]
        refine AL.val rfl (.inr ⟨_, _, _, rfl, rfl, rfl⟩) (HV.mv rfl) ?_
        refine AL.val rfl (.inr ⟨_, _, _, rfl, rfl, rfl⟩) (HV.mv rfl) ?_
        refine AL.val rfl (.inr ⟨_, _, _, rfl, rfl, rfl⟩) (HV.mv rfl) ?_
        refine AL.val rfl (.inr ⟨_, _, _, rfl, rfl, rfl⟩) (HV.sub rfl rfl (by omega)) ?_
        obtain ⟨p17, z18, cs19, hz20, hK21, hC22, hP23⟩ := RdK.ix (q := (i : Int) - 1) hr sl25 (by omega) (by omega)
        obtain rfl : cs19 = [.int .i64 z18] := hK21
        refine AL.val rfl (.inr ⟨_, _, _, rfl, rfl, rfl⟩) (hP23 rfl rfl) ?_
        refine AL.val rfl (.inr ⟨_, _, _, rfl, rfl, rfl⟩) (HV.ld rfl va2 (cells_first (hC22.ext X14) rfl)) ?_
        refine AL.val rfl (.inr ⟨_, _, _, rfl, rfl, rfl⟩) (HV.lei rfl rfl) ?_
        refine AL.val rfl (.inr ⟨_, _, _, rfl, rfl, rfl⟩) (HV.pickT rfl rfl) ?_
        refine AL.val rfl (.inl rfl) (HV.pickF rfl rfl) ?_
        refine AL.nx ?_
        refine AW.ifd rfl (fun c24 => ?_) (fun c24 => ?_)
        · -- then
          refine AW.rs ?_
          refine AL.val rfl (.inl rfl) (HV.as rfl) ?_
          refine AL.nx ?_
          refine AW.ret ?_
          refine ret_blk (ret_and (ret_and (ret_blk (ret_and ?_))))
          refine post_one rfl rfl ?_ (.inr rfl)
          exact ⟨dec_f fun hR => by have q := hR i (by omega); unfold RisAt at q; have g13 : l.getD i 0 = z6 := gd hz8 (by omega); have g28 : l.getD (i - 1) 0 = z18 := gd hz20 (by omega); omega, X14⟩
        · -- else
          refine AW.skip ?_
          refine nrm_blk (nrm_and ?_)
          refine AW.reg ?_
          refine AL.val rfl (.inl rfl) (HV.add rfl rfl (by omega)) ?_
          refine AL.val rfl (.inl rfl) (HV.mv rfl) ?_
          refine AL.nil ?_
          refine nrm_and ?_
          exact ⟨i + 1, ⟨X14, by omega, fun j hj => by
      rcases Nat.lt_or_ge j i with h1 | h1
      · exact hi2 j h1
      · obtain rfl : j = i := by omega
        unfold RisAt; have g13 : l.getD j 0 = z6 := gd hz8 (by omega); have g28 : l.getD (j - 1) 0 = z18 := gd hz20 (by omega); exact ⟨by omega, by omega, fun h0 => by omega⟩, trivial⟩, by first | omega | (dsimp only; omega), ⟨rfl, rfl, rfl, rfl, rfl, trivial⟩⟩
      · -- false
        have c16_ : decide ((i : Int) > 0) = false := decide_eq_false c16
        rw [c16_]
        refine AL.off rfl rfl (by decide) rfl ?_
        refine AL.off rfl rfl (by decide) rfl ?_
        refine AL.off rfl rfl (by decide) rfl ?_
        refine AL.off rfl rfl (by decide) rfl ?_
        refine AL.off rfl rfl (by decide) rfl ?_
        refine AL.off rfl rfl (by decide) rfl ?_
        refine AL.off rfl rfl (by decide) rfl ?_
        refine AL.val rfl (.inr ⟨_, _, _, rfl, rfl, rfl⟩) (HV.pickF rfl rfl) ?_
        refine AL.val rfl (.inl rfl) (HV.pickF rfl rfl) ?_
        refine AL.nx ?_
        refine AW.cond rfl (fun h => by cases h) (fun _ => ?_)
        refine AW.skip ?_
        refine nrm_blk (nrm_and ?_)
        refine AW.reg ?_
        refine AL.val rfl (.inl rfl) (HV.add rfl rfl (by omega)) ?_
        refine AL.val rfl (.inl rfl) (HV.mv rfl) ?_
        refine AL.nil ?_
        refine nrm_and ?_
        exact ⟨i + 1, ⟨X14, by omega, fun j hj => by
      rcases Nat.lt_or_ge j i with h1 | h1
      · exact hi2 j h1
      · obtain rfl : j = i := by omega
        unfold RisAt; have g13 : l.getD j 0 = z6 := gd hz8 (by omega); exact ⟨by omega, by omega, fun h0 => by omega⟩, trivial⟩, by first | omega | (dsimp only; omega), ⟨rfl, rfl, rfl, rfl, rfl, trivial⟩⟩
    · -- true
      have c15_ : (!decide (0 ≤ z6 ∧ z6 ≤ (h - 1))) = true := by rw [decide_eq_false c15]; rfl
      rw [c15_]
      refine AL.off rfl rfl (by decide) rfl ?_
      refine AL.off rfl rfl (by decide) rfl ?_
      refine AL.off rfl rfl (by decide) rfl ?_
      refine AL.offu rfl rfl rfl ?_
      refine AL.offu rfl rfl rfl ?_
      refine AL.offu rfl rfl rfl ?_
      refine AL.offu rfl rfl rfl ?_
      refine AL.offu rfl rfl rfl ?_
      refine AL.offu rfl rfl rfl ?_
      refine AL.offu rfl rfl rfl ?_
      refine AL.off rfl rfl (by decide) rfl ?_
      refine AL.val rfl (.inl rfl) (HV.pickT rfl rfl) ?_
      refine AL.nx ?_
      refine AW.cond rfl (fun _ => ?_) (fun h => by cases h)
      refine AW.rs ?_
      refine AL.val rfl (.inl rfl) (HV.as rfl) ?_
      refine AL.nx ?_
      refine AW.ret ?_
      refine ret_blk (ret_and (ret_and (ret_blk (ret_and ?_))))
      refine post_one rfl rfl ?_ (.inr rfl)
      exact ⟨dec_f fun hR => by have q := hR i (by omega); unfold RisAt at q; have g13 : l.getD i 0 = z6 := gd hz8 (by omega); omega, X14⟩
  · -- else
    refine AW.exit ?_
    refine ex_and (ex_and (ex_blk ?_))
    refine nrm_and ?_
    refine AW.rs ?_
    refine AL.val rfl (.inl rfl) (HV.as rfl) ?_
    refine AL.nx ?_
    refine AW.ret ?_
    refine post_one rfl rfl ?_ (.inr rfl)
    exact ⟨dec_t fun j hj => hi2 j (by omega), X3⟩

set_option maxRecDepth 100000 in
theorem l00Rises_ok {v : Value} {l : List Int} {ok : Nat → Prop} (a b : Int) (hr : RdK kI W H ok v l) : ACalls Try.prog W 88 #[v, .int .i64 a, .int .i64 b] H (fun r H' => r = .bool (decide (Ris a b l)) ∧ Ext H H') := by
  refine ACalls.of (args := [v, .int .i64 a, .int .i64 b]) Try.func88 rfl rfl ?_
  have X0 := Ext.refl H
  have hm1 := hr.max
  refine AW.rs ?_
  refine AL.val rfl (.inl rfl) (HV.as rfl) ?_
  refine AL.nx ?_
  refine AW.seq ?_
  refine AW.rs ?_
  refine AL.val rfl (.inl rfl) (HV.as rfl) ?_
  refine AL.nx ?_
  refine AW.block ?_
  refine AW.loop (σ := Nat) (fun i => [(0, v), (1, .int .i64 a), (2, .int .i64 b), (7, .int .i64 (i : Int))]) (fun i H' => Ext H H' ∧ i ≤ l.length ∧ (∀ j, j < i → RisAt a b l j) ∧ True) (fun i => l.length - i) 0 ⟨X0, Nat.zero_le _, fun j hj => absurd hj (Nat.not_lt_zero _), trivial⟩ ⟨rfl, rfl, rfl, rfl, trivial⟩ ?_
  rintro i H2 ⟨X3, hi, hi2, _⟩
  refine AW.seq ?_
  refine AW.rs ?_
  refine AL.val rfl (.inl rfl) (HV.mv rfl) ?_
  refine AL.val rfl (.inl rfl) (HV.mv rfl) ?_
  refine AL.val rfl (.inl rfl) (HV.len Try.underlying25 rfl hr.isSl) ?_
  refine AL.val rfl (.inl rfl) (HV.lti rfl rfl) ?_
  refine AL.nx ?_
  refine AW.ifd rfl (fun c4 => ?_) (fun c4 => ?_)
  · -- then
    refine AW.skip ?_
    refine nrm_and ?_
    refine AW.seq ?_
    refine AW.block ?_
    refine AW.seq ?_
    refine AW.draw' [0, 0, 3, 7, 0, 0, 63, 127, 255, 511, 1023, 2047, 4095, 4095, 12287, 32767, 65535, 4095, 4095, 397311, 921599, 2097151, 4194303, 8388607] mixed (by rfl) ?_
    refine Dr.read 0 _ 14 _ rfl rfl rfl rfl rfl (RV.of (by intro _ _ h; cases h) (.inl rfl) (fun _ xd => HV.mv rfl)) ?_
    refine Dr.read 1 _ 15 _ rfl rfl rfl rfl rfl (RV.of (by intro _ _ h; cases h) (.inl rfl) (fun _ xd => HV.mv rfl)) ?_
    obtain ⟨p5, z6, cs7, hz8, hK9, hC10, hP11⟩ := RdK.ix (q := (i : Int)) hr sl25 (by omega) (by omega)
    obtain rfl : cs7 = [.int .i64 z6] := hK9
    refine Dr.read 2 _ 16 _ rfl rfl rfl rfl rfl (RV.of (by intro _ _ h; cases h) (.inl rfl) (fun _ xd => hP11 rfl rfl)) ?_
    refine Dr.read 3 _ 17 _ rfl rfl rfl rfl rfl (RV.of (by intro _ _ h; cases h) (.inl rfl) (fun _ xd => HV.ld rfl va2 (rdc_ext xd (cells_first (hC10.ext X3) rfl)))) ?_
    refine Dr.read 4 _ 18 _ rfl rfl rfl rfl rfl (RV.of (by intro _ _ h; cases h) (.inl rfl) (fun _ xd => HV.mv rfl)) ?_
    refine Dr.read 5 _ 19 _ rfl rfl rfl rfl rfl (RV.of (by intro _ _ h; cases h) (.inl rfl) (fun _ xd => HV.mv rfl)) ?_
    refine Dr.eff 6 _ _ rfl (by intro d h; cases h; exact ⟨rfl, rfl⟩) rfl rfl rfl (EC.of (by intro _ _ h; cases h) (.inl rfl) (WV.call fn76 rfl (l00In_ok (W := W) z6 a b))) (fun v H' h => .inl (h.2)) ?_
    rintro _ H12 ⟨rfl, hx13⟩
    have X14 := Ext.trans X3 hx13
    refine Dr.read 7 _ 21 _ rfl rfl rfl rfl rfl (RV.of (by intro _ _ h; cases h) (.inl rfl) (fun _ xd => HV.not rfl)) ?_
    refine Dr.read 8 _ 22 _ rfl rfl rfl rfl rfl (RV.of (by intro _ _ h; cases h) (.inl rfl) (fun _ xd => HV.mv rfl)) ?_
    by_cases c15 : a ≤ z6 ∧ z6 ≤ b
    · -- false
      have c15_ : (!decide (a ≤ z6 ∧ z6 ≤ b)) = false := by rw [decide_eq_true c15]; rfl
      rw [c15_]
      refine Dr.read 9 _ 23 _ rfl rfl rfl rfl rfl (RV.of (by intro _ _ h; cases h) (.inr ⟨_, _, _, rfl, rfl, rfl⟩) (fun _ xd => HV.mv rfl)) ?_
      refine Dr.read 10 _ 24 _ rfl rfl rfl rfl rfl (RV.of (by intro _ _ h; cases h) (.inr ⟨_, _, _, rfl, rfl, rfl⟩) (fun _ xd => HV.gti rfl rfl)) ?_
      refine Dr.read 11 _ 25 _ rfl rfl rfl rfl rfl (RV.of (by intro _ _ h; cases h) (.inr ⟨_, _, _, rfl, rfl, rfl⟩) (fun _ xd => HV.mv rfl)) ?_
      by_cases c16 : (i : Int) > 0
      · -- true
        have c16_ : decide ((i : Int) > 0) = true := decide_eq_true c16
        rw [c16_]
        refine Dr.read 12 _ 26 _ rfl rfl rfl rfl rfl (RV.of (by intro _ _ h; cases h) (.inr ⟨_, _, _, rfl, rfl, rfl⟩) (fun _ xd => HV.mv rfl)) ?_
        refine Dr.read 13 _ 27 _ rfl rfl rfl rfl rfl (RV.of (by intro _ _ h; cases h) (.inr ⟨_, _, _, rfl, rfl, rfl⟩) (fun _ xd => HV.mv rfl)) ?_
        refine Dr.read 14 _ 28 _ rfl rfl rfl rfl rfl (RV.of (by intro _ _ h; cases h) (.inr ⟨_, _, _, rfl, rfl, rfl⟩) (fun _ xd => HV.sub rfl rfl (by omega))) ?_
        obtain ⟨p17, z18, cs19, hz20, hK21, hC22, hP23⟩ := RdK.ix (q := (i : Int) - 1) hr sl25 (by omega) (by omega)
        obtain rfl : cs19 = [.int .i64 z18] := hK21
        refine Dr.read 15 _ 29 _ rfl rfl rfl rfl rfl (RV.of (by intro _ _ h; cases h) (.inr ⟨_, _, _, rfl, rfl, rfl⟩) (fun _ xd => hP23 rfl rfl)) ?_
        refine Dr.read 16 _ 30 _ rfl rfl rfl rfl rfl (RV.of (by intro _ _ h; cases h) (.inr ⟨_, _, _, rfl, rfl, rfl⟩) (fun _ xd => HV.ld rfl va2 (rdc_ext xd (cells_first (hC22.ext X14) rfl)))) ?_
        refine Dr.read 17 _ 31 _ rfl rfl rfl rfl rfl (RV.of (by intro _ _ h; cases h) (.inr ⟨_, _, _, rfl, rfl, rfl⟩) (fun _ xd => HV.mv rfl)) ?_
        refine Dr.read 18 _ 32 _ rfl rfl rfl rfl rfl (RV.of (by intro _ _ h; cases h) (.inr ⟨_, _, _, rfl, rfl, rfl⟩) (fun _ xd => HV.mv rfl)) ?_
        obtain ⟨p24, z25, cs26, hz27, hK28, hC29, hP30⟩ := RdK.ix (q := (i : Int)) hr sl25 (by omega) (by omega)
        obtain rfl : cs26 = [.int .i64 z25] := hK28
        refine Dr.read 19 _ 33 _ rfl rfl rfl rfl rfl (RV.of (by intro _ _ h; cases h) (.inr ⟨_, _, _, rfl, rfl, rfl⟩) (fun _ xd => hP30 rfl rfl)) ?_
        refine Dr.read 20 _ 34 _ rfl rfl rfl rfl rfl (RV.of (by intro _ _ h; cases h) (.inr ⟨_, _, _, rfl, rfl, rfl⟩) (fun _ xd => HV.ld rfl va2 (rdc_ext xd (cells_first (hC29.ext X14) rfl)))) ?_
        refine Dr.read 21 _ 35 _ rfl rfl rfl rfl rfl (RV.of (by intro _ _ h; cases h) (.inr ⟨_, _, _, rfl, rfl, rfl⟩) (fun _ xd => HV.gei rfl rfl)) ?_
        refine Dr.read 22 _ 36 _ rfl rfl rfl rfl rfl (RV.of (by intro _ _ h; cases h) (.inr ⟨_, _, _, rfl, rfl, rfl⟩) (fun _ xd => HV.pickT rfl rfl)) ?_
        refine Dr.read 23 _ 37 _ rfl rfl rfl rfl rfl (RV.of (by intro _ _ h; cases h) (.inl rfl) (fun _ xd => HV.pickF rfl rfl)) ?_
        refine Dr.fin rfl ?_
        refine nrm_and ?_
        refine AW.ifd rfl (fun c31 => ?_) (fun c31 => ?_)
        · -- then
          refine AW.rs ?_
          refine AL.val rfl (.inl rfl) (HV.as rfl) ?_
          refine AL.nx ?_
          refine AW.ret ?_
          refine ret_blk (ret_and (ret_and (ret_blk (ret_and ?_))))
          refine post_one rfl rfl ?_ (.inr rfl)
          exact ⟨dec_f fun hR => by have q := hR i (by omega); unfold RisAt at q; have g17 : l.getD i 0 = z6 := gd hz8 (by omega); have g30 : l.getD (i - 1) 0 = z18 := gd hz20 (by omega); have g34 : l.getD i 0 = z25 := gd hz27 (by omega); omega, X14⟩
        · -- else
          refine AW.skip ?_
          refine nrm_blk (nrm_and ?_)
          refine AW.reg ?_
          refine AL.val rfl (.inl rfl) (HV.mv rfl) ?_
          refine AL.val rfl (.inl rfl) (HV.add rfl rfl (by omega)) ?_
          refine AL.val rfl (.inl rfl) (HV.as rfl) ?_
          refine AL.nil ?_
          refine nrm_and ?_
          exact ⟨i + 1, ⟨X14, by omega, fun j hj => by
      rcases Nat.lt_or_ge j i with h1 | h1
      · exact hi2 j h1
      · obtain rfl : j = i := by omega
        unfold RisAt; have g17 : l.getD j 0 = z6 := gd hz8 (by omega); have g30 : l.getD (j - 1) 0 = z18 := gd hz20 (by omega); have g34 : l.getD j 0 = z25 := gd hz27 (by omega); exact ⟨by omega, by omega, fun h0 => by omega⟩, trivial⟩, by first | omega | (dsimp only; omega), ⟨rfl, rfl, rfl, rfl, trivial⟩⟩
      · -- false
        have c16_ : decide ((i : Int) > 0) = false := decide_eq_false c16
        rw [c16_]
        refine Dr.read 12 _ 26 _ rfl rfl rfl rfl rfl (RV.off (by intro _ _ h; cases h) rfl rfl (by decide)) ?_
        refine Dr.read 13 _ 27 _ rfl rfl rfl rfl rfl (RV.off (by intro _ _ h; cases h) rfl rfl (by decide)) ?_
        refine Dr.read 14 _ 28 _ rfl rfl rfl rfl rfl (RV.off (by intro _ _ h; cases h) rfl rfl (by decide)) ?_
        refine Dr.read 15 _ 29 _ rfl rfl rfl rfl rfl (RV.off (by intro _ _ h; cases h) rfl rfl (by decide)) ?_
        refine Dr.read 16 _ 30 _ rfl rfl rfl rfl rfl (RV.off (by intro _ _ h; cases h) rfl rfl (by decide)) ?_
        refine Dr.read 17 _ 31 _ rfl rfl rfl rfl rfl (RV.off (by intro _ _ h; cases h) rfl rfl (by decide)) ?_
        refine Dr.read 18 _ 32 _ rfl rfl rfl rfl rfl (RV.off (by intro _ _ h; cases h) rfl rfl (by decide)) ?_
        refine Dr.read 19 _ 33 _ rfl rfl rfl rfl rfl (RV.off (by intro _ _ h; cases h) rfl rfl (by decide)) ?_
        refine Dr.read 20 _ 34 _ rfl rfl rfl rfl rfl (RV.off (by intro _ _ h; cases h) rfl rfl (by decide)) ?_
        refine Dr.read 21 _ 35 _ rfl rfl rfl rfl rfl (RV.off (by intro _ _ h; cases h) rfl rfl (by decide)) ?_
        refine Dr.read 22 _ 36 _ rfl rfl rfl rfl rfl (RV.of (by intro _ _ h; cases h) (.inr ⟨_, _, _, rfl, rfl, rfl⟩) (fun _ xd => HV.pickF rfl rfl)) ?_
        refine Dr.read 23 _ 37 _ rfl rfl rfl rfl rfl (RV.of (by intro _ _ h; cases h) (.inl rfl) (fun _ xd => HV.pickF rfl rfl)) ?_
        refine Dr.fin rfl ?_
        refine nrm_and ?_
        refine AW.cond rfl (fun h => by cases h) (fun _ => ?_)
        refine AW.skip ?_
        refine nrm_blk (nrm_and ?_)
        refine AW.reg ?_
        refine AL.val rfl (.inl rfl) (HV.mv rfl) ?_
        refine AL.val rfl (.inl rfl) (HV.add rfl rfl (by omega)) ?_
        refine AL.val rfl (.inl rfl) (HV.as rfl) ?_
        refine AL.nil ?_
        refine nrm_and ?_
        exact ⟨i + 1, ⟨X14, by omega, fun j hj => by
      rcases Nat.lt_or_ge j i with h1 | h1
      · exact hi2 j h1
      · obtain rfl : j = i := by omega
        unfold RisAt; have g17 : l.getD j 0 = z6 := gd hz8 (by omega); exact ⟨by omega, by omega, fun h0 => by omega⟩, trivial⟩, by first | omega | (dsimp only; omega), ⟨rfl, rfl, rfl, rfl, trivial⟩⟩
    · -- true
      have c15_ : (!decide (a ≤ z6 ∧ z6 ≤ b)) = true := by rw [decide_eq_false c15]; rfl
      rw [c15_]
      refine Dr.read 9 _ 23 _ rfl rfl rfl rfl rfl (RV.off (by intro _ _ h; cases h) rfl rfl (by decide)) ?_
      refine Dr.read 10 _ 24 _ rfl rfl rfl rfl rfl (RV.off (by intro _ _ h; cases h) rfl rfl (by decide)) ?_
      refine Dr.read 11 _ 25 _ rfl rfl rfl rfl rfl (RV.off (by intro _ _ h; cases h) rfl rfl (by decide)) ?_
      refine Dr.read 12 _ 26 _ rfl rfl rfl rfl rfl (RV.offu (by intro _ _ h; cases h) rfl rfl) ?_
      refine Dr.read 13 _ 27 _ rfl rfl rfl rfl rfl (RV.offu (by intro _ _ h; cases h) rfl rfl) ?_
      refine Dr.read 14 _ 28 _ rfl rfl rfl rfl rfl (RV.offu (by intro _ _ h; cases h) rfl rfl) ?_
      refine Dr.read 15 _ 29 _ rfl rfl rfl rfl rfl (RV.offu (by intro _ _ h; cases h) rfl rfl) ?_
      refine Dr.read 16 _ 30 _ rfl rfl rfl rfl rfl (RV.offu (by intro _ _ h; cases h) rfl rfl) ?_
      refine Dr.read 17 _ 31 _ rfl rfl rfl rfl rfl (RV.offu (by intro _ _ h; cases h) rfl rfl) ?_
      refine Dr.read 18 _ 32 _ rfl rfl rfl rfl rfl (RV.offu (by intro _ _ h; cases h) rfl rfl) ?_
      refine Dr.read 19 _ 33 _ rfl rfl rfl rfl rfl (RV.offu (by intro _ _ h; cases h) rfl rfl) ?_
      refine Dr.read 20 _ 34 _ rfl rfl rfl rfl rfl (RV.offu (by intro _ _ h; cases h) rfl rfl) ?_
      refine Dr.read 21 _ 35 _ rfl rfl rfl rfl rfl (RV.offu (by intro _ _ h; cases h) rfl rfl) ?_
      refine Dr.read 22 _ 36 _ rfl rfl rfl rfl rfl (RV.off (by intro _ _ h; cases h) rfl rfl (by decide)) ?_
      refine Dr.read 23 _ 37 _ rfl rfl rfl rfl rfl (RV.of (by intro _ _ h; cases h) (.inl rfl) (fun _ xd => HV.pickT rfl rfl)) ?_
      refine Dr.fin rfl ?_
      refine nrm_and ?_
      refine AW.cond rfl (fun _ => ?_) (fun h => by cases h)
      refine AW.rs ?_
      refine AL.val rfl (.inl rfl) (HV.as rfl) ?_
      refine AL.nx ?_
      refine AW.ret ?_
      refine ret_blk (ret_and (ret_and (ret_blk (ret_and ?_))))
      refine post_one rfl rfl ?_ (.inr rfl)
      exact ⟨dec_f fun hR => by have q := hR i (by omega); unfold RisAt at q; have g17 : l.getD i 0 = z6 := gd hz8 (by omega); omega, X14⟩
  · -- else
    refine AW.exit ?_
    refine ex_and (ex_and (ex_blk ?_))
    refine nrm_and ?_
    refine AW.rs ?_
    refine AL.val rfl (.inl rfl) (HV.as rfl) ?_
    refine AL.nx ?_
    refine AW.ret ?_
    refine post_one rfl rfl ?_ (.inr rfl)
    exact ⟨dec_t fun j hj => hi2 j (by omega), X3⟩

set_option maxRecDepth 100000 in
theorem l01Group_ok {v : Value} {l : List Int} {ok : Nat → Prop} (h : Int) (hr : RdK kI W H ok v l) (hh : -1000000000 ≤ h ∧ h ≤ 1000000000) : ACalls Try.prog W 50 #[.int .i64 h, v] H (fun r H' => r = .bool (decide (Ris 0 (h - 1) l)) ∧ Ext H H') := by
  refine ACalls.of (args := [.int .i64 h, v]) Try.func50 rfl rfl ?_
  have X0 := Ext.refl H
  have hm1 := hr.max
  refine AW.rs ?_
  refine AL.val rfl (.inl rfl) (HV.as rfl) ?_
  refine AL.nx ?_
  refine AW.rs ?_
  refine AL.val rfl (.inl rfl) (HV.mv rfl) ?_
  refine AL.val rfl (.inl rfl) (HV.mv rfl) ?_
  refine AL.val rfl (.inl rfl) (HV.sub rfl rfl (by omega)) ?_
  refine AL.w rfl (.inl rfl) (WV.call fn88 rfl (l00Rises_ok 0 (h - 1) hr)) ?_
  rintro _ H2 ⟨rfl, hx3⟩
  have X4 := Ext.trans X0 hx3
  refine AL.val rfl (.inl rfl) (HV.as rfl) ?_
  refine AL.nx ?_
  refine AW.ret ?_
  refine post_one rfl rfl ?_ (.inr rfl)
  exact ⟨rfl, X4⟩

set_option maxRecDepth 100000 in
theorem contains_ok (a b : Int) : ACalls Try.prog W 96 #[.int .u64 a, .int .u64 b] H (fun r H' => r = .bool (decide (bt .and .u64 a b = b)) ∧ Ext H H') := by
  refine ACalls.of (args := [.int .u64 a, .int .u64 b]) Try.func96 rfl rfl ?_
  have X0 := Ext.refl H
  refine AW.rs ?_
  refine AL.val rfl (.inl rfl) (HV.as rfl) ?_
  refine AL.nx ?_
  refine AW.rs ?_
  refine AL.val rfl (.inl rfl) (HV.mv rfl) ?_
  refine AL.val rfl (.inl rfl) (HV.mv rfl) ?_
  refine AL.val rfl (.inl rfl) (HV.bits (by simp) rfl rfl) ?_
  refine AL.val rfl (.inl rfl) (HV.mv rfl) ?_
  refine AL.val rfl (.inl rfl) (HV.eqi rfl rfl) ?_
  refine AL.val rfl (.inl rfl) (HV.as rfl) ?_
  refine AL.nx ?_
  refine AW.ret ?_
  refine post_one rfl rfl ?_ (.inr rfl)
  exact ⟨rfl, X0⟩

set_option maxRecDepth 100000 in
theorem l01Bits_ok {v : Value} {l : List Int} {ok : Nat → Prop} (hr : RdK kI W H ok v l) : ACalls Try.prog W 52 #[v] H (fun r H' => r = .int .i64 (bitsI l) ∧ Ext H H') := by
  refine ACalls.of (args := [v]) Try.func52 rfl rfl ?_
  have X0 := Ext.refl H
  have hm1 := hr.max
  refine AW.rs ?_
  refine AL.val rfl (.inl rfl) (HV.as rfl) ?_
  refine AL.nx ?_
  refine AW.rs ?_
  refine AL.val rfl (.inl rfl) (HV.as rfl) ?_
  refine AL.nx ?_
  refine AW.seq ?_
  refine AW.rs ?_
  refine AL.val rfl (.inl rfl) (HV.as rfl) ?_
  refine AL.nx ?_
  refine AW.block ?_
  refine AW.loop (σ := Nat × Int) (fun ⟨i, acc⟩ => [(0, v), (2, .int .i64 0), (3, .int .i64 acc), (4, .int .i64 (i : Int))]) (fun ⟨i, acc⟩ H' => Ext H H' ∧ i ≤ l.length ∧ acc = bitsI (l.take i) ∧ True) (fun ⟨i, acc⟩ => l.length - i) (0, 0) ⟨X0, Nat.zero_le _, rfl, trivial⟩ ⟨rfl, rfl, rfl, rfl, trivial⟩ ?_
  rintro ⟨i, acc⟩ H2 ⟨X3, hi, ha, _⟩
  refine AW.seq ?_
  refine AW.rs ?_
  refine AL.val rfl (.inl rfl) (HV.mv rfl) ?_
  refine AL.val rfl (.inl rfl) (HV.mv rfl) ?_
  refine AL.val rfl (.inl rfl) (HV.len Try.underlying25 rfl hr.isSl) ?_
  refine AL.val rfl (.inl rfl) (HV.lti rfl rfl) ?_
  refine AL.nx ?_
  refine AW.ifd rfl (fun c4 => ?_) (fun c4 => ?_)
  · -- then
    refine AW.skip ?_
    refine nrm_and ?_
    refine AW.seq ?_
    refine AW.block ?_
    refine AW.reg ?_
    refine AL.val rfl (.inl rfl) (HV.mv rfl) ?_
    refine AL.val rfl (.inl rfl) (HV.mv rfl) ?_
    refine AL.val rfl (.inl rfl) (HV.mv rfl) ?_
    obtain ⟨p5, z6, cs7, hz8, hK9, hC10, hP11⟩ := RdK.ix (q := (i : Int)) hr sl25 (by omega) (by omega)
    obtain rfl : cs7 = [.int .i64 z6] := hK9
    refine AL.val rfl (.inl rfl) (hP11 rfl rfl) ?_
    refine AL.val rfl (.inl rfl) (HV.ld rfl va2 (cells_first (hC10.ext X3) rfl)) ?_
    refine AL.val rfl (.inl rfl) (HV.cv (by rw [Try.underlying2]; rfl) Try.underlying75 rfl) ?_
    refine AL.val rfl (.inl rfl) (HV.shl rfl rfl (u64_nonneg _)) ?_
    refine AL.val rfl (.inl rfl) (HV.bits (by simp) rfl rfl) ?_
    refine AL.val rfl (.inl rfl) (HV.as rfl) ?_
    refine AL.nil ?_
    refine nrm_blk (nrm_and ?_)
    refine AW.reg ?_
    refine AL.val rfl (.inl rfl) (HV.mv rfl) ?_
    refine AL.val rfl (.inl rfl) (HV.add rfl rfl (by omega)) ?_
    refine AL.val rfl (.inl rfl) (HV.as rfl) ?_
    refine AL.nil ?_
    refine nrm_and ?_
    exact ⟨(i + 1, bt .or .i64 acc (IntKind.i64.wrap (1 * 2 ^ min (IntKind.u64.wrap z6 : Int).toNat IntKind.i64.bits))), ⟨X3, by omega, by rw [ha]; exact (bitsI_snoc hz8).symm, trivial⟩, by first | omega | (dsimp only; omega), ⟨rfl, rfl, rfl, rfl, trivial⟩⟩
  · -- else
    refine AW.exit ?_
    refine ex_and (ex_and (ex_blk ?_))
    refine nrm_and ?_
    refine AW.rs ?_
    refine AL.val rfl (.inl rfl) (HV.mv rfl) ?_
    refine AL.val rfl (.inl rfl) (HV.as rfl) ?_
    refine AL.nx ?_
    refine AW.ret ?_
    refine post_one rfl rfl ?_ (.inr rfl)
    exact ⟨by rw [ha, List.take_of_length_le (by omega)], X3⟩

set_option maxRecDepth 100000 in
theorem l01Within_ok {v v2 : Value} {l m : List Int} {ok ok2 : Nat → Prop} (hr : RdK kI W H ok v l) (hr2 : RdK kI W H ok2 v2 m) : ACalls Try.prog W 94 #[v, v2] H (fun r H' => r = .bool (decide (bt .and .i64 (bitsI l) (bitsI m) = bitsI l)) ∧ Ext H H') := by
  refine ACalls.of (args := [v, v2]) Try.func94 rfl rfl ?_
  have X0 := Ext.refl H
  have hm1 := hr.max
  have hm2 := hr2.max
  refine AW.rs ?_
  refine AL.val rfl (.inl rfl) (HV.as rfl) ?_
  refine AL.nx ?_
  refine AW.rs ?_
  refine AL.val rfl (.inl rfl) (HV.mv rfl) ?_
  refine AL.w rfl (.inl rfl) (WV.call fn52 rfl (l01Bits_ok hr)) ?_
  rintro _ H3 ⟨rfl, hx4⟩
  have X5 := Ext.trans X0 hx4
  refine AL.val rfl (.inl rfl) (HV.as rfl) ?_
  refine AL.nx ?_
  refine AW.rs ?_
  refine AL.val rfl (.inl rfl) (HV.mv rfl) ?_
  refine AL.val rfl (.inl rfl) (HV.mv rfl) ?_
  refine AL.w rfl (.inl rfl) (WV.call fn52 rfl (l01Bits_ok (hr2.ext X5))) ?_
  rintro _ H6 ⟨rfl, hx7⟩
  have X8 := Ext.trans X5 hx7
  refine AL.val rfl (.inl rfl) (HV.bits (by simp) rfl rfl) ?_
  refine AL.val rfl (.inl rfl) (HV.mv rfl) ?_
  refine AL.val rfl (.inl rfl) (HV.eqi rfl rfl) ?_
  refine AL.val rfl (.inl rfl) (HV.as rfl) ?_
  refine AL.nx ?_
  refine AW.ret ?_
  refine post_one rfl rfl ?_ (.inr rfl)
  exact ⟨rfl, X8⟩

set_option maxRecDepth 100000 in
theorem isNaN_ok (a : Int) : ACalls Try.prog W 152 #[.int .i64 a] H (fun r H' => r = .bool false ∧ Ext H H') := by
  refine ACalls.of (args := [.int .i64 a]) Try.func152 rfl rfl ?_
  have X0 := Ext.refl H
  refine AW.rs ?_
  refine AL.val rfl (.inl rfl) (HV.as rfl) ?_
  refine AL.nx ?_
  refine AW.rs ?_
  refine AL.val rfl (.inl rfl) (HV.mv rfl) ?_
  refine AL.val rfl (.inl rfl) (HV.mv rfl) ?_
  refine AL.val rfl (.inl rfl) (HV.nei rfl rfl) ?_
  refine AL.val rfl (.inl rfl) (HV.as rfl) ?_
  refine AL.nx ?_
  refine AW.ret ?_
  refine post_one rfl rfl ?_ (.inr rfl)
  exact ⟨by simp, X0⟩

set_option maxRecDepth 100000 in
theorem cmpI_ok (a b : Int) : ACalls Try.prog W 131 #[.int .i64 a, .int .i64 b] H (fun r H' => r = .int .i64 (cmpI a b) ∧ Ext H H') := by
  refine ACalls.of (args := [.int .i64 a, .int .i64 b]) Try.func131 rfl rfl ?_
  have X0 := Ext.refl H
  refine AW.rs ?_
  refine AL.val rfl (.inl rfl) (HV.as rfl) ?_
  refine AL.nx ?_
  refine AW.rs ?_
  refine AL.val rfl (.inl rfl) (HV.mv rfl) ?_
  refine AL.w rfl (.inl rfl) (WV.call fn152 rfl (isNaN_ok (W := W) a)) ?_
  rintro _ H1 ⟨rfl, hx2⟩
  have X3 := Ext.trans X0 hx2
  refine AL.val rfl (.inl rfl) (HV.as rfl) ?_
  refine AL.nx ?_
  refine AW.rs ?_
  refine AL.val rfl (.inl rfl) (HV.mv rfl) ?_
  refine AL.w rfl (.inl rfl) (WV.call fn152 rfl (isNaN_ok (W := W) b)) ?_
  rintro _ H4 ⟨rfl, hx5⟩
  have X6 := Ext.trans X3 hx5
  refine AL.val rfl (.inl rfl) (HV.as rfl) ?_
  refine AL.nx ?_
  refine AW.seq ?_
  refine AW.rs ?_
  refine AL.val rfl (.inl rfl) (HV.mv rfl) ?_
  refine AL.nx ?_
  refine AW.cond rfl (fun h => by cases h) (fun _ => ?_)
  refine AW.skip ?_
  refine nrm_and ?_
  refine AW.seq ?_
  refine AW.rs ?_
  refine AL.val rfl (.inl rfl) (HV.mv rfl) ?_
  refine AL.nx ?_
  refine AW.cond rfl (fun h => by cases h) (fun _ => ?_)
  refine AW.skip ?_
  refine nrm_and ?_
  refine AW.seq ?_
  refine AW.rs ?_
  refine AL.val rfl (.inl rfl) (HV.mv rfl) ?_
  refine AL.val rfl (.inl rfl) (HV.mv rfl) ?_
  refine AL.val rfl (.inl rfl) (HV.lti rfl rfl) ?_
  refine AL.nx ?_
  refine AW.ifd rfl (fun c9 => ?_) (fun c9 => ?_)
  · -- then
    refine AW.rs ?_
    refine AL.val rfl (.inl rfl) (HV.as rfl) ?_
    refine AL.nx ?_
    refine AW.ret ?_
    refine ret_and ?_
    refine post_one rfl rfl ?_ (.inr rfl)
    exact ⟨by unfold cmpI; first | rw [if_pos (by omega)] | rw [if_neg (by omega), if_pos (by omega)] | rw [if_neg (by omega), if_neg (by omega)], X6⟩
  · -- else
    refine AW.skip ?_
    refine nrm_and ?_
    refine AW.seq ?_
    refine AW.rs ?_
    refine AL.val rfl (.inl rfl) (HV.mv rfl) ?_
    refine AL.val rfl (.inl rfl) (HV.mv rfl) ?_
    refine AL.val rfl (.inl rfl) (HV.gti rfl rfl) ?_
    refine AL.nx ?_
    refine AW.ifd rfl (fun c10 => ?_) (fun c10 => ?_)
    · -- then
      refine AW.rs ?_
      refine AL.val rfl (.inl rfl) (HV.as rfl) ?_
      refine AL.nx ?_
      refine AW.ret ?_
      refine ret_and ?_
      refine post_one rfl rfl ?_ (.inr rfl)
      exact ⟨by unfold cmpI; first | rw [if_pos (by omega)] | rw [if_neg (by omega), if_pos (by omega)] | rw [if_neg (by omega), if_neg (by omega)], X6⟩
    · -- else
      refine AW.skip ?_
      refine nrm_and ?_
      refine AW.rs ?_
      refine AL.val rfl (.inl rfl) (HV.as rfl) ?_
      refine AL.nx ?_
      refine AW.ret ?_
      refine post_one rfl rfl ?_ (.inr rfl)
      exact ⟨by unfold cmpI; first | rw [if_pos (by omega)] | rw [if_neg (by omega), if_pos (by omega)] | rw [if_neg (by omega), if_neg (by omega)], X6⟩

set_option maxRecDepth 100000 in
theorem lexI_ok {v v2 : Value} {l m : List Int} {ok ok2 : Nat → Prop} (hr : RdK kI W H ok v l) (hr2 : RdK kI W H ok2 v2 m) : ACalls Try.prog W 95 #[v, v2] H (fun r H' => r = .int .i64 (lexI l m) ∧ Ext H H') := by
  refine ACalls.of (args := [v, v2]) Try.func95 rfl rfl ?_
  have X0 := Ext.refl H
  have hm1 := hr.max
  have hm2 := hr2.max
  refine AW.rs ?_
  refine AL.val rfl (.inl rfl) (HV.as rfl) ?_
  refine AL.nx ?_
  refine AW.seq ?_
  refine AW.rs ?_
  refine AL.val rfl (.inl rfl) (HV.mv rfl) ?_
  refine AL.val rfl (.inl rfl) (HV.len Try.underlying25 rfl hr.isSl) ?_
  refine AL.val rfl (.inl rfl) (HV.mv rfl) ?_
  refine AL.nx ?_
  refine AW.block ?_
  refine AW.loop (σ := Nat) (fun i => [(0, v), (1, v2), (9, v), (10, .int .i64 (l.length : Int)), (11, .int .i64 (i : Int))]) (fun i H' => Ext H H' ∧ i ≤ l.length ∧ i ≤ m.length ∧ (∀ j, j < i → l.getD j 0 = m.getD j 0) ∧ True) (fun i => l.length - i) 0 ⟨X0, Nat.zero_le _, Nat.zero_le _, fun j hj => absurd hj (Nat.not_lt_zero _), trivial⟩ ⟨rfl, rfl, rfl, rfl, rfl, trivial⟩ ?_
  rintro i H3 ⟨X4, hi, hi2, he, _⟩
  refine AW.rs ?_
  refine AL.val rfl (.inl rfl) (HV.lti rfl rfl) ?_
  refine AL.nx ?_
  refine AW.seq ?_
  refine AW.ifd rfl (fun c5 => ?_) (fun c5 => ?_)
  · -- then
    refine AW.skip ?_
    refine nrm_and ?_
    refine AW.seq ?_
    refine AW.block ?_
    refine AW.rs ?_
    refine AL.val rfl (.inl rfl) (HV.mv rfl) ?_
    obtain ⟨p6, z7, cs8, hz9, hK10, hC11, hP12⟩ := RdK.ix (q := (i : Int)) hr sl25 (by omega) (by omega)
    obtain rfl : cs8 = [.int .i64 z7] := hK10
    refine AL.val rfl (.inl rfl) (hP12 rfl rfl) ?_
    refine AL.val rfl (.inl rfl) (HV.ld rfl va2 (cells_first (hC11.ext X4) rfl)) ?_
    refine AL.val rfl (.inl rfl) (HV.as rfl) ?_
    refine AL.val rfl (.inl rfl) (HV.as rfl) ?_
    refine AL.nx ?_
    refine AW.seq ?_
    refine AW.rs ?_
    refine AL.val rfl (.inl rfl) (HV.mv rfl) ?_
    refine AL.val rfl (.inl rfl) (HV.mv rfl) ?_
    refine AL.val rfl (.inl rfl) (HV.len Try.underlying25 rfl hr2.isSl) ?_
    refine AL.val rfl (.inl rfl) (HV.gei rfl rfl) ?_
    refine AL.nx ?_
    refine AW.ifd rfl (fun c13 => ?_) (fun c13 => ?_)
    · -- then
      refine AW.rs ?_
      refine AL.val rfl (.inl rfl) (HV.as rfl) ?_
      refine AL.nx ?_
      refine AW.ret ?_
      refine ret_and (ret_blk (ret_and (ret_and (ret_blk (ret_and ?_)))))
      refine post_one rfl rfl ?_ (.inr rfl)
      exact ⟨by rw [lexI_end he (by omega) (by omega) (.inr (by omega)), if_neg (by omega), if_pos (by omega)], X4⟩
    · -- else
      refine AW.skip ?_
      refine nrm_and ?_
      refine AW.rs ?_
      refine AL.val rfl (.inl rfl) (HV.mv rfl) ?_
      refine AL.val rfl (.inl rfl) (HV.mv rfl) ?_
      obtain ⟨p14, z15, cs16, hz17, hK18, hC19, hP20⟩ := RdK.ix (q := (i : Int)) hr2 sl25 (by omega) (by omega)
      obtain rfl : cs16 = [.int .i64 z15] := hK18
      refine AL.val rfl (.inl rfl) (hP20 rfl rfl) ?_
      refine AL.val rfl (.inl rfl) (HV.ld rfl va2 (cells_first (hC19.ext X4) rfl)) ?_
      refine AL.val rfl (.inl rfl) (HV.as rfl) ?_
      refine AL.nx ?_
      refine AW.rs ?_
      refine AL.val rfl (.inl rfl) (HV.mv rfl) ?_
      refine AL.val rfl (.inl rfl) (HV.mv rfl) ?_
      refine AL.w rfl (.inl rfl) (WV.call fn131 rfl (cmpI_ok (W := W) z7 z15)) ?_
      rintro _ H21 ⟨rfl, hx22⟩
      have X23 := Ext.trans X4 hx22
      refine AL.val rfl (.inl rfl) (HV.as rfl) ?_
      refine AL.nx ?_
      refine AW.rs ?_
      refine AL.val rfl (.inl rfl) (HV.mv rfl) ?_
      refine AL.val rfl (.inl rfl) (HV.nei rfl rfl) ?_
      refine AL.nx ?_
      refine AW.ifd rfl (fun c24 => ?_) (fun c24 => ?_)
      · -- then
        refine AW.rs ?_
        refine AL.val rfl (.inl rfl) (HV.mv rfl) ?_
        refine AL.val rfl (.inl rfl) (HV.as rfl) ?_
        refine AL.nx ?_
        refine AW.ret ?_
        refine ret_blk (ret_and (ret_and (ret_blk (ret_and ?_))))
        refine post_one rfl rfl ?_ (.inr rfl)
        exact ⟨by have g15 : l.getD i 0 = z7 := gd hz9 (by omega); have g23 : m.getD i 0 = z15 := gd hz17 (by omega); rw [lexI_at he (by omega) (by omega) (by rw [g15, g23]; intro e; have := cmpI_zero.2 e; contradiction), g15, g23], X23⟩
      · -- else
        refine AW.skip ?_
        refine nrm_blk (nrm_and ?_)
        refine AW.reg ?_
        refine AL.val rfl (.inl rfl) (HV.add rfl rfl (by omega)) ?_
        refine AL.val rfl (.inl rfl) (HV.mv rfl) ?_
        refine AL.nil ?_
        refine nrm_and ?_
        exact ⟨i + 1, ⟨X23, by omega, by omega, fun j hj => by
      rcases Nat.lt_or_ge j i with h1 | h1
      · exact he j h1
      · obtain rfl : j = i := by omega
        have hz0 := (cmpI_zero (a := z7) (b := z15)).1 (by omega); have g15 : l.getD j 0 = z7 := gd hz9 (by omega); have g23 : m.getD j 0 = z15 := gd hz17 (by omega); omega, trivial⟩, by first | omega | (dsimp only; omega), ⟨rfl, rfl, rfl, rfl, rfl, trivial⟩⟩
  · -- else
    refine AW.exit ?_
    refine ex_and (ex_and (ex_blk ?_))
    refine nrm_and ?_
    refine AW.seq ?_
    refine AW.rs ?_
    refine AL.val rfl (.inl rfl) (HV.mv rfl) ?_
    refine AL.val rfl (.inl rfl) (HV.len Try.underlying25 rfl hr.isSl) ?_
    refine AL.val rfl (.inl rfl) (HV.mv rfl) ?_
    refine AL.val rfl (.inl rfl) (HV.len Try.underlying25 rfl hr2.isSl) ?_
    refine AL.val rfl (.inl rfl) (HV.lti rfl rfl) ?_
    refine AL.nx ?_
    refine AW.ifd rfl (fun c25 => ?_) (fun c25 => ?_)
    · -- then
      refine AW.rs ?_
      refine AL.val rfl (.inl rfl) (HV.as rfl) ?_
      refine AL.nx ?_
      refine AW.ret ?_
      refine ret_and ?_
      refine post_one rfl rfl ?_ (.inr rfl)
      exact ⟨by rw [lexI_end he (by omega) (by omega) (.inl (by omega))]; first | rw [if_pos (by omega)] | rw [if_neg (by omega), if_neg (by omega)], X4⟩
    · -- else
      refine AW.skip ?_
      refine nrm_and ?_
      refine AW.rs ?_
      refine AL.val rfl (.inl rfl) (HV.as rfl) ?_
      refine AL.nx ?_
      refine AW.ret ?_
      refine post_one rfl rfl ?_ (.inr rfl)
      exact ⟨by rw [lexI_end he (by omega) (by omega) (.inl (by omega))]; first | rw [if_pos (by omega)] | rw [if_neg (by omega), if_neg (by omega)], X4⟩

set_option maxRecDepth 100000 in
theorem l01Before_ok {v v2 : Value} {l m : List Int} {ok ok2 : Nat → Prop} (hr : RdK kI W H ok v l) (hr2 : RdK kI W H ok2 v2 m) : ACalls Try.prog W 93 #[v, v2] H (fun r H' => r = .bool (decide (lexI l m < 0)) ∧ Ext H H') := by
  refine ACalls.of (args := [v, v2]) Try.func93 rfl rfl ?_
  have X0 := Ext.refl H
  have hm1 := hr.max
  have hm2 := hr2.max
  refine AW.rs ?_
  refine AL.val rfl (.inl rfl) (HV.as rfl) ?_
  refine AL.nx ?_
  refine AW.seq ?_
  refine AW.rs ?_
  refine AL.val rfl (.inl rfl) (HV.as rfl) ?_
  refine AL.nx ?_
  refine AW.block ?_
  refine AW.loop (σ := Nat) (fun i => [(0, v), (1, v2), (5, .int .i64 (i : Int))]) (fun i H' => Ext H H' ∧ i ≤ l.length ∧ i ≤ m.length ∧ (∀ j, j < i → l.getD j 0 = m.getD j 0) ∧ True) (fun i => l.length - i) 0 ⟨X0, Nat.zero_le _, Nat.zero_le _, fun j hj => absurd hj (Nat.not_lt_zero _), trivial⟩ ⟨rfl, rfl, rfl, trivial⟩ ?_
  rintro i H3 ⟨X4, hi, hi2, he, _⟩
  refine AW.seq ?_
  refine AW.rs ?_
  refine AL.val rfl (.inl rfl) (HV.mv rfl) ?_
  refine AL.val rfl (.inl rfl) (HV.mv rfl) ?_
  refine AL.val rfl (.inl rfl) (HV.len Try.underlying25 rfl hr.isSl) ?_
  refine AL.val rfl (.inl rfl) (HV.lti rfl rfl) ?_
  refine AL.val rfl (.inl rfl) (HV.mv rfl) ?_
  by_cases c5 : (i : Int) < (l.length : Int)
  · -- true
    have c5_ : decide ((i : Int) < (l.length : Int)) = true := decide_eq_true c5
    rw [c5_]
    refine AL.val rfl (.inr ⟨_, _, _, rfl, rfl, rfl⟩) (HV.mv rfl) ?_
    refine AL.val rfl (.inr ⟨_, _, _, rfl, rfl, rfl⟩) (HV.mv rfl) ?_
    refine AL.val rfl (.inr ⟨_, _, _, rfl, rfl, rfl⟩) (HV.len Try.underlying25 rfl hr2.isSl) ?_
    refine AL.val rfl (.inr ⟨_, _, _, rfl, rfl, rfl⟩) (HV.lti rfl rfl) ?_
    refine AL.val rfl (.inl rfl) (HV.pickT rfl rfl) ?_
    refine AL.nx ?_
    refine AW.ifd rfl (fun c6 => ?_) (fun c6 => ?_)
    · -- then
      refine AW.skip ?_
      refine nrm_and ?_
      refine AW.seq ?_
      refine AW.block ?_
      refine AW.seq ?_
      refine AW.draw' [0, 0, 3, 7, 0, 0, 48, 112, 255] mixed (by rfl) ?_
      refine Dr.read 0 _ 18 _ rfl rfl rfl rfl rfl (RV.of (by intro _ _ h; cases h) (.inl rfl) (fun _ xd => HV.mv rfl)) ?_
      refine Dr.read 1 _ 19 _ rfl rfl rfl rfl rfl (RV.of (by intro _ _ h; cases h) (.inl rfl) (fun _ xd => HV.mv rfl)) ?_
      obtain ⟨p7, z8, cs9, hz10, hK11, hC12, hP13⟩ := RdK.ix (q := (i : Int)) hr sl25 (by omega) (by omega)
      obtain rfl : cs9 = [.int .i64 z8] := hK11
      refine Dr.read 2 _ 20 _ rfl rfl rfl rfl rfl (RV.of (by intro _ _ h; cases h) (.inl rfl) (fun _ xd => hP13 rfl rfl)) ?_
      refine Dr.read 3 _ 21 _ rfl rfl rfl rfl rfl (RV.of (by intro _ _ h; cases h) (.inl rfl) (fun _ xd => HV.ld rfl va2 (rdc_ext xd (cells_first (hC12.ext X4) rfl)))) ?_
      refine Dr.read 4 _ 22 _ rfl rfl rfl rfl rfl (RV.of (by intro _ _ h; cases h) (.inl rfl) (fun _ xd => HV.mv rfl)) ?_
      refine Dr.read 5 _ 23 _ rfl rfl rfl rfl rfl (RV.of (by intro _ _ h; cases h) (.inl rfl) (fun _ xd => HV.mv rfl)) ?_
      obtain ⟨p14, z15, cs16, hz17, hK18, hC19, hP20⟩ := RdK.ix (q := (i : Int)) hr2 sl25 (by omega) (by omega)
      obtain rfl : cs16 = [.int .i64 z15] := hK18
      refine Dr.read 6 _ 24 _ rfl rfl rfl rfl rfl (RV.of (by intro _ _ h; cases h) (.inl rfl) (fun _ xd => hP20 rfl rfl)) ?_
      refine Dr.read 7 _ 25 _ rfl rfl rfl rfl rfl (RV.of (by intro _ _ h; cases h) (.inl rfl) (fun _ xd => HV.ld rfl va2 (rdc_ext xd (cells_first (hC19.ext X4) rfl)))) ?_
      refine Dr.read 8 _ 26 _ rfl rfl rfl rfl rfl (RV.of (by intro _ _ h; cases h) (.inl rfl) (fun _ xd => HV.nei rfl rfl)) ?_
      refine Dr.fin rfl ?_
      refine nrm_and ?_
      refine AW.ifd rfl (fun c21 => ?_) (fun c21 => ?_)
      · -- then
        refine AW.seq ?_
        refine AW.draw' [0, 0, 3, 7, 0, 0, 48, 112, 255, 511] mixed (by rfl) ?_
        refine Dr.read 0 _ 27 _ rfl rfl rfl rfl rfl (RV.of (by intro _ _ h; cases h) (.inl rfl) (fun _ xd => HV.mv rfl)) ?_
        refine Dr.read 1 _ 28 _ rfl rfl rfl rfl rfl (RV.of (by intro _ _ h; cases h) (.inl rfl) (fun _ xd => HV.mv rfl)) ?_
        obtain ⟨p22, z23, cs24, hz25, hK26, hC27, hP28⟩ := RdK.ix (q := (i : Int)) hr sl25 (by omega) (by omega)
        obtain rfl : cs24 = [.int .i64 z23] := hK26
        refine Dr.read 2 _ 29 _ rfl rfl rfl rfl rfl (RV.of (by intro _ _ h; cases h) (.inl rfl) (fun _ xd => hP28 rfl rfl)) ?_
        refine Dr.read 3 _ 30 _ rfl rfl rfl rfl rfl (RV.of (by intro _ _ h; cases h) (.inl rfl) (fun _ xd => HV.ld rfl va2 (rdc_ext xd (cells_first (hC27.ext X4) rfl)))) ?_
        refine Dr.read 4 _ 31 _ rfl rfl rfl rfl rfl (RV.of (by intro _ _ h; cases h) (.inl rfl) (fun _ xd => HV.mv rfl)) ?_
        refine Dr.read 5 _ 32 _ rfl rfl rfl rfl rfl (RV.of (by intro _ _ h; cases h) (.inl rfl) (fun _ xd => HV.mv rfl)) ?_
        obtain ⟨p29, z30, cs31, hz32, hK33, hC34, hP35⟩ := RdK.ix (q := (i : Int)) hr2 sl25 (by omega) (by omega)
        obtain rfl : cs31 = [.int .i64 z30] := hK33
        refine Dr.read 6 _ 33 _ rfl rfl rfl rfl rfl (RV.of (by intro _ _ h; cases h) (.inl rfl) (fun _ xd => hP35 rfl rfl)) ?_
        refine Dr.read 7 _ 34 _ rfl rfl rfl rfl rfl (RV.of (by intro _ _ h; cases h) (.inl rfl) (fun _ xd => HV.ld rfl va2 (rdc_ext xd (cells_first (hC34.ext X4) rfl)))) ?_
        refine Dr.read 8 _ 35 _ rfl rfl rfl rfl rfl (RV.of (by intro _ _ h; cases h) (.inl rfl) (fun _ xd => HV.lti rfl rfl)) ?_
        refine Dr.read 9 _ 4 _ rfl rfl rfl rfl rfl (RV.of (by intro _ _ h; cases h) (.inl rfl) (fun _ xd => HV.as rfl)) ?_
        refine Dr.fin rfl ?_
        refine nrm_and ?_
        refine AW.ret ?_
        refine ret_blk (ret_and (ret_and (ret_blk (ret_and ?_))))
        refine post_one rfl rfl ?_ (.inr rfl)
        exact ⟨congrArg Value.bool (by have g21 : l.getD i 0 = z8 := gd hz10 (by omega); have g25 : m.getD i 0 = z15 := gd hz17 (by omega); have g30 : l.getD i 0 = z23 := gd hz25 (by omega); have g34 : m.getD i 0 = z30 := gd hz32 (by omega); rw [lexI_at he (by omega) (by omega) (by omega), g21, g25]; unfold cmpI; have e1 : z23 = z8 := (by omega); have e2 : z30 = z15 := (by omega); rw [Bool.eq_iff_iff]; simp only [decide_eq_true_eq]; split <;> (try split) <;> omega), X4⟩
      · -- else
        refine AW.skip ?_
        refine nrm_blk (nrm_and ?_)
        refine AW.reg ?_
        refine AL.val rfl (.inl rfl) (HV.mv rfl) ?_
        refine AL.val rfl (.inl rfl) (HV.add rfl rfl (by omega)) ?_
        refine AL.val rfl (.inl rfl) (HV.as rfl) ?_
        refine AL.nil ?_
        refine nrm_and ?_
        exact ⟨i + 1, ⟨X4, by omega, by omega, fun j hj => by
      rcases Nat.lt_or_ge j i with h1 | h1
      · exact he j h1
      · obtain rfl : j = i := by omega
        have g21 : l.getD j 0 = z8 := gd hz10 (by omega); have g25 : m.getD j 0 = z15 := gd hz17 (by omega); omega, trivial⟩, by first | omega | (dsimp only; omega), ⟨rfl, rfl, rfl, trivial⟩⟩
    · -- else
      refine AW.exit ?_
      refine ex_and (ex_and (ex_blk ?_))
      refine nrm_and ?_
      refine AW.rs ?_
      refine AL.val rfl (.inl rfl) (HV.mv rfl) ?_
      refine AL.val rfl (.inl rfl) (HV.len Try.underlying25 rfl hr.isSl) ?_
      refine AL.val rfl (.inl rfl) (HV.mv rfl) ?_
      refine AL.val rfl (.inl rfl) (HV.len Try.underlying25 rfl hr2.isSl) ?_
      refine AL.val rfl (.inl rfl) (HV.lti rfl rfl) ?_
      refine AL.val rfl (.inl rfl) (HV.as rfl) ?_
      refine AL.nx ?_
      refine AW.ret ?_
      refine post_one rfl rfl ?_ (.inr rfl)
      exact ⟨congrArg Value.bool (by rw [lexI_end he (by omega) (by omega) (by omega), Bool.eq_iff_iff]; simp only [decide_eq_true_eq]; split <;> (try split) <;> omega), X4⟩
  · -- false
    have c5_ : decide ((i : Int) < (l.length : Int)) = false := decide_eq_false c5
    rw [c5_]
    refine AL.off rfl rfl (by decide) rfl ?_
    refine AL.off rfl rfl (by decide) rfl ?_
    refine AL.off rfl rfl (by decide) rfl ?_
    refine AL.off rfl rfl (by decide) rfl ?_
    refine AL.val rfl (.inl rfl) (HV.pickF rfl rfl) ?_
    refine AL.nx ?_
    refine AW.cond rfl (fun h => by cases h) (fun _ => ?_)
    refine AW.exit ?_
    refine ex_and (ex_and (ex_blk ?_))
    refine nrm_and ?_
    refine AW.rs ?_
    refine AL.val rfl (.inl rfl) (HV.mv rfl) ?_
    refine AL.val rfl (.inl rfl) (HV.len Try.underlying25 rfl hr.isSl) ?_
    refine AL.val rfl (.inl rfl) (HV.mv rfl) ?_
    refine AL.val rfl (.inl rfl) (HV.len Try.underlying25 rfl hr2.isSl) ?_
    refine AL.val rfl (.inl rfl) (HV.lti rfl rfl) ?_
    refine AL.val rfl (.inl rfl) (HV.as rfl) ?_
    refine AL.nx ?_
    refine AW.ret ?_
    refine post_one rfl rfl ?_ (.inr rfl)
    exact ⟨congrArg Value.bool (by rw [lexI_end he (by omega) (by omega) (by omega), Bool.eq_iff_iff]; simp only [decide_eq_true_eq]; split <;> (try split) <;> omega), X4⟩

set_option maxRecDepth 100000 in
theorem eqS_ok {v v2 : Value} {l m : List Int} {ok ok2 : Nat → Prop} (hr : RdK kI W H ok v l) (hr2 : RdK kI W H ok2 v2 m) : ACalls Try.prog W 18 #[v, v2] H (fun r H' => r = .bool (decide (l = m)) ∧ Ext H H') := by
  refine ACalls.of (args := [v, v2]) Try.func18 rfl rfl ?_
  have X0 := Ext.refl H
  have hm1 := hr.max
  have hm2 := hr2.max
  refine AW.rs ?_
  refine AL.val rfl (.inl rfl) (HV.as rfl) ?_
  refine AL.nx ?_
  refine AW.seq ?_
  refine AW.rs ?_
  refine AL.val rfl (.inl rfl) (HV.mv rfl) ?_
  refine AL.val rfl (.inl rfl) (HV.len Try.underlying25 rfl hr.isSl) ?_
  refine AL.val rfl (.inl rfl) (HV.mv rfl) ?_
  refine AL.val rfl (.inl rfl) (HV.len Try.underlying25 rfl hr2.isSl) ?_
  refine AL.val rfl (.inl rfl) (HV.nei rfl rfl) ?_
  refine AL.nx ?_
  refine AW.ifd rfl (fun c3 => ?_) (fun c3 => ?_)
  · -- then
    refine AW.rs ?_
    refine AL.val rfl (.inl rfl) (HV.as rfl) ?_
    refine AL.nx ?_
    refine AW.ret ?_
    refine ret_and ?_
    refine post_one rfl rfl ?_ (.inr rfl)
    exact ⟨dec_f (fun e => by subst e; omega), X0⟩
  · -- else
    refine AW.skip ?_
    refine nrm_and ?_
    refine AW.seq ?_
    refine AW.rs ?_
    refine AL.val rfl (.inl rfl) (HV.as rfl) ?_
    refine AL.nx ?_
    refine AW.block ?_
    refine AW.loop (σ := Nat) (fun i => [(0, v), (1, v2), (5, .int .i64 (i : Int))]) (fun i H' => Ext H H' ∧ i ≤ l.length ∧ (∀ j, j < i → l.getD j 0 = m.getD j 0) ∧ True) (fun i => l.length - i) 0 ⟨X0, Nat.zero_le _, fun j hj => absurd hj (Nat.not_lt_zero _), trivial⟩ ⟨rfl, rfl, rfl, trivial⟩ ?_
    rintro i H4 ⟨X5, hi, he, _⟩
    refine AW.seq ?_
    refine AW.rs ?_
    refine AL.val rfl (.inl rfl) (HV.mv rfl) ?_
    refine AL.val rfl (.inl rfl) (HV.mv rfl) ?_
    refine AL.val rfl (.inl rfl) (HV.len Try.underlying25 rfl hr.isSl) ?_
    refine AL.val rfl (.inl rfl) (HV.lti rfl rfl) ?_
    refine AL.nx ?_
    refine AW.ifd rfl (fun c6 => ?_) (fun c6 => ?_)
    · -- then
      refine AW.skip ?_
      refine nrm_and ?_
      refine AW.seq ?_
      refine AW.block ?_
      refine AW.seq ?_
      refine AW.draw' [0, 0, 3, 7, 0, 0, 48, 112, 255] mixed (by rfl) ?_
      refine Dr.read 0 _ 17 _ rfl rfl rfl rfl rfl (RV.of (by intro _ _ h; cases h) (.inl rfl) (fun _ xd => HV.mv rfl)) ?_
      refine Dr.read 1 _ 18 _ rfl rfl rfl rfl rfl (RV.of (by intro _ _ h; cases h) (.inl rfl) (fun _ xd => HV.mv rfl)) ?_
      obtain ⟨p7, z8, cs9, hz10, hK11, hC12, hP13⟩ := RdK.ix (q := (i : Int)) hr sl25 (by omega) (by omega)
      obtain rfl : cs9 = [.int .i64 z8] := hK11
      refine Dr.read 2 _ 19 _ rfl rfl rfl rfl rfl (RV.of (by intro _ _ h; cases h) (.inl rfl) (fun _ xd => hP13 rfl rfl)) ?_
      refine Dr.read 3 _ 20 _ rfl rfl rfl rfl rfl (RV.of (by intro _ _ h; cases h) (.inl rfl) (fun _ xd => HV.ld rfl va2 (rdc_ext xd (cells_first (hC12.ext X5) rfl)))) ?_
      refine Dr.read 4 _ 21 _ rfl rfl rfl rfl rfl (RV.of (by intro _ _ h; cases h) (.inl rfl) (fun _ xd => HV.mv rfl)) ?_
      refine Dr.read 5 _ 22 _ rfl rfl rfl rfl rfl (RV.of (by intro _ _ h; cases h) (.inl rfl) (fun _ xd => HV.mv rfl)) ?_
      obtain ⟨p14, z15, cs16, hz17, hK18, hC19, hP20⟩ := RdK.ix (q := (i : Int)) hr2 sl25 (by omega) (by omega)
      obtain rfl : cs16 = [.int .i64 z15] := hK18
      refine Dr.read 6 _ 23 _ rfl rfl rfl rfl rfl (RV.of (by intro _ _ h; cases h) (.inl rfl) (fun _ xd => hP20 rfl rfl)) ?_
      refine Dr.read 7 _ 24 _ rfl rfl rfl rfl rfl (RV.of (by intro _ _ h; cases h) (.inl rfl) (fun _ xd => HV.ld rfl va2 (rdc_ext xd (cells_first (hC19.ext X5) rfl)))) ?_
      refine Dr.read 8 _ 25 _ rfl rfl rfl rfl rfl (RV.of (by intro _ _ h; cases h) (.inl rfl) (fun _ xd => HV.nei rfl rfl)) ?_
      refine Dr.fin rfl ?_
      refine nrm_and ?_
      refine AW.ifd rfl (fun c21 => ?_) (fun c21 => ?_)
      · -- then
        refine AW.rs ?_
        refine AL.val rfl (.inl rfl) (HV.as rfl) ?_
        refine AL.nx ?_
        refine AW.ret ?_
        refine ret_blk (ret_and (ret_and (ret_blk (ret_and ?_))))
        refine post_one rfl rfl ?_ (.inr rfl)
        exact ⟨dec_f (fun e => by subst e; have g20 : l.getD i 0 = z8 := gd hz10 (by omega); have g24 : l.getD i 0 = z15 := gd hz17 (by omega); omega), X5⟩
      · -- else
        refine AW.skip ?_
        refine nrm_blk (nrm_and ?_)
        refine AW.reg ?_
        refine AL.val rfl (.inl rfl) (HV.mv rfl) ?_
        refine AL.val rfl (.inl rfl) (HV.add rfl rfl (by omega)) ?_
        refine AL.val rfl (.inl rfl) (HV.as rfl) ?_
        refine AL.nil ?_
        refine nrm_and ?_
        exact ⟨i + 1, ⟨X5, by omega, fun j hj => by
      rcases Nat.lt_or_ge j i with h1 | h1
      · exact he j h1
      · obtain rfl : j = i := by omega
        have g20 : l.getD j 0 = z8 := gd hz10 (by omega); have g24 : m.getD j 0 = z15 := gd hz17 (by omega); omega, trivial⟩, by first | omega | (dsimp only; omega), ⟨rfl, rfl, rfl, trivial⟩⟩
    · -- else
      refine AW.exit ?_
      refine ex_and (ex_and (ex_blk ?_))
      refine nrm_and ?_
      refine AW.rs ?_
      refine AL.val rfl (.inl rfl) (HV.as rfl) ?_
      refine AL.nx ?_
      refine AW.ret ?_
      refine post_one rfl rfl ?_ (.inr rfl)
      exact ⟨dec_t (list_eq (by omega) (fun j hj => he j (by omega))), X5⟩

set_option maxRecDepth 100000 in
theorem toS_ok {v : Value} {l : List Int} {ok : Nat → Prop} (hr : RdK kI W H ok v l) (hl : l.length ≤ 1048576) : ACalls Try.prog W 15 #[v] H (fun r H' => Ext H H' ∧ OwnK kI 2 W H' (fun b => H.bd ≤ b) r l) := by
  refine ACalls.of (args := [v]) Try.func15 rfl rfl ?_
  have X0 := Ext.refl H
  have hm1 := hr.max
  refine AW.rs ?_
  refine AL.val rfl (.inl rfl) (HV.as rfl) ?_
  refine AL.nx ?_
  refine AW.rs ?_
  refine AL.val rfl (.inl rfl) (HV.mv rfl) ?_
  refine AL.val rfl (.inl rfl) (HV.len Try.underlying25 rfl hr.isSl) ?_
  have o2 := X0.bd
  refine AL.w rfl (.inl rfl) (WV.mkK (K := kI) (0 : Int) (fun _ _ _ => rfl) sl25 rfl rfl rfl (by omega) (by omega) (by omega)) ?_
  rintro v3 H4 ⟨hx5, ho6⟩
  have X7 := Ext.trans X0 hx5
  refine AL.val rfl (.inl rfl) (HV.as rfl) ?_
  refine AL.nx ?_
  refine AW.seq ?_
  refine AW.rs ?_
  refine AL.val rfl (.inl rfl) (HV.as rfl) ?_
  refine AL.nx ?_
  refine AW.block ?_
  refine AW.loop (σ := Nat × List Int) (fun ⟨i, k⟩ => [(0, v), (2, (.slice none 0 0)), (3, v3), (3, v3), (4, .int .i64 (i : Int))]) (fun ⟨i, k⟩ H' => Ext H H' ∧ i ≤ l.length ∧ k.length = l.length ∧ (∀ j, j < i → k.getD j 0 = l.getD j 0) ∧ OwnK kI 2 W H' (fun b => H.bd ≤ b) v3 k ∧ True) (fun ⟨i, k⟩ => l.length - i) (0, (List.replicate ((l.length : Int) : Int).toNat (0 : Int))) ⟨X7, Nat.zero_le _, by simp, fun j hj => absurd hj (Nat.not_lt_zero _), ho6, trivial⟩ ⟨rfl, rfl, rfl, rfl, rfl, trivial⟩ ?_
  rintro ⟨i, k⟩ H9 ⟨X10, hi, hk, he, hoL, _⟩
  refine AW.seq ?_
  refine AW.rs ?_
  refine AL.val rfl (.inl rfl) (HV.mv rfl) ?_
  refine AL.val rfl (.inl rfl) (HV.mv rfl) ?_
  refine AL.val rfl (.inl rfl) (HV.len Try.underlying25 rfl hr.isSl) ?_
  refine AL.val rfl (.inl rfl) (HV.lti rfl rfl) ?_
  refine AL.nx ?_
  refine AW.ifd rfl (fun c11 => ?_) (fun c11 => ?_)
  · -- then
    refine AW.skip ?_
    refine nrm_and ?_
    refine AW.seq ?_
    refine AW.block ?_
    refine AW.reg ?_
    refine AL.val rfl (.inl rfl) (HV.mv rfl) ?_
    refine AL.val rfl (.inl rfl) (HV.mv rfl) ?_
    refine AL.val rfl (.inl rfl) (HV.mv rfl) ?_
    refine AL.val rfl (.inl rfl) (HV.mv rfl) ?_
    obtain ⟨p12, z13, cs14, hz15, hK16, hC17, hP18⟩ := RdK.ix (q := (i : Int)) hr sl25 (by omega) (by omega)
    obtain rfl : cs14 = [.int .i64 z13] := hK16
    refine AL.val rfl (.inl rfl) (hP18 rfl rfl) ?_
    refine AL.val rfl (.inl rfl) (HV.ld rfl va2 (cells_first (hC17.ext X10) rfl)) ?_
    obtain ⟨g19, z20, cs21, hz22, hK23, hC24, hg25, hP26⟩ := OwnK.ix (q := (i : Int)) hoL sl25 (by omega) (by omega)
    have X27 := Ext.refl H9
    obtain rfl : cs21 = [.int .i64 z20] := hK23
    refine AL.val rfl (.inl rfl) (hP26 rfl rfl) ?_
    refine AL.w0 (.inl rfl) (WV.stK (okx := fun _ => False) (x' := z13) hoL hg25 rfl rfl va2 (by omega) rfl (fun _ h => h.elim)) ?_
    rintro _ H28 ⟨hx29, ho30⟩
    have X31 := Ext.thru X10 hx29 (fun b hb => Nat.le_trans o2 (hoL.blk b hb).1)
    have ho33 := ho30.okk (ok' := fun b => H.bd ≤ b) (fun b hb _ => hb.elim id False.elim)
    refine AL.nil ?_
    refine nrm_blk (nrm_and ?_)
    refine AW.reg ?_
    refine AL.val rfl (.inl rfl) (HV.mv rfl) ?_
    refine AL.val rfl (.inl rfl) (HV.add rfl rfl (by omega)) ?_
    refine AL.val rfl (.inl rfl) (HV.as rfl) ?_
    refine AL.nil ?_
    refine nrm_and ?_
    exact ⟨(i + 1, (k.set ((i : Int) : Int).toNat z13)), ⟨X31, by omega, by simp [hk], set_step he hk (getq hz15 rfl), ho33, trivial⟩, by first | omega | (dsimp only; omega), ⟨rfl, rfl, rfl, rfl, rfl, trivial⟩⟩
  · -- else
    refine AW.exit ?_
    refine ex_and (ex_and (ex_blk ?_))
    refine nrm_and ?_
    refine AW.rs ?_
    refine AL.val rfl (.inl rfl) (HV.mv rfl) ?_
    refine AL.val rfl (.inl rfl) (HV.as rfl) ?_
    refine AL.nx ?_
    refine AW.ret ?_
    refine post_one rfl rfl ?_ (.inr rfl)
    exact ⟨X10, by obtain rfl : k = l := list_eq (d := 0) hk (fun j hj => he j (by omega)); exact hoL⟩

set_option maxRecDepth 100000 in
theorem toSS_ok {v : Value} {l : List (List Int)} {ok : Nat → Prop} (hr : RdK (kR kI) W H ok v l) (hl : l.length ≤ 1048576) (hm : ∀ x ∈ l, x.length ≤ 1048576) : ACalls Try.prog W 62 #[v] H (fun r H' => Ext H H' ∧ OwnD (kO 2 kI) 25 W H' (fun b => H.bd ≤ b) r l) := by
  refine ACalls.of (args := [v]) Try.func62 rfl rfl ?_
  have X0 := Ext.refl H
  have hm1 := hr.max
  refine AW.rs ?_
  refine AL.val rfl (.inl rfl) (HV.as rfl) ?_
  refine AL.nx ?_
  refine AW.rs ?_
  refine AL.val rfl (.inl rfl) (HV.mv rfl) ?_
  refine AL.val rfl (.inl rfl) (HV.len Try.underlying37 rfl hr.isSl) ?_
  have o2 := X0.bd
  refine AL.w rfl (.inl rfl) (WV.mkD (K := (kO 2 kI)) [] (fun _ _ _ => ⟨_, rfl, OwnK.nil _⟩) sl37 rfl rfl rfl (by omega) (by omega) (by omega)) ?_
  rintro v3 H4 ⟨hx5, ho6⟩
  have X7 := Ext.trans X0 hx5
  refine AL.val rfl (.inl rfl) (HV.as rfl) ?_
  refine AL.nx ?_
  refine AW.seq ?_
  refine AW.rs ?_
  refine AL.val rfl (.inl rfl) (HV.as rfl) ?_
  refine AL.nx ?_
  refine AW.block ?_
  refine AW.loop (σ := Nat × List (List Int)) (fun ⟨i, k⟩ => [(0, v), (2, (.slice none 0 0)), (3, v3), (3, v3), (4, .int .i64 (i : Int))]) (fun ⟨i, k⟩ H' => Ext H H' ∧ i ≤ l.length ∧ k.length = l.length ∧ (∀ j, j < i → k.getD j [] = l.getD j []) ∧ OwnD (kO 2 kI) 25 W H' (fun b => H.bd ≤ b) v3 k ∧ True) (fun ⟨i, k⟩ => l.length - i) (0, (List.replicate ((l.length : Int) : Int).toNat [])) ⟨X7, Nat.zero_le _, by simp, fun j hj => absurd hj (Nat.not_lt_zero _), ho6, trivial⟩ ⟨rfl, rfl, rfl, rfl, rfl, trivial⟩ ?_
  rintro ⟨i, k⟩ H9 ⟨X10, hi, hk, he, hoL, _⟩
  refine AW.seq ?_
  refine AW.rs ?_
  refine AL.val rfl (.inl rfl) (HV.mv rfl) ?_
  refine AL.val rfl (.inl rfl) (HV.mv rfl) ?_
  refine AL.val rfl (.inl rfl) (HV.len Try.underlying37 rfl hr.isSl) ?_
  refine AL.val rfl (.inl rfl) (HV.lti rfl rfl) ?_
  refine AL.nx ?_
  refine AW.ifd rfl (fun c11 => ?_) (fun c11 => ?_)
  · -- then
    refine AW.skip ?_
    refine nrm_and ?_
    refine AW.seq ?_
    refine AW.block ?_
    refine AW.reg ?_
    refine AL.val rfl (.inl rfl) (HV.mv rfl) ?_
    refine AL.val rfl (.inl rfl) (HV.mv rfl) ?_
    refine AL.val rfl (.inl rfl) (HV.mv rfl) ?_
    refine AL.val rfl (.inl rfl) (HV.mv rfl) ?_
    obtain ⟨p12, z13, cs14, hz15, hK16, hC17, hP18⟩ := RdK.ix (q := (i : Int)) hr sl37 (by omega) (by omega)
    obtain ⟨v19, rfl, hr20⟩ := hK16
    have hm21 := hr20.max
    refine AL.val rfl (.inl rfl) (hP18 rfl rfl) ?_
    refine AL.val rfl (.inl rfl) (HV.ld rfl va25 (cells_first (hC17.ext X10) rfl)) ?_
    have X22 := Ext.refl H9
    have o23 := X10.bd
    have o24 := X22.bd
    have a25 := hoL.ltb
    have s26 := hoL.lo
    refine AL.w rfl (.inl rfl) (WV.call fn15 rfl (toS_ok (hr20.ext X10) (hm _ (List.mem_of_getElem? hz15)))) ?_
    rintro v27 H28 ⟨hx29, ho30⟩
    have X31 := Ext.trans X10 hx29
    have X32 := Ext.trans X22 hx29
    have s34 := s26.ext hx29
    have ho33 := hoL.ext hx29
    obtain ⟨g36, z37, cs38, hz39, hK40, hC41, hg42, hP43⟩ := OwnK.ix (q := (i : Int)) ho33.own sl37 (by omega) (by omega)
    have X44 := Ext.refl H28
    obtain ⟨v45, rfl, hr46⟩ := hK40
    have hO47 := hr46
    replace hr46 := hr46.rd
    have hm48 := hr46.max
    refine AL.val rfl (.inl rfl) (hP43 rfl rfl) ?_
    refine AL.w0 (.inl rfl) (WV.stD (B := H9.bd) (x' := z13) s34 hg42 rfl rfl va25 (by omega) ⟨_, sl_cells ho30.isSl, ho30⟩) ?_
    rintro _ H49 ⟨hx50, ho51⟩
    have X52 := Ext.thru X31 hx50 (fun b hb => Nat.le_trans o2 (ho33.blk b hb).1)
    have ho55 := ho51.okk (ok' := fun b => H.bd ≤ b) (fun b hb _ => hb.elim id (fun h => Nat.le_trans o23 h))
    refine AL.nil ?_
    refine nrm_blk (nrm_and ?_)
    refine AW.reg ?_
    refine AL.val rfl (.inl rfl) (HV.mv rfl) ?_
    refine AL.val rfl (.inl rfl) (HV.add rfl rfl (by omega)) ?_
    refine AL.val rfl (.inl rfl) (HV.as rfl) ?_
    refine AL.nil ?_
    refine nrm_and ?_
    exact ⟨(i + 1, (k.set ((i : Int) : Int).toNat z13)), ⟨X52, by omega, by simp [hk], set_step he hk (getq hz15 rfl), ho55, trivial⟩, by first | omega | (dsimp only; omega), ⟨rfl, rfl, rfl, rfl, rfl, trivial⟩⟩
  · -- else
    refine AW.exit ?_
    refine ex_and (ex_and (ex_blk ?_))
    refine nrm_and ?_
    refine AW.rs ?_
    refine AL.val rfl (.inl rfl) (HV.mv rfl) ?_
    refine AL.val rfl (.inl rfl) (HV.as rfl) ?_
    refine AL.nx ?_
    refine AW.ret ?_
    refine post_one rfl rfl ?_ (.inr rfl)
    exact ⟨X10, by obtain rfl : k = l := list_eq (d := []) hk (fun j hj => he j (by omega)); exact hoL⟩

set_option maxRecDepth 100000 in
theorem szInt64SS_ok {v : Value} {l : List (List Int)} {ok : Nat → Prop} (hr : RdK (kR kI) W H ok v l) (q : Int) (hq : -1 ≤ q ∧ q ≤ 1048576) : ACalls Try.prog W 59 #[v, .int .i64 q] H (fun r H' => (∃ q' : Int, r = .int .i64 q' ∧ -1 ≤ q' ∧ q' ≤ 1048576 ∧ (0 ≤ q' → (l.length ≤ 1048576 ∧ ∀ x ∈ l, x.length ≤ 1048576))) ∧ Ext H H') := by
  refine ACalls.of (args := [v, .int .i64 q]) Try.func59 rfl rfl ?_
  have X0 := Ext.refl H
  have hm1 := hr.max
  refine AW.rs ?_
  refine AL.val rfl (.inl rfl) (HV.as rfl) ?_
  refine AL.nx ?_
  refine AW.rs ?_
  refine AL.val rfl (.inl rfl) (HV.mv rfl) ?_
  refine AL.val rfl (.inl rfl) (HV.mv rfl) ?_
  refine AL.val rfl (.inl rfl) (HV.len Try.underlying37 rfl hr.isSl) ?_
  refine AL.val rfl (.inl rfl) (HV.sub rfl rfl (by omega)) ?_
  refine AL.val rfl (.inl rfl) (HV.as rfl) ?_
  refine AL.nx ?_
  refine AW.seq ?_
  refine AW.rs ?_
  refine AL.val rfl (.inl rfl) (HV.mv rfl) ?_
  refine AL.val rfl (.inl rfl) (HV.lti rfl rfl) ?_
  refine AL.nx ?_
  refine AW.ifd rfl (fun c2 => ?_) (fun c2 => ?_)
  · -- then
    refine AW.rs ?_
    refine AL.val rfl (.inl rfl) (HV.as rfl) ?_
    refine AL.nx ?_
    refine AW.ret ?_
    refine ret_and ?_
    refine post_one rfl rfl ?_ (.inr rfl)
    exact ⟨⟨_, rfl, by omega, by omega, fun h => absurd h (by decide)⟩, X0⟩
  · -- else
    refine AW.skip ?_
    refine nrm_and ?_
    refine AW.seq ?_
    refine AW.rs ?_
    refine AL.val rfl (.inl rfl) (HV.as rfl) ?_
    refine AL.nx ?_
    refine AW.block ?_
    refine AW.loop (σ := Nat × Int) (fun ⟨i, p⟩ => [(0, v), (1, .int .i64 p), (5, .int .i64 (i : Int))]) (fun ⟨i, p⟩ H' => Ext H H' ∧ i ≤ l.length ∧ 0 ≤ p ∧ p ≤ 1048576 ∧ l.length ≤ 1048576 ∧ (∀ j, j < i → (l.getD j []).length ≤ 1048576) ∧ True) (fun ⟨i, p⟩ => l.length - i) (0, q - (l.length : Int)) ⟨X0, Nat.zero_le _, by omega, by omega, by omega, fun j hj => absurd hj (Nat.not_lt_zero _), trivial⟩ ⟨rfl, rfl, rfl, trivial⟩ ?_
    rintro ⟨i, p⟩ H3 ⟨X4, hi, hp, hp2, hl, he, _⟩
    refine AW.seq ?_
    refine AW.rs ?_
    refine AL.val rfl (.inl rfl) (HV.mv rfl) ?_
    refine AL.val rfl (.inl rfl) (HV.mv rfl) ?_
    refine AL.val rfl (.inl rfl) (HV.len Try.underlying37 rfl hr.isSl) ?_
    refine AL.val rfl (.inl rfl) (HV.lti rfl rfl) ?_
    refine AL.nx ?_
    refine AW.ifd rfl (fun c5 => ?_) (fun c5 => ?_)
    · -- then
      refine AW.skip ?_
      refine nrm_and ?_
      refine AW.seq ?_
      refine AW.block ?_
      refine AW.rs ?_
      refine AL.val rfl (.inl rfl) (HV.mv rfl) ?_
      refine AL.val rfl (.inl rfl) (HV.mv rfl) ?_
      obtain ⟨p6, z7, cs8, hz9, hK10, hC11, hP12⟩ := RdK.ix (q := (i : Int)) hr sl37 (by omega) (by omega)
      obtain ⟨v13, rfl, hr14⟩ := hK10
      have hm15 := hr14.max
      refine AL.val rfl (.inl rfl) (hP12 rfl rfl) ?_
      refine AL.val rfl (.inl rfl) (HV.ld rfl va25 (cells_first (hC11.ext X4) rfl)) ?_
      refine AL.val rfl (.inl rfl) (HV.mv rfl) ?_
      refine AL.w rfl (.inl rfl) (WV.call fn92 rfl (szInt64S_ok p (hr14.ext X4) (by omega) (by omega))) ?_
      rintro _ H16 ⟨⟨q18, rfl, ha19, hb20, he21⟩, hx17⟩
      have X22 := Ext.trans X4 hx17
      refine AL.val rfl (.inl rfl) (HV.as rfl) ?_
      refine AL.nx ?_
      refine AW.rs ?_
      refine AL.val rfl (.inl rfl) (HV.mv rfl) ?_
      refine AL.val rfl (.inl rfl) (HV.lti rfl rfl) ?_
      refine AL.nx ?_
      refine AW.ifd rfl (fun c23 => ?_) (fun c23 => ?_)
      · -- then
        refine AW.rs ?_
        refine AL.val rfl (.inl rfl) (HV.as rfl) ?_
        refine AL.nx ?_
        refine AW.ret ?_
        refine ret_blk (ret_and (ret_and (ret_blk (ret_and ?_))))
        refine post_one rfl rfl ?_ (.inr rfl)
        exact ⟨⟨_, rfl, by omega, by omega, fun h => absurd h (by decide)⟩, X22⟩
      · -- else
        refine AW.skip ?_
        refine nrm_blk (nrm_and ?_)
        refine AW.reg ?_
        refine AL.val rfl (.inl rfl) (HV.mv rfl) ?_
        refine AL.val rfl (.inl rfl) (HV.add rfl rfl (by omega)) ?_
        refine AL.val rfl (.inl rfl) (HV.as rfl) ?_
        refine AL.nil ?_
        refine nrm_and ?_
        exact ⟨(i + 1, q18), ⟨X22, by omega, by omega, by omega, hl, fun j hj => by
      rcases Nat.lt_or_ge j i with h1 | h1
      · exact he j h1
      · obtain rfl : j = i := by omega
        have g21 : l.getD j [] = z7 := gd hz9 (by omega); rw [g21]; exact he21 (by omega), trivial⟩, by first | omega | (dsimp only; omega), ⟨rfl, rfl, rfl, trivial⟩⟩
    · -- else
      refine AW.exit ?_
      refine ex_and (ex_and (ex_blk ?_))
      refine nrm_and ?_
      refine AW.rs ?_
      refine AL.val rfl (.inl rfl) (HV.mv rfl) ?_
      refine AL.val rfl (.inl rfl) (HV.as rfl) ?_
      refine AL.nx ?_
      refine AW.ret ?_
      refine post_one rfl rfl ?_ (.inr rfl)
      exact ⟨⟨_, rfl, by omega, by omega, fun h => ⟨hl, fun x hx => by
    obtain ⟨j, hj, rfl⟩ := List.getElem_of_mem hx
    have := he j (by omega)
    simpa [hj] using this⟩⟩, X4⟩

set_option maxRecDepth 100000 in
theorem szFamily_ok {v : Value} {l : List (List Int)} {ok : Nat → Prop} (n : Int) (hr : RdK (kR kI) W H ok v l) (q : Int) (hq : -1 ≤ q ∧ q ≤ 1048576) : ACalls Try.prog W 19 #[.agg #[.int .i64 n, v], .int .i64 q] H (fun r H' => (∃ q' : Int, r = .int .i64 q' ∧ -1 ≤ q' ∧ q' ≤ 1048576 ∧ (0 ≤ q' → (l.length ≤ 1048576 ∧ ∀ x ∈ l, x.length ≤ 1048576))) ∧ Ext H H') := by
  refine ACalls.of (args := [.agg #[.int .i64 n, v], .int .i64 q]) Try.func19 rfl rfl ?_
  have X0 := Ext.refl H
  have hm1 := hr.max
  refine AW.rs ?_
  refine AL.w rfl (.inl rfl) (WV.bx rfl rfl) ?_
  rintro _ H3 ⟨b2, rfl, hx4, hn5, hb6⟩
  have o7 := Nat.le_trans X0.bd hn5
  have X8 := Ext.trans X0 hx4
  have X9 := Ext.refl H3
  refine AL.val rfl (.inl rfl) (HV.as rfl) ?_
  refine AL.nx ?_
  refine AW.rs ?_
  refine AL.val rfl (.inl rfl) (HV.fa fl39_1 rfl) ?_
  refine AL.val rfl (.inl rfl) (HV.ld rfl va37 (at_cell_add hb6 rfl)) ?_
  refine AL.val rfl (.inl rfl) (HV.mv rfl) ?_
  refine AL.w rfl (.inl rfl) (WV.call fn59 rfl (szInt64SS_ok (q := q) (hr.ext X8) (by omega))) ?_
  rintro _ H10 ⟨⟨q12, rfl, ha13, hb14, he15⟩, hx11⟩
  have X16 := Ext.trans X8 hx11
  have X17 := Ext.trans X9 hx11
  have hb18 := hb6.ext hx11
  refine AL.val rfl (.inl rfl) (HV.as rfl) ?_
  refine AL.nx ?_
  refine AW.seq ?_
  refine AW.rs ?_
  refine AL.val rfl (.inl rfl) (HV.mv rfl) ?_
  refine AL.val rfl (.inl rfl) (HV.lti rfl rfl) ?_
  refine AL.nx ?_
  refine AW.ifd rfl (fun c19 => ?_) (fun c19 => ?_)
  · -- then
    refine AW.rs ?_
    refine AL.val rfl (.inl rfl) (HV.as rfl) ?_
    refine AL.nx ?_
    refine AW.ret ?_
    refine ret_and ?_
    refine post_one rfl rfl ?_ (.inr rfl)
    exact ⟨⟨_, rfl, by omega, by omega, fun h => absurd h (by decide)⟩, X16⟩
  · -- else
    refine AW.skip ?_
    refine nrm_and ?_
    refine AW.rs ?_
    refine AL.val rfl (.inl rfl) (HV.mv rfl) ?_
    refine AL.val rfl (.inl rfl) (HV.as rfl) ?_
    refine AL.nx ?_
    refine AW.ret ?_
    refine post_one rfl rfl ?_ (.inr rfl)
    exact ⟨⟨_, rfl, by omega, by omega, fun h => he15 (by omega)⟩, X16⟩

set_option maxRecDepth 100000 in
theorem toFamily_ok {v : Value} {l : List (List Int)} {ok : Nat → Prop} (n : Int) (hr : RdK (kR kI) W H ok v l) (hl : (l.length ≤ 1048576 ∧ ∀ x ∈ l, x.length ≤ 1048576)) : ACalls Try.prog W 21 #[.agg #[.int .i64 n, v]] H (fun r H' => (∃ u, r = .agg #[.int .i64 n, u] ∧ OwnD (kO 2 kI) 25 W H' (fun b => H.bd ≤ b) u l) ∧ Ext H H') := by
  refine ACalls.of (args := [.agg #[.int .i64 n, v]]) Try.func21 rfl rfl ?_
  have X0 := Ext.refl H
  have hm1 := hr.max
  refine AW.rs ?_
  refine AL.w rfl (.inl rfl) (WV.bx rfl rfl) ?_
  rintro _ H3 ⟨b2, rfl, hx4, hn5, hb6⟩
  have o7 := Nat.le_trans X0.bd hn5
  have X8 := Ext.trans X0 hx4
  have X9 := Ext.refl H3
  refine AL.w rfl (.inl rfl) (WV.al ze42 rfl) ?_
  rintro _ H11 ⟨b10, rfl, hx12, hn13, hb14⟩
  have o15 := Nat.le_trans X8.bd hn13
  have o16 := Nat.le_trans X9.bd hn13
  have ne17 : b2 ≠ b10 := by have := hb6.lt; omega
  have X18 := Ext.trans X8 hx12
  have X19 := Ext.trans X9 hx12
  have hb20 := hb6.ext hx12
  have X21 := Ext.refl H11
  refine AL.nx ?_
  refine AW.rs ?_
  refine AL.w rfl (.inl rfl) (WV.al ze42 rfl) ?_
  rintro _ H23 ⟨b22, rfl, hx24, hn25, hb26⟩
  have o27 := Nat.le_trans X18.bd hn25
  have o28 := Nat.le_trans X19.bd hn25
  have o29 := Nat.le_trans X21.bd hn25
  have ne30 : b2 ≠ b22 := by have := hb20.lt; omega
  have ne31 : b10 ≠ b22 := by have := hb14.lt; omega
  have X32 := Ext.trans X18 hx24
  have X33 := Ext.trans X19 hx24
  have X34 := Ext.trans X21 hx24
  have hb35 := hb20.ext hx24
  have hb36 := hb14.ext hx24
  have X37 := Ext.refl H23
  refine AL.nx ?_
  refine AW.rs ?_
  refine AL.val rfl (.inl rfl) (HV.fa fl39_0 rfl) ?_
  refine AL.val rfl (.inl rfl) (HV.ld rfl va2 (at_cell hb35 rfl)) ?_
  refine AL.val rfl (.inl rfl) (HV.fa fl42_0 rfl) ?_
  refine AL.w0 (.inl rfl) (WV.st rfl rfl va2 rfl hb26 (Nat.le_of_ble_eq_true rfl) (one_cons rfl one_nil)) ?_
  rintro _ H38 ⟨hx39, hb40⟩
  have X41 := Ext.thru X32 hx39 (fun z_ hz_ => by rw [hz_]; exact o27)
  have X42 := Ext.thru X33 hx39 (fun z_ hz_ => by rw [hz_]; exact o28)
  have X43 := Ext.thru X34 hx39 (fun z_ hz_ => by rw [hz_]; exact o29)
  have hb45 := hb35.but hx39 ne30
  have hb46 := hb36.but hx39 ne31
  have hb47 : At W H38 b22 ⟨42, [.int .i64 n, (.slice none 0 0)], 2⟩ := hb40
  refine AL.nx ?_
  refine AW.rs ?_
  refine AL.val rfl (.inl rfl) (HV.fa fl39_1 rfl) ?_
  refine AL.val rfl (.inl rfl) (HV.ld rfl va37 (at_cell_add hb45 rfl)) ?_
  have X48 := Ext.refl H38
  have y49 := hb45.lt
  have y50 := hb46.lt
  have y51 := hb47.lt
  have o52 := X41.bd
  have o53 := X42.bd
  have o54 := X43.bd
  have o55 := X48.bd
  refine AL.w rfl (.inl rfl) (WV.call fn62 rfl (toSS_ok (hr.ext X41) hl.1 hl.2)) ?_
  rintro v56 H57 ⟨hx58, ho59⟩
  have X60 := Ext.trans X41 hx58
  have X61 := Ext.trans X42 hx58
  have X62 := Ext.trans X43 hx58
  have X63 := Ext.trans X48 hx58
  have hb64 := hb45.ext hx58
  have hb65 := hb46.ext hx58
  have hb66 := hb47.ext hx58
  refine AL.val rfl (.inl rfl) (HV.fa fl42_1 rfl) ?_
  refine AL.w0 (.inl rfl) (WV.st rfl rfl va37 (sl_size (rd_ofO ho59.rd).isSl) hb66 (Nat.le_of_ble_eq_true rfl) (sl_one (rd_ofO ho59.rd).isSl)) ?_
  rintro _ H68 ⟨hx69, hb70⟩
  rw [sl_cells (rd_ofO ho59.rd).isSl] at hb70
  have X71 := Ext.thru X60 hx69 (fun z_ hz_ => by rw [hz_]; exact o27)
  have X72 := Ext.thru X61 hx69 (fun z_ hz_ => by rw [hz_]; exact o28)
  have X73 := Ext.thru X62 hx69 (fun z_ hz_ => by rw [hz_]; exact o29)
  have ho75 := ho59.but hx69 (fun b hb _ e => by have hb' : H38.bd ≤ b := hb; have e' : b = b22 := e; omega) (fun z_ hz_ => by rw [hz_]; exact hb66.w)
  have hb76 := hb64.but hx69 ne30
  have hb77 := hb65.but hx69 ne31
  have hb78 : At W H68 b22 ⟨42, [.int .i64 n, v56], 2⟩ := hb70
  refine AL.nx ?_
  refine AW.rs ?_
  refine AL.val rfl (.inl rfl) (HV.lda (cs := [.int .i64 n, v56]) rfl va42 (at_cells hb78 rfl)) ?_
  refine AL.w0 (.inl rfl) (WV.st rfl rfl va42 rfl hb77 (Nat.le_of_ble_eq_true rfl) (one_cons rfl (one_cons (sl_one1 (rd_ofO ho75.rd).isSl) one_nil))) ?_
  rintro _ H79 ⟨hx80, hb81⟩
  have X82 := Ext.thru X71 hx80 (fun z_ hz_ => by rw [hz_]; exact o15)
  have X83 := Ext.thru X72 hx80 (fun z_ hz_ => by rw [hz_]; exact o16)
  have ho85 := ho75.but hx80 (fun b hb _ e => by have hb' : H38.bd ≤ b := hb; have e' : b = b10 := e; omega) (fun z_ hz_ => by rw [hz_]; exact hb77.w)
  have hb86 := hb76.but hx80 ne17
  have hb87 := hb78.but hx80 (fun e => ne31 e.symm)
  have hb88 : At W H79 b10 ⟨42, [.int .i64 n, v56], 2⟩ := hb81
  refine AL.nx ?_
  refine AW.ret ?_
  refine post_cell rfl rfl va42 hb88 ?_ (.inr rfl)
  exact ⟨⟨_, rfl, ho85.okk (fun b hb _ => Nat.le_trans o52 hb)⟩, X82⟩

set_option maxRecDepth 100000 in
theorem eqSS_ok {v v2 : Value} {l m : List (List Int)} {ok ok2 : Nat → Prop} (hr : RdK (kR kI) W H ok v l) (hr2 : RdK (kR kI) W H ok2 v2 m) : ACalls Try.prog W 45 #[v, v2] H (fun r H' => r = .bool (decide (l = m)) ∧ Ext H H') := by
  refine ACalls.of (args := [v, v2]) Try.func45 rfl rfl ?_
  have X0 := Ext.refl H
  have hm1 := hr.max
  have hm2 := hr2.max
  refine AW.rs ?_
  refine AL.val rfl (.inl rfl) (HV.as rfl) ?_
  refine AL.nx ?_
  refine AW.seq ?_
  refine AW.rs ?_
  refine AL.val rfl (.inl rfl) (HV.mv rfl) ?_
  refine AL.val rfl (.inl rfl) (HV.len Try.underlying37 rfl hr.isSl) ?_
  refine AL.val rfl (.inl rfl) (HV.mv rfl) ?_
  refine AL.val rfl (.inl rfl) (HV.len Try.underlying37 rfl hr2.isSl) ?_
  refine AL.val rfl (.inl rfl) (HV.nei rfl rfl) ?_
  refine AL.nx ?_
  refine AW.ifd rfl (fun c3 => ?_) (fun c3 => ?_)
  · -- then
    refine AW.rs ?_
    refine AL.val rfl (.inl rfl) (HV.as rfl) ?_
    refine AL.nx ?_
    refine AW.ret ?_
    refine ret_and ?_
    refine post_one rfl rfl ?_ (.inr rfl)
    exact ⟨dec_f (fun e => by subst e; omega), X0⟩
  · -- else
    refine AW.skip ?_
    refine nrm_and ?_
    refine AW.seq ?_
    refine AW.rs ?_
    refine AL.val rfl (.inl rfl) (HV.as rfl) ?_
    refine AL.nx ?_
    refine AW.block ?_
    refine AW.loop (σ := Nat) (fun i => [(0, v), (1, v2), (5, .int .i64 (i : Int))]) (fun i H' => Ext H H' ∧ i ≤ l.length ∧ (∀ j, j < i → l.getD j [] = m.getD j []) ∧ True) (fun i => l.length - i) 0 ⟨X0, Nat.zero_le _, fun j hj => absurd hj (Nat.not_lt_zero _), trivial⟩ ⟨rfl, rfl, rfl, trivial⟩ ?_
    rintro i H4 ⟨X5, hi, he, _⟩
    refine AW.seq ?_
    refine AW.rs ?_
    refine AL.val rfl (.inl rfl) (HV.mv rfl) ?_
    refine AL.val rfl (.inl rfl) (HV.mv rfl) ?_
    refine AL.val rfl (.inl rfl) (HV.len Try.underlying37 rfl hr.isSl) ?_
    refine AL.val rfl (.inl rfl) (HV.lti rfl rfl) ?_
    refine AL.nx ?_
    refine AW.ifd rfl (fun c6 => ?_) (fun c6 => ?_)
    · -- then
      refine AW.skip ?_
      refine nrm_and ?_
      refine AW.seq ?_
      refine AW.block ?_
      refine AW.seq ?_
      refine AW.draw' [0, 0, 3, 7, 0, 0, 48, 112, 255, 511] mixed (by rfl) ?_
      refine Dr.read 0 _ 17 _ rfl rfl rfl rfl rfl (RV.of (by intro _ _ h; cases h) (.inl rfl) (fun _ xd => HV.mv rfl)) ?_
      refine Dr.read 1 _ 18 _ rfl rfl rfl rfl rfl (RV.of (by intro _ _ h; cases h) (.inl rfl) (fun _ xd => HV.mv rfl)) ?_
      obtain ⟨p7, z8, cs9, hz10, hK11, hC12, hP13⟩ := RdK.ix (q := (i : Int)) hr sl37 (by omega) (by omega)
      obtain ⟨v14, rfl, hr15⟩ := hK11
      have hm16 := hr15.max
      refine Dr.read 2 _ 19 _ rfl rfl rfl rfl rfl (RV.of (by intro _ _ h; cases h) (.inl rfl) (fun _ xd => hP13 rfl rfl)) ?_
      refine Dr.read 3 _ 20 _ rfl rfl rfl rfl rfl (RV.of (by intro _ _ h; cases h) (.inl rfl) (fun _ xd => HV.ld rfl va25 (rdc_ext xd (cells_first (hC12.ext X5) rfl)))) ?_
      refine Dr.read 4 _ 21 _ rfl rfl rfl rfl rfl (RV.of (by intro _ _ h; cases h) (.inl rfl) (fun _ xd => HV.mv rfl)) ?_
      refine Dr.read 5 _ 22 _ rfl rfl rfl rfl rfl (RV.of (by intro _ _ h; cases h) (.inl rfl) (fun _ xd => HV.mv rfl)) ?_
      obtain ⟨p17, z18, cs19, hz20, hK21, hC22, hP23⟩ := RdK.ix (q := (i : Int)) hr2 sl37 (by omega) (by omega)
      obtain ⟨v24, rfl, hr25⟩ := hK21
      have hm26 := hr25.max
      refine Dr.read 6 _ 23 _ rfl rfl rfl rfl rfl (RV.of (by intro _ _ h; cases h) (.inl rfl) (fun _ xd => hP23 rfl rfl)) ?_
      refine Dr.read 7 _ 24 _ rfl rfl rfl rfl rfl (RV.of (by intro _ _ h; cases h) (.inl rfl) (fun _ xd => HV.ld rfl va25 (rdc_ext xd (cells_first (hC22.ext X5) rfl)))) ?_
      refine Dr.eff 8 _ _ rfl (by intro d h; cases h; exact ⟨rfl, rfl⟩) rfl rfl rfl (EC.of (by intro _ _ h; cases h) (.inl rfl) (WV.call fn18 rfl (eqS_ok (hr15.ext X5) (hr25.ext X5)))) (fun v H' h => .inl (h.2)) ?_
      rintro _ H27 ⟨rfl, hx28⟩
      have X29 := Ext.trans X5 hx28
      refine Dr.read 9 _ 26 _ rfl rfl rfl rfl rfl (RV.of (by intro _ _ h; cases h) (.inl rfl) (fun _ xd => HV.not rfl)) ?_
      refine Dr.fin rfl ?_
      refine nrm_and ?_
      refine AW.ifn rfl (fun c30 => ?_) (fun c30 => ?_)
      · -- then
        refine AW.rs ?_
        refine AL.val rfl (.inl rfl) (HV.as rfl) ?_
        refine AL.nx ?_
        refine AW.ret ?_
        refine ret_blk (ret_and (ret_and (ret_blk (ret_and ?_))))
        refine post_one rfl rfl ?_ (.inr rfl)
        exact ⟨dec_f (fun e => by subst e; have g20 : l.getD i [] = z8 := gd hz10 (by omega); have g24 : l.getD i [] = z18 := gd hz20 (by omega); exact c30 (g20.symm.trans g24)), X29⟩
      · -- else
        refine AW.skip ?_
        refine nrm_blk (nrm_and ?_)
        refine AW.reg ?_
        refine AL.val rfl (.inl rfl) (HV.mv rfl) ?_
        refine AL.val rfl (.inl rfl) (HV.add rfl rfl (by omega)) ?_
        refine AL.val rfl (.inl rfl) (HV.as rfl) ?_
        refine AL.nil ?_
        refine nrm_and ?_
        exact ⟨i + 1, ⟨X29, by omega, fun j hj => by
      rcases Nat.lt_or_ge j i with h1 | h1
      · exact he j h1
      · obtain rfl : j = i := by omega
        have g20 : l.getD j [] = z8 := gd hz10 (by omega); have g24 : m.getD j [] = z18 := gd hz20 (by omega); rw [g20, g24]; exact c30, trivial⟩, by first | omega | (dsimp only; omega), ⟨rfl, rfl, rfl, trivial⟩⟩
    · -- else
      refine AW.exit ?_
      refine ex_and (ex_and (ex_blk ?_))
      refine nrm_and ?_
      refine AW.rs ?_
      refine AL.val rfl (.inl rfl) (HV.as rfl) ?_
      refine AL.nx ?_
      refine AW.ret ?_
      refine post_one rfl rfl ?_ (.inr rfl)
      exact ⟨dec_t (list_eq (by omega) (fun j hj => he j (by omega))), X5⟩

set_option maxRecDepth 100000 in
theorem eqFam_ok {v v2 : Value} {l m : List (List Int)} {ok ok2 : Nat → Prop} (n n2 : Int) (hr : RdK (kR kI) W H ok v l) (hr2 : RdK (kR kI) W H ok2 v2 m) : ACalls Try.prog W 23 #[.agg #[.int .i64 n, v], .agg #[.int .i64 n2, v2]] H (fun r H' => r = .bool (decide (n = n2 ∧ l = m)) ∧ Ext H H') := by
  refine ACalls.of (args := [.agg #[.int .i64 n, v], .agg #[.int .i64 n2, v2]]) Try.func23 rfl rfl ?_
  have X0 := Ext.refl H
  have hm1 := hr.max
  have hm2 := hr2.max
  refine AW.rs ?_
  refine AL.w rfl (.inl rfl) (WV.bx rfl rfl) ?_
  rintro _ H4 ⟨b3, rfl, hx5, hn6, hb7⟩
  have o8 := Nat.le_trans X0.bd hn6
  have X9 := Ext.trans X0 hx5
  have X10 := Ext.refl H4
  refine AL.w rfl (.inl rfl) (WV.bx rfl rfl) ?_
  rintro _ H12 ⟨b11, rfl, hx13, hn14, hb15⟩
  have o16 := Nat.le_trans X9.bd hn14
  have o17 := Nat.le_trans X10.bd hn14
  have ne18 : b3 ≠ b11 := by have := hb7.lt; omega
  have X19 := Ext.trans X9 hx13
  have X20 := Ext.trans X10 hx13
  have hb21 := hb7.ext hx13
  have X22 := Ext.refl H12
  refine AL.val rfl (.inl rfl) (HV.as rfl) ?_
  refine AL.nx ?_
  refine AW.seq ?_
  refine AW.rs ?_
  refine AL.val rfl (.inl rfl) (HV.fa fl42_0 rfl) ?_
  refine AL.val rfl (.inl rfl) (HV.ld rfl va2 (at_cell hb21 rfl)) ?_
  refine AL.val rfl (.inl rfl) (HV.fa fl42_0 rfl) ?_
  refine AL.val rfl (.inl rfl) (HV.ld rfl va2 (at_cell hb15 rfl)) ?_
  refine AL.val rfl (.inl rfl) (HV.nei rfl rfl) ?_
  refine AL.nx ?_
  refine AW.ifd rfl (fun c23 => ?_) (fun c23 => ?_)
  · -- then
    refine AW.rs ?_
    refine AL.val rfl (.inl rfl) (HV.as rfl) ?_
    refine AL.nx ?_
    refine AW.ret ?_
    refine ret_and ?_
    refine post_one rfl rfl ?_ (.inr rfl)
    exact ⟨dec_f (fun e => by have := e.1; omega), X19⟩
  · -- else
    refine AW.skip ?_
    refine nrm_and ?_
    refine AW.seq ?_
    refine AW.rs ?_
    refine AL.val rfl (.inl rfl) (HV.fa fl42_1 rfl) ?_
    refine AL.val rfl (.inl rfl) (HV.ld rfl va37 (at_cell_add hb21 rfl)) ?_
    refine AL.val rfl (.inl rfl) (HV.fa fl42_1 rfl) ?_
    refine AL.val rfl (.inl rfl) (HV.ld rfl va37 (at_cell_add hb15 rfl)) ?_
    refine AL.w rfl (.inl rfl) (WV.call fn45 rfl (eqSS_ok (hr.ext X19) (hr2.ext X19))) ?_
    rintro _ H24 ⟨rfl, hx25⟩
    have X26 := Ext.trans X19 hx25
    have X27 := Ext.trans X20 hx25
    have X28 := Ext.trans X22 hx25
    have hb29 := hb21.ext hx25
    have hb30 := hb15.ext hx25
    refine AL.val rfl (.inl rfl) (HV.not rfl) ?_
    refine AL.nx ?_
    refine AW.ifn rfl (fun c31 => ?_) (fun c31 => ?_)
    · -- then
      refine AW.rs ?_
      refine AL.val rfl (.inl rfl) (HV.as rfl) ?_
      refine AL.nx ?_
      refine AW.ret ?_
      refine ret_and ?_
      refine post_one rfl rfl ?_ (.inr rfl)
      exact ⟨dec_f (fun e => c31 e.2), X26⟩
    · -- else
      refine AW.skip ?_
      refine nrm_and ?_
      refine AW.rs ?_
      refine AL.val rfl (.inl rfl) (HV.as rfl) ?_
      refine AL.nx ?_
      refine AW.ret ?_
      refine post_one rfl rfl ?_ (.inr rfl)
      exact ⟨dec_t ⟨by omega, c31⟩, X26⟩

set_option maxRecDepth 100000 in
theorem opens1_ok {v : Value} {l : List Int} {ok : Nat → Prop} {b : Nat} {q : Int} (hr : RdK kI W H ok v l) (hlo : ∀ x ∈ l, 0 ≤ x ∧ x < 64) (hb : At W H b ⟨76, [.int .u64 q], 1⟩) : ACalls Try.prog W 98 #[v, .pointer (some ⟨b, 0, none⟩)] H (fun r H' => r = .bool (decide (bt .and .u64 q (crowd l) = crowd l)) ∧ Ext H H') := by
  refine ACalls.of (args := [v, .pointer (some ⟨b, 0, none⟩)]) Try.func98 rfl rfl ?_
  have X0 := Ext.refl H
  have hm1 := hr.max
  refine AW.rs ?_
  refine AL.val rfl (.inl rfl) (HV.as rfl) ?_
  refine AL.nx ?_
  refine AW.seq ?_
  refine AW.draw' [0, 0, 2, 7, 15] mixed (by rfl) ?_
  refine Dr.read 0 _ 4 _ rfl rfl rfl rfl rfl (RV.of (by intro _ _ h; cases h) (.inl rfl) (fun _ xd => HV.ld rfl va76 (rdc_ext xd (at_cell hb rfl)))) ?_
  refine Dr.read 1 _ 5 _ rfl rfl rfl rfl rfl (RV.of (by intro _ _ h; cases h) (.inl rfl) (fun _ xd => HV.mv rfl)) ?_
  refine Dr.eff 2 _ _ rfl (by intro d h; cases h; exact ⟨rfl, rfl⟩) rfl rfl rfl (EC.of (by intro _ _ h; cases h) (.inl rfl) (WV.call fn57 rfl (crowdOf_ok hr hlo))) (fun v H' h => .inl (h.2)) ?_
  rintro _ H2 ⟨rfl, hx3⟩
  have X4 := Ext.trans X0 hx3
  have hb5 := hb.ext hx3
  refine Dr.eff 3 _ _ rfl (by intro d h; cases h; exact ⟨rfl, rfl⟩) rfl rfl rfl (EC.of (by intro _ _ h; cases h) (.inl rfl) (WV.call fn96 rfl (contains_ok (W := W) q (crowd l)))) (fun v H' h => .inl (h.2)) ?_
  rintro _ H6 ⟨rfl, hx7⟩
  have X8 := Ext.trans X4 hx7
  have hb9 := hb5.ext hx7
  refine Dr.read 4 _ 3 _ rfl rfl rfl rfl rfl (RV.of (by intro _ _ h; cases h) (.inl rfl) (fun _ xd => HV.as rfl)) ?_
  refine Dr.fin rfl ?_
  refine nrm_and ?_
  refine AW.ret ?_
  refine post_one rfl rfl ?_ (.inr rfl)
  exact ⟨rfl, X8⟩

set_option maxRecDepth 100000 in
theorem index_ok {v : Value} {l : List (List Int)} {ok : Nat → Prop} {b : Nat} {q : Int} (hr : RdK (kR kI) W H ok v l) (hlo : ∀ x ∈ l, ∀ h ∈ x, 0 ≤ h ∧ h < 64) (hb : At W H b ⟨76, [.int .u64 q], 1⟩) : ACalls Try.prog W 132 #[v, (.func (.func 98) #[] #[.pointer (some ⟨b, 0, none⟩)])] H (fun r H' => (∃ i : Int, r = .int .i64 i ∧ (0 ≤ i ↔ opC q l)) ∧ Ext H H') := by
  refine ACalls.of (args := [v, (.func (.func 98) #[] #[.pointer (some ⟨b, 0, none⟩)])]) Try.func132 rfl rfl ?_
  have X0 := Ext.refl H
  have hm1 := hr.max
  refine AW.rs ?_
  refine AL.val rfl (.inl rfl) (HV.as rfl) ?_
  refine AL.nx ?_
  refine AW.seq ?_
  refine AW.rs ?_
  refine AL.val rfl (.inl rfl) (HV.mv rfl) ?_
  refine AL.val rfl (.inl rfl) (HV.len Try.underlying37 rfl hr.isSl) ?_
  refine AL.val rfl (.inl rfl) (HV.mv rfl) ?_
  refine AL.nx ?_
  refine AW.block ?_
  refine AW.loop (σ := Nat) (fun i => [(0, v), (1, (.func (.func 98) #[] #[.pointer (some ⟨b, 0, none⟩)])), (7, .int .i64 (l.length : Int)), (8, .int .i64 (i : Int))]) (fun i H' => Ext H H' ∧ At W H' b ⟨76, [.int .u64 q], 1⟩ ∧ i ≤ l.length ∧ (∀ j, j < i → ¬ bt .and .u64 q (crowd (l.getD j [])) = crowd (l.getD j [])) ∧ True) (fun i => l.length - i) 0 ⟨X0, hb, Nat.zero_le _, fun j hj => absurd hj (Nat.not_lt_zero _), trivial⟩ ⟨rfl, rfl, rfl, rfl, trivial⟩ ?_
  rintro i H2 ⟨X3, hb4, hi, he, _⟩
  refine AW.rs ?_
  refine AL.val rfl (.inl rfl) (HV.lti rfl rfl) ?_
  refine AL.nx ?_
  refine AW.seq ?_
  refine AW.ifd rfl (fun c5 => ?_) (fun c5 => ?_)
  · -- then
    refine AW.skip ?_
    refine nrm_and ?_
    refine AW.seq ?_
    refine AW.block ?_
    refine AW.rs ?_
    refine AL.val rfl (.inl rfl) (HV.mv rfl) ?_
    refine AL.val rfl (.inl rfl) (HV.as rfl) ?_
    refine AL.nx ?_
    refine AW.rs ?_
    refine AL.val rfl (.inl rfl) (HV.mv rfl) ?_
    refine AL.val rfl (.inl rfl) (HV.mv rfl) ?_
    refine AL.val rfl (.inl rfl) (HV.mv rfl) ?_
    obtain ⟨p6, z7, cs8, hz9, hK10, hC11, hP12⟩ := RdK.ix (q := (i : Int)) hr sl37 (by omega) (by omega)
    obtain ⟨v13, rfl, hr14⟩ := hK10
    have hm15 := hr14.max
    refine AL.val rfl (.inl rfl) (hP12 rfl rfl) ?_
    refine AL.val rfl (.inl rfl) (HV.ld rfl va25 (cells_first (hC11.ext X3) rfl)) ?_
    refine AL.w rfl (.inl rfl) (WV.callv fn98 rfl rfl (opens1_ok (hr14.ext X3) (hlo _ (List.mem_of_getElem? hz9)) hb4)) ?_
    rintro _ H16 ⟨rfl, hx17⟩
    have X18 := Ext.trans X3 hx17
    have hb19 := hb4.ext hx17
    refine AL.nx ?_
    refine AW.ifd rfl (fun c20 => ?_) (fun c20 => ?_)
    · -- then
      refine AW.rs ?_
      refine AL.val rfl (.inl rfl) (HV.mv rfl) ?_
      refine AL.val rfl (.inl rfl) (HV.as rfl) ?_
      refine AL.nx ?_
      refine AW.ret ?_
      refine ret_blk (ret_and (ret_and (ret_blk (ret_and ?_))))
      refine post_one rfl rfl ?_ (.inr rfl)
      exact ⟨⟨_, rfl, fun _ => ⟨_, List.mem_of_getElem? hz9, c20⟩, fun _ => by omega⟩, X18⟩
    · -- else
      refine AW.skip ?_
      refine nrm_blk (nrm_and ?_)
      refine AW.reg ?_
      refine AL.val rfl (.inl rfl) (HV.add rfl rfl (by omega)) ?_
      refine AL.val rfl (.inl rfl) (HV.mv rfl) ?_
      refine AL.nil ?_
      refine nrm_and ?_
      exact ⟨i + 1, ⟨X18, hb19, by omega, fun j hj => by
      rcases Nat.lt_or_ge j i with h1 | h1
      · exact he j h1
      · obtain rfl : j = i := by omega
        have g15 : l.getD j [] = z7 := gd hz9 (by omega); rw [g15]; exact c20, trivial⟩, by first | omega | (dsimp only; omega), ⟨rfl, rfl, rfl, rfl, trivial⟩⟩
  · -- else
    refine AW.exit ?_
    refine ex_and (ex_and (ex_blk ?_))
    refine nrm_and ?_
    refine AW.rs ?_
    refine AL.val rfl (.inl rfl) (HV.as rfl) ?_
    refine AL.nx ?_
    refine AW.ret ?_
    refine post_one rfl rfl ?_ (.inr rfl)
    exact ⟨⟨_, rfl, fun h => absurd h (by decide), fun ⟨x, hx, h⟩ => by
    obtain ⟨j, hj, rfl⟩ := List.getElem_of_mem hx
    exact absurd (by simpa [hj] using h) (he j (by omega))⟩, X3⟩

set_option maxRecDepth 100000 in
theorem containsF_ok {v : Value} {l : List (List Int)} {ok : Nat → Prop} {b : Nat} {q : Int} (hr : RdK (kR kI) W H ok v l) (hlo : ∀ x ∈ l, ∀ h ∈ x, 0 ≤ h ∧ h < 64) (hb : At W H b ⟨76, [.int .u64 q], 1⟩) : ACalls Try.prog W 97 #[v, (.func (.func 98) #[] #[.pointer (some ⟨b, 0, none⟩)])] H (fun r H' => r = .bool (decide (opC q l)) ∧ Ext H H') := by
  refine ACalls.of (args := [v, (.func (.func 98) #[] #[.pointer (some ⟨b, 0, none⟩)])]) Try.func97 rfl rfl ?_
  have X0 := Ext.refl H
  have hm1 := hr.max
  refine AW.rs ?_
  refine AL.val rfl (.inl rfl) (HV.as rfl) ?_
  refine AL.nx ?_
  refine AW.rs ?_
  refine AL.val rfl (.inl rfl) (HV.mv rfl) ?_
  refine AL.val rfl (.inl rfl) (HV.mv rfl) ?_
  refine AL.w rfl (.inl rfl) (WV.call fn132 rfl (index_ok hr hlo hb)) ?_
  rintro _ H2 ⟨⟨q4, rfl, he5⟩, hx3⟩
  have X6 := Ext.trans X0 hx3
  have hb7 := hb.ext hx3
  refine AL.val rfl (.inl rfl) (HV.gei rfl rfl) ?_
  refine AL.val rfl (.inl rfl) (HV.as rfl) ?_
  refine AL.nx ?_
  refine AW.ret ?_
  refine post_one rfl rfl ?_ (.inr rfl)
  exact ⟨congrArg Value.bool (by rw [decide_eq_decide]; exact he5), X6⟩

set_option maxRecDepth 100000 in
theorem opens_ok {v : Value} {l : List (List Int)} {ok : Nat → Prop} (n : Int) (hr : RdK (kR kI) W H ok v l) (q : Int) (hlo : ∀ x ∈ l, ∀ h ∈ x, 0 ≤ h ∧ h < 64) : ACalls Try.prog W 64 #[.agg #[.int .i64 n, v], .int .u64 q] H (fun r H' => r = .bool (decide (opC q l)) ∧ Ext H H') := by
  refine ACalls.of (args := [.agg #[.int .i64 n, v], .int .u64 q]) Try.func64 rfl rfl ?_
  have X0 := Ext.refl H
  have hm1 := hr.max
  refine AW.rs ?_
  refine AL.w rfl (.inl rfl) (WV.bx rfl rfl) ?_
  rintro _ H3 ⟨b2, rfl, hx4, hn5, hb6⟩
  have o7 := Nat.le_trans X0.bd hn5
  have X8 := Ext.trans X0 hx4
  have X9 := Ext.refl H3
  refine AL.w rfl (.inl rfl) (WV.bx rfl rfl) ?_
  rintro _ H11 ⟨b10, rfl, hx12, hn13, hb14⟩
  have o15 := Nat.le_trans X8.bd hn13
  have o16 := Nat.le_trans X9.bd hn13
  have ne17 : b2 ≠ b10 := by have := hb6.lt; omega
  have X18 := Ext.trans X8 hx12
  have X19 := Ext.trans X9 hx12
  have hb20 := hb6.ext hx12
  have X21 := Ext.refl H11
  refine AL.val rfl (.inl rfl) (HV.as rfl) ?_
  refine AL.nx ?_
  refine AW.rs ?_
  refine AL.val rfl (.inl rfl) (HV.fa fl42_1 rfl) ?_
  refine AL.val rfl (.inl rfl) (HV.ld rfl va37 (at_cell_add hb20 rfl)) ?_
  refine AL.val rfl (.inl rfl) (HV.fn rfl rfl) ?_
  refine AL.w rfl (.inl rfl) (WV.call fn97 rfl (containsF_ok (hr.ext X18) hlo hb14)) ?_
  rintro _ H22 ⟨rfl, hx23⟩
  have X24 := Ext.trans X18 hx23
  have X25 := Ext.trans X19 hx23
  have X26 := Ext.trans X21 hx23
  have hb27 := hb20.ext hx23
  have hb28 := hb14.ext hx23
  refine AL.val rfl (.inl rfl) (HV.as rfl) ?_
  refine AL.nx ?_
  refine AW.ret ?_
  refine post_one rfl rfl ?_ (.inr rfl)
  exact ⟨rfl, X24⟩

set_option maxRecDepth 100000 in
theorem validFam_ok {v : Value} {l : List (List Int)} {ok : Nat → Prop} (n : Int) (hr : RdK (kR kI) W H ok v l) : ACalls Try.prog W 63 #[.agg #[.int .i64 n, v]] H (fun r H' => r = .bool (decide (okC n l)) ∧ Ext H H') := by
  refine ACalls.of (args := [.agg #[.int .i64 n, v]]) Try.func63 rfl rfl ?_
  have X0 := Ext.refl H
  have hm1 := hr.max
  refine AW.rs ?_
  refine AL.w rfl (.inl rfl) (WV.bx rfl rfl) ?_
  rintro _ H3 ⟨b2, rfl, hx4, hn5, hb6⟩
  have o7 := Nat.le_trans X0.bd hn5
  have X8 := Ext.trans X0 hx4
  have X9 := Ext.refl H3
  refine AL.val rfl (.inl rfl) (HV.as rfl) ?_
  refine AL.nx ?_
  refine AW.seq ?_
  refine AW.rs ?_
  refine AL.val rfl (.inl rfl) (HV.fa fl42_0 rfl) ?_
  refine AL.val rfl (.inl rfl) (HV.ld rfl va2 (at_cell hb6 rfl)) ?_
  refine AL.w rfl (.inl rfl) (WV.call fn81 rfl (within_ok (W := W) n 1 7)) ?_
  rintro _ H10 ⟨rfl, hx11⟩
  have X12 := Ext.trans X8 hx11
  have X13 := Ext.trans X9 hx11
  have hb14 := hb6.ext hx11
  refine AL.val rfl (.inl rfl) (HV.not rfl) ?_
  refine AL.nx ?_
  refine AW.ifn rfl (fun c15 => ?_) (fun c15 => ?_)
  · -- then
    refine AW.rs ?_
    refine AL.val rfl (.inl rfl) (HV.as rfl) ?_
    refine AL.nx ?_
    refine AW.ret ?_
    refine ret_and ?_
    refine post_one rfl rfl ?_ (.inr rfl)
    exact ⟨dec_f (fun h => c15 h.1), X12⟩
  · -- else
    refine AW.skip ?_
    refine nrm_and ?_
    refine AW.seq ?_
    refine AW.rs ?_
    refine AL.val rfl (.inl rfl) (HV.fa fl42_1 rfl) ?_
    refine AL.val rfl (.inl rfl) (HV.ld rfl va37 (at_cell_add hb14 rfl)) ?_
    refine AL.val rfl (.inl rfl) (HV.len Try.underlying37 rfl hr.isSl) ?_
    refine AL.val rfl (.inl rfl) (HV.mv rfl) ?_
    refine AL.nx ?_
    refine AW.block ?_
    have hn : 1 ≤ n ∧ n ≤ 7 := by omega
    have X16 := Ext.refl H10
    refine AW.loop (σ := Nat) (fun i => [(1, .pointer (some ⟨b2, 0, none⟩)), (14, v), (15, .int .i64 (l.length : Int)), (16, .int .i64 (i : Int))]) (fun i H' => Ext H H' ∧ Ext H3 H' ∧ Ext H10 H' ∧ At W H' b2 ⟨42, [.int .i64 n, v], 2⟩ ∧ i ≤ l.length ∧ (∀ k, k < i → RowAt n l k ∧ ∀ j, j < k → ¬ inC (l.getD j []) (l.getD k []) ∧ ¬ inC (l.getD k []) (l.getD j [])) ∧ True) (fun i => l.length - i) 0 ⟨X12, X13, X16, hb14, Nat.zero_le _, fun j hj => absurd hj (Nat.not_lt_zero _), trivial⟩ ⟨rfl, rfl, rfl, rfl, trivial⟩ ?_
    rintro i H17 ⟨X18, X19, X20, hb21, hi, he, _⟩
    refine AW.rs ?_
    refine AL.val rfl (.inl rfl) (HV.lti rfl rfl) ?_
    refine AL.nx ?_
    refine AW.seq ?_
    refine AW.ifd rfl (fun c22 => ?_) (fun c22 => ?_)
    · -- then
      refine AW.skip ?_
      refine nrm_and ?_
      refine AW.seq ?_
      refine AW.block ?_
      refine AW.rs ?_
      refine AL.val rfl (.inl rfl) (HV.mv rfl) ?_
      obtain ⟨p23, z24, cs25, hz26, hK27, hC28, hP29⟩ := RdK.ix (q := (i : Int)) hr sl37 (by omega) (by omega)
      obtain ⟨v30, rfl, hr31⟩ := hK27
      have hm32 := hr31.max
      refine AL.val rfl (.inl rfl) (hP29 rfl rfl) ?_
      refine AL.val rfl (.inl rfl) (HV.ld rfl va25 (cells_first (hC28.ext X18) rfl)) ?_
      refine AL.val rfl (.inl rfl) (HV.as rfl) ?_
      refine AL.val rfl (.inl rfl) (HV.as rfl) ?_
      refine AL.nx ?_
      refine AW.seq ?_
      refine AW.rs ?_
      refine AL.val rfl (.inl rfl) (HV.fa fl42_0 rfl) ?_
      refine AL.val rfl (.inl rfl) (HV.ld rfl va2 (at_cell hb21 rfl)) ?_
      refine AL.val rfl (.inl rfl) (HV.mv rfl) ?_
      refine AL.w rfl (.inl rfl) (WV.call fn55 rfl (isGroup_ok n (hr31.ext X18) (by omega))) ?_
      rintro _ H33 ⟨rfl, hx34⟩
      have X35 := Ext.trans X18 hx34
      have X36 := Ext.trans X19 hx34
      have X37 := Ext.trans X20 hx34
      have hb38 := hb21.ext hx34
      refine AL.val rfl (.inl rfl) (HV.not rfl) ?_
      refine AL.val rfl (.inl rfl) (HV.mv rfl) ?_
      by_cases c39 : Ris 0 (n - 1) z24
      · -- false
        have c39_ : (!decide (Ris 0 (n - 1) z24)) = false := by rw [decide_eq_true c39]; rfl
        rw [c39_]
        refine AL.val rfl (.inr ⟨_, _, _, rfl, rfl, rfl⟩) (HV.mv rfl) ?_
        refine AL.val rfl (.inr ⟨_, _, _, rfl, rfl, rfl⟩) (HV.gti rfl rfl) ?_
        refine AL.val rfl (.inr ⟨_, _, _, rfl, rfl, rfl⟩) (HV.mv rfl) ?_
        by_cases c40 : (i : Int) > 0
        · -- true
          have c40_ : decide ((i : Int) > 0) = true := decide_eq_true c40
          rw [c40_]
          refine AL.val rfl (.inr ⟨_, _, _, rfl, rfl, rfl⟩) (HV.fa fl42_1 rfl) ?_
          refine AL.val rfl (.inr ⟨_, _, _, rfl, rfl, rfl⟩) (HV.ld rfl va37 (at_cell_add hb38 rfl)) ?_
          refine AL.val rfl (.inr ⟨_, _, _, rfl, rfl, rfl⟩) (HV.mv rfl) ?_
          refine AL.val rfl (.inr ⟨_, _, _, rfl, rfl, rfl⟩) (HV.sub rfl rfl (by omega)) ?_
          obtain ⟨p41, z42, cs43, hz44, hK45, hC46, hP47⟩ := RdK.ix (q := (i : Int) - 1) hr sl37 (by omega) (by omega)
          obtain ⟨v48, rfl, hr49⟩ := hK45
          have hm50 := hr49.max
          refine AL.val rfl (.inr ⟨_, _, _, rfl, rfl, rfl⟩) (hP47 rfl rfl) ?_
          refine AL.val rfl (.inr ⟨_, _, _, rfl, rfl, rfl⟩) (HV.ld rfl va25 (cells_first (hC46.ext X35) rfl)) ?_
          refine AL.val rfl (.inr ⟨_, _, _, rfl, rfl, rfl⟩) (HV.mv rfl) ?_
          refine AL.w rfl (.inr ⟨_, _, _, rfl, rfl, rfl⟩) (WV.call fn95 rfl (lexI_ok (hr49.ext X35) (hr31.ext X35))) ?_
          rintro _ H51 ⟨rfl, hx52⟩
          have X53 := Ext.trans X35 hx52
          have X54 := Ext.trans X36 hx52
          have X55 := Ext.trans X37 hx52
          have hb56 := hb38.ext hx52
          refine AL.val rfl (.inr ⟨_, _, _, rfl, rfl, rfl⟩) (HV.gei rfl rfl) ?_
          refine AL.val rfl (.inr ⟨_, _, _, rfl, rfl, rfl⟩) (HV.pickT rfl rfl) ?_
          refine AL.val rfl (.inl rfl) (HV.pickF rfl rfl) ?_
          refine AL.nx ?_
          refine AW.ifd rfl (fun c57 => ?_) (fun c57 => ?_)
          · -- then
            refine AW.rs ?_
            refine AL.val rfl (.inl rfl) (HV.as rfl) ?_
            refine AL.nx ?_
            refine AW.ret ?_
            refine ret_and (ret_blk (ret_and (ret_and (ret_blk (ret_and ?_)))))
            refine post_one rfl rfl ?_ (.inr rfl)
            exact ⟨dec_f (fun h => by have q := (h.2 i (by omega)).1.2 (by omega); have g35 : l.getD (i - 1) [] = z42 := gd hz44 (by omega); have g20 : l.getD i [] = z24 := gd hz26 (by omega); rw [g35, g20] at q; omega), X53⟩
          · -- else
            refine AW.skip ?_
            refine nrm_and ?_
            refine AW.rs ?_
            refine AL.val rfl (.inl rfl) (HV.fa fl42_1 rfl) ?_
            refine AL.val rfl (.inl rfl) (HV.ld rfl va37 (at_cell_add hb56 rfl)) ?_
            refine AL.val rfl (.inl rfl) (HV.mv rfl) ?_
            have X61 := Ext.refl H51
            obtain ⟨v58, hr59, hP60⟩ := RdK.cutH (q := (i : Int)) (hr.ext X53) sl37 (by omega) (by omega)
            refine AL.val rfl (.inl rfl) (hP60 rfl rfl) ?_
            refine AL.val rfl (.inl rfl) (HV.len Try.underlying37 rfl hr59.isSl) ?_
            refine AL.val rfl (.inl rfl) (HV.mv rfl) ?_
            refine AL.nx ?_
            refine AW.block ?_
            have hrow : RowAt n l i := ⟨by have g4 : l.getD i [] = z24 := gd hz26 (by omega); rw [g4]; assumption, fun h0 => by first | omega | (have g35 : l.getD (i - 1) [] = z42 := gd hz44 (by omega); have g4 : l.getD i [] = z24 := gd hz26 (by omega); rw [g35, g4]; first | assumption | omega)⟩
            have hris := hrow.1
            have g4 : l.getD i [] = z24 := gd hz26 (by omega); rw [g4] at hris
            have hT : (l.take (i : Int).toNat).length = i := by rw [List.length_take]; omega
            refine AW.loop (σ := Nat) (fun j => [(1, .pointer (some ⟨b2, 0, none⟩)), (3, .int .i64 (i : Int)), (4, v30), (14, v), (15, .int .i64 (l.length : Int)), (16, .int .i64 (i : Int)), (17, .bool (decide ((i : Int) < (l.length : Int)))), (18, .int .i64 (i : Int)), (19, .pointer (some p23)), (20, v30), (21, .pointer (some ⟨b2, 0, none⟩)), (22, .int .i64 n), (23, v30), (24, .bool (decide (Ris 0 (n - 1) z24))), (25, .bool false), (26, .bool false), (27, .int .i64 (i : Int)), (28, .bool true), (29, .bool true), (30, .pointer (some ⟨b2, 1, none⟩)), (31, v), (32, .int .i64 (i : Int)), (33, .int .i64 ((i : Int) - 1)), (34, .pointer (some p41)), (35, v48), (36, v30), (37, .int .i64 (lexI z42 z24)), (38, .bool (decide ((lexI z42 z24) ≥ 0))), (39, .bool (decide ((lexI z42 z24) ≥ 0))), (40, .bool (decide ((lexI z42 z24) ≥ 0))), (41, .pointer (some ⟨b2, 1, none⟩)), (42, v), (43, .int .i64 (i : Int)), (44, v58), (45, .int .i64 ((l.take ((i : Int) : Int).toNat).length : Int)), (46, .int .i64 (j : Int))]) (fun j H' => Ext H H' ∧ Ext H3 H' ∧ Ext H10 H' ∧ Ext H51 H' ∧ At W H' b2 ⟨42, [.int .i64 n, v], 2⟩ ∧ j ≤ i ∧ (∀ k, k < j → ¬ inC (l.getD k []) (l.getD i []) ∧ ¬ inC (l.getD i []) (l.getD k [])) ∧ True) (fun j => i - j) 0 ⟨X53, X54, X55, X61, hb56, Nat.zero_le _, fun j hj => absurd hj (Nat.not_lt_zero _), trivial⟩ ⟨rfl, rfl, rfl, rfl, rfl, rfl, rfl, rfl, rfl, rfl, rfl, rfl, rfl, rfl, rfl, rfl, rfl, rfl, rfl, rfl, rfl, rfl, rfl, rfl, rfl, rfl, rfl, rfl, rfl, rfl, rfl, rfl, rfl, rfl, rfl, rfl, trivial⟩ ?_
            rintro j H62 ⟨X63, X64, X65, X66, hb67, hj, hk, _⟩
            refine AW.rs ?_
            refine AL.val rfl (.inl rfl) (HV.lti rfl rfl) ?_
            refine AL.nx ?_
            refine AW.seq ?_
            refine AW.ifd rfl (fun c68 => ?_) (fun c68 => ?_)
            · -- then
              refine AW.skip ?_
              refine nrm_and ?_
              refine AW.seq ?_
              refine AW.block ?_
              refine AW.rs ?_
              obtain ⟨p69, z70, cs71, hz72, hK73, hC74, hP75⟩ := RdK.ix (q := (j : Int)) hr59 sl37 (by omega) (by omega)
              obtain ⟨v76, rfl, hr77⟩ := hK73
              have hm78 := hr77.max
              refine AL.val rfl (.inl rfl) (hP75 rfl rfl) ?_
              refine AL.val rfl (.inl rfl) (HV.ld rfl va25 (cells_first (hC74.ext X66) rfl)) ?_
              refine AL.val rfl (.inl rfl) (HV.as rfl) ?_
              refine AL.nx ?_
              refine AW.rs ?_
              refine AL.val rfl (.inl rfl) (HV.mv rfl) ?_
              refine AL.w rfl (.inl rfl) (WV.call fn57 rfl (crowdOf_ok (hr77.ext X66) (ris_low hn (by have q := (he j (by omega)).1.1; rwa [gdt hz72 rfl] at q)))) ?_
              rintro _ H79 ⟨rfl, hx80⟩
              have X81 := Ext.trans X63 hx80
              have X82 := Ext.trans X64 hx80
              have X83 := Ext.trans X65 hx80
              have X84 := Ext.trans X66 hx80
              have hb85 := hb67.ext hx80
              refine AL.val rfl (.inl rfl) (HV.mv rfl) ?_
              refine AL.w rfl (.inl rfl) (WV.call fn57 rfl (crowdOf_ok (hr31.ext X81) (ris_low hn hris))) ?_
              rintro _ H86 ⟨rfl, hx87⟩
              have X88 := Ext.trans X81 hx87
              have X89 := Ext.trans X82 hx87
              have X90 := Ext.trans X83 hx87
              have X91 := Ext.trans X84 hx87
              have hb92 := hb85.ext hx87
              refine AL.val rfl (.inl rfl) (HV.as rfl) ?_
              refine AL.val rfl (.inl rfl) (HV.as rfl) ?_
              refine AL.nx ?_
              refine AW.rs ?_
              refine AL.val rfl (.inl rfl) (HV.mv rfl) ?_
              refine AL.val rfl (.inl rfl) (HV.mv rfl) ?_
              refine AL.w rfl (.inl rfl) (WV.call fn96 rfl (contains_ok (W := W) (crowd z70) (crowd z24))) ?_
              rintro _ H93 ⟨rfl, hx94⟩
              have X95 := Ext.trans X88 hx94
              have X96 := Ext.trans X89 hx94
              have X97 := Ext.trans X90 hx94
              have X98 := Ext.trans X91 hx94
              have hb99 := hb92.ext hx94
              refine AL.val rfl (.inl rfl) (HV.mv rfl) ?_
              by_cases c100 : bt .and .u64 (crowd z70) (crowd z24) = (crowd z24)
              · -- true
                have c100_ : decide (bt .and .u64 (crowd z70) (crowd z24) = (crowd z24)) = true := decide_eq_true c100
                rw [c100_]
                refine AL.off rfl rfl (by decide) rfl ?_
                refine AL.off rfl rfl (by decide) rfl ?_
                refine AL.off rfl rfl (by decide) rfl ?_
                refine AL.val rfl (.inl rfl) (HV.pickT rfl rfl) ?_
                refine AL.nx ?_
                refine AW.cond rfl (fun _ => ?_) (fun h => by cases h)
                refine AW.rs ?_
                refine AL.val rfl (.inl rfl) (HV.as rfl) ?_
                refine AL.nx ?_
                refine AW.ret ?_
                refine ret_blk (ret_and (ret_and (ret_blk (ret_blk (ret_and (ret_and (ret_blk (ret_and ?_))))))))
                refine post_one rfl rfl ?_ (.inr rfl)
                exact ⟨dec_f (fun h => by have q := ((h.2 i (by omega)).2 j (by omega)).1; have g4 : l.getD i [] = z24 := gd hz26 (by omega); rw [g4, gdt hz72 rfl] at q; exact q c100), X95⟩
              · -- false
                have c100_ : decide (bt .and .u64 (crowd z70) (crowd z24) = (crowd z24)) = false := decide_eq_false c100
                rw [c100_]
                refine AL.val rfl (.inr ⟨_, _, _, rfl, rfl, rfl⟩) (HV.mv rfl) ?_
                refine AL.val rfl (.inr ⟨_, _, _, rfl, rfl, rfl⟩) (HV.mv rfl) ?_
                refine AL.w rfl (.inr ⟨_, _, _, rfl, rfl, rfl⟩) (WV.call fn96 rfl (contains_ok (W := W) (crowd z24) (crowd z70))) ?_
                rintro _ H102 ⟨rfl, hx103⟩
                have X104 := Ext.trans X95 hx103
                have X105 := Ext.trans X96 hx103
                have X106 := Ext.trans X97 hx103
                have X107 := Ext.trans X98 hx103
                have hb108 := hb99.ext hx103
                refine AL.val rfl (.inl rfl) (HV.pickF rfl rfl) ?_
                refine AL.nx ?_
                refine AW.ifd rfl (fun c109 => ?_) (fun c109 => ?_)
                · -- then
                  refine AW.rs ?_
                  refine AL.val rfl (.inl rfl) (HV.as rfl) ?_
                  refine AL.nx ?_
                  refine AW.ret ?_
                  refine ret_blk (ret_and (ret_and (ret_blk (ret_blk (ret_and (ret_and (ret_blk (ret_and ?_))))))))
                  refine post_one rfl rfl ?_ (.inr rfl)
                  exact ⟨dec_f (fun h => by have q := ((h.2 i (by omega)).2 j (by omega)).2; have g4 : l.getD i [] = z24 := gd hz26 (by omega); rw [g4, gdt hz72 rfl] at q; exact q c109), X104⟩
                · -- else
                  refine AW.skip ?_
                  refine nrm_blk (nrm_and ?_)
                  refine AW.reg ?_
                  refine AL.val rfl (.inl rfl) (HV.add rfl rfl (by omega)) ?_
                  refine AL.val rfl (.inl rfl) (HV.mv rfl) ?_
                  refine AL.nil ?_
                  refine nrm_and ?_
                  exact ⟨j + 1, ⟨X104, X105, X106, X107, hb108, by omega, fun k hk' => by
      rcases Nat.lt_or_ge k j with h1 | h1
      · exact hk k h1
      · obtain rfl : k = j := by omega
        have g4 : l.getD i [] = z24 := gd hz26 (by omega); rw [g4, gdt hz72 rfl]; exact ⟨by assumption, by assumption⟩, trivial⟩, by first | omega | (dsimp only; omega), ⟨rfl, rfl, rfl, rfl, rfl, rfl, rfl, rfl, rfl, rfl, rfl, rfl, rfl, rfl, rfl, rfl, rfl, rfl, rfl, rfl, rfl, rfl, rfl, rfl, rfl, rfl, rfl, rfl, rfl, rfl, rfl, rfl, rfl, rfl, rfl, rfl, trivial⟩⟩
            · -- else
              refine AW.exit ?_
              refine ex_and (ex_and (ex_blk ?_))
              refine nrm_blk (nrm_and ?_)
              refine AW.reg ?_
              refine AL.val rfl (.inl rfl) (HV.add rfl rfl (by omega)) ?_
              refine AL.val rfl (.inl rfl) (HV.mv rfl) ?_
              refine AL.nil ?_
              refine nrm_and ?_
              exact ⟨i + 1, ⟨X63, X64, X65, hb67, by omega, fun k hk' => by
      rcases Nat.lt_or_ge k i with h1 | h1
      · exact he k h1
      · obtain rfl : k = i := by omega
        exact ⟨hrow, fun j' hj' => hk j' (by omega)⟩, trivial⟩, by first | omega | (dsimp only; omega), ⟨rfl, rfl, rfl, rfl, trivial⟩⟩
        · -- false
          have c40_ : decide ((i : Int) > 0) = false := decide_eq_false c40
          rw [c40_]
          refine AL.off rfl rfl (by decide) rfl ?_
          refine AL.off rfl rfl (by decide) rfl ?_
          refine AL.off rfl rfl (by decide) rfl ?_
          refine AL.off rfl rfl (by decide) rfl ?_
          refine AL.off rfl rfl (by decide) rfl ?_
          refine AL.off rfl rfl (by decide) rfl ?_
          refine AL.off rfl rfl (by decide) rfl ?_
          refine AL.off rfl rfl (by decide) rfl ?_
          refine AL.off rfl rfl (by decide) rfl ?_
          refine AL.val rfl (.inr ⟨_, _, _, rfl, rfl, rfl⟩) (HV.pickF rfl rfl) ?_
          refine AL.val rfl (.inl rfl) (HV.pickF rfl rfl) ?_
          refine AL.nx ?_
          refine AW.cond rfl (fun h => by cases h) (fun _ => ?_)
          refine AW.skip ?_
          refine nrm_and ?_
          refine AW.rs ?_
          refine AL.val rfl (.inl rfl) (HV.fa fl42_1 rfl) ?_
          refine AL.val rfl (.inl rfl) (HV.ld rfl va37 (at_cell_add hb38 rfl)) ?_
          refine AL.val rfl (.inl rfl) (HV.mv rfl) ?_
          have X114 := Ext.refl H33
          obtain ⟨v111, hr112, hP113⟩ := RdK.cutH (q := (i : Int)) (hr.ext X35) sl37 (by omega) (by omega)
          refine AL.val rfl (.inl rfl) (hP113 rfl rfl) ?_
          refine AL.val rfl (.inl rfl) (HV.len Try.underlying37 rfl hr112.isSl) ?_
          refine AL.val rfl (.inl rfl) (HV.mv rfl) ?_
          refine AL.nx ?_
          refine AW.block ?_
          have hrow : RowAt n l i := ⟨by have g4 : l.getD i [] = z24 := gd hz26 (by omega); rw [g4]; assumption, fun h0 => by first | omega | (have g4 : l.getD i [] = z24 := gd hz26 (by omega); rw [g35, g4]; first | assumption | omega)⟩
          have hris := hrow.1
          have g4 : l.getD i [] = z24 := gd hz26 (by omega); rw [g4] at hris
          have hT : (l.take (i : Int).toNat).length = i := by rw [List.length_take]; omega
          refine AW.loop (σ := Nat) (fun j => [(1, .pointer (some ⟨b2, 0, none⟩)), (3, .int .i64 (i : Int)), (4, v30), (14, v), (15, .int .i64 (l.length : Int)), (16, .int .i64 (i : Int)), (17, .bool (decide ((i : Int) < (l.length : Int)))), (18, .int .i64 (i : Int)), (19, .pointer (some p23)), (20, v30), (21, .pointer (some ⟨b2, 0, none⟩)), (22, .int .i64 n), (23, v30), (24, .bool (decide (Ris 0 (n - 1) z24))), (25, .bool false), (26, .bool false), (27, .int .i64 (i : Int)), (28, .bool false), (29, .bool false), (39, .bool false), (40, .bool false), (41, .pointer (some ⟨b2, 1, none⟩)), (42, v), (43, .int .i64 (i : Int)), (44, v111), (45, .int .i64 ((l.take ((i : Int) : Int).toNat).length : Int)), (46, .int .i64 (j : Int))]) (fun j H' => Ext H H' ∧ Ext H3 H' ∧ Ext H10 H' ∧ Ext H33 H' ∧ At W H' b2 ⟨42, [.int .i64 n, v], 2⟩ ∧ j ≤ i ∧ (∀ k, k < j → ¬ inC (l.getD k []) (l.getD i []) ∧ ¬ inC (l.getD i []) (l.getD k [])) ∧ True) (fun j => i - j) 0 ⟨X35, X36, X37, X114, hb38, Nat.zero_le _, fun j hj => absurd hj (Nat.not_lt_zero _), trivial⟩ ⟨rfl, rfl, rfl, rfl, rfl, rfl, rfl, rfl, rfl, rfl, rfl, rfl, rfl, rfl, rfl, rfl, rfl, rfl, rfl, rfl, rfl, rfl, rfl, rfl, rfl, rfl, rfl, trivial⟩ ?_
          rintro j H115 ⟨X116, X117, X118, X119, hb120, hj, hk, _⟩
          refine AW.rs ?_
          refine AL.val rfl (.inl rfl) (HV.lti rfl rfl) ?_
          refine AL.nx ?_
          refine AW.seq ?_
          refine AW.ifd rfl (fun c121 => ?_) (fun c121 => ?_)
          · -- then
            refine AW.skip ?_
            refine nrm_and ?_
            refine AW.seq ?_
            refine AW.block ?_
            refine AW.rs ?_
            obtain ⟨p122, z123, cs124, hz125, hK126, hC127, hP128⟩ := RdK.ix (q := (j : Int)) hr112 sl37 (by omega) (by omega)
            obtain ⟨v129, rfl, hr130⟩ := hK126
            have hm131 := hr130.max
            refine AL.val rfl (.inl rfl) (hP128 rfl rfl) ?_
            refine AL.val rfl (.inl rfl) (HV.ld rfl va25 (cells_first (hC127.ext X119) rfl)) ?_
            refine AL.val rfl (.inl rfl) (HV.as rfl) ?_
            refine AL.nx ?_
            refine AW.rs ?_
            refine AL.val rfl (.inl rfl) (HV.mv rfl) ?_
            refine AL.w rfl (.inl rfl) (WV.call fn57 rfl (crowdOf_ok (hr130.ext X119) (ris_low hn (by have q := (he j (by omega)).1.1; rwa [gdt hz125 rfl] at q)))) ?_
            rintro _ H132 ⟨rfl, hx133⟩
            have X134 := Ext.trans X116 hx133
            have X135 := Ext.trans X117 hx133
            have X136 := Ext.trans X118 hx133
            have X137 := Ext.trans X119 hx133
            have hb138 := hb120.ext hx133
            refine AL.val rfl (.inl rfl) (HV.mv rfl) ?_
            refine AL.w rfl (.inl rfl) (WV.call fn57 rfl (crowdOf_ok (hr31.ext X134) (ris_low hn hris))) ?_
            rintro _ H139 ⟨rfl, hx140⟩
            have X141 := Ext.trans X134 hx140
            have X142 := Ext.trans X135 hx140
            have X143 := Ext.trans X136 hx140
            have X144 := Ext.trans X137 hx140
            have hb145 := hb138.ext hx140
            refine AL.val rfl (.inl rfl) (HV.as rfl) ?_
            refine AL.val rfl (.inl rfl) (HV.as rfl) ?_
            refine AL.nx ?_
            refine AW.rs ?_
            refine AL.val rfl (.inl rfl) (HV.mv rfl) ?_
            refine AL.val rfl (.inl rfl) (HV.mv rfl) ?_
            refine AL.w rfl (.inl rfl) (WV.call fn96 rfl (contains_ok (W := W) (crowd z123) (crowd z24))) ?_
            rintro _ H146 ⟨rfl, hx147⟩
            have X148 := Ext.trans X141 hx147
            have X149 := Ext.trans X142 hx147
            have X150 := Ext.trans X143 hx147
            have X151 := Ext.trans X144 hx147
            have hb152 := hb145.ext hx147
            refine AL.val rfl (.inl rfl) (HV.mv rfl) ?_
            by_cases c153 : bt .and .u64 (crowd z123) (crowd z24) = (crowd z24)
            · -- true
              have c153_ : decide (bt .and .u64 (crowd z123) (crowd z24) = (crowd z24)) = true := decide_eq_true c153
              rw [c153_]
              refine AL.off rfl rfl (by decide) rfl ?_
              refine AL.off rfl rfl (by decide) rfl ?_
              refine AL.off rfl rfl (by decide) rfl ?_
              refine AL.val rfl (.inl rfl) (HV.pickT rfl rfl) ?_
              refine AL.nx ?_
              refine AW.cond rfl (fun _ => ?_) (fun h => by cases h)
              refine AW.rs ?_
              refine AL.val rfl (.inl rfl) (HV.as rfl) ?_
              refine AL.nx ?_
              refine AW.ret ?_
              refine ret_blk (ret_and (ret_and (ret_blk (ret_blk (ret_and (ret_and (ret_blk (ret_and ?_))))))))
              refine post_one rfl rfl ?_ (.inr rfl)
              exact ⟨dec_f (fun h => by have q := ((h.2 i (by omega)).2 j (by omega)).1; have g4 : l.getD i [] = z24 := gd hz26 (by omega); rw [g4, gdt hz125 rfl] at q; exact q c153), X148⟩
            · -- false
              have c153_ : decide (bt .and .u64 (crowd z123) (crowd z24) = (crowd z24)) = false := decide_eq_false c153
              rw [c153_]
              refine AL.val rfl (.inr ⟨_, _, _, rfl, rfl, rfl⟩) (HV.mv rfl) ?_
              refine AL.val rfl (.inr ⟨_, _, _, rfl, rfl, rfl⟩) (HV.mv rfl) ?_
              refine AL.w rfl (.inr ⟨_, _, _, rfl, rfl, rfl⟩) (WV.call fn96 rfl (contains_ok (W := W) (crowd z24) (crowd z123))) ?_
              rintro _ H155 ⟨rfl, hx156⟩
              have X157 := Ext.trans X148 hx156
              have X158 := Ext.trans X149 hx156
              have X159 := Ext.trans X150 hx156
              have X160 := Ext.trans X151 hx156
              have hb161 := hb152.ext hx156
              refine AL.val rfl (.inl rfl) (HV.pickF rfl rfl) ?_
              refine AL.nx ?_
              refine AW.ifd rfl (fun c162 => ?_) (fun c162 => ?_)
              · -- then
                refine AW.rs ?_
                refine AL.val rfl (.inl rfl) (HV.as rfl) ?_
                refine AL.nx ?_
                refine AW.ret ?_
                refine ret_blk (ret_and (ret_and (ret_blk (ret_blk (ret_and (ret_and (ret_blk (ret_and ?_))))))))
                refine post_one rfl rfl ?_ (.inr rfl)
                exact ⟨dec_f (fun h => by have q := ((h.2 i (by omega)).2 j (by omega)).2; have g4 : l.getD i [] = z24 := gd hz26 (by omega); rw [g4, gdt hz125 rfl] at q; exact q c162), X157⟩
              · -- else
                refine AW.skip ?_
                refine nrm_blk (nrm_and ?_)
                refine AW.reg ?_
                refine AL.val rfl (.inl rfl) (HV.add rfl rfl (by omega)) ?_
                refine AL.val rfl (.inl rfl) (HV.mv rfl) ?_
                refine AL.nil ?_
                refine nrm_and ?_
                exact ⟨j + 1, ⟨X157, X158, X159, X160, hb161, by omega, fun k hk' => by
      rcases Nat.lt_or_ge k j with h1 | h1
      · exact hk k h1
      · obtain rfl : k = j := by omega
        have g4 : l.getD i [] = z24 := gd hz26 (by omega); rw [g4, gdt hz125 rfl]; exact ⟨by assumption, by assumption⟩, trivial⟩, by first | omega | (dsimp only; omega), ⟨rfl, rfl, rfl, rfl, rfl, rfl, rfl, rfl, rfl, rfl, rfl, rfl, rfl, rfl, rfl, rfl, rfl, rfl, rfl, rfl, rfl, rfl, rfl, rfl, rfl, rfl, rfl, trivial⟩⟩
          · -- else
            refine AW.exit ?_
            refine ex_and (ex_and (ex_blk ?_))
            refine nrm_blk (nrm_and ?_)
            refine AW.reg ?_
            refine AL.val rfl (.inl rfl) (HV.add rfl rfl (by omega)) ?_
            refine AL.val rfl (.inl rfl) (HV.mv rfl) ?_
            refine AL.nil ?_
            refine nrm_and ?_
            exact ⟨i + 1, ⟨X116, X117, X118, hb120, by omega, fun k hk' => by
      rcases Nat.lt_or_ge k i with h1 | h1
      · exact he k h1
      · obtain rfl : k = i := by omega
        exact ⟨hrow, fun j' hj' => hk j' (by omega)⟩, trivial⟩, by first | omega | (dsimp only; omega), ⟨rfl, rfl, rfl, rfl, trivial⟩⟩
      · -- true
        have c39_ : (!decide (Ris 0 (n - 1) z24)) = true := by rw [decide_eq_false c39]; rfl
        rw [c39_]
        refine AL.off rfl rfl (by decide) rfl ?_
        refine AL.off rfl rfl (by decide) rfl ?_
        refine AL.off rfl rfl (by decide) rfl ?_
        refine AL.offu rfl rfl rfl ?_
        refine AL.offu rfl rfl rfl ?_
        refine AL.offu rfl rfl rfl ?_
        refine AL.offu rfl rfl rfl ?_
        refine AL.offu rfl rfl rfl ?_
        refine AL.offu rfl rfl rfl ?_
        refine AL.offu rfl rfl rfl ?_
        refine AL.offu rfl rfl rfl ?_
        refine AL.offu rfl rfl rfl ?_
        refine AL.off rfl rfl (by decide) rfl ?_
        refine AL.val rfl (.inl rfl) (HV.pickT rfl rfl) ?_
        refine AL.nx ?_
        refine AW.cond rfl (fun _ => ?_) (fun h => by cases h)
        refine AW.rs ?_
        refine AL.val rfl (.inl rfl) (HV.as rfl) ?_
        refine AL.nx ?_
        refine AW.ret ?_
        refine ret_and (ret_blk (ret_and (ret_and (ret_blk (ret_and ?_)))))
        refine post_one rfl rfl ?_ (.inr rfl)
        exact ⟨dec_f (fun h => by have q := (h.2 i (by omega)).1.1; have g20 : l.getD i [] = z24 := gd hz26 (by omega); rw [g20] at q; exact c39 q), X35⟩
    · -- else
      refine AW.exit ?_
      refine ex_and (ex_and (ex_blk ?_))
      refine nrm_and ?_
      refine AW.rs ?_
      refine AL.val rfl (.inl rfl) (HV.as rfl) ?_
      refine AL.nx ?_
      refine AW.ret ?_
      refine post_one rfl rfl ?_ (.inr rfl)
      exact ⟨dec_t ⟨hn, fun k hk => he k (by omega)⟩, X18⟩

set_option maxRecDepth 100000 in
theorem l01Ok_ok {v : Value} {l : List (List Int)} {ok : Nat → Prop} {n : Int} {b : Nat} (hr : RdK (kR kI) W H ok v l) (hb : At W H b ⟨42, [.int .i64 n, v], 2⟩) : ACalls Try.prog W 60 #[.pointer (some ⟨b, 0, none⟩)] H (fun r H' => r = .bool (decide (okI n l)) ∧ Ext H H') := by
  refine ACalls.of (args := [.pointer (some ⟨b, 0, none⟩)]) Try.func60 rfl rfl ?_
  have X0 := Ext.refl H
  have hmL := hr.max
  refine AW.rs ?_
  refine AL.val rfl (.inl rfl) (HV.as rfl) ?_
  refine AL.nx ?_
  refine AW.seq ?_
  refine AW.rs ?_
  refine AL.val rfl (.inl rfl) (HV.mv rfl) ?_
  refine AL.val rfl (.inl rfl) (HV.nc rfl) ?_
  refine AL.val rfl (.inl rfl) (HV.fa fl42_0 rfl) ?_
  refine AL.val rfl (.inl rfl) (HV.ld rfl va2 (at_cell hb rfl)) ?_
  refine AL.w rfl (.inl rfl) (WV.call fn76 rfl (l00In_ok (W := W) n 1 7)) ?_
  rintro _ H1 ⟨rfl, hx2⟩
  have X3 := Ext.trans X0 hx2
  have hb4 := hb.ext hx2
  refine AL.val rfl (.inl rfl) (HV.not rfl) ?_
  refine AL.nx ?_
  refine AW.ifn rfl (fun c5 => ?_) (fun c5 => ?_)
  · -- then
    refine AW.rs ?_
    refine AL.val rfl (.inl rfl) (HV.as rfl) ?_
    refine AL.nx ?_
    refine AW.ret ?_
    refine ret_and ?_
    refine post_one rfl rfl ?_ (.inr rfl)
    exact ⟨dec_f (fun h => c5 h.1), X3⟩
  · -- else
    refine AW.skip ?_
    refine nrm_and ?_
    refine AW.seq ?_
    refine AW.rs ?_
    refine AL.val rfl (.inl rfl) (HV.as rfl) ?_
    refine AL.nx ?_
    refine AW.block ?_
    have hn : 1 ≤ n ∧ n ≤ 7 := by omega
    have X6 := Ext.refl H1
    refine AW.loop (σ := Nat) (fun i => [(0, .pointer (some ⟨b, 0, none⟩)), (3, .int .i64 (i : Int))]) (fun i H' => Ext H H' ∧ Ext H1 H' ∧ At W H' b ⟨42, [.int .i64 n, v], 2⟩ ∧ i ≤ l.length ∧ (∀ k, k < i → RowAt n l k) ∧ True) (fun i => l.length - i) 0 ⟨X3, X6, hb4, Nat.zero_le _, fun j hj => absurd hj (Nat.not_lt_zero _), trivial⟩ ⟨rfl, rfl, trivial⟩ ?_
    rintro i H7 ⟨X8, X9, hb10, hi, he, _⟩
    refine AW.seq ?_
    refine AW.rs ?_
    refine AL.val rfl (.inl rfl) (HV.mv rfl) ?_
    refine AL.val rfl (.inl rfl) (HV.mv rfl) ?_
    refine AL.val rfl (.inl rfl) (HV.nc rfl) ?_
    refine AL.val rfl (.inl rfl) (HV.fa fl42_1 rfl) ?_
    refine AL.val rfl (.inl rfl) (HV.ld rfl va37 (at_cell_add hb10 rfl)) ?_
    refine AL.val rfl (.inl rfl) (HV.len Try.underlying37 rfl hr.isSl) ?_
    refine AL.val rfl (.inl rfl) (HV.lti rfl rfl) ?_
    refine AL.nx ?_
    refine AW.ifd rfl (fun c11 => ?_) (fun c11 => ?_)
    · -- then
      refine AW.skip ?_
      refine nrm_and ?_
      refine AW.seq ?_
      refine AW.block ?_
      refine AW.seq ?_
      refine AW.draw' [0, 1, 3, 7, 0, 16, 48, 112, 0, 496, 1008, 2047, 4095, 8191, 16383, 32767, 65535, 131071, 262143, 524287, 1048575, 131071, 2228223, 8388607, 16777215, 131071, 33685503, 100794367, 235012095, 131071, 1040318463, 2114060287, 4294967295, 8589934591, 17179869183, 34359738367] mixed (by rfl) ?_
      refine Dr.read 0 _ 21 _ rfl rfl rfl rfl rfl (RV.of (by intro _ _ h; cases h) (.inl rfl) (fun _ xd => HV.mv rfl)) ?_
      refine Dr.read 1 _ 22 _ rfl rfl rfl rfl rfl (RV.of (by intro _ _ h; cases h) (.inl rfl) (fun _ xd => HV.nc rfl)) ?_
      refine Dr.read 2 _ 23 _ rfl rfl rfl rfl rfl (RV.of (by intro _ _ h; cases h) (.inl rfl) (fun _ xd => HV.fa fl42_0 rfl)) ?_
      refine Dr.read 3 _ 24 _ rfl rfl rfl rfl rfl (RV.of (by intro _ _ h; cases h) (.inl rfl) (fun _ xd => HV.ld rfl va2 (rdc_ext xd (at_cell hb10 rfl)))) ?_
      refine Dr.read 4 _ 25 _ rfl rfl rfl rfl rfl (RV.of (by intro _ _ h; cases h) (.inl rfl) (fun _ xd => HV.mv rfl)) ?_
      refine Dr.read 5 _ 26 _ rfl rfl rfl rfl rfl (RV.of (by intro _ _ h; cases h) (.inl rfl) (fun _ xd => HV.nc rfl)) ?_
      refine Dr.read 6 _ 27 _ rfl rfl rfl rfl rfl (RV.of (by intro _ _ h; cases h) (.inl rfl) (fun _ xd => HV.fa fl42_1 rfl)) ?_
      refine Dr.read 7 _ 28 _ rfl rfl rfl rfl rfl (RV.of (by intro _ _ h; cases h) (.inl rfl) (fun _ xd => HV.ld rfl va37 (rdc_ext xd (at_cell_add hb10 rfl)))) ?_
      refine Dr.read 8 _ 29 _ rfl rfl rfl rfl rfl (RV.of (by intro _ _ h; cases h) (.inl rfl) (fun _ xd => HV.mv rfl)) ?_
      obtain ⟨p12, z13, cs14, hz15, hK16, hC17, hP18⟩ := RdK.ix (q := (i : Int)) hr sl37 (by omega) (by omega)
      obtain ⟨v19, rfl, hr20⟩ := hK16
      have hm21 := hr20.max
      refine Dr.read 9 _ 30 _ rfl rfl rfl rfl rfl (RV.of (by intro _ _ h; cases h) (.inl rfl) (fun _ xd => hP18 rfl rfl)) ?_
      refine Dr.read 10 _ 31 _ rfl rfl rfl rfl rfl (RV.of (by intro _ _ h; cases h) (.inl rfl) (fun _ xd => HV.ld rfl va25 (rdc_ext xd (cells_first (hC17.ext X8) rfl)))) ?_
      refine Dr.eff 11 _ _ rfl (by intro d h; cases h; exact ⟨rfl, rfl⟩) rfl rfl rfl (EC.of (by intro _ _ h; cases h) (.inl rfl) (WV.call fn50 rfl (l01Group_ok n (hr20.ext X8) (by omega)))) (fun v H' h => .inl (h.2)) ?_
      rintro _ H22 ⟨rfl, hx23⟩
      have X24 := Ext.trans X8 hx23
      have X25 := Ext.trans X9 hx23
      have hb26 := hb10.ext hx23
      refine Dr.read 12 _ 33 _ rfl rfl rfl rfl rfl (RV.of (by intro _ _ h; cases h) (.inl rfl) (fun _ xd => HV.not rfl)) ?_
      refine Dr.read 13 _ 34 _ rfl rfl rfl rfl rfl (RV.of (by intro _ _ h; cases h) (.inl rfl) (fun _ xd => HV.mv rfl)) ?_
      by_cases c27 : Ris 0 (n - 1) z13
      · -- false
        have c27_ : (!decide (Ris 0 (n - 1) z13)) = false := by rw [decide_eq_true c27]; rfl
        rw [c27_]
        refine Dr.read 14 _ 35 _ rfl rfl rfl rfl rfl (RV.of (by intro _ _ h; cases h) (.inr ⟨_, _, _, rfl, rfl, rfl⟩) (fun _ xd => HV.mv rfl)) ?_
        refine Dr.read 15 _ 36 _ rfl rfl rfl rfl rfl (RV.of (by intro _ _ h; cases h) (.inr ⟨_, _, _, rfl, rfl, rfl⟩) (fun _ xd => HV.gti rfl rfl)) ?_
        refine Dr.read 16 _ 37 _ rfl rfl rfl rfl rfl (RV.of (by intro _ _ h; cases h) (.inr ⟨_, _, _, rfl, rfl, rfl⟩) (fun _ xd => HV.mv rfl)) ?_
        by_cases c28 : (i : Int) > 0
        · -- true
          have c28_ : decide ((i : Int) > 0) = true := decide_eq_true c28
          rw [c28_]
          refine Dr.read 17 _ 38 _ rfl rfl rfl rfl rfl (RV.of (by intro _ _ h; cases h) (.inr ⟨_, _, _, rfl, rfl, rfl⟩) (fun _ xd => HV.mv rfl)) ?_
          refine Dr.read 18 _ 39 _ rfl rfl rfl rfl rfl (RV.of (by intro _ _ h; cases h) (.inr ⟨_, _, _, rfl, rfl, rfl⟩) (fun _ xd => HV.nc rfl)) ?_
          refine Dr.read 19 _ 40 _ rfl rfl rfl rfl rfl (RV.of (by intro _ _ h; cases h) (.inr ⟨_, _, _, rfl, rfl, rfl⟩) (fun _ xd => HV.fa fl42_1 rfl)) ?_
          refine Dr.read 20 _ 41 _ rfl rfl rfl rfl rfl (RV.of (by intro _ _ h; cases h) (.inr ⟨_, _, _, rfl, rfl, rfl⟩) (fun _ xd => HV.ld rfl va37 (rdc_ext xd (at_cell_add hb26 rfl)))) ?_
          refine Dr.read 21 _ 42 _ rfl rfl rfl rfl rfl (RV.of (by intro _ _ h; cases h) (.inr ⟨_, _, _, rfl, rfl, rfl⟩) (fun _ xd => HV.mv rfl)) ?_
          refine Dr.read 22 _ 43 _ rfl rfl rfl rfl rfl (RV.of (by intro _ _ h; cases h) (.inr ⟨_, _, _, rfl, rfl, rfl⟩) (fun _ xd => HV.sub rfl rfl (by omega))) ?_
          obtain ⟨p29, z30, cs31, hz32, hK33, hC34, hP35⟩ := RdK.ix (q := (i : Int) - 1) hr sl37 (by omega) (by omega)
          obtain ⟨v36, rfl, hr37⟩ := hK33
          have hm38 := hr37.max
          refine Dr.read 23 _ 44 _ rfl rfl rfl rfl rfl (RV.of (by intro _ _ h; cases h) (.inr ⟨_, _, _, rfl, rfl, rfl⟩) (fun _ xd => hP35 rfl rfl)) ?_
          refine Dr.read 24 _ 45 _ rfl rfl rfl rfl rfl (RV.of (by intro _ _ h; cases h) (.inr ⟨_, _, _, rfl, rfl, rfl⟩) (fun _ xd => HV.ld rfl va25 (rdc_ext xd (cells_first (hC34.ext X24) rfl)))) ?_
          refine Dr.read 25 _ 46 _ rfl rfl rfl rfl rfl (RV.of (by intro _ _ h; cases h) (.inr ⟨_, _, _, rfl, rfl, rfl⟩) (fun _ xd => HV.mv rfl)) ?_
          refine Dr.read 26 _ 47 _ rfl rfl rfl rfl rfl (RV.of (by intro _ _ h; cases h) (.inr ⟨_, _, _, rfl, rfl, rfl⟩) (fun _ xd => HV.nc rfl)) ?_
          refine Dr.read 27 _ 48 _ rfl rfl rfl rfl rfl (RV.of (by intro _ _ h; cases h) (.inr ⟨_, _, _, rfl, rfl, rfl⟩) (fun _ xd => HV.fa fl42_1 rfl)) ?_
          refine Dr.read 28 _ 49 _ rfl rfl rfl rfl rfl (RV.of (by intro _ _ h; cases h) (.inr ⟨_, _, _, rfl, rfl, rfl⟩) (fun _ xd => HV.ld rfl va37 (rdc_ext xd (at_cell_add hb26 rfl)))) ?_
          refine Dr.read 29 _ 50 _ rfl rfl rfl rfl rfl (RV.of (by intro _ _ h; cases h) (.inr ⟨_, _, _, rfl, rfl, rfl⟩) (fun _ xd => HV.mv rfl)) ?_
          obtain ⟨p39, z40, cs41, hz42, hK43, hC44, hP45⟩ := RdK.ix (q := (i : Int)) hr sl37 (by omega) (by omega)
          obtain ⟨v46, rfl, hr47⟩ := hK43
          have hm48 := hr47.max
          refine Dr.read 30 _ 51 _ rfl rfl rfl rfl rfl (RV.of (by intro _ _ h; cases h) (.inr ⟨_, _, _, rfl, rfl, rfl⟩) (fun _ xd => hP45 rfl rfl)) ?_
          refine Dr.read 31 _ 52 _ rfl rfl rfl rfl rfl (RV.of (by intro _ _ h; cases h) (.inr ⟨_, _, _, rfl, rfl, rfl⟩) (fun _ xd => HV.ld rfl va25 (rdc_ext xd (cells_first (hC44.ext X24) rfl)))) ?_
          refine Dr.eff 32 _ _ rfl (by intro d h; cases h; exact ⟨rfl, rfl⟩) rfl rfl rfl (EC.of (by intro _ _ h; cases h) (.inr ⟨_, _, _, rfl, rfl, rfl⟩) (WV.call fn93 rfl (l01Before_ok (hr37.ext X24) (hr47.ext X24)))) (fun v H' h => .inl (h.2)) ?_
          rintro _ H49 ⟨rfl, hx50⟩
          have X51 := Ext.trans X24 hx50
          have X52 := Ext.trans X25 hx50
          have hb53 := hb26.ext hx50
          refine Dr.read 33 _ 54 _ rfl rfl rfl rfl rfl (RV.of (by intro _ _ h; cases h) (.inr ⟨_, _, _, rfl, rfl, rfl⟩) (fun _ xd => HV.not rfl)) ?_
          refine Dr.read 34 _ 55 _ rfl rfl rfl rfl rfl (RV.of (by intro _ _ h; cases h) (.inr ⟨_, _, _, rfl, rfl, rfl⟩) (fun _ xd => HV.pickT rfl rfl)) ?_
          refine Dr.read 35 _ 56 _ rfl rfl rfl rfl rfl (RV.of (by intro _ _ h; cases h) (.inl rfl) (fun _ xd => HV.pickF rfl rfl)) ?_
          refine Dr.fin rfl ?_
          refine nrm_and ?_
          refine AW.ifn rfl (fun c54 => ?_) (fun c54 => ?_)
          · -- then
            refine AW.rs ?_
            refine AL.val rfl (.inl rfl) (HV.as rfl) ?_
            refine AL.nx ?_
            refine AW.ret ?_
            refine ret_blk (ret_and (ret_and (ret_blk (ret_and ?_))))
            refine post_one rfl rfl ?_ (.inr rfl)
            exact ⟨dec_f (fun h => by have q := (h.2.1 i (by omega)).2 (by omega); have g45 : l.getD (i - 1) [] = z30 := gd hz32 (by omega); have g52 : l.getD i [] = z40 := gd hz42 (by omega); rw [g45, g52] at q; exact c54 q), X51⟩
          · -- else
            refine AW.skip ?_
            refine nrm_blk (nrm_and ?_)
            refine AW.reg ?_
            refine AL.val rfl (.inl rfl) (HV.mv rfl) ?_
            refine AL.val rfl (.inl rfl) (HV.add rfl rfl (by omega)) ?_
            refine AL.val rfl (.inl rfl) (HV.as rfl) ?_
            refine AL.nil ?_
            refine nrm_and ?_
            exact ⟨i + 1, ⟨X51, X52, hb53, by omega, fun k hk' => by
      rcases Nat.lt_or_ge k i with h1 | h1
      · exact he k h1
      · obtain rfl : k = i := by omega
        exact ⟨by have g31 : l.getD k [] = z13 := gd hz15 (by omega); rw [g31]; assumption, fun h0 => by first | omega | (have g45 : l.getD (k - 1) [] = z30 := gd hz32 (by omega); have g52 : l.getD k [] = z40 := gd hz42 (by omega); rw [g45, g52]; first | assumption | omega)⟩, trivial⟩, by first | omega | (dsimp only; omega), ⟨rfl, rfl, trivial⟩⟩
        · -- false
          have c28_ : decide ((i : Int) > 0) = false := decide_eq_false c28
          rw [c28_]
          refine Dr.read 17 _ 38 _ rfl rfl rfl rfl rfl (RV.off (by intro _ _ h; cases h) rfl rfl (by decide)) ?_
          refine Dr.read 18 _ 39 _ rfl rfl rfl rfl rfl (RV.off (by intro _ _ h; cases h) rfl rfl (by decide)) ?_
          refine Dr.read 19 _ 40 _ rfl rfl rfl rfl rfl (RV.off (by intro _ _ h; cases h) rfl rfl (by decide)) ?_
          refine Dr.read 20 _ 41 _ rfl rfl rfl rfl rfl (RV.off (by intro _ _ h; cases h) rfl rfl (by decide)) ?_
          refine Dr.read 21 _ 42 _ rfl rfl rfl rfl rfl (RV.off (by intro _ _ h; cases h) rfl rfl (by decide)) ?_
          refine Dr.read 22 _ 43 _ rfl rfl rfl rfl rfl (RV.off (by intro _ _ h; cases h) rfl rfl (by decide)) ?_
          refine Dr.read 23 _ 44 _ rfl rfl rfl rfl rfl (RV.off (by intro _ _ h; cases h) rfl rfl (by decide)) ?_
          refine Dr.read 24 _ 45 _ rfl rfl rfl rfl rfl (RV.off (by intro _ _ h; cases h) rfl rfl (by decide)) ?_
          refine Dr.read 25 _ 46 _ rfl rfl rfl rfl rfl (RV.off (by intro _ _ h; cases h) rfl rfl (by decide)) ?_
          refine Dr.read 26 _ 47 _ rfl rfl rfl rfl rfl (RV.off (by intro _ _ h; cases h) rfl rfl (by decide)) ?_
          refine Dr.read 27 _ 48 _ rfl rfl rfl rfl rfl (RV.off (by intro _ _ h; cases h) rfl rfl (by decide)) ?_
          refine Dr.read 28 _ 49 _ rfl rfl rfl rfl rfl (RV.off (by intro _ _ h; cases h) rfl rfl (by decide)) ?_
          refine Dr.read 29 _ 50 _ rfl rfl rfl rfl rfl (RV.off (by intro _ _ h; cases h) rfl rfl (by decide)) ?_
          refine Dr.read 30 _ 51 _ rfl rfl rfl rfl rfl (RV.off (by intro _ _ h; cases h) rfl rfl (by decide)) ?_
          refine Dr.read 31 _ 52 _ rfl rfl rfl rfl rfl (RV.off (by intro _ _ h; cases h) rfl rfl (by decide)) ?_
          refine Dr.read 32 _ 53 _ rfl rfl rfl rfl rfl (RV.off (by intro _ _ h; cases h) rfl rfl (by decide)) ?_
          refine Dr.read 33 _ 54 _ rfl rfl rfl rfl rfl (RV.off (by intro _ _ h; cases h) rfl rfl (by decide)) ?_
          refine Dr.read 34 _ 55 _ rfl rfl rfl rfl rfl (RV.of (by intro _ _ h; cases h) (.inr ⟨_, _, _, rfl, rfl, rfl⟩) (fun _ xd => HV.pickF rfl rfl)) ?_
          refine Dr.read 35 _ 56 _ rfl rfl rfl rfl rfl (RV.of (by intro _ _ h; cases h) (.inl rfl) (fun _ xd => HV.pickF rfl rfl)) ?_
          refine Dr.fin rfl ?_
          refine nrm_and ?_
          refine AW.cond rfl (fun h => by cases h) (fun _ => ?_)
          refine AW.skip ?_
          refine nrm_blk (nrm_and ?_)
          refine AW.reg ?_
          refine AL.val rfl (.inl rfl) (HV.mv rfl) ?_
          refine AL.val rfl (.inl rfl) (HV.add rfl rfl (by omega)) ?_
          refine AL.val rfl (.inl rfl) (HV.as rfl) ?_
          refine AL.nil ?_
          refine nrm_and ?_
          exact ⟨i + 1, ⟨X24, X25, hb26, by omega, fun k hk' => by
      rcases Nat.lt_or_ge k i with h1 | h1
      · exact he k h1
      · obtain rfl : k = i := by omega
        exact ⟨by have g31 : l.getD k [] = z13 := gd hz15 (by omega); rw [g31]; assumption, fun h0 => by first | omega | (rw [g45, g52]; first | assumption | omega)⟩, trivial⟩, by first | omega | (dsimp only; omega), ⟨rfl, rfl, trivial⟩⟩
      · -- true
        have c27_ : (!decide (Ris 0 (n - 1) z13)) = true := by rw [decide_eq_false c27]; rfl
        rw [c27_]
        refine Dr.read 14 _ 35 _ rfl rfl rfl rfl rfl (RV.off (by intro _ _ h; cases h) rfl rfl (by decide)) ?_
        refine Dr.read 15 _ 36 _ rfl rfl rfl rfl rfl (RV.off (by intro _ _ h; cases h) rfl rfl (by decide)) ?_
        refine Dr.read 16 _ 37 _ rfl rfl rfl rfl rfl (RV.off (by intro _ _ h; cases h) rfl rfl (by decide)) ?_
        refine Dr.read 17 _ 38 _ rfl rfl rfl rfl rfl (RV.offu (by intro _ _ h; cases h) rfl rfl) ?_
        refine Dr.read 18 _ 39 _ rfl rfl rfl rfl rfl (RV.offu (by intro _ _ h; cases h) rfl rfl) ?_
        refine Dr.read 19 _ 40 _ rfl rfl rfl rfl rfl (RV.offu (by intro _ _ h; cases h) rfl rfl) ?_
        refine Dr.read 20 _ 41 _ rfl rfl rfl rfl rfl (RV.offu (by intro _ _ h; cases h) rfl rfl) ?_
        refine Dr.read 21 _ 42 _ rfl rfl rfl rfl rfl (RV.offu (by intro _ _ h; cases h) rfl rfl) ?_
        refine Dr.read 22 _ 43 _ rfl rfl rfl rfl rfl (RV.offu (by intro _ _ h; cases h) rfl rfl) ?_
        refine Dr.read 23 _ 44 _ rfl rfl rfl rfl rfl (RV.offu (by intro _ _ h; cases h) rfl rfl) ?_
        refine Dr.read 24 _ 45 _ rfl rfl rfl rfl rfl (RV.offu (by intro _ _ h; cases h) rfl rfl) ?_
        refine Dr.read 25 _ 46 _ rfl rfl rfl rfl rfl (RV.offu (by intro _ _ h; cases h) rfl rfl) ?_
        refine Dr.read 26 _ 47 _ rfl rfl rfl rfl rfl (RV.offu (by intro _ _ h; cases h) rfl rfl) ?_
        refine Dr.read 27 _ 48 _ rfl rfl rfl rfl rfl (RV.offu (by intro _ _ h; cases h) rfl rfl) ?_
        refine Dr.read 28 _ 49 _ rfl rfl rfl rfl rfl (RV.offu (by intro _ _ h; cases h) rfl rfl) ?_
        refine Dr.read 29 _ 50 _ rfl rfl rfl rfl rfl (RV.offu (by intro _ _ h; cases h) rfl rfl) ?_
        refine Dr.read 30 _ 51 _ rfl rfl rfl rfl rfl (RV.offu (by intro _ _ h; cases h) rfl rfl) ?_
        refine Dr.read 31 _ 52 _ rfl rfl rfl rfl rfl (RV.offu (by intro _ _ h; cases h) rfl rfl) ?_
        refine Dr.read 32 _ 53 _ rfl rfl rfl rfl rfl (RV.offu (by intro _ _ h; cases h) rfl rfl) ?_
        refine Dr.read 33 _ 54 _ rfl rfl rfl rfl rfl (RV.offu (by intro _ _ h; cases h) rfl rfl) ?_
        refine Dr.read 34 _ 55 _ rfl rfl rfl rfl rfl (RV.off (by intro _ _ h; cases h) rfl rfl (by decide)) ?_
        refine Dr.read 35 _ 56 _ rfl rfl rfl rfl rfl (RV.of (by intro _ _ h; cases h) (.inl rfl) (fun _ xd => HV.pickT rfl rfl)) ?_
        refine Dr.fin rfl ?_
        refine nrm_and ?_
        refine AW.cond rfl (fun _ => ?_) (fun h => by cases h)
        refine AW.rs ?_
        refine AL.val rfl (.inl rfl) (HV.as rfl) ?_
        refine AL.nx ?_
        refine AW.ret ?_
        refine ret_blk (ret_and (ret_and (ret_blk (ret_and ?_))))
        refine post_one rfl rfl ?_ (.inr rfl)
        exact ⟨dec_f (fun h => by have q := (h.2.1 i (by omega)).1; have g31 : l.getD i [] = z13 := gd hz15 (by omega); rw [g31] at q; exact c27 q), X24⟩
    · -- else
      refine AW.exit ?_
      refine ex_and (ex_and (ex_blk ?_))
      refine nrm_and ?_
      refine AW.seq ?_
      refine AW.rs ?_
      refine AL.val rfl (.inl rfl) (HV.as rfl) ?_
      refine AL.nx ?_
      refine AW.block ?_
      have X57 := Ext.refl H7
      refine AW.loop (σ := Nat) (fun i2 => [(0, .pointer (some ⟨b, 0, none⟩)), (4, .int .i64 (i2 : Int))]) (fun i2 H' => Ext H H' ∧ Ext H1 H' ∧ Ext H7 H' ∧ At W H' b ⟨42, [.int .i64 n, v], 2⟩ ∧ i2 ≤ l.length ∧ (∀ i, i < i2 → ∀ j, j < l.length → i ≠ j → ¬ inI (l.getD i []) (l.getD j [])) ∧ True) (fun i2 => l.length - i2) 0 ⟨X8, X9, X57, hb10, Nat.zero_le _, fun j hj => absurd hj (Nat.not_lt_zero _), trivial⟩ ⟨rfl, rfl, trivial⟩ ?_
      rintro i2 H58 ⟨X59, X60, X61, hb62, hi2, hz, _⟩
      refine AW.seq ?_
      refine AW.rs ?_
      refine AL.val rfl (.inl rfl) (HV.mv rfl) ?_
      refine AL.val rfl (.inl rfl) (HV.mv rfl) ?_
      refine AL.val rfl (.inl rfl) (HV.nc rfl) ?_
      refine AL.val rfl (.inl rfl) (HV.fa fl42_1 rfl) ?_
      refine AL.val rfl (.inl rfl) (HV.ld rfl va37 (at_cell_add hb62 rfl)) ?_
      refine AL.val rfl (.inl rfl) (HV.len Try.underlying37 rfl hr.isSl) ?_
      refine AL.val rfl (.inl rfl) (HV.lti rfl rfl) ?_
      refine AL.nx ?_
      refine AW.ifd rfl (fun c63 => ?_) (fun c63 => ?_)
      · -- then
        refine AW.skip ?_
        refine nrm_and ?_
        refine AW.seq ?_
        refine AW.block ?_
        refine AW.rs ?_
        refine AL.val rfl (.inl rfl) (HV.as rfl) ?_
        refine AL.nx ?_
        refine AW.block ?_
        have X64 := Ext.refl H58
        refine AW.loop (σ := Nat) (fun j2 => [(0, .pointer (some ⟨b, 0, none⟩)), (4, .int .i64 (i2 : Int)), (57, .int .i64 (i2 : Int)), (58, .pointer (some ⟨b, 0, none⟩)), (59, .pointer (some ⟨b, 0, none⟩)), (60, .pointer (some ⟨b, 1, none⟩)), (61, v), (62, .int .i64 (l.length : Int)), (63, .bool (decide ((i2 : Int) < (l.length : Int)))), (5, .int .i64 (j2 : Int))]) (fun j2 H' => Ext H H' ∧ Ext H1 H' ∧ Ext H7 H' ∧ Ext H58 H' ∧ At W H' b ⟨42, [.int .i64 n, v], 2⟩ ∧ j2 ≤ l.length ∧ (∀ j, j < j2 → i2 ≠ j → ¬ inI (l.getD i2 []) (l.getD j [])) ∧ True) (fun j2 => l.length - j2) 0 ⟨X59, X60, X61, X64, hb62, Nat.zero_le _, fun j hj => absurd hj (Nat.not_lt_zero _), trivial⟩ ⟨rfl, rfl, rfl, rfl, rfl, rfl, rfl, rfl, rfl, rfl, trivial⟩ ?_
        rintro j2 H65 ⟨X66, X67, X68, X69, hb70, hj2, hy, _⟩
        refine AW.seq ?_
        refine AW.rs ?_
        refine AL.val rfl (.inl rfl) (HV.mv rfl) ?_
        refine AL.val rfl (.inl rfl) (HV.mv rfl) ?_
        refine AL.val rfl (.inl rfl) (HV.nc rfl) ?_
        refine AL.val rfl (.inl rfl) (HV.fa fl42_1 rfl) ?_
        refine AL.val rfl (.inl rfl) (HV.ld rfl va37 (at_cell_add hb70 rfl)) ?_
        refine AL.val rfl (.inl rfl) (HV.len Try.underlying37 rfl hr.isSl) ?_
        refine AL.val rfl (.inl rfl) (HV.lti rfl rfl) ?_
        refine AL.nx ?_
        refine AW.ifd rfl (fun c71 => ?_) (fun c71 => ?_)
        · -- then
          refine AW.skip ?_
          refine nrm_and ?_
          refine AW.seq ?_
          refine AW.block ?_
          refine AW.seq ?_
          refine AW.draw' [0, 0, 3, 7, 15, 31, 63, 127, 15, 511, 1023, 15, 2063, 6159, 14351, 15, 63503, 129039, 262143, 524287] mixed (by rfl) ?_
          refine Dr.read 0 _ 75 _ rfl rfl rfl rfl rfl (RV.of (by intro _ _ h; cases h) (.inl rfl) (fun _ xd => HV.mv rfl)) ?_
          refine Dr.read 1 _ 76 _ rfl rfl rfl rfl rfl (RV.of (by intro _ _ h; cases h) (.inl rfl) (fun _ xd => HV.mv rfl)) ?_
          refine Dr.read 2 _ 77 _ rfl rfl rfl rfl rfl (RV.of (by intro _ _ h; cases h) (.inl rfl) (fun _ xd => HV.nei rfl rfl)) ?_
          refine Dr.read 3 _ 78 _ rfl rfl rfl rfl rfl (RV.of (by intro _ _ h; cases h) (.inl rfl) (fun _ xd => HV.mv rfl)) ?_
          by_cases c72 : (i2 : Int) ≠ (j2 : Int)
          · -- true
            have c72_ : decide ((i2 : Int) ≠ (j2 : Int)) = true := decide_eq_true c72
            rw [c72_]
            refine Dr.read 4 _ 79 _ rfl rfl rfl rfl rfl (RV.of (by intro _ _ h; cases h) (.inr ⟨_, _, _, rfl, rfl, rfl⟩) (fun _ xd => HV.mv rfl)) ?_
            refine Dr.read 5 _ 80 _ rfl rfl rfl rfl rfl (RV.of (by intro _ _ h; cases h) (.inr ⟨_, _, _, rfl, rfl, rfl⟩) (fun _ xd => HV.nc rfl)) ?_
            refine Dr.read 6 _ 81 _ rfl rfl rfl rfl rfl (RV.of (by intro _ _ h; cases h) (.inr ⟨_, _, _, rfl, rfl, rfl⟩) (fun _ xd => HV.fa fl42_1 rfl)) ?_
            refine Dr.read 7 _ 82 _ rfl rfl rfl rfl rfl (RV.of (by intro _ _ h; cases h) (.inr ⟨_, _, _, rfl, rfl, rfl⟩) (fun _ xd => HV.ld rfl va37 (rdc_ext xd (at_cell_add hb70 rfl)))) ?_
            refine Dr.read 8 _ 83 _ rfl rfl rfl rfl rfl (RV.of (by intro _ _ h; cases h) (.inr ⟨_, _, _, rfl, rfl, rfl⟩) (fun _ xd => HV.mv rfl)) ?_
            obtain ⟨p73, z74, cs75, hz76, hK77, hC78, hP79⟩ := RdK.ix (q := (i2 : Int)) hr sl37 (by omega) (by omega)
            obtain ⟨v80, rfl, hr81⟩ := hK77
            have hm82 := hr81.max
            refine Dr.read 9 _ 84 _ rfl rfl rfl rfl rfl (RV.of (by intro _ _ h; cases h) (.inr ⟨_, _, _, rfl, rfl, rfl⟩) (fun _ xd => hP79 rfl rfl)) ?_
            refine Dr.read 10 _ 85 _ rfl rfl rfl rfl rfl (RV.of (by intro _ _ h; cases h) (.inr ⟨_, _, _, rfl, rfl, rfl⟩) (fun _ xd => HV.ld rfl va25 (rdc_ext xd (cells_first (hC78.ext X66) rfl)))) ?_
            refine Dr.read 11 _ 86 _ rfl rfl rfl rfl rfl (RV.of (by intro _ _ h; cases h) (.inr ⟨_, _, _, rfl, rfl, rfl⟩) (fun _ xd => HV.mv rfl)) ?_
            refine Dr.read 12 _ 87 _ rfl rfl rfl rfl rfl (RV.of (by intro _ _ h; cases h) (.inr ⟨_, _, _, rfl, rfl, rfl⟩) (fun _ xd => HV.nc rfl)) ?_
            refine Dr.read 13 _ 88 _ rfl rfl rfl rfl rfl (RV.of (by intro _ _ h; cases h) (.inr ⟨_, _, _, rfl, rfl, rfl⟩) (fun _ xd => HV.fa fl42_1 rfl)) ?_
            refine Dr.read 14 _ 89 _ rfl rfl rfl rfl rfl (RV.of (by intro _ _ h; cases h) (.inr ⟨_, _, _, rfl, rfl, rfl⟩) (fun _ xd => HV.ld rfl va37 (rdc_ext xd (at_cell_add hb70 rfl)))) ?_
            refine Dr.read 15 _ 90 _ rfl rfl rfl rfl rfl (RV.of (by intro _ _ h; cases h) (.inr ⟨_, _, _, rfl, rfl, rfl⟩) (fun _ xd => HV.mv rfl)) ?_
            obtain ⟨p83, z84, cs85, hz86, hK87, hC88, hP89⟩ := RdK.ix (q := (j2 : Int)) hr sl37 (by omega) (by omega)
            obtain ⟨v90, rfl, hr91⟩ := hK87
            have hm92 := hr91.max
            refine Dr.read 16 _ 91 _ rfl rfl rfl rfl rfl (RV.of (by intro _ _ h; cases h) (.inr ⟨_, _, _, rfl, rfl, rfl⟩) (fun _ xd => hP89 rfl rfl)) ?_
            refine Dr.read 17 _ 92 _ rfl rfl rfl rfl rfl (RV.of (by intro _ _ h; cases h) (.inr ⟨_, _, _, rfl, rfl, rfl⟩) (fun _ xd => HV.ld rfl va25 (rdc_ext xd (cells_first (hC88.ext X66) rfl)))) ?_
            refine Dr.eff 18 _ _ rfl (by intro d h; cases h; exact ⟨rfl, rfl⟩) rfl rfl rfl (EC.of (by intro _ _ h; cases h) (.inr ⟨_, _, _, rfl, rfl, rfl⟩) (WV.call fn94 rfl (l01Within_ok (hr81.ext X66) (hr91.ext X66)))) (fun v H' h => .inl (h.2)) ?_
            rintro _ H93 ⟨rfl, hx94⟩
            have X95 := Ext.trans X66 hx94
            have X96 := Ext.trans X67 hx94
            have X97 := Ext.trans X68 hx94
            have X98 := Ext.trans X69 hx94
            have hb99 := hb70.ext hx94
            refine Dr.read 19 _ 94 _ rfl rfl rfl rfl rfl (RV.of (by intro _ _ h; cases h) (.inl rfl) (fun _ xd => HV.pickT rfl rfl)) ?_
            refine Dr.fin rfl ?_
            refine nrm_and ?_
            refine AW.ifd rfl (fun c100 => ?_) (fun c100 => ?_)
            · -- then
              refine AW.rs ?_
              refine AL.val rfl (.inl rfl) (HV.as rfl) ?_
              refine AL.nx ?_
              refine AW.ret ?_
              refine ret_blk (ret_and (ret_and (ret_blk (ret_blk (ret_and (ret_and (ret_blk (ret_and ?_))))))))
              refine post_one rfl rfl ?_ (.inr rfl)
              exact ⟨dec_f (fun h => h.2.2 i2 (by omega) j2 (by omega) (by omega) (by have g85 : l.getD i2 [] = z74 := gd hz76 (by omega); have g92 : l.getD j2 [] = z84 := gd hz86 (by omega); rw [g85, g92]; exact c100)), X95⟩
            · -- else
              refine AW.skip ?_
              refine nrm_blk (nrm_and ?_)
              refine AW.reg ?_
              refine AL.val rfl (.inl rfl) (HV.mv rfl) ?_
              refine AL.val rfl (.inl rfl) (HV.add rfl rfl (by omega)) ?_
              refine AL.val rfl (.inl rfl) (HV.as rfl) ?_
              refine AL.nil ?_
              refine nrm_and ?_
              exact ⟨j2 + 1, ⟨X95, X96, X97, X98, hb99, by omega, fun k hk' => by
      rcases Nat.lt_or_ge k j2 with h1 | h1
      · exact hy k h1
      · obtain rfl : k = j2 := by omega
        intro hne; first | omega | (have g85 : l.getD i2 [] = z74 := gd hz76 (by omega); have g92 : l.getD k [] = z84 := gd hz86 (by omega); rw [g85, g92]; exact c100), trivial⟩, by first | omega | (dsimp only; omega), ⟨rfl, rfl, rfl, rfl, rfl, rfl, rfl, rfl, rfl, rfl, trivial⟩⟩
          · -- false
            have c72_ : decide ((i2 : Int) ≠ (j2 : Int)) = false := decide_eq_false c72
            rw [c72_]
            refine Dr.read 4 _ 79 _ rfl rfl rfl rfl rfl (RV.off (by intro _ _ h; cases h) rfl rfl (by decide)) ?_
            refine Dr.read 5 _ 80 _ rfl rfl rfl rfl rfl (RV.off (by intro _ _ h; cases h) rfl rfl (by decide)) ?_
            refine Dr.read 6 _ 81 _ rfl rfl rfl rfl rfl (RV.off (by intro _ _ h; cases h) rfl rfl (by decide)) ?_
            refine Dr.read 7 _ 82 _ rfl rfl rfl rfl rfl (RV.off (by intro _ _ h; cases h) rfl rfl (by decide)) ?_
            refine Dr.read 8 _ 83 _ rfl rfl rfl rfl rfl (RV.off (by intro _ _ h; cases h) rfl rfl (by decide)) ?_
            refine Dr.read 9 _ 84 _ rfl rfl rfl rfl rfl (RV.off (by intro _ _ h; cases h) rfl rfl (by decide)) ?_
            refine Dr.read 10 _ 85 _ rfl rfl rfl rfl rfl (RV.off (by intro _ _ h; cases h) rfl rfl (by decide)) ?_
            refine Dr.read 11 _ 86 _ rfl rfl rfl rfl rfl (RV.off (by intro _ _ h; cases h) rfl rfl (by decide)) ?_
            refine Dr.read 12 _ 87 _ rfl rfl rfl rfl rfl (RV.off (by intro _ _ h; cases h) rfl rfl (by decide)) ?_
            refine Dr.read 13 _ 88 _ rfl rfl rfl rfl rfl (RV.off (by intro _ _ h; cases h) rfl rfl (by decide)) ?_
            refine Dr.read 14 _ 89 _ rfl rfl rfl rfl rfl (RV.off (by intro _ _ h; cases h) rfl rfl (by decide)) ?_
            refine Dr.read 15 _ 90 _ rfl rfl rfl rfl rfl (RV.off (by intro _ _ h; cases h) rfl rfl (by decide)) ?_
            refine Dr.read 16 _ 91 _ rfl rfl rfl rfl rfl (RV.off (by intro _ _ h; cases h) rfl rfl (by decide)) ?_
            refine Dr.read 17 _ 92 _ rfl rfl rfl rfl rfl (RV.off (by intro _ _ h; cases h) rfl rfl (by decide)) ?_
            refine Dr.read 18 _ 93 _ rfl rfl rfl rfl rfl (RV.off (by intro _ _ h; cases h) rfl rfl (by decide)) ?_
            refine Dr.read 19 _ 94 _ rfl rfl rfl rfl rfl (RV.of (by intro _ _ h; cases h) (.inl rfl) (fun _ xd => HV.pickF rfl rfl)) ?_
            refine Dr.fin rfl ?_
            refine nrm_and ?_
            refine AW.cond rfl (fun h => by cases h) (fun _ => ?_)
            refine AW.skip ?_
            refine nrm_blk (nrm_and ?_)
            refine AW.reg ?_
            refine AL.val rfl (.inl rfl) (HV.mv rfl) ?_
            refine AL.val rfl (.inl rfl) (HV.add rfl rfl (by omega)) ?_
            refine AL.val rfl (.inl rfl) (HV.as rfl) ?_
            refine AL.nil ?_
            refine nrm_and ?_
            exact ⟨j2 + 1, ⟨X66, X67, X68, X69, hb70, by omega, fun k hk' => by
      rcases Nat.lt_or_ge k j2 with h1 | h1
      · exact hy k h1
      · obtain rfl : k = j2 := by omega
        intro hne; first | omega | (rw [g85, g92]; exact c72), trivial⟩, by first | omega | (dsimp only; omega), ⟨rfl, rfl, rfl, rfl, rfl, rfl, rfl, rfl, rfl, rfl, trivial⟩⟩
        · -- else
          refine AW.exit ?_
          refine ex_and (ex_and (ex_blk ?_))
          refine nrm_blk (nrm_and ?_)
          refine AW.reg ?_
          refine AL.val rfl (.inl rfl) (HV.mv rfl) ?_
          refine AL.val rfl (.inl rfl) (HV.add rfl rfl (by omega)) ?_
          refine AL.val rfl (.inl rfl) (HV.as rfl) ?_
          refine AL.nil ?_
          refine nrm_and ?_
          exact ⟨i2 + 1, ⟨X66, X67, X68, hb70, by omega, fun k hk' => by
      rcases Nat.lt_or_ge k i2 with h1 | h1
      · exact hz k h1
      · obtain rfl : k = i2 := by omega
        exact fun j hj => hy j (by omega), trivial⟩, by first | omega | (dsimp only; omega), ⟨rfl, rfl, trivial⟩⟩
      · -- else
        refine AW.exit ?_
        refine ex_and (ex_and (ex_blk ?_))
        refine nrm_and ?_
        refine AW.rs ?_
        refine AL.val rfl (.inl rfl) (HV.as rfl) ?_
        refine AL.nx ?_
        refine AW.ret ?_
        refine post_one rfl rfl ?_ (.inr rfl)
        exact ⟨dec_t ⟨hn, fun k hk => he k (by omega), fun i hi j hj => hz i (by omega) j hj⟩, X59⟩

set_option maxRecDepth 100000 in
theorem l01Table_ok {v : Value} {l : List (List Int)} {ok : Nat → Prop} {n : Int} {b : Nat} (hr : RdK (kR kI) W H ok v l) (hb : At W H b ⟨42, [.int .i64 n, v], 2⟩) (hn : 1 ≤ n ∧ n ≤ 7) : ACalls Try.prog W 61 #[.pointer (some ⟨b, 0, none⟩)] H (fun r H' => Ext H H' ∧ OwnK kB 4 W H' (fun b => H.bd ≤ b) r (tabI n l)) := by
  refine ACalls.of (args := [.pointer (some ⟨b, 0, none⟩)]) Try.func61 rfl rfl ?_
  have X0 := Ext.refl H
  have hmL := hr.max
  obtain ⟨N, hN, hN2, hN1⟩ := shl7 hn
  refine AW.rs ?_
  refine AL.val rfl (.inl rfl) (HV.as rfl) ?_
  refine AL.nx ?_
  refine AW.rs ?_
  refine AL.val rfl (.inl rfl) (HV.mv rfl) ?_
  refine AL.val rfl (.inl rfl) (HV.nc rfl) ?_
  refine AL.val rfl (.inl rfl) (HV.fa fl42_0 rfl) ?_
  refine AL.val rfl (.inl rfl) (HV.ld rfl va2 (at_cell hb rfl)) ?_
  refine AL.val rfl (.inl rfl) (HV.cv (by rw [Try.underlying2]; rfl) Try.underlying75 rfl) ?_
  refine AL.val rfl (.inl rfl) (HV.shl rfl rfl (u64_nonneg _)) ?_
  have y1 := hb.lt
  have o2 := X0.bd
  refine AL.w rfl (.inl rfl) (WV.mkK (K := kB) false (fun _ _ _ => rfl) sl81 rfl rfl rfl (by omega) (by omega) (by omega)) ?_
  rintro v3 H4 ⟨hx5, ho6⟩
  have X7 := Ext.trans X0 hx5
  have hb8 := hb.ext hx5
  refine AL.val rfl (.inl rfl) (HV.as rfl) ?_
  refine AL.nx ?_
  refine AW.seq ?_
  refine AW.rs ?_
  refine AL.val rfl (.inl rfl) (HV.as rfl) ?_
  refine AL.nx ?_
  refine AW.block ?_
  refine AW.loop (σ := Nat × List Bool) (fun ⟨i, k⟩ => [(0, .pointer (some ⟨b, 0, none⟩)), (2, (.slice none 0 0)), (3, v3), (3, v3), (4, .int .i64 (i : Int))]) (fun ⟨i, k⟩ H' => Ext H H' ∧ At W H' b ⟨42, [.int .i64 n, v], 2⟩ ∧ i ≤ N ∧ k.length = N ∧ (∀ s, s < i → k.getD s false = decide (opI s l)) ∧ (∀ s, i ≤ s → k.getD s false = false) ∧ OwnK kB 4 W H' (fun b => H.bd ≤ b) v3 k ∧ True) (fun ⟨i, k⟩ => N - i) (0, (List.replicate (IntKind.i64.wrap (1 * 2 ^ min (IntKind.u64.wrap n : Int).toNat IntKind.i64.bits) : Int).toNat false)) ⟨X7, hb8, Nat.zero_le _, by rw [List.length_replicate, hN]; rfl, fun j hj => absurd hj (Nat.not_lt_zero _), fun s _ => by simp [List.getD_eq_getElem?_getD, List.getElem?_replicate]; split <;> rfl, ho6, trivial⟩ ⟨rfl, rfl, rfl, rfl, rfl, trivial⟩ ?_
  rintro ⟨i, k⟩ H10 ⟨X11, hb12, hi, hk, he, hf, hoL, _⟩
  refine AW.seq ?_
  refine AW.rs ?_
  refine AL.val rfl (.inl rfl) (HV.mv rfl) ?_
  refine AL.val rfl (.inl rfl) (HV.mv rfl) ?_
  refine AL.val rfl (.inl rfl) (HV.len Try.underlying81 rfl hoL.rd.isSl) ?_
  refine AL.val rfl (.inl rfl) (HV.lti rfl rfl) ?_
  refine AL.nx ?_
  refine AW.ifd rfl (fun c13 => ?_) (fun c13 => ?_)
  · -- then
    refine AW.skip ?_
    refine nrm_and ?_
    refine AW.seq ?_
    refine AW.block ?_
    refine AW.rs ?_
    refine AL.val rfl (.inl rfl) (HV.as rfl) ?_
    refine AL.nx ?_
    refine AW.block ?_
    refine AW.loop (σ := Nat × List Bool) (fun ⟨j, k2⟩ => [(0, .pointer (some ⟨b, 0, none⟩)), (2, (.slice none 0 0)), (3, v3), (4, .int .i64 (i : Int)), (14, .int .i64 (i : Int)), (15, v3), (16, .int .i64 (k.length : Int)), (17, .bool (decide ((i : Int) < (k.length : Int)))), (3, v3), (5, .int .i64 (j : Int))]) (fun ⟨j, k2⟩ H' => Ext H H' ∧ At W H' b ⟨42, [.int .i64 n, v], 2⟩ ∧ j ≤ l.length ∧ k2.length = N ∧ (∀ s, s < i → k2.getD s false = decide (opI s l)) ∧ k2.getD i false = decide (opI i (l.take j)) ∧ (∀ s, i < s → k2.getD s false = false) ∧ OwnK kB 4 W H' (fun b => H.bd ≤ b) v3 k2 ∧ True) (fun ⟨j, k2⟩ => l.length - j) (0, k) ⟨X11, hb12, Nat.zero_le _, hk, he, by rw [hf i (Nat.le_refl _)]; exact (decide_eq_false (fun ⟨x, hx, _⟩ => by cases hx)).symm, fun s hs => hf s (by omega), hoL, trivial⟩ ⟨rfl, rfl, rfl, rfl, rfl, rfl, rfl, rfl, rfl, rfl, trivial⟩ ?_
    rintro ⟨j, k2⟩ H14 ⟨X15, hb16, hj, hk2, he2, hm2, hf2, hoL2, _⟩
    refine AW.seq ?_
    refine AW.rs ?_
    refine AL.val rfl (.inl rfl) (HV.mv rfl) ?_
    refine AL.val rfl (.inl rfl) (HV.mv rfl) ?_
    refine AL.val rfl (.inl rfl) (HV.nc rfl) ?_
    refine AL.val rfl (.inl rfl) (HV.fa fl42_1 rfl) ?_
    refine AL.val rfl (.inl rfl) (HV.ld rfl va37 (at_cell_add hb16 rfl)) ?_
    refine AL.val rfl (.inl rfl) (HV.len Try.underlying37 rfl hr.isSl) ?_
    refine AL.val rfl (.inl rfl) (HV.lti rfl rfl) ?_
    refine AL.val rfl (.inl rfl) (HV.mv rfl) ?_
    by_cases c17 : (j : Int) < (l.length : Int)
    · -- true
      have c17_ : decide ((j : Int) < (l.length : Int)) = true := decide_eq_true c17
      rw [c17_]
      refine AL.val rfl (.inr ⟨_, _, _, rfl, rfl, rfl⟩) (HV.mv rfl) ?_
      refine AL.val rfl (.inr ⟨_, _, _, rfl, rfl, rfl⟩) (HV.mv rfl) ?_
      obtain ⟨g18, z19, cs20, hz21, hK22, hC23, hg24, hP25⟩ := OwnK.ix (q := (i : Int)) hoL2 sl81 (by omega) (by omega)
      have X26 := Ext.refl H14
      obtain rfl : cs20 = [.bool z19] := hK22
      refine AL.val rfl (.inr ⟨_, _, _, rfl, rfl, rfl⟩) (hP25 rfl rfl) ?_
      refine AL.val rfl (.inr ⟨_, _, _, rfl, rfl, rfl⟩) (HV.ld rfl va4 (cells_first hC23 rfl)) ?_
      refine AL.val rfl (.inr ⟨_, _, _, rfl, rfl, rfl⟩) (HV.not rfl) ?_
      refine AL.val rfl (.inl rfl) (HV.pickT rfl rfl) ?_
      refine AL.nx ?_
      refine AW.cond rfl (fun c27 => ?_) (fun c27 => ?_)
      · -- then
        refine AW.skip ?_
        refine nrm_and ?_
        refine AW.seq ?_
        refine AW.block ?_
        refine AW.rs ?_
        refine AL.val rfl (.inl rfl) (HV.mv rfl) ?_
        refine AL.val rfl (.inl rfl) (HV.nc rfl) ?_
        refine AL.val rfl (.inl rfl) (HV.fa fl42_1 rfl) ?_
        refine AL.val rfl (.inl rfl) (HV.ld rfl va37 (at_cell_add hb16 rfl)) ?_
        refine AL.val rfl (.inl rfl) (HV.mv rfl) ?_
        obtain ⟨p28, z29, cs30, hz31, hK32, hC33, hP34⟩ := RdK.ix (q := (j : Int)) hr sl37 (by omega) (by omega)
        obtain ⟨v35, rfl, hr36⟩ := hK32
        have hm37 := hr36.max
        refine AL.val rfl (.inl rfl) (hP34 rfl rfl) ?_
        refine AL.val rfl (.inl rfl) (HV.ld rfl va25 (cells_first (hC33.ext X15) rfl)) ?_
        refine AL.w rfl (.inl rfl) (WV.call fn52 rfl (l01Bits_ok (hr36.ext X15))) ?_
        rintro _ H38 ⟨rfl, hx39⟩
        have X40 := Ext.trans X15 hx39
        have X41 := Ext.trans X26 hx39
        have ho42 := hoL2.ext hx39
        have hb43 := hb16.ext hx39
        refine AL.val rfl (.inl rfl) (HV.as rfl) ?_
        refine AL.nx ?_
        refine AW.reg ?_
        refine AL.val rfl (.inl rfl) (HV.mv rfl) ?_
        refine AL.val rfl (.inl rfl) (HV.mv rfl) ?_
        refine AL.val rfl (.inl rfl) (HV.mv rfl) ?_
        refine AL.val rfl (.inl rfl) (HV.mv rfl) ?_
        refine AL.val rfl (.inl rfl) (HV.bits (by simp) rfl rfl) ?_
        refine AL.val rfl (.inl rfl) (HV.mv rfl) ?_
        refine AL.val rfl (.inl rfl) (HV.eqi rfl rfl) ?_
        obtain ⟨g44, z45, cs46, hz47, hK48, hC49, hg50, hP51⟩ := OwnK.ix (q := (i : Int)) ho42 sl81 (by omega) (by omega)
        have X52 := Ext.refl H38
        obtain rfl : cs46 = [.bool z45] := hK48
        refine AL.val rfl (.inl rfl) (hP51 rfl rfl) ?_
        refine AL.w0 (.inl rfl) (WV.stK (okx := fun _ => False) (x' := decide ((bt .and .i64 (bitsI z29) (i : Int)) = (bitsI z29))) ho42 hg50 rfl rfl va4 (by omega) rfl (fun _ h => h.elim)) ?_
        rintro _ H53 ⟨hx54, ho55⟩
        have X56 := Ext.thru X40 hx54 (fun b hb => Nat.le_trans o2 (ho42.blk b hb).1)
        have hb59 := hb43.but hx54 (fun e => by have q : H.bd ≤ _ := (ho42.blk _ e).1; omega)
        have ho60 := ho55.okk (ok' := fun b => H.bd ≤ b) (fun b hb _ => hb.elim id False.elim)
        refine AL.nil ?_
        refine nrm_blk (nrm_and ?_)
        refine AW.reg ?_
        refine AL.val rfl (.inl rfl) (HV.mv rfl) ?_
        refine AL.val rfl (.inl rfl) (HV.add rfl rfl (by omega)) ?_
        refine AL.val rfl (.inl rfl) (HV.as rfl) ?_
        refine AL.nil ?_
        refine nrm_and ?_
        exact ⟨(j + 1, (k2.set ((i : Int) : Int).toNat (decide ((bt .and .i64 (bitsI z29) (i : Int)) = (bitsI z29))))), ⟨X56, hb59, by omega, by simp [hk2], fun s hs => by rw [set_ne (by omega)]; exact he2 s hs, tab_step (by omega) hm2 hz21 c27 hz31, fun s hs => by rw [set_ne (by omega)]; exact hf2 s hs, ho60, trivial⟩, by first | omega | (dsimp only; omega), ⟨rfl, rfl, rfl, rfl, rfl, rfl, rfl, rfl, rfl, rfl, trivial⟩⟩
      · -- else
        refine AW.exit ?_
        refine ex_and (ex_and (ex_blk ?_))
        refine nrm_blk (nrm_and ?_)
        refine AW.reg ?_
        refine AL.val rfl (.inl rfl) (HV.mv rfl) ?_
        refine AL.val rfl (.inl rfl) (HV.add rfl rfl (by omega)) ?_
        refine AL.val rfl (.inl rfl) (HV.as rfl) ?_
        refine AL.nil ?_
        refine nrm_and ?_
        exact ⟨(i + 1, k2), ⟨X15, hb16, by omega, hk2, fun s hs => by
      rcases Nat.lt_or_ge s i with h1 | h1
      · exact he2 s h1
      · obtain rfl : s = i := by omega
        first
          | exact hm2.trans (by rw [List.take_of_length_le (by omega)])
          | exact (tab_t hm2 hz21 c27), fun s hs => hf2 s (by omega), hoL2, trivial⟩, by first | omega | (dsimp only; omega), ⟨rfl, rfl, rfl, rfl, rfl, trivial⟩⟩
    · -- false
      have c17_ : decide ((j : Int) < (l.length : Int)) = false := decide_eq_false c17
      rw [c17_]
      refine AL.off rfl rfl (by decide) rfl ?_
      refine AL.off rfl rfl (by decide) rfl ?_
      refine AL.off rfl rfl (by decide) rfl ?_
      refine AL.off rfl rfl (by decide) rfl ?_
      refine AL.off rfl rfl (by decide) rfl ?_
      refine AL.val rfl (.inl rfl) (HV.pickF rfl rfl) ?_
      refine AL.nx ?_
      refine AW.cond rfl (fun h => by cases h) (fun _ => ?_)
      refine AW.exit ?_
      refine ex_and (ex_and (ex_blk ?_))
      refine nrm_blk (nrm_and ?_)
      refine AW.reg ?_
      refine AL.val rfl (.inl rfl) (HV.mv rfl) ?_
      refine AL.val rfl (.inl rfl) (HV.add rfl rfl (by omega)) ?_
      refine AL.val rfl (.inl rfl) (HV.as rfl) ?_
      refine AL.nil ?_
      refine nrm_and ?_
      exact ⟨(i + 1, k2), ⟨X15, hb16, by omega, hk2, fun s hs => by
      rcases Nat.lt_or_ge s i with h1 | h1
      · exact he2 s h1
      · obtain rfl : s = i := by omega
        first
          | exact hm2.trans (by rw [List.take_of_length_le (by omega)])
          | exact (tab_t hm2 rfl c17), fun s hs => hf2 s (by omega), hoL2, trivial⟩, by first | omega | (dsimp only; omega), ⟨rfl, rfl, rfl, rfl, rfl, trivial⟩⟩
  · -- else
    refine AW.exit ?_
    refine ex_and (ex_and (ex_blk ?_))
    refine nrm_and ?_
    refine AW.rs ?_
    refine AL.val rfl (.inl rfl) (HV.mv rfl) ?_
    refine AL.val rfl (.inl rfl) (HV.as rfl) ?_
    refine AL.nx ?_
    refine AW.ret ?_
    refine post_one rfl rfl ?_ (.inr rfl)
    exact ⟨X11, by obtain rfl : k = tabI n l := list_eq (d := false) (by rw [tabI_length, hk, hN2]) (fun j hj => by rw [tabI_get (by omega)]; exact he j (by omega)); exact hoL⟩

set_option maxRecDepth 100000 in
theorem specMay_ok {v v2 : Value} {l : List (List Int)} {g : List Int} {ok ok2 : Nat → Prop} (n : Int) (hr : RdK (kR kI) W H ok v l) (hr2 : RdK kI W H ok2 v2 g) : ACalls Try.prog W 20 #[.agg #[.int .i64 n, v], v2] H (fun r H' => r = (.tuple #[.bool (decide (okI n l ∧ Ris 0 (n - 1) g ∧ opI (bitsI g) l)), .int .i64 (if okI n l then if Ris 0 (n - 1) g then 0 else 2 else 1)]) ∧ Ext H H') := by
  refine ACalls.of (args := [.agg #[.int .i64 n, v], v2]) Try.func20 rfl rfl ?_
  have X0 := Ext.refl H
  have hm1 := hr.max
  have hm2 := hr2.max
  refine AW.rs ?_
  refine AL.w rfl (.inl rfl) (WV.bx rfl rfl) ?_
  rintro _ H4 ⟨b3, rfl, hx5, hn6, hb7⟩
  have o8 := Nat.le_trans X0.bd hn6
  have X9 := Ext.trans X0 hx5
  have X10 := Ext.refl H4
  refine AL.val rfl (.inl rfl) (HV.as rfl) ?_
  refine AL.val rfl (.inl rfl) (HV.as rfl) ?_
  refine AL.nx ?_
  refine AW.seq ?_
  refine AW.rs ?_
  refine AL.w rfl (.inl rfl) (WV.call fn60 rfl (l01Ok_ok (hr.ext X9) hb7)) ?_
  rintro _ H11 ⟨rfl, hx12⟩
  have X13 := Ext.trans X9 hx12
  have X14 := Ext.trans X10 hx12
  have hb15 := hb7.ext hx12
  refine AL.val rfl (.inl rfl) (HV.not rfl) ?_
  refine AL.nx ?_
  refine AW.ifn rfl (fun c16 => ?_) (fun c16 => ?_)
  · -- then
    refine AW.rs ?_
    refine AL.val rfl (.inl rfl) (HV.as rfl) ?_
    refine AL.val rfl (.inl rfl) (HV.as rfl) ?_
    refine AL.nx ?_
    refine AW.ret ?_
    refine ret_and ?_
    refine post_two rfl rfl rfl ?_ (.inr rfl)
    exact ⟨by rw [if_neg c16, decide_eq_false (fun h => c16 h.1)], X13⟩
  · -- else
    refine AW.skip ?_
    refine nrm_and ?_
    refine AW.seq ?_
    refine AW.rs ?_
    refine AL.val rfl (.inl rfl) (HV.fa fl42_0 rfl) ?_
    refine AL.val rfl (.inl rfl) (HV.ld rfl va2 (at_cell hb15 rfl)) ?_
    refine AL.val rfl (.inl rfl) (HV.mv rfl) ?_
    refine AL.w rfl (.inl rfl) (WV.call fn50 rfl (l01Group_ok n (hr2.ext X13) (by have := (by assumption : okI n l).1; omega))) ?_
    rintro _ H17 ⟨rfl, hx18⟩
    have X19 := Ext.trans X13 hx18
    have X20 := Ext.trans X14 hx18
    have hb21 := hb15.ext hx18
    refine AL.val rfl (.inl rfl) (HV.not rfl) ?_
    refine AL.nx ?_
    refine AW.ifn rfl (fun c22 => ?_) (fun c22 => ?_)
    · -- then
      refine AW.rs ?_
      refine AL.val rfl (.inl rfl) (HV.as rfl) ?_
      refine AL.val rfl (.inl rfl) (HV.as rfl) ?_
      refine AL.nx ?_
      refine AW.ret ?_
      refine ret_and ?_
      refine post_two rfl rfl rfl ?_ (.inr rfl)
      have hok : okI n l := (by assumption); exact ⟨by rw [if_pos hok, if_neg c22, decide_eq_false (fun h => c22 h.2.1)], X19⟩
    · -- else
      refine AW.skip ?_
      refine nrm_and ?_
      refine AW.rs ?_
      have X23 := Ext.refl H17
      have y24 := hb21.lt
      have o25 := X19.bd
      have o26 := X20.bd
      have o27 := X23.bd
      refine AL.w rfl (.inl rfl) (WV.call fn61 rfl (l01Table_ok (hr.ext X19) hb21 (by assumption : okI n l).1)) ?_
      rintro v28 H29 ⟨hx30, ho31⟩
      have X32 := Ext.trans X19 hx30
      have X33 := Ext.trans X20 hx30
      have X34 := Ext.trans X23 hx30
      have hb35 := hb21.ext hx30
      refine AL.val rfl (.inl rfl) (HV.mv rfl) ?_
      refine AL.w rfl (.inl rfl) (WV.call fn52 rfl (l01Bits_ok (hr2.ext X32))) ?_
      rintro _ H37 ⟨rfl, hx38⟩
      have X39 := Ext.trans X32 hx38
      have X40 := Ext.trans X33 hx38
      have X41 := Ext.trans X34 hx38
      have ho42 := ho31.ext hx38
      have hb43 := hb35.ext hx38
      obtain ⟨g44, z45, cs46, hz47, hK48, hC49, hg50, hP51⟩ := OwnK.ix (q := bitsI g) ho42 sl81 (bits_lt (by assumption : okI n l).1 (by assumption)).1 (by rw [tabI_length]; exact (bits_lt (by assumption : okI n l).1 (by assumption)).2)
      have X52 := Ext.refl H37
      obtain rfl : cs46 = [.bool z45] := hK48
      refine AL.val rfl (.inl rfl) (hP51 rfl rfl) ?_
      refine AL.val rfl (.inl rfl) (HV.ld rfl va4 (cells_first hC49 rfl)) ?_
      refine AL.val rfl (.inl rfl) (HV.as rfl) ?_
      refine AL.val rfl (.inl rfl) (HV.as rfl) ?_
      refine AL.nx ?_
      refine AW.ret ?_
      refine post_two rfl rfl rfl ?_ (.inr rfl)
      have hok : okI n l := (by assumption); have hgr : Ris 0 (n - 1) g := (by assumption); exact ⟨by rw [if_pos hok, if_pos hgr, tabv hok hgr hz47], X39⟩

set_option maxRecDepth 100000 in
theorem implMay_ok {v v2 : Value} {l : List (List Int)} {g : List Int} {ok ok2 : Nat → Prop} (n : Int) (hr : RdK (kR kI) W H ok v l) (hr2 : RdK kI W H ok2 v2 g) : ACalls Try.prog W 22 #[.agg #[.int .i64 n, v], v2] H (fun r H' => r = (.tuple #[.bool (decide (okC n l ∧ Ris 0 (n - 1) g ∧ opC (crowd g) l)), .int .i64 (if okC n l then if Ris 0 (n - 1) g then 0 else 2 else 1)]) ∧ Ext H H') := by
  refine ACalls.of (args := [.agg #[.int .i64 n, v], v2]) Try.func22 rfl rfl ?_
  have X0 := Ext.refl H
  have hm1 := hr.max
  have hm2 := hr2.max
  refine AW.rs ?_
  refine AL.w rfl (.inl rfl) (WV.bx rfl rfl) ?_
  rintro _ H4 ⟨b3, rfl, hx5, hn6, hb7⟩
  have o8 := Nat.le_trans X0.bd hn6
  have X9 := Ext.trans X0 hx5
  have X10 := Ext.refl H4
  refine AL.val rfl (.inl rfl) (HV.as rfl) ?_
  refine AL.val rfl (.inl rfl) (HV.as rfl) ?_
  refine AL.nx ?_
  refine AW.seq ?_
  refine AW.rs ?_
  refine AL.val rfl (.inl rfl) (HV.lda (cs := [.int .i64 n, v]) rfl va42 (at_cells hb7 rfl)) ?_
  refine AL.w rfl (.inl rfl) (WV.call fn63 rfl (validFam_ok n (hr.ext X9))) ?_
  rintro _ H11 ⟨rfl, hx12⟩
  have X13 := Ext.trans X9 hx12
  have X14 := Ext.trans X10 hx12
  have hb15 := hb7.ext hx12
  refine AL.val rfl (.inl rfl) (HV.not rfl) ?_
  refine AL.nx ?_
  refine AW.ifn rfl (fun c16 => ?_) (fun c16 => ?_)
  · -- then
    refine AW.rs ?_
    refine AL.val rfl (.inl rfl) (HV.as rfl) ?_
    refine AL.val rfl (.inl rfl) (HV.as rfl) ?_
    refine AL.nx ?_
    refine AW.ret ?_
    refine ret_and ?_
    refine post_two rfl rfl rfl ?_ (.inr rfl)
    exact ⟨by rw [if_neg c16, decide_eq_false (fun h => c16 h.1)], X13⟩
  · -- else
    refine AW.skip ?_
    refine nrm_and ?_
    refine AW.seq ?_
    refine AW.rs ?_
    refine AL.val rfl (.inl rfl) (HV.fa fl42_0 rfl) ?_
    refine AL.val rfl (.inl rfl) (HV.ld rfl va2 (at_cell hb15 rfl)) ?_
    refine AL.val rfl (.inl rfl) (HV.mv rfl) ?_
    refine AL.w rfl (.inl rfl) (WV.call fn55 rfl (isGroup_ok n (hr2.ext X13) (by have := (by assumption : okC n l).1; omega))) ?_
    rintro _ H17 ⟨rfl, hx18⟩
    have X19 := Ext.trans X13 hx18
    have X20 := Ext.trans X14 hx18
    have hb21 := hb15.ext hx18
    refine AL.val rfl (.inl rfl) (HV.not rfl) ?_
    refine AL.nx ?_
    refine AW.ifn rfl (fun c22 => ?_) (fun c22 => ?_)
    · -- then
      refine AW.rs ?_
      refine AL.val rfl (.inl rfl) (HV.as rfl) ?_
      refine AL.val rfl (.inl rfl) (HV.as rfl) ?_
      refine AL.nx ?_
      refine AW.ret ?_
      refine ret_and ?_
      refine post_two rfl rfl rfl ?_ (.inr rfl)
      have hok : okC n l := (by assumption); exact ⟨by rw [if_pos hok, if_neg c22, decide_eq_false (fun h => c22 h.2.1)], X19⟩
    · -- else
      refine AW.skip ?_
      refine nrm_and ?_
      refine AW.seq ?_
      refine AW.draw' [0, 0, 2, 7, 15, 31] mixed (by rfl) ?_
      refine Dr.read 0 _ 14 _ rfl rfl rfl rfl rfl (RV.of (by intro _ _ h; cases h) (.inl rfl) (fun _ xd => HV.lda (cs := [.int .i64 n, v]) rfl va42 (fun j u hu => rdc_ext xd ((at_cells hb21 rfl) j u hu)))) ?_
      refine Dr.read 1 _ 15 _ rfl rfl rfl rfl rfl (RV.of (by intro _ _ h; cases h) (.inl rfl) (fun _ xd => HV.mv rfl)) ?_
      refine Dr.eff 2 _ _ rfl (by intro d h; cases h; exact ⟨rfl, rfl⟩) rfl rfl rfl (EC.of (by intro _ _ h; cases h) (.inl rfl) (WV.call fn57 rfl (crowdOf_ok (hr2.ext X19) (ris_low (by assumption : okC n l).1 (by assumption))))) (fun v H' h => .inl (h.2)) ?_
      rintro _ H23 ⟨rfl, hx24⟩
      have X25 := Ext.trans X19 hx24
      have X26 := Ext.trans X20 hx24
      have hb27 := hb21.ext hx24
      refine Dr.eff 3 _ _ rfl (by intro d h; cases h; exact ⟨rfl, rfl⟩) rfl rfl rfl (EC.of (by intro _ _ h; cases h) (.inl rfl) (WV.call fn64 rfl (opens_ok n (hr.ext X25) (crowd g) (okC_low (by assumption))))) (fun v H' h => .inl (h.2)) ?_
      rintro _ H28 ⟨rfl, hx29⟩
      have X30 := Ext.trans X25 hx29
      have X31 := Ext.trans X26 hx29
      have hb32 := hb27.ext hx29
      refine Dr.read 4 _ 4 _ rfl rfl rfl rfl rfl (RV.of (by intro _ _ h; cases h) (.inl rfl) (fun _ xd => HV.as rfl)) ?_
      refine Dr.read 5 _ 5 _ rfl rfl rfl rfl rfl (RV.of (by intro _ _ h; cases h) (.inl rfl) (fun _ xd => HV.as rfl)) ?_
      refine Dr.fin rfl ?_
      refine nrm_and ?_
      refine AW.ret ?_
      refine post_two rfl rfl rfl ?_ (.inr rfl)
      have hok : okC n l := (by assumption); have hgr : Ris 0 (n - 1) g := (by assumption); exact ⟨by rw [if_pos hok, if_pos hgr, show decide (opC (crowd g) l) = decide (okC n l ∧ Ris 0 (n - 1) g ∧ opC (crowd g) l) from decide_eq_decide.2 ⟨fun h => ⟨hok, hgr, h⟩, fun h => h.2.2⟩], X30⟩

theorem implMay_ok2 {v v2 : Value} {l : List (List Int)} {g : List Int} {ok ok2 : Nat → Prop} (n : Int) (hr : RdK (kR kI) W H ok v l) (hr2 : RdK kI W H ok2 v2 g) : ACalls Try.prog W 22 #[.agg #[.int .i64 n, v], v2] H (fun r H' => r = (.tuple #[.bool (decide (okI n l ∧ Ris 0 (n - 1) g ∧ opI (bitsI g) l)), .int .i64 (if okI n l then if Ris 0 (n - 1) g then 0 else 2 else 1)]) ∧ Ext H H') := fun w hw => by
  have e : (okI n l) = (okC n l) := propext (ok_iff n l)
  have e2 : (okI n l ∧ Ris 0 (n - 1) g ∧ opI (bitsI g) l) = (okC n l ∧ Ris 0 (n - 1) g ∧ opC (crowd g) l) := by
    rw [e]; exact propext ⟨fun h => ⟨h.1, h.2.1, (op_iff h.1 h.2.1).1 h.2.2⟩, fun h => ⟨h.1, h.2.1, (op_iff h.1 h.2.1).2 h.2.2⟩⟩
  have f1 : decide (okI n l ∧ Ris 0 (n - 1) g ∧ opI (bitsI g) l) = decide (okC n l ∧ Ris 0 (n - 1) g ∧ opC (crowd g) l) := decide_eq_decide.2 (iff_of_eq e2)
  have f2 : (if okI n l then if Ris 0 (n - 1) g then (0 : Int) else 2 else 1) = (if okC n l then if Ris 0 (n - 1) g then (0 : Int) else 2 else 1) := by
    by_cases h : okI n l
    · rw [if_pos h, if_pos ((ok_iff n l).1 h)]
    · rw [if_neg h, if_neg (fun q => h ((ok_iff n l).2 q))]
  rw [f1, f2]
  exact implMay_ok n hr hr2 w hw

set_option maxRecDepth 100000 in
theorem law_MayOpen {v v2 : Value} {l : List (List Int)} {g : List Int} {ok ok2 : Nat → Prop} (n : Int) (hr : RdK (kR kI) W H ok v l) (hr2 : RdK kI W H ok2 v2 g) : ACalls Try.prog W 4 #[.agg #[.int .i64 n, v], v2] H (fun r H' => r = .bool true ∧ Ext H H') := by
  refine ACalls.of (args := [.agg #[.int .i64 n, v], v2]) Try.func4 rfl rfl ?_
  have X0 := Ext.refl H
  have hm1 := hr.max
  have hm2 := hr2.max
  refine AW.rs ?_
  refine AL.w rfl (.inl rfl) (WV.bx rfl rfl) ?_
  rintro _ H4 ⟨b3, rfl, hx5, hn6, hb7⟩
  have o8 := Nat.le_trans X0.bd hn6
  have X9 := Ext.trans X0 hx5
  have X10 := Ext.refl H4
  refine AL.val rfl (.inl rfl) (HV.as rfl) ?_
  refine AL.nx ?_
  refine AW.seq ?_
  refine AW.rs ?_
  refine AL.val rfl (.inl rfl) (HV.mv rfl) ?_
  refine AL.val rfl (.inl rfl) (HV.len Try.underlying25 rfl hr2.isSl) ?_
  refine AL.val rfl (.inl rfl) (HV.gti rfl rfl) ?_
  refine AL.nx ?_
  refine AW.ifd rfl (fun c11 => ?_) (fun c11 => ?_)
  · -- then
    refine AW.rs ?_
    refine AL.val rfl (.inl rfl) (HV.as rfl) ?_
    refine AL.nx ?_
    refine AW.ret ?_
    refine ret_and ?_
    refine post_one rfl rfl ?_ (.inr rfl)
    exact ⟨rfl, X9⟩
  · -- else
    refine AW.skip ?_
    refine nrm_and ?_
    refine AW.rs ?_
    refine AL.val rfl (.inl rfl) (HV.as rfl) ?_
    refine AL.nx ?_
    refine AW.rs ?_
    refine AL.val rfl (.inl rfl) (HV.lda (cs := [.int .i64 n, v]) rfl va39 (at_cells hb7 rfl)) ?_
    refine AL.val rfl (.inl rfl) (HV.mv rfl) ?_
    refine AL.w rfl (.inl rfl) (WV.call fn19 rfl (szFamily_ok n (hr.ext X9) 1048576 (by omega))) ?_
    rintro _ H12 ⟨⟨q14, rfl, ha15, hb16, he17⟩, hx13⟩
    have X18 := Ext.trans X9 hx13
    have X19 := Ext.trans X10 hx13
    have hb20 := hb7.ext hx13
    refine AL.val rfl (.inl rfl) (HV.as rfl) ?_
    refine AL.nx ?_
    refine AW.seq ?_
    refine AW.rs ?_
    refine AL.val rfl (.inl rfl) (HV.mv rfl) ?_
    refine AL.val rfl (.inl rfl) (HV.lti rfl rfl) ?_
    refine AL.nx ?_
    refine AW.ifd rfl (fun c21 => ?_) (fun c21 => ?_)
    · -- then
      refine AW.rs ?_
      refine AL.val rfl (.inl rfl) (HV.as rfl) ?_
      refine AL.nx ?_
      refine AW.ret ?_
      refine ret_and ?_
      refine post_one rfl rfl ?_ (.inr rfl)
      exact ⟨rfl, X18⟩
    · -- else
      refine AW.skip ?_
      refine nrm_and ?_
      refine AW.rs ?_
      refine AL.val rfl (.inl rfl) (HV.lda (cs := [.int .i64 n, v]) rfl va39 (at_cells hb20 rfl)) ?_
      refine AL.w rfl (.inl rfl) (WV.call fn21 rfl (toFamily_ok n (hr.ext X18) (he17 (by omega)))) ?_
      rintro _ H23 ⟨⟨v22, rfl, ho25⟩, hx24⟩
      have X27 := Ext.trans X18 hx24
      have X28 := Ext.trans X19 hx24
      have hb29 := hb20.ext hx24
      have X30 := Ext.refl H23
      have hr26 := rd_ofO ho25.rd
      refine AL.val rfl (.inl rfl) (HV.mv rfl) ?_
      refine AL.w rfl (.inl rfl) (WV.call fn15 rfl (toS_ok (hr2.ext X27) (by omega))) ?_
      rintro v31 H32 ⟨hx33, ho34⟩
      have X36 := Ext.trans X27 hx33
      have X37 := Ext.trans X28 hx33
      have X38 := Ext.trans X30 hx33
      have hb39 := hb29.ext hx33
      have X40 := Ext.refl H32
      have hr35 := ho34.rd
      refine AL.w rfl (.inl rfl) (WV.call fn20 rfl (specMay_ok n (hr26.ext X38) hr35)) ?_
      rintro _ H41 ⟨rfl, hx42⟩
      have X43 := Ext.trans X36 hx42
      have X44 := Ext.trans X37 hx42
      have X45 := Ext.trans X38 hx42
      have X46 := Ext.trans X40 hx42
      have hb47 := hb39.ext hx42
      refine AL.val rfl (.inl rfl) (HV.mv rfl) ?_
      refine AL.val rfl (.inl rfl) (HV.ex rfl rfl) ?_
      refine AL.val rfl (.inl rfl) (HV.ex rfl rfl) ?_
      refine AL.val rfl (.inl rfl) (HV.as rfl) ?_
      refine AL.val rfl (.inl rfl) (HV.as rfl) ?_
      refine AL.nx ?_
      refine AW.rs ?_
      refine AL.val rfl (.inl rfl) (HV.lda (cs := [.int .i64 n, v]) rfl va39 (at_cells hb47 rfl)) ?_
      refine AL.w rfl (.inl rfl) (WV.call fn21 rfl (toFamily_ok n (hr.ext X43) (he17 (by omega)))) ?_
      rintro _ H49 ⟨⟨v48, rfl, ho51⟩, hx50⟩
      have X53 := Ext.trans X43 hx50
      have X54 := Ext.trans X44 hx50
      have X55 := Ext.trans X45 hx50
      have X56 := Ext.trans X46 hx50
      have hb57 := hb47.ext hx50
      have X58 := Ext.refl H49
      have hr52 := rd_ofO ho51.rd
      refine AL.w rfl (.inl rfl) (WV.al ze42 rfl) ?_
      rintro _ H60 ⟨b59, rfl, hx61, hn62, hb63⟩
      have o64 := Nat.le_trans X53.bd hn62
      have o65 := Nat.le_trans X54.bd hn62
      have o66 := Nat.le_trans X55.bd hn62
      have o67 := Nat.le_trans X56.bd hn62
      have o68 := Nat.le_trans X58.bd hn62
      have ne69 : b3 ≠ b59 := by have := hb57.lt; omega
      have X70 := Ext.trans X53 hx61
      have X71 := Ext.trans X54 hx61
      have X72 := Ext.trans X55 hx61
      have X73 := Ext.trans X56 hx61
      have X74 := Ext.trans X58 hx61
      have hb75 := hb57.ext hx61
      have X76 := Ext.refl H60
      refine AL.w0 (.inl rfl) (WV.st rfl rfl va42 rfl hb63 (Nat.le_of_ble_eq_true rfl) (one_cons rfl (one_cons (sl_one1 (hr52.ext X74).isSl) one_nil))) ?_
      rintro _ H77 ⟨hx78, hb79⟩
      have X80 := Ext.thru X70 hx78 (fun z_ hz_ => by rw [hz_]; exact o64)
      have X81 := Ext.thru X71 hx78 (fun z_ hz_ => by rw [hz_]; exact o65)
      have X82 := Ext.thru X72 hx78 (fun z_ hz_ => by rw [hz_]; exact o66)
      have X83 := Ext.thru X73 hx78 (fun z_ hz_ => by rw [hz_]; exact o67)
      have X84 := Ext.thru X74 hx78 (fun z_ hz_ => by rw [hz_]; exact o68)
      have hb86 := hb75.but hx78 ne69
      have hb87 : At W H77 b59 ⟨42, [.int .i64 n, v48], 2⟩ := hb79
      refine AL.nx ?_
      refine AW.rs ?_
      refine AL.val rfl (.inl rfl) (HV.mv rfl) ?_
      refine AL.w rfl (.inl rfl) (WV.call fn15 rfl (toS_ok (hr2.ext X80) (by omega))) ?_
      rintro v88 H89 ⟨hx90, ho91⟩
      have X93 := Ext.trans X80 hx90
      have X94 := Ext.trans X81 hx90
      have X95 := Ext.trans X82 hx90
      have X96 := Ext.trans X83 hx90
      have X97 := Ext.trans X84 hx90
      have hb98 := hb86.ext hx90
      have hb99 := hb87.ext hx90
      have X100 := Ext.refl H89
      have hr92 := ho91.rd
      refine AL.val rfl (.inl rfl) (HV.as rfl) ?_
      refine AL.nx ?_
      refine AW.rs ?_
      refine AL.val rfl (.inl rfl) (HV.lda (cs := [.int .i64 n, v48]) rfl va42 (at_cells hb99 rfl)) ?_
      refine AL.val rfl (.inl rfl) (HV.mv rfl) ?_
      refine AL.w rfl (.inl rfl) (WV.call fn22 rfl (implMay_ok2 n (hr52.ext X97) hr92)) ?_
      rintro _ H101 ⟨rfl, hx102⟩
      have X103 := Ext.trans X93 hx102
      have X104 := Ext.trans X94 hx102
      have X105 := Ext.trans X95 hx102
      have X106 := Ext.trans X96 hx102
      have X107 := Ext.trans X97 hx102
      have X108 := Ext.trans X100 hx102
      have hb109 := hb98.ext hx102
      have hb110 := hb99.ext hx102
      refine AL.val rfl (.inl rfl) (HV.mv rfl) ?_
      refine AL.val rfl (.inl rfl) (HV.ex rfl rfl) ?_
      refine AL.val rfl (.inl rfl) (HV.ex rfl rfl) ?_
      refine AL.val rfl (.inl rfl) (HV.as rfl) ?_
      refine AL.val rfl (.inl rfl) (HV.as rfl) ?_
      refine AL.nx ?_
      refine AW.seq ?_
      refine AW.rs ?_
      refine AL.val rfl (.inl rfl) (HV.mv rfl) ?_
      refine AL.val rfl (.inl rfl) (HV.mv rfl) ?_
      refine AL.val rfl (.inl rfl) (HV.neb Try.underlying4 rfl rfl) ?_
      refine AL.val rfl (.inl rfl) (HV.mv rfl) ?_
      cases c111 : !(decide (okI n l ∧ Ris 0 (n - 1) g ∧ opI (bitsI g) l) == decide (okI n l ∧ Ris 0 (n - 1) g ∧ opI (bitsI g) l))
      · -- false
        refine AL.val rfl (.inr ⟨_, _, _, rfl, rfl, rfl⟩) (HV.mv rfl) ?_
        refine AL.val rfl (.inr ⟨_, _, _, rfl, rfl, rfl⟩) (HV.mv rfl) ?_
        refine AL.val rfl (.inr ⟨_, _, _, rfl, rfl, rfl⟩) (HV.nei rfl rfl) ?_
        refine AL.val rfl (.inl rfl) (HV.pickF rfl rfl) ?_
        refine AL.nx ?_
        refine AW.ifd rfl (fun c112 => ?_) (fun c112 => ?_)
        · -- then
          refine AW.rs ?_
          refine AL.val rfl (.inl rfl) (HV.as rfl) ?_
          refine AL.nx ?_
          refine AW.ret ?_
          refine ret_and ?_
          refine post_one rfl rfl ?_ (.inr rfl)
          exact absurd c112 (by simp)
        · -- else
          refine AW.skip ?_
          refine nrm_and ?_
          refine AW.seq ?_
          refine AW.seq ?_
          refine AW.draw' [0, 0, 2, 7, 15] mixed (by rfl) ?_
          refine Dr.read 0 _ 46 _ rfl rfl rfl rfl rfl (RV.of (by intro _ _ h; cases h) (.inl rfl) (fun _ xd => HV.lda (cs := [.int .i64 n, v48]) rfl va42 (fun j u hu => rdc_ext xd ((at_cells hb110 rfl) j u hu)))) ?_
          refine Dr.read 1 _ 47 _ rfl rfl rfl rfl rfl (RV.of (by intro _ _ h; cases h) (.inl rfl) (fun _ xd => HV.lda (cs := [.int .i64 n, v]) rfl va39 (fun j u hu => rdc_ext xd ((at_cells hb109 rfl) j u hu)))) ?_
          refine Dr.eff 2 _ _ rfl (by intro d h; cases h; exact ⟨rfl, rfl⟩) rfl rfl rfl (EC.of (by intro _ _ h; cases h) (.inl rfl) (WV.call fn21 rfl (toFamily_ok n (hr.ext X103) (he17 (by omega))))) (fun v H' h => .inl (h.2)) ?_
          rintro _ H114 ⟨⟨v113, rfl, ho116⟩, hx115⟩
          have X118 := Ext.trans X103 hx115
          have X119 := Ext.trans X104 hx115
          have X120 := Ext.trans X105 hx115
          have X121 := Ext.trans X106 hx115
          have X122 := Ext.trans X107 hx115
          have X123 := Ext.trans X108 hx115
          have hb124 := hb109.ext hx115
          have hb125 := hb110.ext hx115
          have X126 := Ext.refl H114
          have hr117 := rd_ofO ho116.rd
          refine Dr.eff 3 _ _ rfl (by intro d h; cases h; exact ⟨rfl, rfl⟩) rfl rfl rfl (EC.of (by intro _ _ h; cases h) (.inl rfl) (WV.call fn23 rfl (eqFam_ok n n (hr52.ext X122) hr117))) (fun v H' h => .inl (h.2)) ?_
          rintro _ H127 ⟨rfl, hx128⟩
          have X129 := Ext.trans X118 hx128
          have X130 := Ext.trans X119 hx128
          have X131 := Ext.trans X120 hx128
          have X132 := Ext.trans X121 hx128
          have X133 := Ext.trans X122 hx128
          have X134 := Ext.trans X123 hx128
          have X135 := Ext.trans X126 hx128
          have hb136 := hb124.ext hx128
          have hb137 := hb125.ext hx128
          refine Dr.read 4 _ 50 _ rfl rfl rfl rfl rfl (RV.of (by intro _ _ h; cases h) (.inl rfl) (fun _ xd => HV.not rfl)) ?_
          refine Dr.fin rfl ?_
          refine nrm_and ?_
          refine AW.ifn rfl (fun c138 => ?_) (fun c138 => ?_)
          · -- then
            refine AW.rs ?_
            refine AL.val rfl (.inl rfl) (HV.as rfl) ?_
            refine AL.nx ?_
            refine AW.ret ?_
            refine ret_and ?_
            refine post_one rfl rfl ?_ (.inr rfl)
            exact absurd c138 (by simp)
          · -- else
            refine AW.skip ?_
            refine nrm_and ?_
            refine AW.seq ?_
            refine AW.rs ?_
            refine AL.val rfl (.inl rfl) (HV.mv rfl) ?_
            refine AL.val rfl (.inl rfl) (HV.mv rfl) ?_
            refine AL.w rfl (.inl rfl) (WV.call fn15 rfl (toS_ok (hr2.ext X129) (by omega))) ?_
            rintro v139 H140 ⟨hx141, ho142⟩
            have X144 := Ext.trans X129 hx141
            have X145 := Ext.trans X130 hx141
            have X146 := Ext.trans X131 hx141
            have X147 := Ext.trans X132 hx141
            have X148 := Ext.trans X133 hx141
            have X149 := Ext.trans X134 hx141
            have X150 := Ext.trans X135 hx141
            have hb151 := hb136.ext hx141
            have hb152 := hb137.ext hx141
            have X153 := Ext.refl H140
            have hr143 := ho142.rd
            refine AL.w rfl (.inl rfl) (WV.call fn18 rfl (eqS_ok (hr92.ext X149) hr143)) ?_
            rintro _ H154 ⟨rfl, hx155⟩
            have X156 := Ext.trans X144 hx155
            have X157 := Ext.trans X145 hx155
            have X158 := Ext.trans X146 hx155
            have X159 := Ext.trans X147 hx155
            have X160 := Ext.trans X148 hx155
            have X161 := Ext.trans X149 hx155
            have X162 := Ext.trans X150 hx155
            have X163 := Ext.trans X153 hx155
            have hb164 := hb151.ext hx155
            have hb165 := hb152.ext hx155
            refine AL.val rfl (.inl rfl) (HV.not rfl) ?_
            refine AL.nx ?_
            refine AW.ifn rfl (fun c166 => ?_) (fun c166 => ?_)
            · -- then
              refine AW.rs ?_
              refine AL.val rfl (.inl rfl) (HV.as rfl) ?_
              refine AL.nx ?_
              refine AW.ret ?_
              refine ret_and ?_
              refine post_one rfl rfl ?_ (.inr rfl)
              exact absurd c166 (by simp)
            · -- else
              refine AW.skip ?_
              refine nrm_and ?_
              refine AW.rs ?_
              refine AL.val rfl (.inl rfl) (HV.as rfl) ?_
              refine AL.nx ?_
              refine AW.ret ?_
              refine post_one rfl rfl ?_ (.inr rfl)
              exact ⟨rfl, X156⟩
      · -- true
        refine AL.off rfl rfl (by decide) rfl ?_
        refine AL.off rfl rfl (by decide) rfl ?_
        refine AL.off rfl rfl (by decide) rfl ?_
        refine AL.val rfl (.inl rfl) (HV.pickT rfl rfl) ?_
        refine AL.nx ?_
        refine AW.cond rfl (fun _ => ?_) (fun h => by cases h)
        refine AW.rs ?_
        refine AL.val rfl (.inl rfl) (HV.as rfl) ?_
        refine AL.nx ?_
        refine AW.ret ?_
        refine ret_and ?_
        refine post_one rfl rfl ?_ (.inr rfl)
        exact absurd c111 (by simp)
end Go.Proofs.Ytbjcgcililpfdaa.VC
