/- Walks. -/
import Derived.Test.YtfjihanfiliniaaVF
import Derived.Test.YtfjihanfiliniaaVS
set_option linter.unusedVariables false
set_option linter.unusedSimpArgs false
namespace Go.Proofs.Ytfjihanfiliniaa.VC
open Go Go.RowKit
/-! ### Bits of small numbers -/
theorem bt_nat (k : IntKind) (hk : k = .i64 ∨ k = .u64) {a b : Nat} (ha : a < 128) (hb : b < 128) : bt .or k a b = ((a ||| b : Nat) : Int) ∧ bt .and k a b = ((a &&& b : Nat) : Int) := by
  have h1 : a ||| b < 128 := Nat.or_lt_two_pow (n := 7) ha hb
  have h2 : a &&& b < 128 := Nat.lt_of_le_of_lt Nat.and_le_left ha
  have w1 : ∀ (c : Nat), c < 128 → k.wrap (c : Int) = c := fun c hc => by
    rcases hk with rfl | rfl
    · have h1 : (c : Int) % 18446744073709551616 = c := by omega
      simp [IntKind.wrap, IntKind.signed, IntKind.bits, h1]; omega
    · have h1 : (c : Int) % 18446744073709551616 = c := by omega
      simp [IntKind.wrap, IntKind.signed, IntKind.bits, h1]
  have e : k.bits = 64 := by rcases hk with rfl | rfl <;> rfl
  have f : ∀ c : Nat, c < 128 → (BitVec.ofInt k.bits (c : Int)).toNat = c := fun c hc => by
    rw [e, BitVec.toNat_ofInt]; omega
  constructor
  · simp only [bt, BitVec.toNat_or]
    rw [f a ha, f b hb, w1 _ h1]
  · simp only [bt, BitVec.toNat_and]
    rw [f a ha, f b hb, w1 _ h2]
def bitN (l : List Int) : Nat := l.foldl (fun a h => a ||| 2 ^ h.toNat) 0
theorem fold_nat {n : Int} (hn : 1 ≤ n ∧ n ≤ 7) : ∀ (l : List Int) (a : Nat), a < 2 ^ n.toNat → (∀ x ∈ l, 0 ≤ x ∧ x ≤ n - 1) →
    l.foldl (fun a h => bt .or .i64 a (IntKind.i64.wrap (1 * 2 ^ min (IntKind.u64.wrap h).toNat IntKind.i64.bits))) (a : Int) = ((l.foldl (fun a h => a ||| 2 ^ h.toNat) a : Nat) : Int) ∧
    l.foldl (fun a h => bt .or .u64 a (IntKind.u64.wrap (1 * 2 ^ min h.toNat IntKind.u64.bits))) (a : Int) = ((l.foldl (fun a h => a ||| 2 ^ h.toNat) a : Nat) : Int) ∧
    l.foldl (fun a h => a ||| 2 ^ h.toNat) a < 2 ^ n.toNat
  | [], a, ha, _ => ⟨rfl, rfl, ha⟩
  | x :: l, a, ha, h => by
    obtain ⟨hx, hl⟩ := List.forall_mem_cons.1 h
    have hx7 : x = 0 ∨ x = 1 ∨ x = 2 ∨ x = 3 ∨ x = 4 ∨ x = 5 ∨ x = 6 := by omega
    have e1 : IntKind.i64.wrap (1 * 2 ^ min (IntKind.u64.wrap x).toNat IntKind.i64.bits) = ((2 ^ x.toNat : Nat) : Int) := by
      rcases hx7 with rfl | rfl | rfl | rfl | rfl | rfl | rfl <;> rfl
    have e2 : IntKind.u64.wrap (1 * 2 ^ min x.toNat IntKind.u64.bits) = ((2 ^ x.toNat : Nat) : Int) := by
      rcases hx7 with rfl | rfl | rfl | rfl | rfl | rfl | rfl <;> rfl
    have p7 : 2 ^ n.toNat ≤ 128 := Nat.pow_le_pow_right (n := 2) (by decide) (show n.toNat ≤ 7 by omega)
    have px : 2 ^ x.toNat < 2 ^ n.toNat := Nat.pow_lt_pow_right (by decide) (by omega)
    have ha' : a ||| 2 ^ x.toNat < 2 ^ n.toNat := Nat.or_lt_two_pow ha px
    simp only [List.foldl_cons]
    rw [e1, e2, (bt_nat .i64 (.inl rfl) (by omega) (by omega)).1, (bt_nat .u64 (.inr rfl) (by omega) (by omega)).1]
    exact fold_nat hn l _ ha' hl
theorem ris_in {n : Int} {l : List Int} (h : Ris 0 (n - 1) l) : ∀ x ∈ l, 0 ≤ x ∧ x ≤ n - 1 := fun x hx => by
  obtain ⟨j, hj, rfl⟩ := List.getElem_of_mem hx
  have q := h j hj
  have e : l.getD j 0 = l[j] := by simp [hj]
  unfold RisAt at q
  rw [e] at q
  exact ⟨q.1, q.2.1⟩
theorem bits_nat {n : Int} {l : List Int} (hn : 1 ≤ n ∧ n ≤ 7) (h : Ris 0 (n - 1) l) : bitsI l = bitN l ∧ crowd l = bitN l ∧ bitN l < 2 ^ n.toNat :=
  fold_nat hn l 0 (Nat.two_pow_pos _) (ris_in h)
theorem bits_lt {n : Int} {l : List Int} (hn : 1 ≤ n ∧ n ≤ 7) (h : Ris 0 (n - 1) l) : 0 ≤ bitsI l ∧ bitsI l < ((2 ^ n.toNat : Nat) : Int) := by
  obtain ⟨h1, _, h3⟩ := bits_nat hn h
  omega
theorem pow7 {n : Int} (hn : 1 ≤ n ∧ n ≤ 7) : 2 ^ n.toNat ≤ 128 := Nat.pow_le_pow_right (n := 2) (by decide) (show n.toNat ≤ 7 by omega)
theorem inI_iff {n : Int} {x y : List Int} (hn : 1 ≤ n ∧ n ≤ 7) (hx : Ris 0 (n - 1) x) (hy : Ris 0 (n - 1) y) : inI x y ↔ bitN x &&& bitN y = bitN x := by
  obtain ⟨a1, _, a3⟩ := bits_nat hn hx
  obtain ⟨b1, _, b3⟩ := bits_nat hn hy
  have p7 := pow7 hn
  unfold inI
  rw [a1, b1, (bt_nat .i64 (.inl rfl) (by omega) (by omega)).2]
  omega
theorem inC_iff {n : Int} {x y : List Int} (hn : 1 ≤ n ∧ n ≤ 7) (hx : Ris 0 (n - 1) x) (hy : Ris 0 (n - 1) y) : inC x y ↔ bitN x &&& bitN y = bitN y := by
  obtain ⟨_, a1, a3⟩ := bits_nat hn hx
  obtain ⟨_, b1, b3⟩ := bits_nat hn hy
  have p7 := pow7 hn
  unfold inC
  rw [a1, b1, (bt_nat .u64 (.inr rfl) (by omega) (by omega)).2]
  omega
theorem inCI {n : Int} {x y : List Int} (hn : 1 ≤ n ∧ n ≤ 7) (hx : Ris 0 (n - 1) x) (hy : Ris 0 (n - 1) y) : inC x y ↔ inI y x := by
  rw [inC_iff hn hx hy, inI_iff hn hy hx, Nat.and_comm]
theorem ok_iff (n : Int) (l : List (List Int)) : okI n l ↔ okC n l := by
  constructor
  · rintro ⟨hn, h1, h2⟩
    refine ⟨hn, fun i hi => ⟨h1 i hi, fun j hj => ⟨?_, ?_⟩⟩⟩
    · rw [inCI hn (h1 j (by omega)).1 (h1 i hi).1]; exact h2 i hi j (by omega) (by omega)
    · rw [inCI hn (h1 i hi).1 (h1 j (by omega)).1]; exact h2 j (by omega) i hi (by omega)
  · rintro ⟨hn, h⟩
    refine ⟨hn, fun i hi => (h i hi).1, fun i hi j hj hne => ?_⟩
    rw [← inCI hn (h j hj).1.1 (h i hi).1.1]
    rcases Nat.lt_or_ge i j with g | g
    · exact ((h j hj).2 i g).2
    · exact ((h i hi).2 j (by omega)).1
theorem op_iff {n : Int} {l : List (List Int)} {g : List Int} (h : okC n l) (hg : Ris 0 (n - 1) g) : opI (bitsI g) l ↔ opC (crowd g) l := by
  have hx : ∀ x ∈ l, Ris 0 (n - 1) x := fun x hx => by
    obtain ⟨i, hi, rfl⟩ := List.getElem_of_mem hx
    have := (h.2 i hi).1.1
    simpa [hi] using this
  constructor
  · rintro ⟨x, hm, e⟩
    exact ⟨x, hm, (inCI h.1 hg (hx x hm)).2 e⟩
  · rintro ⟨x, hm, e⟩
    exact ⟨x, hm, (inCI h.1 hg (hx x hm)).1 e⟩
theorem okC_low {n : Int} {l : List (List Int)} (h : okC n l) : ∀ x ∈ l, ∀ y ∈ x, 0 ≤ y ∧ y < 64 := fun x hx => by
  obtain ⟨i, hi, rfl⟩ := List.getElem_of_mem hx
  have := (h.2 i hi).1.1
  exact ris_low h.1 (by simpa [hi] using this)
theorem tabv {n : Int} {l : List (List Int)} {g : List Int} {z : Bool} (hok : okI n l) (hg : Ris 0 (n - 1) g) (hz : (tabI n l)[(bitsI g).toNat]? = some z) : z = decide (okI n l ∧ Ris 0 (n - 1) g ∧ opI (bitsI g) l) := by
  obtain ⟨h0, h1⟩ := bits_lt hok.1 hg
  have e : (tabI n l).getD (bitsI g).toNat false = z := gd hz (by omega)
  rw [← e, tabI_get (by omega), decide_eq_decide, Int.toNat_of_nonneg h0]
  exact ⟨fun h => ⟨hok, hg, h⟩, fun h => h.2.2⟩

theorem bitP {s i : Nat} : s / 2 ^ i % 2 = 1 ↔ s.testBit i = true := by
  rw [Nat.testBit_eq_decide_div_mod_eq]; simp
theorem ex_get {g : List Int} {p : Int → Prop} : (∃ i, i < g.length ∧ p (g.getD i 0)) ↔ ∃ x ∈ g, p x := by
  constructor
  · rintro ⟨i, hi, h⟩
    refine ⟨g[i], List.getElem_mem hi, ?_⟩
    simpa [hi] using h
  · rintro ⟨x, hx, h⟩
    obtain ⟨i, hi, rfl⟩ := List.getElem_of_mem hx
    exact ⟨i, hi, by simpa [hi] using h⟩
theorem fold_bitI {t : Nat} : ∀ (g : List Int) (a : Nat), (g.foldl (fun a h => a ||| 2 ^ h.toNat) a).testBit t = true ↔ a.testBit t = true ∨ ∃ x ∈ g, x.toNat = t
  | [], a => by simp
  | y :: g, a => by
    rw [List.foldl_cons, fold_bitI g, Nat.testBit_or, Bool.or_eq_true, Nat.testBit_two_pow, decide_eq_true_iff]
    simp only [List.mem_cons, exists_eq_or_imp, or_assoc]
theorem bitN_bit {g : List Int} {t : Nat} : (bitN g).testBit t = true ↔ ∃ i, i < g.length ∧ (g.getD i 0).toNat = t := by
  unfold bitN
  rw [fold_bitI, ex_get (p := fun x => x.toNat = t)]
  simp
/-! ### Who swings -/
theorem u64_small {j : Nat} (h : j < 7) : (IntKind.u64.wrap (j : Int)).toNat = j := by
  have : j = 0 ∨ j = 1 ∨ j = 2 ∨ j = 3 ∨ j = 4 ∨ j = 5 ∨ j = 6 := by omega
  rcases this with rfl | rfl | rfl | rfl | rfl | rfl | rfl <;> rfl
theorem fdiv_nat (s j : Nat) : (s : Int).fdiv (2 ^ j) = ((s / 2 ^ j : Nat) : Int) := by
  rw [Int.fdiv_eq_ediv_of_nonneg _ (Int.le_of_lt (Int.pow_pos (by decide)))]
  rw [show ((2 : Int) ^ j) = ((2 ^ j : Nat) : Int) by simp]
  rfl
theorem shr_i (s : Nat) {j : Nat} (h : j < 7) : (s : Int).fdiv (2 ^ min (IntKind.u64.wrap (j : Int) : Int).toNat IntKind.i64.bits) = ((s / 2 ^ j : Nat) : Int) := by
  rw [u64_small h, show min j IntKind.i64.bits = j from Nat.min_eq_left (by simp only [IntKind.bits]; omega), fdiv_nat]
theorem shr_u (s : Nat) {j : Nat} (h : j < 7) : (s : Int).fdiv (2 ^ min ((j : Int) : Int).toNat IntKind.u64.bits) = ((s / 2 ^ j : Nat) : Int) := by
  rw [Int.toNat_natCast, show min j IntKind.u64.bits = j from Nat.min_eq_left (by simp only [IntKind.bits]; omega), fdiv_nat]
theorem bit_of {k : IntKind} (hk : k = .i64 ∨ k = .u64) {s j : Nat} (hs : s < 128) : bt .and k ((s / 2 ^ j : Nat) : Int) 1 = ((s / 2 ^ j % 2 : Nat) : Int) := by
  have := (bt_nat k hk (a := s / 2 ^ j) (b := 1) (Nat.lt_of_le_of_lt (Nat.div_le_self _ _) hs) (by decide)).2
  rw [Nat.and_one_is_mod] at this
  exact this
def grpL (q h : Nat) : List Int := ((List.range h).filter (fun j => q / 2 ^ j % 2 == 1)).map Int.ofNat
theorem grpL_succ (q h : Nat) : grpL q (h + 1) = grpL q h ++ if q / 2 ^ h % 2 = 1 then [(h : Int)] else [] := by
  unfold grpL
  rw [List.range_succ, List.filter_append, List.map_append]
  by_cases e : q / 2 ^ h % 2 = 1 <;> simp [e]
theorem grpL_len (q h : Nat) : (grpL q h).length ≤ h := by
  unfold grpL
  rw [List.length_map]
  exact Nat.le_trans (List.length_filter_le _ _) (by simp)
theorem lexI_neg : ∀ l m : List Int, lexI m l = - lexI l m
  | [], [] => rfl
  | [], _ :: _ => rfl
  | _ :: _, [] => rfl
  | a :: l, b :: m => by
    simp only [lexI]
    rcases Int.lt_trichotomy a b with h | h | h
    · rw [if_neg (by omega), if_pos h, if_pos h]; rfl
    · subst h
      simp only [Int.lt_irrefl, gt_iff_lt, if_false]
      exact lexI_neg l m
    · rw [if_pos h, if_neg (by omega), if_pos h]
theorem lexI_self : ∀ l : List Int, lexI l l = 0
  | [] => rfl
  | a :: l => by simp [lexI, lexI_self l]
theorem lexI_eq : ∀ {l m : List Int}, lexI l m = 0 → l = m
  | [], [], _ => rfl
  | [], _ :: _, h => by simp [lexI] at h
  | _ :: _, [], h => by simp [lexI] at h
  | a :: l, b :: m, h => by
    simp only [lexI] at h
    rcases Int.lt_trichotomy a b with g | g | g
    · rw [if_pos g] at h; omega
    · subst g
      simp only [Int.lt_irrefl, gt_iff_lt, if_false] at h
      rw [lexI_eq h]
    · rw [if_neg (by omega), if_pos g] at h; omega
theorem lexI_trans : ∀ {x y z : List Int}, lexI x y < 0 → lexI y z < 0 → lexI x z < 0
  | [], [], _, h, _ => by simp [lexI] at h
  | [], b :: y, [], _, h => by simp [lexI] at h
  | [], _ :: _, _ :: _, _, _ => by simp [lexI]
  | _ :: _, [], _, h, _ => by simp [lexI] at h
  | _ :: _, _ :: _, [], _, h => by simp [lexI] at h
  | a :: x, b :: y, c :: z, h, k => by
    simp only [lexI] at h k ⊢
    rcases Int.lt_trichotomy a b with g | g | g
    · rcases Int.lt_trichotomy b c with f | f | f
      · rw [if_pos (by omega)]; omega
      · rw [if_pos (by omega)]; omega
      · rw [if_neg (by omega), if_pos f] at k; omega
    · subst g
      simp only [Int.lt_irrefl, gt_iff_lt, if_false] at h
      rcases Int.lt_trichotomy a c with f | f | f
      · rw [if_pos f]; omega
      · subst f
        simp only [Int.lt_irrefl, gt_iff_lt, if_false] at k ⊢
        exact lexI_trans h k
      · rw [if_neg (by omega), if_pos f] at k; omega
    · rw [if_neg (by omega), if_pos g] at h; omega
theorem lexI_le {x y z : List Int} (h : ¬ lexI y x < 0) (k : ¬ lexI z y < 0) : ¬ lexI z x < 0 := fun e => by
  rcases Int.lt_trichotomy (lexI x y) 0 with g | g | g
  · exact k (lexI_trans e g)
  · rw [← lexI_eq g] at k; exact k e
  · have := lexI_neg x y; omega
theorem sorted_ext {α : Type} {R : α → α → Prop} (asym : ∀ x y, R x y → ¬ R y x) : ∀ {l m : List α}, l.Pairwise R → m.Pairwise R → (∀ x, x ∈ l ↔ x ∈ m) → l = m
  | [], [], _, _, _ => rfl
  | [], b :: m, _, _, h => absurd ((h b).2 List.mem_cons_self) (by simp)
  | a :: l, [], _, _, h => absurd ((h a).1 List.mem_cons_self) (by simp)
  | a :: l, b :: m, hl, hm, h => by
    rw [List.pairwise_cons] at hl hm
    have e : a = b := by
      rcases List.mem_cons.1 ((h a).1 List.mem_cons_self) with e | ha
      · exact e
      · rcases List.mem_cons.1 ((h b).2 List.mem_cons_self) with e | hb
        · exact e.symm
        · exact absurd (hl.1 b hb) (asym _ _ (hm.1 a ha))
    subst e
    rw [sorted_ext asym hl.2 hm.2 (fun x => ?_)]
    constructor
    · intro hx
      rcases List.mem_cons.1 ((h x).1 (List.mem_cons_of_mem _ hx)) with e | hx'
      · subst e; exact absurd (hl.1 _ hx) (asym _ _ (hl.1 _ hx))
      · exact hx'
    · intro hx
      rcases List.mem_cons.1 ((h x).2 (List.mem_cons_of_mem _ hx)) with e | hx'
      · subst e; exact absurd (hm.1 _ hx) (asym _ _ (hm.1 _ hx))
      · exact hx'
theorem ris_ext {n : Int} {x y : List Int} (hx : Ris 0 (n - 1) x) (hy : Ris 0 (n - 1) y) (h : ∀ t : Nat, (t : Int) ∈ x ↔ (t : Int) ∈ y) : x = y := by
  have pw : ∀ {z : List Int}, Ris 0 (n - 1) z → z.Pairwise (· < ·) := fun {z} hz => by
    refine List.pairwise_iff_getElem.2 fun i j hi hj hij => ?_
    have key : ∀ d, i + 1 + d < z.length → z.getD i 0 < z.getD (i + 1 + d) 0 := by
      intro d
      induction d with
      | zero => intro hd; have q := (hz (i + 1) hd).2.2 (by omega); simpa using q
      | succ d ih =>
        intro hd
        have q := (hz (i + 1 + (d + 1)) hd).2.2 (by omega)
        have q2 := ih (by omega)
        rw [show i + 1 + (d + 1) - 1 = i + 1 + d by omega] at q
        omega
    obtain ⟨d, rfl⟩ : ∃ d, j = i + 1 + d := ⟨j - i - 1, by omega⟩
    have := key d hj
    simpa [hi, hj] using this
  refine sorted_ext (R := (· < ·)) (fun x y h k => by omega) (pw hx) (pw hy) (fun z => ?_)
  constructor
  · intro hz
    have := ris_in hx z hz
    obtain ⟨t, rfl⟩ : ∃ t : Nat, z = t := ⟨z.toNat, by omega⟩
    exact (h t).1 hz
  · intro hz
    have := ris_in hy z hz
    obtain ⟨t, rfl⟩ : ∃ t : Nat, z = t := ⟨z.toNat, by omega⟩
    exact (h t).2 hz
theorem mem_bit {n : Int} {g : List Int} (h : Ris 0 (n - 1) g) {t : Nat} : (bitN g).testBit t = true ↔ (t : Int) ∈ g := by
  rw [bitN_bit]
  constructor
  · rintro ⟨i, hi, e⟩
    have h0 := (h i hi).1
    have e2 : g.getD i 0 = g[i] := by simp [hi]
    rw [e2] at e h0
    have : (t : Int) = g[i] := by omega
    rw [this]; exact List.getElem_mem hi
  · intro hm
    obtain ⟨i, hi, e⟩ := List.getElem_of_mem hm
    exact ⟨i, hi, by simp [hi, e]⟩
theorem same_at {α : Type} {l : List α} {q : Int} {z y : α} (h : l[q.toNat]? = some z) (k : l[q.toNat]? = some y) : y = z := Option.some.inj (k.symm.trans h)
/-! ### Views -/
def viewL (g x : List Int) : List Int := g.map (fun h => x.getD h.toNat 0)
/-- Where a view lies, or would lie. -/
def posV (st : List (List Int × List Int)) (v : List Int) : Nat := (st.takeWhile (fun x => decide (lexI x.1 v < 0))).length
def incL (c : List Int) (s : Int) : List Int := c.set s.toNat (c.getD s.toNat 0 + 1)
def hasV (st : List (List Int × List Int)) (v : List Int) : Prop := ∃ c, st[posV st v]? = some (v, c)
noncomputable instance (st : List (List Int × List Int)) (v : List Int) : Decidable (hasV st v) := Classical.propDecidable _
noncomputable def putV (n : Int) (st : List (List Int × List Int)) (v : List Int) : List (List Int × List Int) := if hasV st v then st else insL st (posV st v) (v, List.replicate n.toNat 0)
noncomputable def addV (n : Int) (st : List (List Int × List Int)) (v : List Int) (s : Int) : List (List Int × List Int) :=
  (putV n st v).set (posV st v) (v, incL ((putV n st v).getD (posV st v) ([], [])).2 s)
noncomputable def seeV (n : Int) (g : List Int) (l : List (Int × List Int)) : Nat → List (List Int × List Int)
  | 0 => []
  | i + 1 => addV n (seeV n g l i) (viewL g (l.getD i (0, [])).2) (l.getD i (0, [])).1
def SrtV (st : List (List Int × List Int)) : Prop := st.Pairwise (fun x y => lexI x.1 y.1 < 0)
theorem posV_le (st : List (List Int × List Int)) (v : List Int) : posV st v ≤ st.length := (List.takeWhile_sublist _).length_le
theorem tw_split {α : Type} (p : α → Bool) : ∀ l : List α, l = l.takeWhile p ++ l.dropWhile p := fun l => (List.takeWhile_append_dropWhile).symm
theorem tw_get {α : Type} {p : α → Bool} : ∀ {l : List α} {j : Nat} {x : α}, j < (l.takeWhile p).length → l[j]? = some x → p x = true
  | [], j, x, h, _ => by simp at h
  | a :: l, j, x, h, hx => by
    rw [List.takeWhile_cons] at h
    by_cases ha : p a = true
    · rw [if_pos ha] at h
      cases j with
      | zero => simp at hx; subst hx; exact ha
      | succ j => exact tw_get (l := l) (j := j) (by simpa using h) (by simpa using hx)
    · rw [if_neg ha] at h; simp at h
theorem tw_end {α : Type} {p : α → Bool} : ∀ {l : List α} {x : α}, l[(l.takeWhile p).length]? = some x → p x = false
  | [], x, h => by simp at h
  | a :: l, x, h => by
    rw [List.takeWhile_cons] at h
    by_cases ha : p a = true
    · rw [if_pos ha] at h
      exact tw_end (l := l) (by simpa using h)
    · rw [if_neg ha] at h
      simp at h; subst h; simpa using ha
/-- What a search finds. -/
theorem posV_of {st : List (List Int × List Int)} {v : List Int} {p : Nat} (hp : p ≤ st.length) (h1 : ∀ j, j < p → lexI (st.getD j ([], [])).1 v < 0) (h2 : p < st.length → ¬ lexI (st.getD p ([], [])).1 v < 0) : posV st v = p := by
  rcases Nat.lt_trichotomy (posV st v) p with h | h | h
  · have hl : posV st v < st.length := by omega
    have e := tw_end (p := fun x : List Int × List Int => decide (lexI x.1 v < 0)) (l := st) (x := st[posV st v]) (List.getElem?_eq_getElem hl)
    have := h1 _ h
    simp [hl] at this
    simp at e; omega
  · exact h
  · have hl : p < st.length := by have := posV_le st v; omega
    have e := tw_get (p := fun x : List Int × List Int => decide (lexI x.1 v < 0)) (l := st) (j := p) (x := st[p]) h (List.getElem?_eq_getElem hl)
    have := h2 hl
    simp [hl] at this
    simp at e; omega
theorem posV_lt {st : List (List Int × List Int)} {v : List Int} {j : Nat} (h : j < posV st v) : lexI (st.getD j ([], [])).1 v < 0 := by
  have hl : j < st.length := by have := posV_le st v; omega
  have e := tw_get (p := fun x : List Int × List Int => decide (lexI x.1 v < 0)) (l := st) (j := j) (x := st[j]) h (List.getElem?_eq_getElem hl)
  simp [hl]; simpa using e
theorem posV_ge {st : List (List Int × List Int)} {v : List Int} (h : posV st v < st.length) : ¬ lexI (st.getD (posV st v) ([], [])).1 v < 0 := by
  have e := tw_end (p := fun x : List Int × List Int => decide (lexI x.1 v < 0)) (l := st) (x := st[posV st v]) (List.getElem?_eq_getElem h)
  simp [h]; simpa using e
theorem srtV_lt {st : List (List Int × List Int)} (h : SrtV st) {i j : Nat} (hij : i < j) (hj : j < st.length) : lexI (st.getD i ([], [])).1 (st.getD j ([], [])).1 < 0 := by
  have := List.pairwise_iff_getElem.1 h i j (by omega) hj hij
  simpa [hj, show i < st.length by omega] using this
/-- Behind the place all are greater. -/
theorem posV_gt {st : List (List Int × List Int)} {v : List Int} (hs : SrtV st) {j : Nat} (h1 : posV st v ≤ j) (h2 : j < st.length) : ¬ lexI (st.getD j ([], [])).1 v < 0 := by
  rcases Nat.eq_or_lt_of_le h1 with e | e
  · subst e; exact posV_ge h2
  · intro k
    exact posV_ge (v := v) (by omega) (lexI_trans (srtV_lt hs e h2) k)
theorem hasV_iff {st : List (List Int × List Int)} {v : List Int} : hasV st v ↔ posV st v < st.length ∧ (st.getD (posV st v) ([], [])).1 = v := by
  constructor
  · intro ⟨c, h⟩
    have hl := (List.getElem?_eq_some_iff.1 h).1
    refine ⟨hl, ?_⟩
    simp [List.getD_eq_getElem?_getD, h]
  · intro ⟨h1, h2⟩
    refine ⟨(st.getD (posV st v) ([], [])).2, ?_⟩
    rw [List.getElem?_eq_getElem h1]
    simp [h1] at h2 ⊢
    exact Prod.ext h2 rfl
theorem putV_has {n : Int} {st : List (List Int × List Int)} {v : List Int} (h : hasV st v) : putV n st v = st := if_pos h
theorem putV_new {n : Int} {st : List (List Int × List Int)} {v : List Int} (h : ¬ hasV st v) : putV n st v = insL st (posV st v) (v, List.replicate n.toNat 0) := if_neg h
/-- How an entry is added. -/
theorem addV_eq {n : Int} {st : List (List Int × List Int)} {v : List Int} {s : Int} (hs : SrtV st) :
    ∃ A B c, addV n st v s = A ++ (v, incL c s) :: B ∧ A.length = posV st v ∧ (∀ x ∈ A, lexI x.1 v < 0) ∧ (∀ x ∈ B, lexI v x.1 < 0) ∧ (st = A ++ (v, c) :: B ∨ (st = A ++ B ∧ c = List.replicate n.toNat 0)) := by
  have hA : ∀ x ∈ st.take (posV st v), lexI x.1 v < 0 := fun x hx => by
    obtain ⟨j, hj, rfl⟩ := List.getElem_of_mem hx
    rw [List.length_take] at hj
    have := posV_lt (st := st) (v := v) (j := j) (by omega)
    have hl : j < st.length := by omega
    simp [hl] at this
    simpa using this
  have hle := posV_le st v
  by_cases h : hasV st v
  · obtain ⟨c, hc⟩ := h
    have hl := (List.getElem?_eq_some_iff.1 hc).1
    have e0 : st = st.take (posV st v) ++ (v, c) :: st.drop (posV st v + 1) := by
      rw [← (List.getElem?_eq_some_iff.1 hc).2, ← List.drop_eq_getElem_cons hl, List.take_append_drop]
    refine ⟨st.take (posV st v), st.drop (posV st v + 1), c, ?_, by rw [List.length_take]; omega, hA, fun x hx => ?_, .inl e0⟩
    · unfold addV
      rw [putV_has ⟨c, hc⟩, List.set_eq_take_append_cons_drop, if_pos hl]
      congr 3
      simp [List.getD_eq_getElem?_getD, hc]
    · obtain ⟨j, hj, rfl⟩ := List.getElem_of_mem hx
      rw [List.length_drop] at hj
      have := srtV_lt hs (i := posV st v) (j := posV st v + 1 + j) (by omega) (by omega)
      have e1 : (st.getD (posV st v) ([], [])).1 = v := by simp [List.getD_eq_getElem?_getD, hc]
      rw [e1] at this
      rw [List.getElem_drop]
      simpa [show posV st v + 1 + j < st.length by omega] using this
  · refine ⟨st.take (posV st v), st.drop (posV st v), List.replicate n.toNat 0, ?_, by rw [List.length_take]; omega, hA, fun x hx => ?_, .inr ⟨(List.take_append_drop _ _).symm, rfl⟩⟩
    · unfold addV
      rw [putV_new h, insL_at hle, if_neg (Nat.lt_irrefl _), if_pos rfl]
      unfold insL
      rw [List.set_append, if_neg (by rw [List.length_take]; omega), List.length_take, Nat.min_eq_left hle, Nat.sub_self, List.set_cons_zero]
    · obtain ⟨j, hj, rfl⟩ := List.getElem_of_mem hx
      rw [List.length_drop] at hj
      have h3 := posV_gt (v := v) hs (j := posV st v + j) (by omega) (by omega)
      have h4 : lexI (st.getD (posV st v + j) ([], [])).1 v ≠ 0 := fun e => by
        have e2 := lexI_eq e
        rcases Nat.eq_zero_or_pos j with rfl | hp
        · exact h (hasV_iff.2 ⟨by omega, by simpa using e2⟩)
        · have h5 := srtV_lt hs (i := posV st v) (j := posV st v + j) (by omega) (by omega)
          rw [e2] at h5
          exact posV_ge (v := v) (by omega) h5
      have h6 := lexI_neg v (st.getD (posV st v + j) ([], [])).1
      rw [List.getElem_drop]
      simp [show posV st v + j < st.length by omega] at h3 h4 h6 ⊢
      omega
theorem addV_srt {n : Int} {st : List (List Int × List Int)} {v : List Int} {s : Int} (hs : SrtV st) : SrtV (addV n st v s) := by
  obtain ⟨A, B, c, e, _, hA, hB, h⟩ := addV_eq (n := n) (v := v) (s := s) hs
  have hAB : (A ++ B).Pairwise (fun x y => lexI x.1 y.1 < 0) := by
    rcases h with h | ⟨h, _⟩
    · subst h
      exact hs.sublist (List.Sublist.append_left (List.sublist_cons_self _ _) _)
    · subst h; exact hs
  rw [List.pairwise_append] at hAB
  unfold SrtV
  rw [e, List.pairwise_append]
  refine ⟨hAB.1, List.pairwise_cons.2 ⟨fun y hy => hB y hy, hAB.2.1⟩, fun x hx y hy => ?_⟩
  rcases List.mem_cons.1 hy with rfl | hy
  · exact hA x hx
  · exact hAB.2.2 x hx y hy
theorem addV_mem {n : Int} {st : List (List Int × List Int)} {v : List Int} {s : Int} (hs : SrtV st) : ∃ c, (v, incL c s) ∈ addV n st v s ∧ ((v, c) ∈ st ∨ ((∀ x ∈ st, x.1 ≠ v) ∧ c = List.replicate n.toNat 0)) ∧ ∀ x, x ∈ addV n st v s → x = (v, incL c s) ∨ (x ∈ st ∧ x.1 ≠ v) := by
  obtain ⟨A, B, c, e, _, hA, hB, h⟩ := addV_eq (n := n) (v := v) (s := s) hs
  have nA : ∀ x ∈ A, x.1 ≠ v := fun x hx q => by have := hA x hx; rw [q, lexI_self] at this; omega
  have nB : ∀ x ∈ B, x.1 ≠ v := fun x hx q => by have := hB x hx; rw [q, lexI_self] at this; omega
  refine ⟨c, by rw [e]; simp, ?_, fun x hx => ?_⟩
  · rcases h with h | ⟨h, k⟩
    · left; rw [h]; simp
    · right
      refine ⟨fun x hx => ?_, k⟩
      rw [h] at hx
      rcases List.mem_append.1 hx with hx | hx
      · exact nA x hx
      · exact nB x hx
  · rw [e] at hx
    have hst : ∀ y, y ∈ A ∨ y ∈ B → y ∈ st := fun y hy => by
      rcases h with h | ⟨h, _⟩ <;> rw [h] <;> rcases hy with hy | hy <;> simp [hy]
    rcases List.mem_append.1 hx with hx | hx
    · exact .inr ⟨hst x (.inl hx), nA x hx⟩
    · rcases List.mem_cons.1 hx with rfl | hx
      · exact .inl rfl
      · exact .inr ⟨hst x (.inr hx), nB x hx⟩
theorem addV_len {n : Int} {st : List (List Int × List Int)} {v : List Int} {s : Int} (hs : SrtV st) : (addV n st v s).length ≤ st.length + 1 ∧ 1 ≤ (addV n st v s).length := by
  obtain ⟨A, B, c, e, _, hA, hB, h⟩ := addV_eq (n := n) (v := v) (s := s) hs
  rw [e]
  rcases h with h | ⟨h, _⟩ <;> rw [h] <;> simp <;> omega
theorem incL_len (c : List Int) (s : Int) : (incL c s).length = c.length := by simp [incL]
theorem incL_at {c : List Int} {s : Int} (hs : s.toNat < c.length) (j : Nat) : (incL c s).getD j 0 = c.getD j 0 + if j = s.toNat then 1 else 0 := by
  unfold incL
  simp only [List.getD_eq_getElem?_getD, List.getElem?_set]
  by_cases h : s.toNat = j
  · subst h; simp [hs]
  · rw [if_neg h, if_neg (fun e => h e.symm)]; simp
/-- How many of the first rows have a view and a secret. -/
def cntV (g : List Int) (l : List (Int × List Int)) (i : Nat) (v : List Int) (j : Nat) : Int := (((l.take i).filter (fun r => decide (viewL g r.2 = v ∧ r.1.toNat = j))).length : Int)
theorem cntV_succ {g : List Int} {l : List (Int × List Int)} {i : Nat} (hi : i < l.length) (v : List Int) (j : Nat) : cntV g l (i + 1) v j = cntV g l i v j + if viewL g (l.getD i (0, [])).2 = v ∧ (l.getD i (0, [])).1.toNat = j then 1 else 0 := by
  unfold cntV
  rw [List.take_succ_eq_append_getElem hi, List.filter_append, List.length_append, show l.getD i (0, []) = l[i] by simp [hi]]
  by_cases h : viewL g l[i].2 = v ∧ l[i].1.toNat = j
  · rw [if_pos h, List.filter_cons_of_pos (by simpa using h)]; simp
  · rw [if_neg h, List.filter_cons_of_neg (by simpa using h)]; simp
theorem cntV_nn (g : List Int) (l : List (Int × List Int)) (i : Nat) (v : List Int) (j : Nat) : 0 ≤ cntV g l i v j ∧ cntV g l i v j ≤ i := by
  unfold cntV
  have := List.length_filter_le (fun r : Int × List Int => decide (viewL g r.2 = v ∧ r.1.toNat = j)) (l.take i)
  rw [List.length_take] at this
  omega
structure SeeOk (n : Int) (g : List Int) (l : List (Int × List Int)) (i : Nat) (st : List (List Int × List Int)) : Prop where
  srt : SrtV st
  len : st.length ≤ i
  cl : ∀ e ∈ st, e.2.length = n.toNat
  vl : ∀ e ∈ st, e.1.length = g.length
  cnt : ∀ e ∈ st, ∀ j, j < n.toNat → e.2.getD j 0 = cntV g l i e.1 j
  all : ∀ k, k < i → ∃ c, (viewL g (l.getD k (0, [])).2, c) ∈ st
  ex : ∀ e ∈ st, ∃ k, k < i ∧ viewL g (l.getD k (0, [])).2 = e.1
theorem seeV_ok {n : Int} {g : List Int} {l : List (Int × List Int)} (hl : ∀ i, i < l.length → 0 ≤ (l.getD i (0, [])).1 ∧ (l.getD i (0, [])).1 ≤ n - 1) : ∀ i, i ≤ l.length → SeeOk n g l i (seeV n g l i)
  | 0, _ => ⟨List.Pairwise.nil, Nat.le_refl _, (fun e h => by cases h), (fun e h => by cases h), (fun e h => by cases h), (fun k h => by omega), (fun e h => by cases h)⟩
  | i + 1, hi => by
    have ih := seeV_ok (g := g) hl i (by omega)
    have hr := hl i (by omega)
    obtain ⟨c, h1, h2, h3⟩ := addV_mem (n := n) (v := viewL g (l.getD i (0, [])).2) (s := (l.getD i (0, [])).1) ih.srt
    have hcl : c.length = n.toNat := by
      rcases h2 with h2 | ⟨_, h2⟩
      · exact ih.cl _ h2
      · rw [h2]; simp
    refine ⟨addV_srt ih.srt, ?_, fun e he => ?_, fun e he => ?_, fun e he j hj => ?_, fun k hk => ?_, fun e he => ?_⟩
    · have := (addV_len (n := n) (v := viewL g (l.getD i (0, [])).2) (s := (l.getD i (0, [])).1) ih.srt).1
      have := ih.len
      show (addV n _ _ _).length ≤ _
      omega
    · rcases h3 e he with rfl | ⟨he, _⟩
      · simp only [incL_len]; exact hcl
      · exact ih.cl e he
    · rcases h3 e he with rfl | ⟨he, _⟩
      · simp [viewL]
      · exact ih.vl e he
    · rw [cntV_succ (by omega)]
      rcases h3 e he with rfl | ⟨he, hne⟩
      · simp only
        rw [incL_at (by rw [hcl]; omega)]
        have e1 : c.getD j 0 = cntV g l i (viewL g (l.getD i (0, [])).2) j := by
          rcases h2 with h2 | ⟨hno, h2⟩
          · exact ih.cnt _ h2 j hj
          · rw [h2]
            have e2 : cntV g l i (viewL g (l.getD i (0, [])).2) j = 0 := by
              unfold cntV
              rw [List.filter_eq_nil_iff.2]
              · rfl
              · intro r hr2 hq
                obtain ⟨k, hk, rfl⟩ := List.getElem_of_mem hr2
                rw [List.length_take] at hk
                have hk2 : k < l.length := by omega
                obtain ⟨c', hc'⟩ := ih.all k (by omega)
                simp only [List.getElem_take, decide_eq_true_eq] at hq
                exact hno _ hc' (by simpa [hk2] using hq.1)
            rw [e2]
            simp [hj]
        rw [e1]
        congr 1
        by_cases hs : (l.getD i (0, [])).1.toNat = j
        · rw [if_pos hs.symm, if_pos (by first | exact ⟨rfl, hs⟩ | exact ⟨trivial, hs⟩)]
        · rw [if_neg (fun e => hs e.symm), if_neg (fun e => hs e.2)]
      · rw [if_neg (fun h => hne h.1.symm), Int.add_zero]
        exact ih.cnt e he j hj
    · by_cases hv : viewL g (l.getD k (0, [])).2 = viewL g (l.getD i (0, [])).2
      · rw [hv]; exact ⟨_, h1⟩
      · have hk2 : k < i := by
          rcases Nat.lt_or_ge k i with h | h
          · exact h
          · exact absurd (by rw [show k = i by omega]) hv
        obtain ⟨c', hc'⟩ := ih.all k hk2
        obtain ⟨A, B, c2, e, _, hA, hB, h⟩ := addV_eq (n := n) (v := viewL g (l.getD i (0, [])).2) (s := (l.getD i (0, [])).1) ih.srt
        refine ⟨c', ?_⟩
        show _ ∈ addV n _ _ _
        rw [e]
        rcases h with h | ⟨h, _⟩
        · rw [h] at hc'
          rcases List.mem_append.1 hc' with q | q
          · exact List.mem_append_left _ q
          · rcases List.mem_cons.1 q with q | q
            · exact absurd (congrArg Prod.fst q) hv
            · exact List.mem_append_right _ (List.mem_cons_of_mem _ q)
        · rw [h] at hc'
          rcases List.mem_append.1 hc' with q | q
          · exact List.mem_append_left _ q
          · exact List.mem_append_right _ (List.mem_cons_of_mem _ q)
    · rcases h3 e he with rfl | ⟨he, _⟩
      · exact ⟨i, by omega, rfl⟩
      · obtain ⟨k, hk, e1⟩ := ih.ex e he
        exact ⟨k, by omega, e1⟩
theorem seeV_fst (n : Int) (g : List Int) (l : List (Int × List Int)) (i : Nat) : True := trivial
theorem mid_eq {a b : Nat} (h : a + b ≤ 4000000) : IntKind.i64.wrap (((a : Int) + (b : Int)).fdiv (2 ^ min (1 : Int).toNat IntKind.u64.bits)) = (((a + b) / 2 : Nat) : Int) := by
  have e : ((a : Int) + (b : Int)).fdiv (2 ^ min (1 : Int).toNat IntKind.u64.bits) = (((a + b) / 2 : Nat) : Int) := by
    have := fdiv_nat (a + b) 1
    have e2 : (2 : Int) ^ min (1 : Int).toNat IntKind.u64.bits = 2 ^ 1 := rfl
    rw [e2, ← Int.natCast_add]
    exact this
  rw [e, IntKind.wrap_i64]; omega
theorem seeOk_in {n : Int} {g : List Int} {l : List (Int × List Int)} {i : Nat} {st : List (List Int × List Int)} (hs : SeeOk n g l i st) : ∀ e ∈ st, ∀ y ∈ e.2, 0 ≤ y ∧ y ≤ i := fun e he y hy => by
  obtain ⟨j, hj, rfl⟩ := List.getElem_of_mem hy
  have h1 := hs.cnt e he j (by rw [← hs.cl e he]; exact hj)
  have h2 := cntV_nn g l i e.1 j
  rw [← h1] at h2
  simpa [hj] using h2
theorem putV_at {n : Int} {g : List Int} {l : List (Int × List Int)} {i : Nat} {st : List (List Int × List Int)} (hs : SeeOk n g l i st) (v : List Int) : ∃ c, (putV n st v)[posV st v]? = some (v, c) ∧ c.length = n.toNat ∧ ∀ y ∈ c, 0 ≤ y ∧ y ≤ i := by
  by_cases h : hasV st v
  · obtain ⟨c, hc⟩ := h
    rw [putV_has ⟨c, hc⟩]
    have hm := List.mem_of_getElem? hc
    exact ⟨c, hc, hs.cl _ hm, seeOk_in hs _ hm⟩
  · rw [putV_new h, insL_get (posV_le _ _), if_neg (Nat.lt_irrefl _), if_pos rfl]
    refine ⟨_, rfl, by simp, fun y hy => ?_⟩
    rw [(List.mem_replicate.1 hy).2]; omega
theorem putV_len {n : Int} {st : List (List Int × List Int)} {v : List Int} : posV st v < (putV n st v).length := by
  by_cases h : hasV st v
  · rw [putV_has h]; exact (hasV_iff.1 h).1
  · rw [putV_new h, insL_len]; have := posV_le st v; omega
theorem addV_of {n : Int} {st : List (List Int × List Int)} {v : List Int} {s z : Int} {q : Int} {x : List Int × List Int} (hq : q = (posV st v : Int)) (hx : (putV n st v)[q.toNat]? = some x) (hx1 : x.1 = v) (hz : x.2[s.toNat]? = some z) : (putV n st v).set q.toNat (x.1, x.2.set s.toNat (z + 1)) = addV n st v s := by
  subst hq
  rw [Int.toNat_natCast] at hx ⊢
  unfold addV incL
  have e1 : (putV n st v).getD (posV st v) ([], []) = x := by simp [List.getD_eq_getElem?_getD, hx]
  rw [e1, hx1, show x.2.getD s.toNat 0 = z by simp [List.getD_eq_getElem?_getD, hz]]
theorem viewL_snoc {g x : List Int} {j : Nat} {h : Int} (hg : g[j]? = some h) : viewL (g.take (j + 1)) x = viewL (g.take j) x ++ [x.getD h.toNat 0] := by
  obtain ⟨hj, rfl⟩ := List.getElem?_eq_some_iff.1 hg
  unfold viewL
  rw [List.take_succ_eq_append_getElem hj, List.map_append]; rfl
theorem seeV_succ {n : Int} {g : List Int} {l : List (Int × List Int)} {i : Nat} {z : Int × List Int} (h : l.getD i (0, []) = z) : seeV n g l (i + 1) = addV n (seeV n g l i) (viewL g z.2) z.1 := by
  subst h; rfl
theorem viewL_len (g x : List Int) : (viewL g x).length = g.length := by simp [viewL]
theorem fst_gd {st : List (List Int × List Int)} {q : Int} {j : Nat} {z : List Int} (h : (st.map Prod.fst)[q.toNat]? = some z) (e : (j : Int) = q) : (st.getD j ([], [])).1 = z := by
  subst e
  rw [Int.toNat_natCast, List.getElem?_map, Option.map_eq_some_iff] at h
  obtain ⟨y, hy, rfl⟩ := h
  simp [List.getD_eq_getElem?_getD, hy]
theorem snd_gd {st : List (List Int × List Int)} {q : Int} {j : Nat} {z : List Int} (h : (st.map Prod.snd)[q.toNat]? = some z) (e : (j : Int) = q) : ∃ y, st[j]? = some y ∧ y.2 = z := by
  subst e
  rw [Int.toNat_natCast, List.getElem?_map, Option.map_eq_some_iff] at h
  exact h
theorem hasV_of {st : List (List Int × List Int)} {g z : List Int} {a : Nat} (hp : posV st g = a) (hl : a < st.length) (hz : (st.getD a ([], [])).1 = z) (h : z = g) : ∃ c, st[a]? = some (g, c) := by
  subst h
  refine ⟨(st.getD a ([], [])).2, ?_⟩
  rw [List.getElem?_eq_getElem hl]
  simp [hl] at hz ⊢
  exact Prod.ext hz rfl
/-! ### Counts -/
def sumL : List Int → Int
  | [] => 0
  | a :: l => a + sumL l
def maxL : List Int → Int
  | [] => 0
  | a :: l => max a (maxL l)
def manyL (l : List Int) : Nat := (l.filter (fun x => decide (x > 0))).length
theorem sumL_app (l m : List Int) : sumL (l ++ m) = sumL l + sumL m := by
  induction l with
  | nil => simp [sumL]
  | cons a l ih => simp only [List.cons_append, sumL, ih]; omega
theorem maxL_app {l m : List Int} (h : 0 ≤ maxL m) : maxL (l ++ m) = max (maxL l) (maxL m) := by
  induction l with
  | nil => simp [maxL]; omega
  | cons a l ih => simp only [List.cons_append, maxL, ih]; omega
theorem maxL_nn (l : List Int) : 0 ≤ maxL l := by
  induction l with
  | nil => exact Int.le_refl _
  | cons a l ih => simp only [maxL]; omega
theorem sumL_snoc {l : List Int} {i : Nat} {z : Int} (h : l[i]? = some z) : sumL (l.take (i + 1)) = sumL (l.take i) + z := by
  obtain ⟨hi, rfl⟩ := List.getElem?_eq_some_iff.1 h
  rw [List.take_succ_eq_append_getElem hi, sumL_app]; simp [sumL]
theorem maxL_snoc {l : List Int} {i : Nat} {z : Int} (h : l[i]? = some z) (hz : 0 ≤ z) : maxL (l.take (i + 1)) = max (maxL (l.take i)) z := by
  obtain ⟨hi, rfl⟩ := List.getElem?_eq_some_iff.1 h
  rw [List.take_succ_eq_append_getElem hi, maxL_app (by simp [maxL]; omega)]; simp only [maxL]; omega
theorem manyL_snoc {l : List Int} {i : Nat} {z : Int} (h : l[i]? = some z) : manyL (l.take (i + 1)) = manyL (l.take i) + if z > 0 then 1 else 0 := by
  obtain ⟨hi, rfl⟩ := List.getElem?_eq_some_iff.1 h
  unfold manyL
  rw [List.take_succ_eq_append_getElem hi, List.filter_append, List.length_append]
  by_cases h : l[i] > 0
  · rw [if_pos h, List.filter_cons_of_pos (by simpa using h)]; rfl
  · rw [if_neg h, List.filter_cons_of_neg (by simpa using h)]; rfl
theorem manyL_le (l : List Int) : manyL l ≤ l.length := List.length_filter_le _ _
theorem sumL_bd {l : List Int} {B : Int} (hB : 0 ≤ B) (h : ∀ x ∈ l, 0 ≤ x ∧ x ≤ B) : 0 ≤ sumL l ∧ sumL l ≤ l.length * B := by
  induction l with
  | nil => simp [sumL]
  | cons a l ih =>
    have h1 := h a List.mem_cons_self
    have h2 := ih (fun x hx => h x (List.mem_cons_of_mem _ hx))
    simp only [sumL, List.length_cons]
    have : ((l.length + 1 : Nat) : Int) * B = l.length * B + B := by rw [Int.natCast_add, Int.add_mul]; simp
    omega
theorem maxL_bd {l : List Int} {B : Int} (hB : 0 ≤ B) (h : ∀ x ∈ l, x ≤ B) : maxL l ≤ B := by
  induction l with
  | nil => simpa [maxL] using hB
  | cons a l ih =>
    have h1 := h a List.mem_cons_self
    have h2 := ih (fun x hx => h x (List.mem_cons_of_mem _ hx))
    simp only [maxL]; omega
theorem take_bd {l : List Int} {B : Int} (h : ∀ x ∈ l, 0 ≤ x ∧ x ≤ B) (i : Nat) : ∀ x ∈ l.take i, 0 ≤ x ∧ x ≤ B := fun x hx => h x (List.mem_of_mem_take hx)
theorem many_zero {l : List Int} (h : ∀ x ∈ l, 0 ≤ x) : manyL l = 0 ↔ sumL l = 0 := by
  induction l with
  | nil => simp [manyL, sumL]
  | cons a l ih =>
    have h1 := h a List.mem_cons_self
    have h2 := ih (fun x hx => h x (List.mem_cons_of_mem _ hx))
    have h3 : 0 ≤ sumL l := by
      clear ih h2
      induction l with
      | nil => simp [sumL]
      | cons b l ih => have := h b (by simp); have := ih (fun x hx => h x (by rcases List.mem_cons.1 hx with rfl | hx <;> simp [*])); simp only [sumL]; omega
    unfold manyL at h2 ⊢
    simp only [sumL]
    by_cases q : a > 0
    · rw [List.filter_cons_of_pos (by simpa using q)]; simp; omega
    · rw [List.filter_cons_of_neg (by simpa using q), h2]; omega
theorem sumL_nn {l : List Int} (h : ∀ x ∈ l, 0 ≤ x) : 0 ≤ sumL l := by
  induction l with
  | nil => simp [sumL]
  | cons b l ih => have := h b (by simp); have := ih (fun x hx => h x (by simp [hx])); simp only [sumL]; omega
theorem max_le_sum {l : List Int} (h : ∀ x ∈ l, 0 ≤ x) : maxL l ≤ sumL l := by
  induction l with
  | nil => simp [sumL, maxL]
  | cons b l ih =>
    have h1 := h b (by simp); have h2 := ih (fun x hx => h x (by simp [hx])); have h3 := sumL_nn (l := l) (fun x hx => h x (by simp [hx]))
    simp only [sumL, maxL]; omega
/-- One secret at most: the greatest count is all. -/
theorem many_one {l : List Int} (h : ∀ x ∈ l, 0 ≤ x) : maxL l = sumL l ↔ manyL l ≤ 1 := by
  induction l with
  | nil => simp [manyL, sumL, maxL]
  | cons a l ih =>
    have hl : ∀ x ∈ l, 0 ≤ x := fun x hx => h x (by simp [hx])
    have h1 := h a (by simp); have h2 := ih hl; have h3 := sumL_nn hl; have h4 := max_le_sum hl; have h5 := maxL_nn l; have h6 := many_zero hl
    have hm : manyL (a :: l) = manyL l + if a > 0 then 1 else 0 := by
      unfold manyL
      by_cases q : a > 0
      · rw [if_pos q, List.filter_cons_of_pos (by simpa using q)]; simp
      · rw [if_neg q, List.filter_cons_of_neg (by simpa using q)]; simp
    rw [hm]
    simp only [sumL, maxL]
    by_cases q : a > 0
    · rw [if_pos q]
      constructor
      · intro e; have : sumL l = 0 := by omega
        have := h6.2 this; omega
      · intro e; have := h6.1 (by omega); omega
    · rw [if_neg q, Nat.add_zero, ← h2]; omega
theorem many_first {l : List Int} {j : Nat} (h : ∀ x ∈ l, 0 ≤ x) (h1 : manyL l ≤ 1) (hj : j < l.length) (hp : 0 < l.getD j 0) : ∀ i, i < l.length → 0 < l.getD i 0 → i = j := by
  induction l generalizing j with
  | nil => simp at hj
  | cons a l ih =>
    have hl : ∀ x ∈ l, 0 ≤ x := fun x hx => h x (by simp [hx])
    have hm : manyL (a :: l) = manyL l + if a > 0 then 1 else 0 := by
      unfold manyL
      by_cases q : a > 0
      · rw [if_pos q, List.filter_cons_of_pos (by simpa using q)]; simp
      · rw [if_neg q, List.filter_cons_of_neg (by simpa using q)]; simp
    have pos : ∀ k, k < l.length → 0 < l.getD k 0 → 1 ≤ manyL l := fun k hk q => by
      unfold manyL
      refine List.length_pos_of_mem (a := l[k]) (List.mem_filter.2 ⟨List.getElem_mem hk, ?_⟩)
      simpa [hk] using q
    intro i hi hq
    cases i with
    | zero =>
      cases j with
      | zero => rfl
      | succ j =>
        have := pos j (by simpa using hj) (by simpa using hp)
        have : a > 0 := by simpa using hq
        rw [hm, if_pos this] at h1; omega
    | succ i =>
      cases j with
      | zero =>
        have := pos i (by simpa using hi) (by simpa using hq)
        have : a > 0 := by simpa using hp
        rw [hm, if_pos this] at h1; omega
      | succ j =>
        rw [ih hl (by omega) (j := j) (by simpa using hj) (by simpa using hp) i (by simpa using hi) (by simpa using hq)]
/-- An open table. -/
def openV (st : List (List Int × List Int)) : Prop := ∀ e ∈ st, manyL e.2 ≤ 1
noncomputable instance (st : List (List Int × List Int)) : Decidable (openV st) := Classical.propDecidable _
/-- A table that hides. -/
def hideV (st : List (List Int × List Int)) (all : List Int) (N : Int) : Prop := ∀ e ∈ st, ∀ j, j < all.length → e.2.getD j 0 * N = sumL e.2 * all.getD j 0
noncomputable instance (st : List (List Int × List Int)) (all : List Int) (N : Int) : Decidable (hideV st all N) := Classical.propDecidable _
def bestV : List (List Int × List Int) → Int
  | [] => 0
  | e :: st => maxL e.2 + bestV st
theorem bestV_app (l m : List (List Int × List Int)) : bestV (l ++ m) = bestV l + bestV m := by
  induction l with
  | nil => simp [bestV]
  | cons a l ih => simp only [List.cons_append, bestV, ih]; omega
theorem bestV_snoc {l : List (List Int × List Int)} {i : Nat} {z : List Int × List Int} (h : l[i]? = some z) : bestV (l.take (i + 1)) = bestV (l.take i) + maxL z.2 := by
  obtain ⟨hi, rfl⟩ := List.getElem?_eq_some_iff.1 h
  rw [List.take_succ_eq_append_getElem hi, bestV_app]; simp [bestV]
theorem bestV_bd {l : List (List Int × List Int)} {B : Int} (hB : 0 ≤ B) (h : ∀ e ∈ l, maxL e.2 ≤ B) : 0 ≤ bestV l ∧ bestV l ≤ l.length * B := by
  induction l with
  | nil => simp [bestV]
  | cons a l ih =>
    have h1 := h a List.mem_cons_self
    have h2 := ih (fun x hx => h x (List.mem_cons_of_mem _ hx))
    have h3 := maxL_nn a.2
    simp only [bestV, List.length_cons]
    have : ((l.length + 1 : Nat) : Int) * B = l.length * B + B := by rw [Int.natCast_add, Int.add_mul]; simp
    omega
/-- Greatest common divisors. -/
def gcdI (a b : Int) : Int := (Nat.gcd a.toNat b.toNat : Nat)
theorem gcdI_step {a b : Int} (ha : 0 ≤ a) (hb : 0 < b) : gcdI b (a % b) = gcdI a b := by
  unfold gcdI
  have : (a % b).toNat = a.toNat % b.toNat := by
    obtain ⟨x, rfl⟩ := Int.eq_ofNat_of_zero_le ha
    obtain ⟨y, rfl⟩ := Int.eq_ofNat_of_zero_le (Int.le_of_lt hb)
    rfl
  rw [this, Nat.gcd_comm b.toNat, ← Nat.gcd_rec, Nat.gcd_comm]
theorem gcdI_zero {a : Int} (ha : 0 ≤ a) : gcdI a 0 = a := by simp [gcdI]; omega
theorem gcdI_pos {a b : Int} (hb : 0 < b) : 0 < gcdI a b := by
  unfold gcdI
  have := Nat.gcd_pos_of_pos_right a.toNat (n := b.toNat) (by omega)
  omega
/-- The secret of a view. -/
def fitV (g : List Int) (v : List Int) (l : List (Int × List Int)) (k : Nat) : Prop := k < l.length ∧ viewL g (l.getD k (0, [])).2 = v
noncomputable def secV (g : List Int) (v : List Int) (l : List (Int × List Int)) : Int × Int :=
  have := Classical.propDecidable
  if h : ∃ k, fitV g v l k then (if ∀ k, fitV g v l k → (l.getD k (0, [])).1 = (l.getD h.choose (0, [])).1 then ((l.getD h.choose (0, [])).1, 0) else (0, 4)) else (0, 6)
theorem secV_none {g v : List Int} {l : List (Int × List Int)} (h : ∀ k, ¬ fitV g v l k) : secV g v l = (0, 6) := by
  unfold secV
  rw [dif_neg (fun ⟨k, q⟩ => h k q)]
theorem secV_one {g v : List Int} {l : List (Int × List Int)} {k : Nat} (hk : fitV g v l k) (h : ∀ j, fitV g v l j → (l.getD j (0, [])).1 = (l.getD k (0, [])).1) : secV g v l = ((l.getD k (0, [])).1, 0) := by
  unfold secV
  have hx : ∃ k, fitV g v l k := ⟨k, hk⟩
  rw [dif_pos hx, if_pos (fun j hj => by rw [h j hj, h _ hx.choose_spec]), h _ hx.choose_spec]
theorem secV_two {g v : List Int} {l : List (Int × List Int)} {k j : Nat} (hk : fitV g v l k) (hj : fitV g v l j) (h : (l.getD j (0, [])).1 ≠ (l.getD k (0, [])).1) : secV g v l = (0, 4) := by
  unfold secV
  have hx : ∃ k, fitV g v l k := ⟨k, hk⟩
  rw [dif_pos hx, if_neg (fun q => h (by rw [q k hk, q j hj]))]
theorem cntV_pos {g : List Int} {l : List (Int × List Int)} {i : Nat} (hi : i ≤ l.length) {v : List Int} {j : Nat} : 0 < cntV g l i v j ↔ ∃ k, k < i ∧ viewL g (l.getD k (0, [])).2 = v ∧ (l.getD k (0, [])).1.toNat = j := by
  unfold cntV
  constructor
  · intro h
    have h2 : 0 < ((l.take i).filter (fun r => decide (viewL g r.2 = v ∧ r.1.toNat = j))).length := by omega
    obtain ⟨r, hr⟩ := List.exists_mem_of_length_pos h2
    obtain ⟨h3, h4⟩ := List.mem_filter.1 hr
    obtain ⟨k, hk, rfl⟩ := List.getElem_of_mem h3
    rw [List.length_take] at hk
    have hk2 : k < l.length := by omega
    simp only [List.getElem_take, decide_eq_true_eq] at h4
    exact ⟨k, by omega, by simpa [hk2] using h4⟩
  · intro ⟨k, hk, h⟩
    have hk2 : k < l.length := by omega
    have : 0 < ((l.take i).filter (fun r => decide (viewL g r.2 = v ∧ r.1.toNat = j))).length := List.length_pos_of_mem (a := l[k]) (List.mem_filter.2 ⟨by rw [List.mem_iff_getElem]; exact ⟨k, by rw [List.length_take]; omega, by simp⟩, by simpa [hk2] using h⟩)
    omega
/-- The secret, by the counts. -/
theorem secV_see {n : Int} {g v : List Int} {l : List (Int × List Int)} {st : List (List Int × List Int)} (hl : ∀ i, i < l.length → 0 ≤ (l.getD i (0, [])).1 ∧ (l.getD i (0, [])).1 ≤ n - 1) (hs : SeeOk n g l l.length st) :
    ((∀ e ∈ st, e.1 ≠ v) → secV g v l = (0, 6)) ∧ (∀ c, (v, c) ∈ st → ¬ manyL c ≤ 1 → secV g v l = (0, 4)) ∧ (∀ c j, (v, c) ∈ st → manyL c ≤ 1 → j < c.length → 0 < c.getD j 0 → secV g v l = ((j : Int), 0)) := by
  have hnn : ∀ e ∈ st, ∀ x ∈ e.2, 0 ≤ x := fun e he x hx => by
    obtain ⟨j, hj, rfl⟩ := List.getElem_of_mem hx
    have h1 := hs.cnt e he j (by rw [← hs.cl e he]; exact hj)
    have h2 := (cntV_nn g l l.length e.1 j).1
    rw [← h1] at h2
    simpa [hj] using h2
  refine ⟨fun h => secV_none fun k hk => ?_, fun c hc hm => ?_, fun c j hc hm hj hp => ?_⟩
  · obtain ⟨c, hc⟩ := hs.all k hk.1
    exact h _ hc hk.2
  · -- two places
    have two : ∃ a b, a < b ∧ b < c.length ∧ 0 < c.getD a 0 ∧ 0 < c.getD b 0 := by
      have gen : ∀ c : List Int, ¬ manyL c ≤ 1 → ∃ a b, a < b ∧ b < c.length ∧ 0 < c.getD a 0 ∧ 0 < c.getD b 0 := by
        intro c
        induction c with
        | nil => intro h; simp [manyL] at h
        | cons x c ih =>
          intro h
          have hm : manyL (x :: c) = manyL c + if x > 0 then 1 else 0 := by
            unfold manyL
            by_cases q : x > 0
            · rw [if_pos q, List.filter_cons_of_pos (by simpa using q)]; simp
            · rw [if_neg q, List.filter_cons_of_neg (by simpa using q)]; simp
          by_cases h2 : manyL c ≤ 1
          · have hx : x > 0 := by
              by_cases q : x > 0
              · exact q
              · rw [hm, if_neg q] at h; omega
            rw [hm, if_pos hx] at h
            have h3 : 0 < manyL c := by omega
            obtain ⟨y, hy⟩ := List.exists_mem_of_length_pos h3
            obtain ⟨h4, h5⟩ := List.mem_filter.1 hy
            obtain ⟨k, hk, rfl⟩ := List.getElem_of_mem h4
            exact ⟨0, k + 1, by omega, by simpa using hk, by simpa using hx, by simpa [hk] using h5⟩
          · obtain ⟨a, b, h3, h4, h5, h6⟩ := ih h2
            exact ⟨a + 1, b + 1, by omega, by simpa using h4, by simpa using h5, by simpa using h6⟩
      exact gen c hm
    obtain ⟨a, b, hab, hb, pa, pb⟩ := two
    have hcl : c.length = n.toNat := hs.cl _ hc
    have ea := hs.cnt _ hc a (by omega); have eb := hs.cnt _ hc b (by omega)
    simp only at ea eb
    rw [ea] at pa; rw [eb] at pb
    obtain ⟨k, hk, k1, k2⟩ := (cntV_pos (Nat.le_refl _)).1 pa
    obtain ⟨m, hm2, m1, m2⟩ := (cntV_pos (Nat.le_refl _)).1 pb
    exact secV_two ⟨hk, k1⟩ ⟨hm2, m1⟩ (fun e => by rw [e] at m2; omega)
  · have hcl : c.length = n.toNat := hs.cl _ hc
    have ej := hs.cnt _ hc j (by omega)
    simp only at ej
    have hp' := hp
    rw [ej] at hp
    obtain ⟨k, hk, k1, k2⟩ := (cntV_pos (Nat.le_refl _)).1 hp
    rw [secV_one (k := k) ⟨hk, k1⟩ (fun i hi => ?_)]
    · have := (hl k hk).1
      rw [show (l.getD k (0, [])).1 = (j : Int) by omega]
    · have hb := hl i hi.1
      have hlt : (l.getD i (0, [])).1.toNat < c.length := by omega
      have ei := hs.cnt _ hc (l.getD i (0, [])).1.toNat (by omega)
      simp only at ei
      have hq := many_first (hnn _ hc) hm hj hp' (l.getD i (0, [])).1.toNat hlt (by rw [ei]; exact (cntV_pos (Nat.le_refl _)).2 ⟨i, hi.1, hi.2, rfl⟩)
      have := (hl k hk).1
      omega
/-! ### Groups of a table -/
theorem grpL_mem {q h t : Nat} : (t : Int) ∈ grpL q h ↔ t < h ∧ q.testBit t = true := by
  unfold grpL
  simp only [List.mem_map, List.mem_filter, List.mem_range, beq_iff_eq]
  constructor
  · rintro ⟨j, ⟨h1, h2⟩, h3⟩
    have : j = t := by have : (j : Int) = t := h3; omega
    subst this
    exact ⟨h1, bitP.1 h2⟩
  · rintro ⟨h1, h2⟩
    exact ⟨t, ⟨h1, bitP.2 h2⟩, rfl⟩
theorem grpL_ris (q h : Nat) : Ris 0 ((h : Int) - 1) (grpL q h) := by
  have pw : (grpL q h).Pairwise (· < ·) := by
    unfold grpL
    refine List.Pairwise.map _ (fun a b (h : a < b) => ?_) (List.Pairwise.filter _ List.pairwise_lt_range)
    show (a : Int) < b
    omega
  intro j hj
  have hm : (grpL q h)[j] ∈ grpL q h := List.getElem_mem hj
  have e : (grpL q h).getD j 0 = (grpL q h)[j] := by simp [hj]
  have hm2 := hm
  unfold grpL at hm2
  simp only [List.mem_map, List.mem_filter, List.mem_range] at hm2
  obtain ⟨t, ⟨h1, _⟩, h3⟩ := hm2
  have h4 : (t : Int) = (grpL q h)[j] := h3
  refine ⟨by rw [e]; omega, by rw [e]; omega, fun h0 => ?_⟩
  have := List.pairwise_iff_getElem.1 pw (j - 1) j (by omega) hj (by omega)
  rw [e]
  simpa [show j - 1 < (grpL q h).length by omega] using this
theorem ris_mono {a b : Int} {g : List Int} (h : Ris 0 a g) (hab : a ≤ b) : Ris 0 b g := fun j hj => by
  have q := h j hj
  unfold RisAt at q ⊢
  exact ⟨q.1, by omega, q.2.2⟩
theorem grp_of {m : Int} {g : List Int} (hm : 1 ≤ m ∧ m ≤ 7) (hg : Ris 0 (m - 1) g) : grpL (bitN g) 7 = g := by
  refine ris_ext (n := 7) (grpL_ris _ _) (ris_mono hg (by omega)) (fun t => ?_)
  rw [grpL_mem, mem_bit hg]
  constructor
  · exact fun h => h.2
  · intro h
    have := ris_in hg _ h
    exact ⟨by omega, h⟩
theorem grp_in {m : Int} {g : List Int} (hg : Ris 0 (m - 1) g) : ∀ h ∈ g, 0 ≤ h ∧ h < m := fun h hh => by have := ris_in hg h hh; omega
theorem ris_len {m : Int} {g : List Int} (hm : 1 ≤ m ∧ m ≤ 7) (hg : Ris 0 (m - 1) g) : g.length ≤ 7 := by
  rw [← grp_of hm hg]; exact grpL_len _ _
theorem bit_128 {m : Int} {g : List Int} (hm : 1 ≤ m ∧ m ≤ 7) (hg : Ris 0 (m - 1) g) : bitN g < 128 := by
  have := (bits_nat hm hg).2.2
  have := pow7 hm
  omega
noncomputable def codeT (n : Int) (s : List Int) (l : List (Int × List Int)) (g : List Int) : Int := if okT n s l then if Ris 0 ((s.length : Int) - 1) g then 0 else 2 else 1
theorem code0 {n : Int} {s : List Int} {l : List (Int × List Int)} {g : List Int} : codeT n s l g = 0 ↔ okT n s l ∧ Ris 0 ((s.length : Int) - 1) g := by
  unfold codeT
  by_cases h : okT n s l
  · rw [if_pos h]
    by_cases h2 : Ris 0 ((s.length : Int) - 1) g
    · rw [if_pos h2]; exact ⟨fun _ => ⟨h, h2⟩, fun _ => rfl⟩
    · rw [if_neg h2]; exact ⟨fun e => by omega, fun e => absurd e.2 h2⟩
  · rw [if_neg h]; exact ⟨fun e => by omega, fun e => absurd e.1 h⟩
theorem code_in (n : Int) (s : List Int) (l : List (Int × List Int)) (g : List Int) : 0 ≤ codeT n s l g ∧ codeT n s l g ≤ 2 := by
  unfold codeT; split
  · split <;> omega
  · omega
noncomputable def ovR (n : Int) (s : List Int) (l : List (Int × List Int)) (g v : List Int) : Int × Int := if codeT n s l g = 0 then if v.length = g.length then secV g v l else (0, 2) else (0, codeT n s l g)
theorem okT_rows {n : Int} {s : List Int} {l : List (Int × List Int)} (h : okT n s l) : ∀ i, i < l.length → 0 ≤ (l.getD i (0, [])).1 ∧ (l.getD i (0, [])).1 ≤ n - 1 := fun i hi => (h.1.2.2.2.2 i hi).1
theorem see_all {n : Int} {s : List Int} {l : List (Int × List Int)} {g : List Int} (h : okT n s l) : SeeOk n g l l.length (seeV n g l l.length) := seeV_ok (okT_rows h) l.length (Nat.le_refl _)
theorem see_nn {n : Int} {s : List Int} {l : List (Int × List Int)} {g : List Int} (h : okT n s l) : ∀ e ∈ seeV n g l l.length, ∀ y ∈ e.2, 0 ≤ y ∧ y ≤ 700 := fun e he y hy => by
  have := seeOk_in (see_all h) e he y hy
  have := h.1.2.2.1
  omega
theorem see_pos {n : Int} {s : List Int} {l : List (Int × List Int)} {g : List Int} (h : okT n s l) : 0 < (seeV n g l l.length).length := by
  have := h.1.2.2.1
  obtain ⟨c, hc⟩ := (see_all (g := g) h).all 0 (by omega)
  exact List.length_pos_of_mem hc
/-- How often each secret is there. -/
noncomputable def allV (n : Int) (l : List (Int × List Int)) : List Int := ((seeV n [] l l.length).getD 0 ([], [])).2
theorem allV_mem {n : Int} {s : List Int} {l : List (Int × List Int)} (h : okT n s l) : ∃ e ∈ seeV n [] l l.length, e.2 = allV n l := by
  have hp := see_pos (g := []) h
  refine ⟨(seeV n [] l l.length)[0], List.getElem_mem hp, ?_⟩
  unfold allV; simp [hp]
theorem allV_in {n : Int} {s : List Int} {l : List (Int × List Int)} (h : okT n s l) : (allV n l).length = n.toNat ∧ ∀ y ∈ allV n l, 0 ≤ y ∧ y ≤ 700 := by
  obtain ⟨e, he, h2⟩ := allV_mem h
  rw [← h2]
  exact ⟨(see_all h).cl e he, see_nn h e he⟩
theorem best_in {n : Int} {s : List Int} {l : List (Int × List Int)} {g : List Int} (h : okT n s l) (i : Nat) : 0 ≤ bestV ((seeV n g l l.length).take i) ∧ bestV ((seeV n g l l.length).take i) ≤ 490000 := by
  have h1 := bestV_bd (l := (seeV n g l l.length).take i) (B := 700) (by decide) (fun e he => maxL_bd (by decide) (fun y hy => (see_nn h e (List.mem_of_mem_take he) y hy).2))
  rw [List.length_take] at h1
  have h2 := (see_all (g := g) h).len
  have h3 := h.1.2.2.1
  omega
theorem mul_in {a b : Int} (ha : 0 ≤ a ∧ a ≤ 700) (hb : 0 ≤ b ∧ b ≤ 44800) : -9223372036854775808 ≤ a * b ∧ a * b ≤ 9223372036854775807 := by
  have h1 := Int.mul_nonneg ha.1 hb.1
  have h2 : a * b ≤ 700 * 44800 := Int.mul_le_mul ha.2 hb.2 hb.1 (by decide)
  omega
theorem gcd_swap {a b : Int} (ha : 0 ≤ a) (hb : 0 ≤ b) (h : b = 0) : gcdI a b = a := by subst h; exact gcdI_zero ha
theorem gcd_le {a b : Int} (ha : 0 ≤ a) (hb : 0 < b) : 0 < gcdI a b ∧ a / gcdI a b ≤ a ∧ b / gcdI a b ≤ b := ⟨gcdI_pos hb, Int.ediv_le_self _ ha, Int.ediv_le_self _ (Int.le_of_lt hb)⟩
variable {W : World} {H : Hp}

end Go.Proofs.Ytfjihanfiliniaa.VC
