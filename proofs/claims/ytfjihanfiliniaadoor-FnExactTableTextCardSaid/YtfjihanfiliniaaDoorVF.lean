/- Walks. -/
import Derived.Test.YtfjihanfiliniaaDoorVE
set_option linter.unusedVariables false
set_option linter.unusedSimpArgs false
namespace Go.Proofs.YtfjihanfiliniaaDoor.VC
open Go Go.RowKit
variable {W : World} {H : Hp}

def cmpI (a b : Int) : Int := if a < b then -1 else if a > b then 1 else 0
/-- Lexicographic order, as a number. -/
def lexI : List Int → List Int → Int
  | [], [] => 0
  | [], _ :: _ => -1
  | _ :: _, [] => 1
  | a :: l, b :: m => if a < b then -1 else if a > b then 1 else lexI l m
theorem lexI_drop {l m : List Int} : ∀ {i : Nat}, (∀ j, j < i → l.getD j 0 = m.getD j 0) → i ≤ l.length → i ≤ m.length → lexI l m = lexI (l.drop i) (m.drop i)
  | 0, _, _, _ => rfl
  | i + 1, he, h1, h2 => by
    cases l with
    | nil => simp at h1
    | cons a l => cases m with
      | nil => simp at h2
      | cons b m =>
        have h0 := he 0 (by omega)
        simp only [List.getD_cons_zero] at h0
        subst h0
        simp only [lexI, Int.lt_irrefl, gt_iff_lt, if_false, List.drop_succ_cons]
        exact lexI_drop (fun j hj => by have := he (j + 1) (by omega); simpa only [List.getD_cons_succ] using this) (by simpa using h1) (by simpa using h2)
theorem lexI_at {l m : List Int} {i : Nat} (he : ∀ j, j < i → l.getD j 0 = m.getD j 0) (h1 : i < l.length) (h2 : i < m.length) (hn : l.getD i 0 ≠ m.getD i 0) : lexI l m = cmpI (l.getD i 0) (m.getD i 0) := by
  rw [lexI_drop he (by omega) (by omega)]
  rw [List.drop_eq_getElem_cons h1, List.drop_eq_getElem_cons h2]
  have e1 : l.getD i 0 = l[i] := by simp [h1]
  have e2 : m.getD i 0 = m[i] := by simp [h2]
  rw [e1, e2] at hn ⊢
  simp only [lexI, cmpI]
  by_cases c1 : l[i] < m[i]
  · simp [c1]
  · by_cases c2 : l[i] > m[i]
    · simp [c1, c2]
    · omega
theorem lexI_end {l m : List Int} {i : Nat} (he : ∀ j, j < i → l.getD j 0 = m.getD j 0) (h1 : i ≤ l.length) (h2 : i ≤ m.length) (h : i = l.length ∨ i = m.length) : lexI l m = if l.length < m.length then -1 else if l.length > m.length then 1 else 0 := by
  rw [lexI_drop he h1 h2]
  rcases h with rfl | rfl
  · rw [List.drop_length]
    rcases Nat.lt_or_ge l.length m.length with h | h
    · rw [List.drop_eq_getElem_cons h, if_pos h]; rfl
    · have : m.drop l.length = [] := List.drop_of_length_le h
      rw [this, if_neg (by omega), if_neg (by omega)]; rfl
  · rw [List.drop_length]
    rcases Nat.lt_or_ge m.length l.length with h | h
    · rw [List.drop_eq_getElem_cons h, if_neg (by omega), if_pos h]; rfl
    · have : l.drop m.length = [] := List.drop_of_length_le h
      rw [this, if_neg (by omega), if_neg (by omega)]; rfl
theorem list_eq {α : Type} [Inhabited α] {l m : List α} {d : α} (hl : l.length = m.length) (h : ∀ j, j < l.length → l.getD j d = m.getD j d) : l = m := by
  apply List.ext_getElem hl
  intro j h1 h2
  have := h j h1
  simpa [h1, h2] using this
theorem set_step {α : Type} {k l : List α} {d z : α} {i : Nat} (he : ∀ j, j < i → k.getD j d = l.getD j d) (hk : k.length = l.length) (hz : l[i]? = some z) : ∀ j, j < i + 1 → (k.set (i : Int).toNat z).getD j d = l.getD j d := fun j hj => by
  have hi := (List.getElem?_eq_some_iff.1 hz).1
  rw [Int.toNat_natCast]
  by_cases e : j = i
  · subst e
    have h2 := (List.getElem?_eq_some_iff.1 hz).2
    simp [hk, hi, h2]
  · have := he j (by omega)
    simp only [List.getD_eq_getElem?_getD] at this ⊢
    rw [List.getElem?_set_ne (fun e' => e e'.symm)]
    exact this
theorem cmpI_zero {a b : Int} : cmpI a b = 0 ↔ a = b := by unfold cmpI; split <;> (try split) <;> omega
def bitsI (l : List Int) : Int := l.foldl (fun a h => bt .or .i64 a (IntKind.i64.wrap (1 * 2 ^ min (IntKind.u64.wrap h).toNat IntKind.i64.bits))) 0
theorem foldl_snoc0 {α β : Type} (f : β → α → β) (b : β) {l : List α} {i : Nat} {z : α} (h : l[i]? = some z) : (l.take (i + 1)).foldl f b = f ((l.take i).foldl f b) z := by
  rw [List.take_succ_eq_append_getElem (List.getElem?_eq_some_iff.1 h).1, List.foldl_append, (List.getElem?_eq_some_iff.1 h).2]; rfl
theorem bitsI_snoc {l : List Int} {i : Nat} {z : Int} (h : l[(i : Int).toNat]? = some z) : bitsI (l.take (i + 1)) = bt .or .i64 (bitsI (l.take i)) (IntKind.i64.wrap (1 * 2 ^ min (IntKind.u64.wrap z).toNat IntKind.i64.bits)) := foldl_snoc0 _ _ h
theorem u64_nonneg (x : Int) : 0 ≤ IntKind.u64.wrap x := by
  simp only [IntKind.wrap, IntKind.signed, IntKind.bits, Bool.false_and, Bool.false_eq_true, if_false]
  exact Int.emod_nonneg _ (by decide)
def RisAt (lo hi : Int) (l : List Int) (j : Nat) : Prop := lo ≤ l.getD j 0 ∧ l.getD j 0 ≤ hi ∧ (0 < j → l.getD (j - 1) 0 < l.getD j 0)
instance (lo hi : Int) (l : List Int) (j : Nat) : Decidable (RisAt lo hi l j) := by unfold RisAt; infer_instance
def Ris (lo hi : Int) (l : List Int) : Prop := ∀ j, j < l.length → RisAt lo hi l j
instance (lo hi : Int) (l : List Int) : Decidable (Ris lo hi l) := by unfold Ris; infer_instance
def crowd (l : List Int) : Int := l.foldl (fun a h => bt .or .u64 a (IntKind.u64.wrap (1 * 2 ^ min h.toNat IntKind.u64.bits))) 0
theorem foldl_snoc {α β : Type} (f : β → α → β) (b : β) {l : List α} {i : Nat} {z : α} (h : l[i]? = some z) : (l.take (i + 1)).foldl f b = f ((l.take i).foldl f b) z := by
  rw [List.take_succ_eq_append_getElem (List.getElem?_eq_some_iff.1 h).1, List.foldl_append, (List.getElem?_eq_some_iff.1 h).2]; rfl
theorem crowd_snoc {l : List Int} {i : Nat} {z : Int} (h : l[(i : Int).toNat]? = some z) : crowd (l.take (i + 1)) = bt .or .u64 (crowd (l.take i)) (IntKind.u64.wrap (1 * 2 ^ min z.toNat IntKind.u64.bits)) := foldl_snoc _ _ h
theorem gdt {α : Type} {l : List α} {q p : Int} {j : Nat} {z d : α} (h : (l.take q.toNat)[p.toNat]? = some z) (e : (j : Int) = p) : l.getD j d = z := by
  subst e
  rw [Int.toNat_natCast, List.getElem?_take] at h
  split at h
  · simp [h]
  · cases h
theorem ris_low {n : Int} {l : List Int} (hn : 1 ≤ n ∧ n ≤ 7) (h : Ris 0 (n - 1) l) : ∀ x ∈ l, 0 ≤ x ∧ x < 64 := fun x hx => by
  obtain ⟨j, hj, rfl⟩ := List.getElem_of_mem hx
  have q := h j hj
  have e : l.getD j 0 = l[j] := by simp [hj]
  unfold RisAt at q
  rw [e] at q
  omega
/-- A holder's row lies in one of the rows. -/
def opC (q : Int) (l : List (List Int)) : Prop := ∃ x ∈ l, bt .and .u64 q (crowd x) = crowd x
noncomputable instance (q : Int) (l : List (List Int)) : Decidable (opC q l) := Classical.propDecidable _
theorem shl7 {n : Int} (hn : 1 ≤ n ∧ n ≤ 7) : ∃ N : Nat, IntKind.i64.wrap (1 * 2 ^ min (IntKind.u64.wrap n : Int).toNat IntKind.i64.bits) = N ∧ 2 ^ n.toNat = N ∧ (1 ≤ N ∧ N ≤ 128) := by
  have : n = 1 ∨ n = 2 ∨ n = 3 ∨ n = 4 ∨ n = 5 ∨ n = 6 ∨ n = 7 := by omega
  rcases this with rfl | rfl | rfl | rfl | rfl | rfl | rfl <;> exact ⟨_, rfl, rfl, by decide⟩
def RowAt (n : Int) (l : List (List Int)) (i : Nat) : Prop := Ris 0 (n - 1) (l.getD i []) ∧ (0 < i → lexI (l.getD (i - 1) []) (l.getD i []) < 0)
def inI (x y : List Int) : Prop := bt .and .i64 (bitsI x) (bitsI y) = bitsI x
def inC (x y : List Int) : Prop := bt .and .u64 (crowd x) (crowd y) = crowd y
def okI (n : Int) (l : List (List Int)) : Prop := (1 ≤ n ∧ n ≤ 7) ∧ (∀ i, i < l.length → RowAt n l i) ∧ ∀ i, i < l.length → ∀ j, j < l.length → i ≠ j → ¬ inI (l.getD i []) (l.getD j [])
def okC (n : Int) (l : List (List Int)) : Prop := (1 ≤ n ∧ n ≤ 7) ∧ ∀ i, i < l.length → RowAt n l i ∧ ∀ j, j < i → ¬ inC (l.getD j []) (l.getD i []) ∧ ¬ inC (l.getD i []) (l.getD j [])
noncomputable instance (n : Int) (l : List (List Int)) : Decidable (okI n l) := Classical.propDecidable _
noncomputable instance (n : Int) (l : List (List Int)) : Decidable (okC n l) := Classical.propDecidable _
/-- A holder's row lies in one of the rows, by the reference's bits. -/
def opI (s : Int) (l : List (List Int)) : Prop := ∃ x ∈ l, bt .and .i64 (bitsI x) s = bitsI x
noncomputable instance (q : Int) (l : List (List Int)) : Decidable (opI q l) := Classical.propDecidable _
noncomputable def tabI (n : Int) (l : List (List Int)) : List Bool := (List.range (2 ^ n.toNat)).map fun (s : Nat) => decide (opI (s : Int) l)
theorem tabI_length (n : Int) (l : List (List Int)) : (tabI n l).length = 2 ^ n.toNat := by simp [tabI]
theorem tabI_get {n : Int} {l : List (List Int)} {s : Nat} (h : s < 2 ^ n.toNat) : (tabI n l).getD s false = decide (opI s l) := by
  simp [tabI, List.getD_eq_getElem?_getD, h]
theorem set_ne {k : List Bool} {i s : Nat} {b : Bool} (h : s ≠ i) : (k.set (i : Int).toNat b).getD s false = k.getD s false := by
  simp only [List.getD_eq_getElem?_getD, Int.toNat_natCast]
  rw [List.getElem?_set_ne (fun e => h e.symm)]
theorem opI_snoc {s : Int} {l : List (List Int)} {j : Nat} {z : List Int} (hz : l[(j : Int).toNat]? = some z) : opI s (l.take (j + 1)) ↔ opI s (l.take j) ∨ bt .and .i64 (bitsI z) s = bitsI z := by
  rw [Int.toNat_natCast] at hz
  rw [List.take_add_one, hz]
  simp only [opI, List.mem_append, Option.toList_some, List.mem_singleton]
  constructor
  · rintro ⟨x, hx | rfl, h⟩
    · exact .inl ⟨x, hx, h⟩
    · exact .inr h
  · rintro (⟨x, hx, h⟩ | h)
    · exact ⟨x, .inl hx, h⟩
    · exact ⟨z, .inr rfl, h⟩
theorem tab_step {k : List Bool} {i j : Nat} {l : List (List Int)} {z : List Int} {t : Bool} (hi : i < k.length) (hm : k.getD i false = decide (opI i (l.take j))) (ht : k[(i : Int).toNat]? = some t) (hc : (!t) = true) (hz : l[(j : Int).toNat]? = some z) :
    (k.set (i : Int).toNat (decide (bt .and .i64 (bitsI z) (i : Int) = bitsI z))).getD i false = decide (opI i (l.take (j + 1))) := by
  have e0 : k.getD i false = t := gd ht rfl
  have e1 : t = false := by cases t <;> simp_all
  have e2 : ¬ opI i (l.take j) := of_decide_eq_false (by rw [← hm, e0, e1])
  rw [Bool.eq_iff_iff, decide_eq_true_iff, opI_snoc hz]
  simp [hi, e2]
theorem opI_take {s : Int} {l : List (List Int)} {j : Nat} (h : opI s (l.take j)) : opI s l := by
  obtain ⟨x, hx, h⟩ := h
  exact ⟨x, List.mem_of_mem_take hx, h⟩
theorem tab_t {k : List Bool} {i j : Nat} {l : List (List Int)} {t : Bool} (hm : k.getD i false = decide (opI i (l.take j))) (ht : k[(i : Int).toNat]? = some t) (hc : (!t) = false) : k.getD i false = decide (opI i l) := by
  have e0 : k.getD i false = t := gd ht rfl
  have e1 : t = true := by cases t <;> simp_all
  have e2 : opI i (l.take j) := of_decide_eq_true (by rw [← hm, e0, e1])
  rw [e0, e1]
  exact (decide_eq_true (opI_take e2)).symm
/-! ### Tables -/
def rowLess (x y : Int × List Int) : Prop := if x.1 ≠ y.1 then x.1 < y.1 else lexI x.2 y.2 < 0
instance (x y : Int × List Int) : Decidable (rowLess x y) := by unfold rowLess; infer_instance
def cmpR (x y : Int × List Int) : Int := if cmpI x.1 y.1 ≠ 0 then cmpI x.1 y.1 else lexI x.2 y.2
def orL : List Int → Int
  | [] => 0
  | a :: l => if a ≠ 0 then a else orL l
theorem orL_drop : ∀ {l : List Int} {i : Nat}, (∀ j, j < i → l.getD j 0 = 0) → orL l = orL (l.drop i)
  | _, 0, _ => rfl
  | [], _ + 1, _ => by simp
  | a :: l, i + 1, h => by
    have h0 := h 0 (by omega)
    simp only [List.getD_cons_zero] at h0
    simp only [orL, h0, List.drop_succ_cons, ne_eq, not_true_eq_false, if_false]
    exact orL_drop (fun j hj => by have := h (j + 1) (by omega); simpa only [List.getD_cons_succ] using this)
theorem orL_at {l : List Int} {i : Nat} {z : Int} (h : ∀ j, j < i → l.getD j 0 = 0) (hz : l[i]? = some z) (hn : z ≠ 0) : orL l = z := by
  rw [orL_drop h]
  have hi := (List.getElem?_eq_some_iff.1 hz).1
  rw [List.drop_eq_getElem_cons hi, (List.getElem?_eq_some_iff.1 hz).2]
  simp [orL, hn]
theorem orL_end {l : List Int} {i : Nat} (h : ∀ j, j < i → l.getD j 0 = 0) (hi : l.length ≤ i) : orL l = 0 := by
  rw [orL_drop h, List.drop_of_length_le hi]; rfl
theorem orL_two (x y : Int × List Int) : orL [cmpI x.1 y.1, lexI x.2 y.2] = cmpR x y := by
  simp only [orL, cmpR]
  split
  · rfl
  · split <;> omega
theorem lexI_sym : ∀ l m : List Int, lexI l m = - lexI m l
  | [], [] => rfl
  | [], _ :: _ => rfl
  | _ :: _, [] => rfl
  | a :: l, b :: m => by
    simp only [lexI]
    rcases Int.lt_trichotomy a b with h | h | h
    · rw [if_pos h, if_neg (by omega), if_pos h]
    · subst h
      simp only [Int.lt_irrefl, gt_iff_lt, if_false]
      exact lexI_sym l m
    · rw [if_neg (by omega), if_pos h, if_pos h]; rfl
theorem cmpR_gt (x y : Int × List Int) : cmpR x y > 0 ↔ rowLess y x := by
  unfold cmpR rowLess
  have e := lexI_sym x.2 y.2
  by_cases h : x.1 = y.1
  · rw [if_neg (fun h2 => h2 (cmpI_zero.2 h)), if_neg (fun h2 => h2 h.symm)]; omega
  · rw [if_pos (fun h2 => h (cmpI_zero.1 h2)), if_pos (fun h2 => h h2.symm)]
    unfold cmpI
    split
    · omega
    · split <;> omega
def below (a b : List Int) : Prop := a.length = b.length ∧ ∀ h, h < a.length → 0 ≤ a.getD h 0 ∧ a.getD h 0 ≤ b.getD h 0 - 1
noncomputable instance (a b : List Int) : Decidable (below a b) := Classical.propDecidable _
def shapeT (n : Int) (s : List Int) (l : List (Int × List Int)) : Prop :=
  (1 ≤ n ∧ n ≤ 64) ∧ (1 ≤ (s.length : Int) ∧ (s.length : Int) ≤ 7) ∧ (1 ≤ (l.length : Int) ∧ (l.length : Int) ≤ 700) ∧ (∀ h, h < s.length → 1 ≤ s.getD h 0 ∧ s.getD h 0 ≤ 64) ∧
  ∀ i, i < l.length → (0 ≤ (l.getD i (0, [])).1 ∧ (l.getD i (0, [])).1 ≤ n - 1) ∧ below (l.getD i (0, [])).2 s
noncomputable instance (n : Int) (s : List Int) (l : List (Int × List Int)) : Decidable (shapeT n s l) := Classical.propDecidable _
def okT (n : Int) (s : List Int) (l : List (Int × List Int)) : Prop := shapeT n s l ∧ ∀ i, 0 < i → i < l.length → ¬ rowLess (l.getD i (0, [])) (l.getD (i - 1) (0, []))
noncomputable instance (n : Int) (s : List Int) (l : List (Int × List Int)) : Decidable (okT n s l) := Classical.propDecidable _
set_option maxRecDepth 100000 in
theorem szInt64S_ok {v : Value} {l : List Int} {ok : Nat → Prop} (q : Int) (hr : RdK kI W H ok v l) (hq : -1 ≤ q ∧ q ≤ 1048576) (hl : l.length ≤ 9223372036854775807) : ACalls Tryd.prog W 9 #[v, .int .i64 q] H (fun r H' => (∃ q' : Int, r = .int .i64 q' ∧ -1 ≤ q' ∧ q' ≤ 1048576 ∧ (0 ≤ q' → l.length ≤ 1048576)) ∧ Ext H H') := by
  refine ACalls.of (args := [v, .int .i64 q]) Tryd.func9 rfl rfl ?_
  have X0 := Ext.refl H
  have hm1 := hr.max
  refine AW.rs ?_
  refine AL.val rfl (.inl rfl) (HV.as rfl) ?_
  refine AL.nx ?_
  refine AW.rs ?_
  refine AL.val rfl (.inl rfl) (HV.mv rfl) ?_
  refine AL.val rfl (.inl rfl) (HV.mv rfl) ?_
  refine AL.val rfl (.inl rfl) (HV.len Tryd.underlying22 rfl hr.isSl) ?_
  refine AL.val rfl (.inl rfl) (HV.sub rfl rfl (by omega)) ?_
  refine AL.val rfl (.inl rfl) (HV.as rfl) ?_
  refine AL.nx ?_
  refine AW.seq ?_
  refine AW.rs ?_
  refine AL.val rfl (.inl rfl) (HV.mv rfl) ?_
  refine AL.val rfl (.inl rfl) (HV.lti rfl rfl) ?_
  refine AL.nx ?_
  refine AW.ifd rfl (fun c2 => ?_) (fun c2 => ?_)
  · -- then
    refine AW.rs ?_
    refine AL.val rfl (.inl rfl) (HV.as rfl) ?_
    refine AL.nx ?_
    refine AW.ret ?_
    refine ret_and ?_
    refine post_one rfl rfl ?_ (.inr rfl)
    exact ⟨⟨_, rfl, by omega, by omega, fun h => by omega⟩, X0⟩
  · -- else
    refine AW.skip ?_
    refine nrm_and ?_
    refine AW.rs ?_
    refine AL.val rfl (.inl rfl) (HV.mv rfl) ?_
    refine AL.val rfl (.inl rfl) (HV.as rfl) ?_
    refine AL.nx ?_
    refine AW.ret ?_
    refine post_one rfl rfl ?_ (.inr rfl)
    exact ⟨⟨_, rfl, by omega, by omega, fun h => by omega⟩, X0⟩

set_option maxRecDepth 100000 in
theorem within_ok (a b c : Int) : ACalls Tryd.prog W 27 #[.int .i64 a, .int .i64 b, .int .i64 c] H (fun r H' => r = .bool (decide (b ≤ a ∧ a ≤ c)) ∧ Ext H H') := by
  refine ACalls.of (args := [.int .i64 a, .int .i64 b, .int .i64 c]) Tryd.func27 rfl rfl ?_
  have X0 := Ext.refl H
  refine AW.rs ?_
  refine AL.val rfl (.inl rfl) (HV.as rfl) ?_
  refine AL.nx ?_
  refine AW.rs ?_
  refine AL.val rfl (.inl rfl) (HV.mv rfl) ?_
  refine AL.val rfl (.inl rfl) (HV.mv rfl) ?_
  refine AL.val rfl (.inl rfl) (HV.gei rfl rfl) ?_
  refine AL.val rfl (.inl rfl) (HV.mv rfl) ?_
  by_cases c1 : a ≥ b
  · -- true
    have c1_ : decide (a ≥ b) = true := decide_eq_true c1
    rw [c1_]
    refine AL.val rfl (.inr ⟨_, _, _, rfl, rfl, rfl⟩) (HV.mv rfl) ?_
    refine AL.val rfl (.inr ⟨_, _, _, rfl, rfl, rfl⟩) (HV.mv rfl) ?_
    refine AL.val rfl (.inr ⟨_, _, _, rfl, rfl, rfl⟩) (HV.lei rfl rfl) ?_
    refine AL.val rfl (.inl rfl) (HV.pickT rfl rfl) ?_
    refine AL.val rfl (.inl rfl) (HV.as rfl) ?_
    refine AL.nx ?_
    refine AW.ret ?_
    refine post_one rfl rfl ?_ (.inr rfl)
    exact ⟨congrArg Value.bool (by rw [Bool.eq_iff_iff]; simp; omega), X0⟩
  · -- false
    have c1_ : decide (a ≥ b) = false := decide_eq_false c1
    rw [c1_]
    refine AL.off rfl rfl (by decide) rfl ?_
    refine AL.off rfl rfl (by decide) rfl ?_
    refine AL.off rfl rfl (by decide) rfl ?_
    refine AL.val rfl (.inl rfl) (HV.pickF rfl rfl) ?_
    refine AL.val rfl (.inl rfl) (HV.as rfl) ?_
    refine AL.nx ?_
    refine AW.ret ?_
    refine post_one rfl rfl ?_ (.inr rfl)
    exact ⟨congrArg Value.bool (by rw [Bool.eq_iff_iff]; simp; omega), X0⟩

set_option maxRecDepth 100000 in
theorem l00In_ok (a b c : Int) : ACalls Tryd.prog W 32 #[.int .i64 a, .int .i64 b, .int .i64 c] H (fun r H' => r = .bool (decide (b ≤ a ∧ a ≤ c)) ∧ Ext H H') := by
  refine ACalls.of (args := [.int .i64 a, .int .i64 b, .int .i64 c]) Tryd.func32 rfl rfl ?_
  have X0 := Ext.refl H
  refine AW.rs ?_
  refine AL.val rfl (.inl rfl) (HV.as rfl) ?_
  refine AL.nx ?_
  refine AW.rs ?_
  refine AL.val rfl (.inl rfl) (HV.mv rfl) ?_
  refine AL.val rfl (.inl rfl) (HV.mv rfl) ?_
  refine AL.val rfl (.inl rfl) (HV.gei rfl rfl) ?_
  refine AL.val rfl (.inl rfl) (HV.mv rfl) ?_
  by_cases c1 : a ≥ b
  · -- true
    have c1_ : decide (a ≥ b) = true := decide_eq_true c1
    rw [c1_]
    refine AL.val rfl (.inr ⟨_, _, _, rfl, rfl, rfl⟩) (HV.mv rfl) ?_
    refine AL.val rfl (.inr ⟨_, _, _, rfl, rfl, rfl⟩) (HV.mv rfl) ?_
    refine AL.val rfl (.inr ⟨_, _, _, rfl, rfl, rfl⟩) (HV.lei rfl rfl) ?_
    refine AL.val rfl (.inl rfl) (HV.pickT rfl rfl) ?_
    refine AL.val rfl (.inl rfl) (HV.as rfl) ?_
    refine AL.nx ?_
    refine AW.ret ?_
    refine post_one rfl rfl ?_ (.inr rfl)
    exact ⟨congrArg Value.bool (by rw [Bool.eq_iff_iff]; simp; omega), X0⟩
  · -- false
    have c1_ : decide (a ≥ b) = false := decide_eq_false c1
    rw [c1_]
    refine AL.off rfl rfl (by decide) rfl ?_
    refine AL.off rfl rfl (by decide) rfl ?_
    refine AL.off rfl rfl (by decide) rfl ?_
    refine AL.val rfl (.inl rfl) (HV.pickF rfl rfl) ?_
    refine AL.val rfl (.inl rfl) (HV.as rfl) ?_
    refine AL.nx ?_
    refine AW.ret ?_
    refine post_one rfl rfl ?_ (.inr rfl)
    exact ⟨congrArg Value.bool (by rw [Bool.eq_iff_iff]; simp; omega), X0⟩

set_option maxRecDepth 100000 in
theorem isNaN_ok (a : Int) : ACalls Tryd.prog W 40 #[.int .i64 a] H (fun r H' => r = .bool false ∧ Ext H H') := by
  refine ACalls.of (args := [.int .i64 a]) Tryd.func40 rfl rfl ?_
  have X0 := Ext.refl H
  refine AW.rs ?_
  refine AL.val rfl (.inl rfl) (HV.as rfl) ?_
  refine AL.nx ?_
  refine AW.rs ?_
  refine AL.val rfl (.inl rfl) (HV.mv rfl) ?_
  refine AL.val rfl (.inl rfl) (HV.mv rfl) ?_
  refine AL.val rfl (.inl rfl) (HV.nei rfl rfl) ?_
  refine AL.val rfl (.inl rfl) (HV.as rfl) ?_
  refine AL.nx ?_
  refine AW.ret ?_
  refine post_one rfl rfl ?_ (.inr rfl)
  exact ⟨by simp, X0⟩

set_option maxRecDepth 100000 in
theorem cmpI_ok (a b : Int) : ACalls Tryd.prog W 36 #[.int .i64 a, .int .i64 b] H (fun r H' => r = .int .i64 (cmpI a b) ∧ Ext H H') := by
  refine ACalls.of (args := [.int .i64 a, .int .i64 b]) Tryd.func36 rfl rfl ?_
  have X0 := Ext.refl H
  refine AW.rs ?_
  refine AL.val rfl (.inl rfl) (HV.as rfl) ?_
  refine AL.nx ?_
  refine AW.rs ?_
  refine AL.val rfl (.inl rfl) (HV.mv rfl) ?_
  refine AL.w rfl (.inl rfl) (WV.call fn40 rfl (isNaN_ok (W := W) a)) ?_
  rintro _ H1 ⟨rfl, hx2⟩
  have X3 := Ext.trans X0 hx2
  refine AL.val rfl (.inl rfl) (HV.as rfl) ?_
  refine AL.nx ?_
  refine AW.rs ?_
  refine AL.val rfl (.inl rfl) (HV.mv rfl) ?_
  refine AL.w rfl (.inl rfl) (WV.call fn40 rfl (isNaN_ok (W := W) b)) ?_
  rintro _ H4 ⟨rfl, hx5⟩
  have X6 := Ext.trans X3 hx5
  refine AL.val rfl (.inl rfl) (HV.as rfl) ?_
  refine AL.nx ?_
  refine AW.seq ?_
  refine AW.rs ?_
  refine AL.val rfl (.inl rfl) (HV.mv rfl) ?_
  refine AL.nx ?_
  refine AW.cond rfl (fun h => by cases h) (fun _ => ?_)
  refine AW.skip ?_
  refine nrm_and ?_
  refine AW.seq ?_
  refine AW.rs ?_
  refine AL.val rfl (.inl rfl) (HV.mv rfl) ?_
  refine AL.nx ?_
  refine AW.cond rfl (fun h => by cases h) (fun _ => ?_)
  refine AW.skip ?_
  refine nrm_and ?_
  refine AW.seq ?_
  refine AW.rs ?_
  refine AL.val rfl (.inl rfl) (HV.mv rfl) ?_
  refine AL.val rfl (.inl rfl) (HV.mv rfl) ?_
  refine AL.val rfl (.inl rfl) (HV.lti rfl rfl) ?_
  refine AL.nx ?_
  refine AW.ifd rfl (fun c9 => ?_) (fun c9 => ?_)
  · -- then
    refine AW.rs ?_
    refine AL.val rfl (.inl rfl) (HV.as rfl) ?_
    refine AL.nx ?_
    refine AW.ret ?_
    refine ret_and ?_
    refine post_one rfl rfl ?_ (.inr rfl)
    exact ⟨by unfold cmpI; first | rw [if_pos (by omega)] | rw [if_neg (by omega), if_pos (by omega)] | rw [if_neg (by omega), if_neg (by omega)], X6⟩
  · -- else
    refine AW.skip ?_
    refine nrm_and ?_
    refine AW.seq ?_
    refine AW.rs ?_
    refine AL.val rfl (.inl rfl) (HV.mv rfl) ?_
    refine AL.val rfl (.inl rfl) (HV.mv rfl) ?_
    refine AL.val rfl (.inl rfl) (HV.gti rfl rfl) ?_
    refine AL.nx ?_
    refine AW.ifd rfl (fun c10 => ?_) (fun c10 => ?_)
    · -- then
      refine AW.rs ?_
      refine AL.val rfl (.inl rfl) (HV.as rfl) ?_
      refine AL.nx ?_
      refine AW.ret ?_
      refine ret_and ?_
      refine post_one rfl rfl ?_ (.inr rfl)
      exact ⟨by unfold cmpI; first | rw [if_pos (by omega)] | rw [if_neg (by omega), if_pos (by omega)] | rw [if_neg (by omega), if_neg (by omega)], X6⟩
    · -- else
      refine AW.skip ?_
      refine nrm_and ?_
      refine AW.rs ?_
      refine AL.val rfl (.inl rfl) (HV.as rfl) ?_
      refine AL.nx ?_
      refine AW.ret ?_
      refine post_one rfl rfl ?_ (.inr rfl)
      exact ⟨by unfold cmpI; first | rw [if_pos (by omega)] | rw [if_neg (by omega), if_pos (by omega)] | rw [if_neg (by omega), if_neg (by omega)], X6⟩

set_option maxRecDepth 100000 in
theorem lexI_ok {v v2 : Value} {l m : List Int} {ok ok2 : Nat → Prop} (hr : RdK kI W H ok v l) (hr2 : RdK kI W H ok2 v2 m) : ACalls Tryd.prog W 37 #[v, v2] H (fun r H' => r = .int .i64 (lexI l m) ∧ Ext H H') := by
  refine ACalls.of (args := [v, v2]) Tryd.func37 rfl rfl ?_
  have X0 := Ext.refl H
  have hm1 := hr.max
  have hm2 := hr2.max
  refine AW.rs ?_
  refine AL.val rfl (.inl rfl) (HV.as rfl) ?_
  refine AL.nx ?_
  refine AW.seq ?_
  refine AW.rs ?_
  refine AL.val rfl (.inl rfl) (HV.mv rfl) ?_
  refine AL.val rfl (.inl rfl) (HV.len Tryd.underlying22 rfl hr.isSl) ?_
  refine AL.val rfl (.inl rfl) (HV.mv rfl) ?_
  refine AL.nx ?_
  refine AW.block ?_
  refine AW.loop (σ := Nat) (fun i => [(0, v), (1, v2), (9, v), (10, .int .i64 (l.length : Int)), (11, .int .i64 (i : Int))]) (fun i H' => Ext H H' ∧ i ≤ l.length ∧ i ≤ m.length ∧ (∀ j, j < i → l.getD j 0 = m.getD j 0) ∧ True) (fun i => l.length - i) 0 ⟨X0, Nat.zero_le _, Nat.zero_le _, fun j hj => absurd hj (Nat.not_lt_zero _), trivial⟩ ⟨rfl, rfl, rfl, rfl, rfl, trivial⟩ ?_
  rintro i H3 ⟨X4, hi, hi2, he, _⟩
  refine AW.rs ?_
  refine AL.val rfl (.inl rfl) (HV.lti rfl rfl) ?_
  refine AL.nx ?_
  refine AW.seq ?_
  refine AW.ifd rfl (fun c5 => ?_) (fun c5 => ?_)
  · -- then
    refine AW.skip ?_
    refine nrm_and ?_
    refine AW.seq ?_
    refine AW.block ?_
    refine AW.rs ?_
    refine AL.val rfl (.inl rfl) (HV.mv rfl) ?_
    obtain ⟨p6, z7, cs8, hz9, hK10, hC11, hP12⟩ := RdK.ix (q := (i : Int)) hr sl22 (by omega) (by omega)
    obtain rfl : cs8 = [.int .i64 z7] := hK10
    refine AL.val rfl (.inl rfl) (hP12 rfl rfl) ?_
    refine AL.val rfl (.inl rfl) (HV.ld rfl va2 (cells_first (hC11.ext X4) rfl)) ?_
    refine AL.val rfl (.inl rfl) (HV.as rfl) ?_
    refine AL.val rfl (.inl rfl) (HV.as rfl) ?_
    refine AL.nx ?_
    refine AW.seq ?_
    refine AW.rs ?_
    refine AL.val rfl (.inl rfl) (HV.mv rfl) ?_
    refine AL.val rfl (.inl rfl) (HV.mv rfl) ?_
    refine AL.val rfl (.inl rfl) (HV.len Tryd.underlying22 rfl hr2.isSl) ?_
    refine AL.val rfl (.inl rfl) (HV.gei rfl rfl) ?_
    refine AL.nx ?_
    refine AW.ifd rfl (fun c13 => ?_) (fun c13 => ?_)
    · -- then
      refine AW.rs ?_
      refine AL.val rfl (.inl rfl) (HV.as rfl) ?_
      refine AL.nx ?_
      refine AW.ret ?_
      refine ret_and (ret_blk (ret_and (ret_and (ret_blk (ret_and ?_)))))
      refine post_one rfl rfl ?_ (.inr rfl)
      exact ⟨by rw [lexI_end he (by omega) (by omega) (.inr (by omega)), if_neg (by omega), if_pos (by omega)], X4⟩
    · -- else
      refine AW.skip ?_
      refine nrm_and ?_
      refine AW.rs ?_
      refine AL.val rfl (.inl rfl) (HV.mv rfl) ?_
      refine AL.val rfl (.inl rfl) (HV.mv rfl) ?_
      obtain ⟨p14, z15, cs16, hz17, hK18, hC19, hP20⟩ := RdK.ix (q := (i : Int)) hr2 sl22 (by omega) (by omega)
      obtain rfl : cs16 = [.int .i64 z15] := hK18
      refine AL.val rfl (.inl rfl) (hP20 rfl rfl) ?_
      refine AL.val rfl (.inl rfl) (HV.ld rfl va2 (cells_first (hC19.ext X4) rfl)) ?_
      refine AL.val rfl (.inl rfl) (HV.as rfl) ?_
      refine AL.nx ?_
      refine AW.rs ?_
      refine AL.val rfl (.inl rfl) (HV.mv rfl) ?_
      refine AL.val rfl (.inl rfl) (HV.mv rfl) ?_
      refine AL.w rfl (.inl rfl) (WV.call fn36 rfl (cmpI_ok (W := W) z7 z15)) ?_
      rintro _ H21 ⟨rfl, hx22⟩
      have X23 := Ext.trans X4 hx22
      refine AL.val rfl (.inl rfl) (HV.as rfl) ?_
      refine AL.nx ?_
      refine AW.rs ?_
      refine AL.val rfl (.inl rfl) (HV.mv rfl) ?_
      refine AL.val rfl (.inl rfl) (HV.nei rfl rfl) ?_
      refine AL.nx ?_
      refine AW.ifd rfl (fun c24 => ?_) (fun c24 => ?_)
      · -- then
        refine AW.rs ?_
        refine AL.val rfl (.inl rfl) (HV.mv rfl) ?_
        refine AL.val rfl (.inl rfl) (HV.as rfl) ?_
        refine AL.nx ?_
        refine AW.ret ?_
        refine ret_blk (ret_and (ret_and (ret_blk (ret_and ?_))))
        refine post_one rfl rfl ?_ (.inr rfl)
        exact ⟨by have g15 : l.getD i 0 = z7 := gd hz9 (by omega); have g23 : m.getD i 0 = z15 := gd hz17 (by omega); rw [lexI_at he (by omega) (by omega) (by rw [g15, g23]; intro e; have := cmpI_zero.2 e; contradiction), g15, g23], X23⟩
      · -- else
        refine AW.skip ?_
        refine nrm_blk (nrm_and ?_)
        refine AW.reg ?_
        refine AL.val rfl (.inl rfl) (HV.add rfl rfl (by omega)) ?_
        refine AL.val rfl (.inl rfl) (HV.mv rfl) ?_
        refine AL.nil ?_
        refine nrm_and ?_
        exact ⟨i + 1, ⟨X23, by omega, by omega, fun j hj => by
      rcases Nat.lt_or_ge j i with h1 | h1
      · exact he j h1
      · obtain rfl : j = i := by omega
        have hz0 := (cmpI_zero (a := z7) (b := z15)).1 (by omega); have g15 : l.getD j 0 = z7 := gd hz9 (by omega); have g23 : m.getD j 0 = z15 := gd hz17 (by omega); omega, trivial⟩, by first | omega | (dsimp only; omega), ⟨rfl, rfl, rfl, rfl, rfl, trivial⟩⟩
  · -- else
    refine AW.exit ?_
    refine ex_and (ex_and (ex_blk ?_))
    refine nrm_and ?_
    refine AW.seq ?_
    refine AW.rs ?_
    refine AL.val rfl (.inl rfl) (HV.mv rfl) ?_
    refine AL.val rfl (.inl rfl) (HV.len Tryd.underlying22 rfl hr.isSl) ?_
    refine AL.val rfl (.inl rfl) (HV.mv rfl) ?_
    refine AL.val rfl (.inl rfl) (HV.len Tryd.underlying22 rfl hr2.isSl) ?_
    refine AL.val rfl (.inl rfl) (HV.lti rfl rfl) ?_
    refine AL.nx ?_
    refine AW.ifd rfl (fun c25 => ?_) (fun c25 => ?_)
    · -- then
      refine AW.rs ?_
      refine AL.val rfl (.inl rfl) (HV.as rfl) ?_
      refine AL.nx ?_
      refine AW.ret ?_
      refine ret_and ?_
      refine post_one rfl rfl ?_ (.inr rfl)
      exact ⟨by rw [lexI_end he (by omega) (by omega) (.inl (by omega))]; first | rw [if_pos (by omega)] | rw [if_neg (by omega), if_neg (by omega)], X4⟩
    · -- else
      refine AW.skip ?_
      refine nrm_and ?_
      refine AW.rs ?_
      refine AL.val rfl (.inl rfl) (HV.as rfl) ?_
      refine AL.nx ?_
      refine AW.ret ?_
      refine post_one rfl rfl ?_ (.inr rfl)
      exact ⟨by rw [lexI_end he (by omega) (by omega) (.inl (by omega))]; first | rw [if_pos (by omega)] | rw [if_neg (by omega), if_neg (by omega)], X4⟩

set_option maxRecDepth 100000 in
theorem eqS_ok {v v2 : Value} {l m : List Int} {ok ok2 : Nat → Prop} (hr : RdK kI W H ok v l) (hr2 : RdK kI W H ok2 v2 m) : ACalls Tryd.prog W 19 #[v, v2] H (fun r H' => r = .bool (decide (l = m)) ∧ Ext H H') := by
  refine ACalls.of (args := [v, v2]) Tryd.func19 rfl rfl ?_
  have X0 := Ext.refl H
  have hm1 := hr.max
  have hm2 := hr2.max
  refine AW.rs ?_
  refine AL.val rfl (.inl rfl) (HV.as rfl) ?_
  refine AL.nx ?_
  refine AW.seq ?_
  refine AW.rs ?_
  refine AL.val rfl (.inl rfl) (HV.mv rfl) ?_
  refine AL.val rfl (.inl rfl) (HV.len Tryd.underlying22 rfl hr.isSl) ?_
  refine AL.val rfl (.inl rfl) (HV.mv rfl) ?_
  refine AL.val rfl (.inl rfl) (HV.len Tryd.underlying22 rfl hr2.isSl) ?_
  refine AL.val rfl (.inl rfl) (HV.nei rfl rfl) ?_
  refine AL.nx ?_
  refine AW.ifd rfl (fun c3 => ?_) (fun c3 => ?_)
  · -- then
    refine AW.rs ?_
    refine AL.val rfl (.inl rfl) (HV.as rfl) ?_
    refine AL.nx ?_
    refine AW.ret ?_
    refine ret_and ?_
    refine post_one rfl rfl ?_ (.inr rfl)
    exact ⟨dec_f (fun e => by subst e; omega), X0⟩
  · -- else
    refine AW.skip ?_
    refine nrm_and ?_
    refine AW.seq ?_
    refine AW.rs ?_
    refine AL.val rfl (.inl rfl) (HV.as rfl) ?_
    refine AL.nx ?_
    refine AW.block ?_
    refine AW.loop (σ := Nat) (fun i => [(0, v), (1, v2), (5, .int .i64 (i : Int))]) (fun i H' => Ext H H' ∧ i ≤ l.length ∧ (∀ j, j < i → l.getD j 0 = m.getD j 0) ∧ True) (fun i => l.length - i) 0 ⟨X0, Nat.zero_le _, fun j hj => absurd hj (Nat.not_lt_zero _), trivial⟩ ⟨rfl, rfl, rfl, trivial⟩ ?_
    rintro i H4 ⟨X5, hi, he, _⟩
    refine AW.seq ?_
    refine AW.rs ?_
    refine AL.val rfl (.inl rfl) (HV.mv rfl) ?_
    refine AL.val rfl (.inl rfl) (HV.mv rfl) ?_
    refine AL.val rfl (.inl rfl) (HV.len Tryd.underlying22 rfl hr.isSl) ?_
    refine AL.val rfl (.inl rfl) (HV.lti rfl rfl) ?_
    refine AL.nx ?_
    refine AW.ifd rfl (fun c6 => ?_) (fun c6 => ?_)
    · -- then
      refine AW.skip ?_
      refine nrm_and ?_
      refine AW.seq ?_
      refine AW.block ?_
      refine AW.seq ?_
      refine AW.draw' [0, 0, 3, 7, 0, 0, 48, 112, 255] mixed (by rfl) ?_
      refine Dr.read 0 _ 17 _ rfl rfl rfl rfl rfl (RV.of (by intro _ _ h; cases h) (.inl rfl) (fun _ xd => HV.mv rfl)) ?_
      refine Dr.read 1 _ 18 _ rfl rfl rfl rfl rfl (RV.of (by intro _ _ h; cases h) (.inl rfl) (fun _ xd => HV.mv rfl)) ?_
      obtain ⟨p7, z8, cs9, hz10, hK11, hC12, hP13⟩ := RdK.ix (q := (i : Int)) hr sl22 (by omega) (by omega)
      obtain rfl : cs9 = [.int .i64 z8] := hK11
      refine Dr.read 2 _ 19 _ rfl rfl rfl rfl rfl (RV.of (by intro _ _ h; cases h) (.inl rfl) (fun _ xd => hP13 rfl rfl)) ?_
      refine Dr.read 3 _ 20 _ rfl rfl rfl rfl rfl (RV.of (by intro _ _ h; cases h) (.inl rfl) (fun _ xd => HV.ld rfl va2 (rdc_ext xd (cells_first (hC12.ext X5) rfl)))) ?_
      refine Dr.read 4 _ 21 _ rfl rfl rfl rfl rfl (RV.of (by intro _ _ h; cases h) (.inl rfl) (fun _ xd => HV.mv rfl)) ?_
      refine Dr.read 5 _ 22 _ rfl rfl rfl rfl rfl (RV.of (by intro _ _ h; cases h) (.inl rfl) (fun _ xd => HV.mv rfl)) ?_
      obtain ⟨p14, z15, cs16, hz17, hK18, hC19, hP20⟩ := RdK.ix (q := (i : Int)) hr2 sl22 (by omega) (by omega)
      obtain rfl : cs16 = [.int .i64 z15] := hK18
      refine Dr.read 6 _ 23 _ rfl rfl rfl rfl rfl (RV.of (by intro _ _ h; cases h) (.inl rfl) (fun _ xd => hP20 rfl rfl)) ?_
      refine Dr.read 7 _ 24 _ rfl rfl rfl rfl rfl (RV.of (by intro _ _ h; cases h) (.inl rfl) (fun _ xd => HV.ld rfl va2 (rdc_ext xd (cells_first (hC19.ext X5) rfl)))) ?_
      refine Dr.read 8 _ 25 _ rfl rfl rfl rfl rfl (RV.of (by intro _ _ h; cases h) (.inl rfl) (fun _ xd => HV.nei rfl rfl)) ?_
      refine Dr.fin rfl ?_
      refine nrm_and ?_
      refine AW.ifd rfl (fun c21 => ?_) (fun c21 => ?_)
      · -- then
        refine AW.rs ?_
        refine AL.val rfl (.inl rfl) (HV.as rfl) ?_
        refine AL.nx ?_
        refine AW.ret ?_
        refine ret_blk (ret_and (ret_and (ret_blk (ret_and ?_))))
        refine post_one rfl rfl ?_ (.inr rfl)
        exact ⟨dec_f (fun e => by subst e; have g20 : l.getD i 0 = z8 := gd hz10 (by omega); have g24 : l.getD i 0 = z15 := gd hz17 (by omega); omega), X5⟩
      · -- else
        refine AW.skip ?_
        refine nrm_blk (nrm_and ?_)
        refine AW.reg ?_
        refine AL.val rfl (.inl rfl) (HV.mv rfl) ?_
        refine AL.val rfl (.inl rfl) (HV.add rfl rfl (by omega)) ?_
        refine AL.val rfl (.inl rfl) (HV.as rfl) ?_
        refine AL.nil ?_
        refine nrm_and ?_
        exact ⟨i + 1, ⟨X5, by omega, fun j hj => by
      rcases Nat.lt_or_ge j i with h1 | h1
      · exact he j h1
      · obtain rfl : j = i := by omega
        have g20 : l.getD j 0 = z8 := gd hz10 (by omega); have g24 : m.getD j 0 = z15 := gd hz17 (by omega); omega, trivial⟩, by first | omega | (dsimp only; omega), ⟨rfl, rfl, rfl, trivial⟩⟩
    · -- else
      refine AW.exit ?_
      refine ex_and (ex_and (ex_blk ?_))
      refine nrm_and ?_
      refine AW.rs ?_
      refine AL.val rfl (.inl rfl) (HV.as rfl) ?_
      refine AL.nx ?_
      refine AW.ret ?_
      refine post_one rfl rfl ?_ (.inr rfl)
      exact ⟨dec_t (list_eq (by omega) (fun j hj => he j (by omega))), X5⟩

set_option maxRecDepth 100000 in
theorem toS_ok {v : Value} {l : List Int} {ok : Nat → Prop} (hr : RdK kI W H ok v l) (hl : l.length ≤ 1048576) : ACalls Tryd.prog W 13 #[v] H (fun r H' => Ext H H' ∧ OwnK kI 2 W H' (fun b => H.bd ≤ b) r l) := by
  refine ACalls.of (args := [v]) Tryd.func13 rfl rfl ?_
  have X0 := Ext.refl H
  have hm1 := hr.max
  refine AW.rs ?_
  refine AL.val rfl (.inl rfl) (HV.as rfl) ?_
  refine AL.nx ?_
  refine AW.rs ?_
  refine AL.val rfl (.inl rfl) (HV.mv rfl) ?_
  refine AL.val rfl (.inl rfl) (HV.len Tryd.underlying22 rfl hr.isSl) ?_
  have o2 := X0.bd
  refine AL.w rfl (.inl rfl) (WV.mkK (K := kI) (0 : Int) (fun _ _ _ => rfl) sl22 rfl rfl rfl (by omega) (by omega) (by omega)) ?_
  rintro v3 H4 ⟨hx5, ho6⟩
  have X7 := Ext.trans X0 hx5
  refine AL.val rfl (.inl rfl) (HV.as rfl) ?_
  refine AL.nx ?_
  refine AW.seq ?_
  refine AW.rs ?_
  refine AL.val rfl (.inl rfl) (HV.as rfl) ?_
  refine AL.nx ?_
  refine AW.block ?_
  refine AW.loop (σ := Nat × List Int) (fun ⟨i, k⟩ => [(0, v), (2, (.slice none 0 0)), (3, v3), (3, v3), (4, .int .i64 (i : Int))]) (fun ⟨i, k⟩ H' => Ext H H' ∧ i ≤ l.length ∧ k.length = l.length ∧ (∀ j, j < i → k.getD j 0 = l.getD j 0) ∧ OwnK kI 2 W H' (fun b => H.bd ≤ b) v3 k ∧ True) (fun ⟨i, k⟩ => l.length - i) (0, (List.replicate ((l.length : Int) : Int).toNat (0 : Int))) ⟨X7, Nat.zero_le _, by simp, fun j hj => absurd hj (Nat.not_lt_zero _), ho6, trivial⟩ ⟨rfl, rfl, rfl, rfl, rfl, trivial⟩ ?_
  rintro ⟨i, k⟩ H9 ⟨X10, hi, hk, he, hoL, _⟩
  refine AW.seq ?_
  refine AW.rs ?_
  refine AL.val rfl (.inl rfl) (HV.mv rfl) ?_
  refine AL.val rfl (.inl rfl) (HV.mv rfl) ?_
  refine AL.val rfl (.inl rfl) (HV.len Tryd.underlying22 rfl hr.isSl) ?_
  refine AL.val rfl (.inl rfl) (HV.lti rfl rfl) ?_
  refine AL.nx ?_
  refine AW.ifd rfl (fun c11 => ?_) (fun c11 => ?_)
  · -- then
    refine AW.skip ?_
    refine nrm_and ?_
    refine AW.seq ?_
    refine AW.block ?_
    refine AW.reg ?_
    refine AL.val rfl (.inl rfl) (HV.mv rfl) ?_
    refine AL.val rfl (.inl rfl) (HV.mv rfl) ?_
    refine AL.val rfl (.inl rfl) (HV.mv rfl) ?_
    refine AL.val rfl (.inl rfl) (HV.mv rfl) ?_
    obtain ⟨p12, z13, cs14, hz15, hK16, hC17, hP18⟩ := RdK.ix (q := (i : Int)) hr sl22 (by omega) (by omega)
    obtain rfl : cs14 = [.int .i64 z13] := hK16
    refine AL.val rfl (.inl rfl) (hP18 rfl rfl) ?_
    refine AL.val rfl (.inl rfl) (HV.ld rfl va2 (cells_first (hC17.ext X10) rfl)) ?_
    obtain ⟨g19, z20, cs21, hz22, hK23, hC24, hg25, hP26⟩ := OwnK.ix (q := (i : Int)) hoL sl22 (by omega) (by omega)
    have X27 := Ext.refl H9
    obtain rfl : cs21 = [.int .i64 z20] := hK23
    refine AL.val rfl (.inl rfl) (hP26 rfl rfl) ?_
    refine AL.w0 (.inl rfl) (WV.stK (okx := fun _ => False) (x' := z13) hoL hg25 rfl rfl va2 (by omega) rfl (fun _ h => h.elim)) ?_
    rintro _ H28 ⟨hx29, ho30⟩
    have X31 := Ext.thru X10 hx29 (fun b hb => Nat.le_trans o2 (hoL.blk b hb).1)
    have ho33 := ho30.okk (ok' := fun b => H.bd ≤ b) (fun b hb _ => hb.elim id False.elim)
    refine AL.nil ?_
    refine nrm_blk (nrm_and ?_)
    refine AW.reg ?_
    refine AL.val rfl (.inl rfl) (HV.mv rfl) ?_
    refine AL.val rfl (.inl rfl) (HV.add rfl rfl (by omega)) ?_
    refine AL.val rfl (.inl rfl) (HV.as rfl) ?_
    refine AL.nil ?_
    refine nrm_and ?_
    exact ⟨(i + 1, (k.set ((i : Int) : Int).toNat z13)), ⟨X31, by omega, by simp [hk], set_step he hk (getq hz15 rfl), ho33, trivial⟩, by first | omega | (dsimp only; omega), ⟨rfl, rfl, rfl, rfl, rfl, trivial⟩⟩
  · -- else
    refine AW.exit ?_
    refine ex_and (ex_and (ex_blk ?_))
    refine nrm_and ?_
    refine AW.rs ?_
    refine AL.val rfl (.inl rfl) (HV.mv rfl) ?_
    refine AL.val rfl (.inl rfl) (HV.as rfl) ?_
    refine AL.nx ?_
    refine AW.ret ?_
    refine post_one rfl rfl ?_ (.inr rfl)
    exact ⟨X10, by obtain rfl : k = l := list_eq (d := 0) hk (fun j hj => he j (by omega)); exact hoL⟩

set_option maxRecDepth 100000 in
theorem szRow_ok {v : Value} {l : List Int} {ok : Nat → Prop} (a : Int) (hr : RdK kI W H ok v l) (q : Int) (hq : -1 ≤ q ∧ q ≤ 1048576) : ACalls Tryd.prog W 21 #[.agg #[.int .i64 a, v], .int .i64 q] H (fun r H' => (∃ q' : Int, r = .int .i64 q' ∧ -1 ≤ q' ∧ q' ≤ 1048576 ∧ (0 ≤ q' → l.length ≤ 1048576)) ∧ Ext H H') := by
  refine ACalls.of (args := [.agg #[.int .i64 a, v], .int .i64 q]) Tryd.func21 rfl rfl ?_
  have X0 := Ext.refl H
  have hm1 := hr.max
  refine AW.rs ?_
  refine AL.w rfl (.inl rfl) (WV.bx rfl rfl) ?_
  rintro _ H3 ⟨b2, rfl, hx4, hn5, hb6⟩
  have o7 := Nat.le_trans X0.bd hn5
  have X8 := Ext.trans X0 hx4
  have X9 := Ext.refl H3
  refine AL.val rfl (.inl rfl) (HV.as rfl) ?_
  refine AL.nx ?_
  refine AW.rs ?_
  refine AL.val rfl (.inl rfl) (HV.fa fl57_1 rfl) ?_
  refine AL.val rfl (.inl rfl) (HV.ld rfl va22 (at_cell_add (j := 1) hb6 rfl)) ?_
  refine AL.val rfl (.inl rfl) (HV.mv rfl) ?_
  refine AL.w rfl (.inl rfl) (WV.call fn9 rfl (szInt64S_ok q (hr.ext X8) (by omega) (by omega))) ?_
  rintro _ H10 ⟨⟨q12, rfl, ha13, hb14, he15⟩, hx11⟩
  have X16 := Ext.trans X8 hx11
  have X17 := Ext.trans X9 hx11
  have hb18 := hb6.ext hx11
  refine AL.val rfl (.inl rfl) (HV.as rfl) ?_
  refine AL.nx ?_
  refine AW.seq ?_
  refine AW.rs ?_
  refine AL.val rfl (.inl rfl) (HV.mv rfl) ?_
  refine AL.val rfl (.inl rfl) (HV.lti rfl rfl) ?_
  refine AL.nx ?_
  refine AW.ifd rfl (fun c19 => ?_) (fun c19 => ?_)
  · -- then
    refine AW.rs ?_
    refine AL.val rfl (.inl rfl) (HV.as rfl) ?_
    refine AL.nx ?_
    refine AW.ret ?_
    refine ret_and ?_
    refine post_one rfl rfl ?_ (.inr rfl)
    exact ⟨⟨_, rfl, by omega, by omega, fun h => absurd h (by decide)⟩, X16⟩
  · -- else
    refine AW.skip ?_
    refine nrm_and ?_
    refine AW.rs ?_
    refine AL.val rfl (.inl rfl) (HV.mv rfl) ?_
    refine AL.val rfl (.inl rfl) (HV.as rfl) ?_
    refine AL.nx ?_
    refine AW.ret ?_
    refine post_one rfl rfl ?_ (.inr rfl)
    exact ⟨⟨_, rfl, by omega, by omega, fun h => he15 (by omega)⟩, X16⟩

set_option maxRecDepth 100000 in
theorem szRowS_ok {v : Value} {l : List (Int × List Int)} {ok : Nat → Prop} (hr : RdK (kP kI (kR kI)) W H ok v l) (q : Int) (hq : -1 ≤ q ∧ q ≤ 1048576) : ACalls Tryd.prog W 10 #[v, .int .i64 q] H (fun r H' => (∃ q' : Int, r = .int .i64 q' ∧ -1 ≤ q' ∧ q' ≤ 1048576 ∧ (0 ≤ q' → (l.length ≤ 1048576 ∧ ∀ x ∈ l, x.2.length ≤ 1048576))) ∧ Ext H H') := by
  refine ACalls.of (args := [v, .int .i64 q]) Tryd.func10 rfl rfl ?_
  have X0 := Ext.refl H
  have hm1 := hr.max
  refine AW.rs ?_
  refine AL.val rfl (.inl rfl) (HV.as rfl) ?_
  refine AL.nx ?_
  refine AW.rs ?_
  refine AL.val rfl (.inl rfl) (HV.mv rfl) ?_
  refine AL.val rfl (.inl rfl) (HV.mv rfl) ?_
  refine AL.val rfl (.inl rfl) (HV.len Tryd.underlying23 rfl hr.isSl) ?_
  refine AL.val rfl (.inl rfl) (HV.sub rfl rfl (by omega)) ?_
  refine AL.val rfl (.inl rfl) (HV.as rfl) ?_
  refine AL.nx ?_
  refine AW.seq ?_
  refine AW.rs ?_
  refine AL.val rfl (.inl rfl) (HV.mv rfl) ?_
  refine AL.val rfl (.inl rfl) (HV.lti rfl rfl) ?_
  refine AL.nx ?_
  refine AW.ifd rfl (fun c2 => ?_) (fun c2 => ?_)
  · -- then
    refine AW.rs ?_
    refine AL.val rfl (.inl rfl) (HV.as rfl) ?_
    refine AL.nx ?_
    refine AW.ret ?_
    refine ret_and ?_
    refine post_one rfl rfl ?_ (.inr rfl)
    exact ⟨⟨_, rfl, by omega, by omega, fun h => absurd h (by decide)⟩, X0⟩
  · -- else
    refine AW.skip ?_
    refine nrm_and ?_
    refine AW.seq ?_
    refine AW.rs ?_
    refine AL.val rfl (.inl rfl) (HV.as rfl) ?_
    refine AL.nx ?_
    refine AW.block ?_
    refine AW.loop (σ := Nat × Int) (fun ⟨i, p⟩ => [(0, v), (1, .int .i64 p), (5, .int .i64 (i : Int))]) (fun ⟨i, p⟩ H' => Ext H H' ∧ i ≤ l.length ∧ 0 ≤ p ∧ p ≤ 1048576 ∧ l.length ≤ 1048576 ∧ (∀ j, j < i → (l.getD j (0, [])).2.length ≤ 1048576) ∧ True) (fun ⟨i, p⟩ => l.length - i) (0, q - (l.length : Int)) ⟨X0, Nat.zero_le _, by omega, by omega, by omega, fun j hj => absurd hj (Nat.not_lt_zero _), trivial⟩ ⟨rfl, rfl, rfl, trivial⟩ ?_
    rintro ⟨i, p⟩ H3 ⟨X4, hi, hp, hp2, hl, he, _⟩
    refine AW.seq ?_
    refine AW.rs ?_
    refine AL.val rfl (.inl rfl) (HV.mv rfl) ?_
    refine AL.val rfl (.inl rfl) (HV.mv rfl) ?_
    refine AL.val rfl (.inl rfl) (HV.len Tryd.underlying23 rfl hr.isSl) ?_
    refine AL.val rfl (.inl rfl) (HV.lti rfl rfl) ?_
    refine AL.nx ?_
    refine AW.ifd rfl (fun c5 => ?_) (fun c5 => ?_)
    · -- then
      refine AW.skip ?_
      refine nrm_and ?_
      refine AW.seq ?_
      refine AW.block ?_
      refine AW.rs ?_
      refine AL.val rfl (.inl rfl) (HV.mv rfl) ?_
      refine AL.val rfl (.inl rfl) (HV.mv rfl) ?_
      obtain ⟨p6, z7, cs8, hz9, hK10, hC11, hP12⟩ := RdK.ix (q := (i : Int)) hr sl23 (by omega) (by omega)
      obtain ⟨cs13, cs14, rfl, hK15, hK16⟩ := hK10
      obtain rfl : cs13 = [.int .i64 z7.1] := hK15
      obtain ⟨v17, rfl, hr18⟩ := hK16
      have hm19 := hr18.max
      refine AL.val rfl (.inl rfl) (hP12 rfl rfl) ?_
      refine AL.val rfl (.inl rfl) (HV.lda (cs := [.int .i64 z7.1, v17]) rfl va57 (hC11.ext X4)) ?_
      refine AL.val rfl (.inl rfl) (HV.mv rfl) ?_
      refine AL.w rfl (.inl rfl) (WV.call fn21 rfl (szRow_ok z7.1 (hr18.ext X4) p (by omega))) ?_
      rintro _ H20 ⟨⟨q22, rfl, ha23, hb24, he25⟩, hx21⟩
      have X26 := Ext.trans X4 hx21
      refine AL.val rfl (.inl rfl) (HV.as rfl) ?_
      refine AL.nx ?_
      refine AW.rs ?_
      refine AL.val rfl (.inl rfl) (HV.mv rfl) ?_
      refine AL.val rfl (.inl rfl) (HV.lti rfl rfl) ?_
      refine AL.nx ?_
      refine AW.ifd rfl (fun c27 => ?_) (fun c27 => ?_)
      · -- then
        refine AW.rs ?_
        refine AL.val rfl (.inl rfl) (HV.as rfl) ?_
        refine AL.nx ?_
        refine AW.ret ?_
        refine ret_blk (ret_and (ret_and (ret_blk (ret_and ?_))))
        refine post_one rfl rfl ?_ (.inr rfl)
        exact ⟨⟨_, rfl, by omega, by omega, fun h => absurd h (by decide)⟩, X26⟩
      · -- else
        refine AW.skip ?_
        refine nrm_blk (nrm_and ?_)
        refine AW.reg ?_
        refine AL.val rfl (.inl rfl) (HV.mv rfl) ?_
        refine AL.val rfl (.inl rfl) (HV.add rfl rfl (by omega)) ?_
        refine AL.val rfl (.inl rfl) (HV.as rfl) ?_
        refine AL.nil ?_
        refine nrm_and ?_
        exact ⟨(i + 1, q22), ⟨X26, by omega, by omega, by omega, hl, fun j hj => by
      rcases Nat.lt_or_ge j i with h1 | h1
      · exact he j h1
      · obtain rfl : j = i := by omega
        have g20 : l.getD j (0, []) = z7 := gd hz9 (by omega); rw [g20]; exact he25 (by omega), trivial⟩, by first | omega | (dsimp only; omega), ⟨rfl, rfl, rfl, trivial⟩⟩
    · -- else
      refine AW.exit ?_
      refine ex_and (ex_and (ex_blk ?_))
      refine nrm_and ?_
      refine AW.rs ?_
      refine AL.val rfl (.inl rfl) (HV.mv rfl) ?_
      refine AL.val rfl (.inl rfl) (HV.as rfl) ?_
      refine AL.nx ?_
      refine AW.ret ?_
      refine post_one rfl rfl ?_ (.inr rfl)
      exact ⟨⟨_, rfl, by omega, by omega, fun h => ⟨hl, fun x hx => by
    obtain ⟨j, hj, rfl⟩ := List.getElem_of_mem hx
    have := he j (by omega)
    simpa [hj] using this⟩⟩, X4⟩

set_option maxRecDepth 100000 in
theorem szTable_ok {vs v : Value} {s : List Int} {l : List (Int × List Int)} {oks ok : Nat → Prop} (n : Int) (hs : RdK kI W H oks vs s) (hr : RdK (kP kI (kR kI)) W H ok v l) (q : Int) (hq : -1 ≤ q ∧ q ≤ 1048576) : ACalls Tryd.prog W 4 #[.agg #[.int .i64 n, vs, v], .int .i64 q] H (fun r H' => (∃ q' : Int, r = .int .i64 q' ∧ -1 ≤ q' ∧ q' ≤ 1048576 ∧ (0 ≤ q' → s.length ≤ 1048576 ∧ (l.length ≤ 1048576 ∧ ∀ x ∈ l, x.2.length ≤ 1048576))) ∧ Ext H H') := by
  refine ACalls.of (args := [.agg #[.int .i64 n, vs, v], .int .i64 q]) Tryd.func4 rfl rfl ?_
  have X0 := Ext.refl H
  have hm1 := hs.max
  have hm2 := hr.max
  refine AW.rs ?_
  refine AL.w rfl (.inl rfl) (WV.bx rfl rfl) ?_
  rintro _ H4 ⟨b3, rfl, hx5, hn6, hb7⟩
  have o8 := Nat.le_trans X0.bd hn6
  have X9 := Ext.trans X0 hx5
  have X10 := Ext.refl H4
  refine AL.val rfl (.inl rfl) (HV.as rfl) ?_
  refine AL.nx ?_
  refine AW.rs ?_
  refine AL.val rfl (.inl rfl) (HV.fa fl25_1 rfl) ?_
  refine AL.val rfl (.inl rfl) (HV.ld rfl va22 (at_cell_add (j := 1) hb7 rfl)) ?_
  refine AL.val rfl (.inl rfl) (HV.mv rfl) ?_
  refine AL.w rfl (.inl rfl) (WV.call fn9 rfl (szInt64S_ok q (hs.ext X9) (by omega) (by omega))) ?_
  rintro _ H11 ⟨⟨q13, rfl, ha14, hb15, he16⟩, hx12⟩
  have X17 := Ext.trans X9 hx12
  have X18 := Ext.trans X10 hx12
  have hb19 := hb7.ext hx12
  refine AL.val rfl (.inl rfl) (HV.as rfl) ?_
  refine AL.nx ?_
  refine AW.seq ?_
  refine AW.rs ?_
  refine AL.val rfl (.inl rfl) (HV.mv rfl) ?_
  refine AL.val rfl (.inl rfl) (HV.lti rfl rfl) ?_
  refine AL.nx ?_
  refine AW.ifd rfl (fun c20 => ?_) (fun c20 => ?_)
  · -- then
    refine AW.rs ?_
    refine AL.val rfl (.inl rfl) (HV.as rfl) ?_
    refine AL.nx ?_
    refine AW.ret ?_
    refine ret_and ?_
    refine post_one rfl rfl ?_ (.inr rfl)
    exact ⟨⟨_, rfl, by omega, by omega, fun h => absurd h (by decide)⟩, X17⟩
  · -- else
    refine AW.skip ?_
    refine nrm_and ?_
    refine AW.rs ?_
    refine AL.val rfl (.inl rfl) (HV.fa fl25_2 rfl) ?_
    refine AL.val rfl (.inl rfl) (HV.ld rfl va23 (at_cell_add (j := 2) hb19 rfl)) ?_
    refine AL.val rfl (.inl rfl) (HV.mv rfl) ?_
    refine AL.w rfl (.inl rfl) (WV.call fn10 rfl (szRowS_ok (q := q13) (hr.ext X17) (by omega))) ?_
    rintro _ H21 ⟨⟨q23, rfl, ha24, hb25, he26⟩, hx22⟩
    have X27 := Ext.trans X17 hx22
    have X28 := Ext.trans X18 hx22
    have hb29 := hb19.ext hx22
    refine AL.val rfl (.inl rfl) (HV.as rfl) ?_
    refine AL.nx ?_
    refine AW.seq ?_
    refine AW.rs ?_
    refine AL.val rfl (.inl rfl) (HV.mv rfl) ?_
    refine AL.val rfl (.inl rfl) (HV.lti rfl rfl) ?_
    refine AL.nx ?_
    refine AW.ifd rfl (fun c30 => ?_) (fun c30 => ?_)
    · -- then
      refine AW.rs ?_
      refine AL.val rfl (.inl rfl) (HV.as rfl) ?_
      refine AL.nx ?_
      refine AW.ret ?_
      refine ret_and ?_
      refine post_one rfl rfl ?_ (.inr rfl)
      exact ⟨⟨_, rfl, by omega, by omega, fun h => absurd h (by decide)⟩, X27⟩
    · -- else
      refine AW.skip ?_
      refine nrm_and ?_
      refine AW.rs ?_
      refine AL.val rfl (.inl rfl) (HV.mv rfl) ?_
      refine AL.val rfl (.inl rfl) (HV.as rfl) ?_
      refine AL.nx ?_
      refine AW.ret ?_
      refine post_one rfl rfl ?_ (.inr rfl)
      exact ⟨⟨_, rfl, by omega, by omega, fun h => ⟨he16 (by omega), he26 (by omega)⟩⟩, X27⟩

set_option maxRecDepth 100000 in
theorem toRow_ok {v : Value} {l : List Int} {ok : Nat → Prop} (a : Int) (hr : RdK kI W H ok v l) (hl : l.length ≤ 1048576) : ACalls Tryd.prog W 26 #[.agg #[.int .i64 a, v]] H (fun r H' => (∃ u, r = .agg #[.int .i64 a, u] ∧ OwnK kI 2 W H' (fun b => H.bd ≤ b) u l) ∧ Ext H H') := by
  refine ACalls.of (args := [.agg #[.int .i64 a, v]]) Tryd.func26 rfl rfl ?_
  have X0 := Ext.refl H
  have hm1 := hr.max
  refine AW.rs ?_
  refine AL.w rfl (.inl rfl) (WV.bx rfl rfl) ?_
  rintro _ H3 ⟨b2, rfl, hx4, hn5, hb6⟩
  have o7 := Nat.le_trans X0.bd hn5
  have X8 := Ext.trans X0 hx4
  have X9 := Ext.refl H3
  refine AL.w rfl (.inl rfl) (WV.al ze52 rfl) ?_
  rintro _ H11 ⟨b10, rfl, hx12, hn13, hb14⟩
  have o15 := Nat.le_trans X8.bd hn13
  have o16 := Nat.le_trans X9.bd hn13
  have ne17 : b2 ≠ b10 := by have := hb6.lt; omega
  have X18 := Ext.trans X8 hx12
  have X19 := Ext.trans X9 hx12
  have hb20 := hb6.ext hx12
  have X21 := Ext.refl H11
  refine AL.nx ?_
  refine AW.rs ?_
  refine AL.w rfl (.inl rfl) (WV.al ze52 rfl) ?_
  rintro _ H23 ⟨b22, rfl, hx24, hn25, hb26⟩
  have o27 := Nat.le_trans X18.bd hn25
  have o28 := Nat.le_trans X19.bd hn25
  have o29 := Nat.le_trans X21.bd hn25
  have ne30 : b2 ≠ b22 := by have := hb20.lt; omega
  have ne31 : b10 ≠ b22 := by have := hb14.lt; omega
  have X32 := Ext.trans X18 hx24
  have X33 := Ext.trans X19 hx24
  have X34 := Ext.trans X21 hx24
  have hb35 := hb20.ext hx24
  have hb36 := hb14.ext hx24
  have X37 := Ext.refl H23
  refine AL.nx ?_
  refine AW.rs ?_
  refine AL.val rfl (.inl rfl) (HV.fa fl57_0 rfl) ?_
  refine AL.val rfl (.inl rfl) (HV.ld rfl va2 (at_cell hb35 rfl)) ?_
  refine AL.val rfl (.inl rfl) (HV.fa fl52_0 rfl) ?_
  refine AL.w0 (.inl rfl) (WV.st rfl rfl va2 rfl hb26 (Nat.le_of_ble_eq_true rfl) (one_cons rfl one_nil)) ?_
  rintro _ H38 ⟨hx39, hb40⟩
  have X41 := Ext.thru X32 hx39 (fun z_ hz_ => by rw [hz_]; exact o27)
  have X42 := Ext.thru X33 hx39 (fun z_ hz_ => by rw [hz_]; exact o28)
  have X43 := Ext.thru X34 hx39 (fun z_ hz_ => by rw [hz_]; exact o29)
  have hb45 := hb35.but hx39 ne30
  have hb46 := hb36.but hx39 ne31
  have hb47 : At W H38 b22 ⟨52, [.int .i64 a, (.slice none 0 0)], 2⟩ := hb40
  refine AL.nx ?_
  refine AW.rs ?_
  refine AL.val rfl (.inl rfl) (HV.fa fl57_1 rfl) ?_
  refine AL.val rfl (.inl rfl) (HV.ld rfl va22 (at_cell_add (j := 1) hb45 rfl)) ?_
  have X48 := Ext.refl H38
  have y49 := hb45.lt
  have y50 := hb46.lt
  have y51 := hb47.lt
  have o52 := X41.bd
  have o53 := X42.bd
  have o54 := X43.bd
  have o55 := X48.bd
  refine AL.w rfl (.inl rfl) (WV.call fn13 rfl (toS_ok (hr.ext X41) (by omega))) ?_
  rintro v56 H57 ⟨hx58, ho59⟩
  have X60 := Ext.trans X41 hx58
  have X61 := Ext.trans X42 hx58
  have X62 := Ext.trans X43 hx58
  have X63 := Ext.trans X48 hx58
  have hb64 := hb45.ext hx58
  have hb65 := hb46.ext hx58
  have hb66 := hb47.ext hx58
  refine AL.val rfl (.inl rfl) (HV.fa fl52_1 rfl) ?_
  refine AL.w0 (.inl rfl) (WV.st rfl rfl va22 (sl_size ho59.rd.isSl) hb66 (Nat.le_of_ble_eq_true rfl) (sl_one ho59.rd.isSl)) ?_
  rintro _ H68 ⟨hx69, hb70⟩
  rw [sl_cells ho59.rd.isSl] at hb70
  have X71 := Ext.thru X60 hx69 (fun z_ hz_ => by rw [hz_]; exact o27)
  have X72 := Ext.thru X61 hx69 (fun z_ hz_ => by rw [hz_]; exact o28)
  have X73 := Ext.thru X62 hx69 (fun z_ hz_ => by rw [hz_]; exact o29)
  have ho75 := ho59.but hx69 (fun b hb _ e => by have hb' : H38.bd ≤ b := hb; have e' : b = b22 := e; omega) (fun z_ hz_ => by rw [hz_]; exact hb66.w)
  have hb76 := hb64.but hx69 ne30
  have hb77 := hb65.but hx69 ne31
  have hb78 : At W H68 b22 ⟨52, [.int .i64 a, v56], 2⟩ := hb70
  refine AL.nx ?_
  refine AW.rs ?_
  refine AL.val rfl (.inl rfl) (HV.lda (cs := [.int .i64 a, v56]) rfl va52 (at_cells hb78 rfl)) ?_
  refine AL.w0 (.inl rfl) (WV.st rfl rfl va52 rfl hb77 (Nat.le_of_ble_eq_true rfl) (one_cons rfl (one_cons (sl_one1 ho75.rd.isSl) one_nil))) ?_
  rintro _ H79 ⟨hx80, hb81⟩
  have X82 := Ext.thru X71 hx80 (fun z_ hz_ => by rw [hz_]; exact o15)
  have X83 := Ext.thru X72 hx80 (fun z_ hz_ => by rw [hz_]; exact o16)
  have ho85 := ho75.but hx80 (fun b hb _ e => by have hb' : H38.bd ≤ b := hb; have e' : b = b10 := e; omega) (fun z_ hz_ => by rw [hz_]; exact hb77.w)
  have hb86 := hb76.but hx80 ne17
  have hb87 := hb78.but hx80 (fun e => ne31 e.symm)
  have hb88 : At W H79 b10 ⟨52, [.int .i64 a, v56], 2⟩ := hb81
  refine AL.nx ?_
  refine AW.ret ?_
  refine post_cell rfl rfl va52 hb88 ?_ (.inr rfl)
  exact ⟨⟨_, rfl, ho85.okk (fun b hb _ => Nat.le_trans o52 hb)⟩, X82⟩

set_option maxRecDepth 100000 in
theorem toRowS_ok {v : Value} {l : List (Int × List Int)} {ok : Nat → Prop} (hr : RdK (kP kI (kR kI)) W H ok v l) (hl : l.length ≤ 1048576) (hm : ∀ x ∈ l, x.2.length ≤ 1048576) : ACalls Tryd.prog W 14 #[v] H (fun r H' => Ext H H' ∧ OwnD (kP kI (kO 2 kI)) 52 W H' (fun b => H.bd ≤ b) r l) := by
  refine ACalls.of (args := [v]) Tryd.func14 rfl rfl ?_
  have X0 := Ext.refl H
  have hm1 := hr.max
  refine AW.rs ?_
  refine AL.val rfl (.inl rfl) (HV.as rfl) ?_
  refine AL.nx ?_
  refine AW.rs ?_
  refine AL.val rfl (.inl rfl) (HV.mv rfl) ?_
  refine AL.val rfl (.inl rfl) (HV.len Tryd.underlying23 rfl hr.isSl) ?_
  have o2 := X0.bd
  refine AL.w rfl (.inl rfl) (WV.mkDn (K := (kP kI (kO 2 kI))) (((0 : Int), []) : (Int × (List Int))) (fun _ _ _ => ⟨[.int .i64 0], [(.slice none 0 0)], rfl, rfl, ⟨_, rfl, OwnK.nil _⟩⟩) sl28 rfl rfl (by omega) (by omega) (by omega)) ?_
  rintro v3 H4 ⟨hx5, ho6⟩
  have X7 := Ext.trans X0 hx5
  refine AL.val rfl (.inl rfl) (HV.as rfl) ?_
  refine AL.nx ?_
  refine AW.seq ?_
  refine AW.rs ?_
  refine AL.val rfl (.inl rfl) (HV.as rfl) ?_
  refine AL.nx ?_
  refine AW.block ?_
  refine AW.loop (σ := Nat × List (Int × List Int)) (fun ⟨i, k⟩ => [(0, v), (2, (.slice none 0 0)), (3, v3), (3, v3), (4, .int .i64 (i : Int))]) (fun ⟨i, k⟩ H' => Ext H H' ∧ i ≤ l.length ∧ k.length = l.length ∧ (∀ j, j < i → k.getD j (0, []) = l.getD j (0, [])) ∧ OwnD (kP kI (kO 2 kI)) 52 W H' (fun b => H.bd ≤ b) v3 k ∧ True) (fun ⟨i, k⟩ => l.length - i) (0, (List.replicate ((l.length : Int) : Int).toNat (((0 : Int), []) : (Int × (List Int))))) ⟨X7, Nat.zero_le _, by simp, fun j hj => absurd hj (Nat.not_lt_zero _), ho6, trivial⟩ ⟨rfl, rfl, rfl, rfl, rfl, trivial⟩ ?_
  rintro ⟨i, k⟩ H9 ⟨X10, hi, hk, he, hoL, _⟩
  refine AW.seq ?_
  refine AW.rs ?_
  refine AL.val rfl (.inl rfl) (HV.mv rfl) ?_
  refine AL.val rfl (.inl rfl) (HV.mv rfl) ?_
  refine AL.val rfl (.inl rfl) (HV.len Tryd.underlying23 rfl hr.isSl) ?_
  refine AL.val rfl (.inl rfl) (HV.lti rfl rfl) ?_
  refine AL.nx ?_
  refine AW.ifd rfl (fun c11 => ?_) (fun c11 => ?_)
  · -- then
    refine AW.skip ?_
    refine nrm_and ?_
    refine AW.seq ?_
    refine AW.block ?_
    refine AW.reg ?_
    refine AL.val rfl (.inl rfl) (HV.mv rfl) ?_
    refine AL.val rfl (.inl rfl) (HV.mv rfl) ?_
    refine AL.val rfl (.inl rfl) (HV.mv rfl) ?_
    refine AL.val rfl (.inl rfl) (HV.mv rfl) ?_
    obtain ⟨p12, z13, cs14, hz15, hK16, hC17, hP18⟩ := RdK.ix (q := (i : Int)) hr sl23 (by omega) (by omega)
    obtain ⟨cs19, cs20, rfl, hK21, hK22⟩ := hK16
    obtain rfl : cs19 = [.int .i64 z13.1] := hK21
    obtain ⟨v23, rfl, hr24⟩ := hK22
    have hm25 := hr24.max
    refine AL.val rfl (.inl rfl) (hP18 rfl rfl) ?_
    refine AL.val rfl (.inl rfl) (HV.lda (cs := [.int .i64 z13.1, v23]) rfl va57 (hC17.ext X10)) ?_
    have X26 := Ext.refl H9
    have o27 := X10.bd
    have o28 := X26.bd
    have a29 := hoL.ltb
    have s30 := hoL.lo
    refine AL.w rfl (.inl rfl) (WV.call fn26 rfl (toRow_ok z13.1 (hr24.ext X10) (hm _ (List.mem_of_getElem? hz15)))) ?_
    rintro _ H32 ⟨⟨u31, rfl, ho34⟩, hx33⟩
    have X35 := Ext.trans X10 hx33
    have X36 := Ext.trans X26 hx33
    have s38 := s30.ext hx33
    have ho37 := hoL.ext hx33
    obtain ⟨g40, z41, cs42, hz43, hK44, hC45, hg46, hP47⟩ := OwnK.ix (q := (i : Int)) ho37.own sl28 (by omega) (by omega)
    have X48 := Ext.refl H32
    obtain ⟨cs49, cs50, rfl, hK51, hK52⟩ := hK44
    obtain rfl : cs49 = [.int .i64 z41.1] := hK51
    obtain ⟨v53, rfl, hr54⟩ := hK52
    have hO55 := hr54
    replace hr54 := hr54.rd
    have hm56 := hr54.max
    refine AL.val rfl (.inl rfl) (hP47 rfl rfl) ?_
    refine AL.w0 (.inl rfl) (WV.stD (B := H9.bd) (x' := ((z13.1, z13.2) : (Int × (List Int)))) s38 hg46 rfl rfl va52 (by omega) ⟨[.int .i64 z13.1], [u31], rfl, rfl, ⟨_, rfl, ho34⟩⟩) ?_
    rintro _ H57 ⟨hx58, ho59⟩
    have X60 := Ext.thru X35 hx58 (fun b hb => Nat.le_trans o2 (ho37.blk b hb).1)
    have ho63 := ho59.okk (ok' := fun b => H.bd ≤ b) (fun b hb _ => hb.elim id (fun h => Nat.le_trans o27 h))
    refine AL.nil ?_
    refine nrm_blk (nrm_and ?_)
    refine AW.reg ?_
    refine AL.val rfl (.inl rfl) (HV.mv rfl) ?_
    refine AL.val rfl (.inl rfl) (HV.add rfl rfl (by omega)) ?_
    refine AL.val rfl (.inl rfl) (HV.as rfl) ?_
    refine AL.nil ?_
    refine nrm_and ?_
    exact ⟨(i + 1, (k.set ((i : Int) : Int).toNat ((z13.1, z13.2) : (Int × (List Int))))), ⟨X60, by omega, by simp [hk], set_step he hk (getq hz15 rfl), ho63, trivial⟩, by first | omega | (dsimp only; omega), ⟨rfl, rfl, rfl, rfl, rfl, trivial⟩⟩
  · -- else
    refine AW.exit ?_
    refine ex_and (ex_and (ex_blk ?_))
    refine nrm_and ?_
    refine AW.rs ?_
    refine AL.val rfl (.inl rfl) (HV.mv rfl) ?_
    refine AL.val rfl (.inl rfl) (HV.as rfl) ?_
    refine AL.nx ?_
    refine AW.ret ?_
    refine post_one rfl rfl ?_ (.inr rfl)
    exact ⟨X10, by obtain rfl : k = l := list_eq (d := (0, [])) hk (fun j hj => he j (by omega)); exact hoL⟩

set_option maxRecDepth 100000 in
theorem toTable_ok {vs v : Value} {s : List Int} {l : List (Int × List Int)} {oks ok : Nat → Prop} (n : Int) (hs : RdK kI W H oks vs s) (hr : RdK (kP kI (kR kI)) W H ok v l) (hsl : s.length ≤ 1048576) (hl : (l.length ≤ 1048576 ∧ ∀ x ∈ l, x.2.length ≤ 1048576)) : ACalls Tryd.prog W 6 #[.agg #[.int .i64 n, vs, v]] H (fun r H' => (∃ u w, r = .agg #[.int .i64 n, u, w] ∧ OwnK kI 2 W H' (fun b => H.bd ≤ b) u s ∧ OwnD (kP kI (kO 2 kI)) 52 W H' (fun b => H.bd ≤ b) w l) ∧ Ext H H') := by
  refine ACalls.of (args := [.agg #[.int .i64 n, vs, v]]) Tryd.func6 rfl rfl ?_
  have X0 := Ext.refl H
  have hm1 := hs.max
  have hm2 := hr.max
  refine AW.rs ?_
  refine AL.w rfl (.inl rfl) (WV.bx rfl rfl) ?_
  rintro _ H4 ⟨b3, rfl, hx5, hn6, hb7⟩
  have o8 := Nat.le_trans X0.bd hn6
  have X9 := Ext.trans X0 hx5
  have X10 := Ext.refl H4
  refine AL.w rfl (.inl rfl) (WV.al ze30 rfl) ?_
  rintro _ H12 ⟨b11, rfl, hx13, hn14, hb15⟩
  have o16 := Nat.le_trans X9.bd hn14
  have o17 := Nat.le_trans X10.bd hn14
  have ne18 : b3 ≠ b11 := by have := hb7.lt; omega
  have X19 := Ext.trans X9 hx13
  have X20 := Ext.trans X10 hx13
  have hb21 := hb7.ext hx13
  have X22 := Ext.refl H12
  refine AL.nx ?_
  refine AW.rs ?_
  refine AL.w rfl (.inl rfl) (WV.al ze30 rfl) ?_
  rintro _ H24 ⟨b23, rfl, hx25, hn26, hb27⟩
  have o28 := Nat.le_trans X19.bd hn26
  have o29 := Nat.le_trans X20.bd hn26
  have o30 := Nat.le_trans X22.bd hn26
  have ne31 : b3 ≠ b23 := by have := hb21.lt; omega
  have ne32 : b11 ≠ b23 := by have := hb15.lt; omega
  have X33 := Ext.trans X19 hx25
  have X34 := Ext.trans X20 hx25
  have X35 := Ext.trans X22 hx25
  have hb36 := hb21.ext hx25
  have hb37 := hb15.ext hx25
  have X38 := Ext.refl H24
  refine AL.nx ?_
  refine AW.rs ?_
  refine AL.val rfl (.inl rfl) (HV.fa fl25_0 rfl) ?_
  refine AL.val rfl (.inl rfl) (HV.ld rfl va2 (at_cell hb36 rfl)) ?_
  refine AL.val rfl (.inl rfl) (HV.fa fl30_0 rfl) ?_
  refine AL.w0 (.inl rfl) (WV.st rfl rfl va2 rfl hb27 (Nat.le_of_ble_eq_true rfl) (one_cons rfl one_nil)) ?_
  rintro _ H39 ⟨hx40, hb41⟩
  have X42 := Ext.thru X33 hx40 (fun z_ hz_ => by rw [hz_]; exact o28)
  have X43 := Ext.thru X34 hx40 (fun z_ hz_ => by rw [hz_]; exact o29)
  have X44 := Ext.thru X35 hx40 (fun z_ hz_ => by rw [hz_]; exact o30)
  have hb46 := hb36.but hx40 ne31
  have hb47 := hb37.but hx40 ne32
  have hb48 : At W H39 b23 ⟨30, [.int .i64 n, (.slice none 0 0), (.slice none 0 0)], 3⟩ := hb41
  refine AL.nx ?_
  refine AW.rs ?_
  refine AL.val rfl (.inl rfl) (HV.fa fl25_1 rfl) ?_
  refine AL.val rfl (.inl rfl) (HV.ld rfl va22 (at_cell_add (j := 1) hb46 rfl)) ?_
  have X49 := Ext.refl H39
  have y50 := hb46.lt
  have y51 := hb47.lt
  have y52 := hb48.lt
  have o53 := X42.bd
  have o54 := X43.bd
  have o55 := X44.bd
  have o56 := X49.bd
  refine AL.w rfl (.inl rfl) (WV.call fn13 rfl (toS_ok (hs.ext X42) (by omega))) ?_
  rintro v57 H58 ⟨hx59, ho60⟩
  have X61 := Ext.trans X42 hx59
  have X62 := Ext.trans X43 hx59
  have X63 := Ext.trans X44 hx59
  have X64 := Ext.trans X49 hx59
  have hb65 := hb46.ext hx59
  have hb66 := hb47.ext hx59
  have hb67 := hb48.ext hx59
  refine AL.val rfl (.inl rfl) (HV.fa fl30_1 rfl) ?_
  refine AL.w0 (.inl rfl) (WV.st rfl rfl va22 (sl_size ho60.rd.isSl) hb67 (Nat.le_of_ble_eq_true rfl) (sl_one ho60.rd.isSl)) ?_
  rintro _ H69 ⟨hx70, hb71⟩
  rw [sl_cells ho60.rd.isSl] at hb71
  have X72 := Ext.thru X61 hx70 (fun z_ hz_ => by rw [hz_]; exact o28)
  have X73 := Ext.thru X62 hx70 (fun z_ hz_ => by rw [hz_]; exact o29)
  have X74 := Ext.thru X63 hx70 (fun z_ hz_ => by rw [hz_]; exact o30)
  have ho76 := ho60.but hx70 (fun b hb _ e => by have hb' : H39.bd ≤ b := hb; have e' : b = b23 := e; omega) (fun z_ hz_ => by rw [hz_]; exact hb67.w)
  have hb77 := hb65.but hx70 ne31
  have hb78 := hb66.but hx70 ne32
  have hb79 : At W H69 b23 ⟨30, [.int .i64 n, v57, (.slice none 0 0)], 3⟩ := hb71
  refine AL.nx ?_
  refine AW.rs ?_
  refine AL.val rfl (.inl rfl) (HV.fa fl25_2 rfl) ?_
  refine AL.val rfl (.inl rfl) (HV.ld rfl va23 (at_cell_add (j := 2) hb77 rfl)) ?_
  have X80 := Ext.refl H69
  have y81 := hb77.lt
  have y82 := hb78.lt
  have y83 := hb79.lt
  have o84 := X72.bd
  have o85 := X73.bd
  have o86 := X74.bd
  have o87 := X80.bd
  have a88 := ho76.ltb
  refine AL.w rfl (.inl rfl) (WV.call fn14 rfl (toRowS_ok (hr.ext X72) hl.1 hl.2)) ?_
  rintro v89 H90 ⟨hx91, ho92⟩
  have X93 := Ext.trans X72 hx91
  have X94 := Ext.trans X73 hx91
  have X95 := Ext.trans X74 hx91
  have X96 := Ext.trans X80 hx91
  have ho97 := ho76.ext hx91
  have hb98 := hb77.ext hx91
  have hb99 := hb78.ext hx91
  have hb100 := hb79.ext hx91
  refine AL.val rfl (.inl rfl) (HV.fa fl30_2 rfl) ?_
  refine AL.w0 (.inl rfl) (WV.st rfl rfl va28 (sl_size (ho92.rd.le (le_P (Le.refl _) (le_OR (Le.refl _)))).isSl) hb100 (Nat.le_of_ble_eq_true rfl) (sl_one (ho92.rd.le (le_P (Le.refl _) (le_OR (Le.refl _)))).isSl)) ?_
  rintro _ H102 ⟨hx103, hb104⟩
  rw [sl_cells (ho92.rd.le (le_P (Le.refl _) (le_OR (Le.refl _)))).isSl] at hb104
  have X105 := Ext.thru X93 hx103 (fun z_ hz_ => by rw [hz_]; exact o28)
  have X106 := Ext.thru X94 hx103 (fun z_ hz_ => by rw [hz_]; exact o29)
  have X107 := Ext.thru X95 hx103 (fun z_ hz_ => by rw [hz_]; exact o30)
  have ho109 := ho97.but hx103 (fun b hb _ e => by have hb' : H39.bd ≤ b := hb; have e' : b = b23 := e; omega) (fun z_ hz_ => by rw [hz_]; exact hb100.w)
  have ho110 := ho92.but hx103 (fun b hb _ e => by have hb' : H69.bd ≤ b := hb; have e' : b = b23 := e; omega) (fun z_ hz_ => by rw [hz_]; exact hb100.w)
  have hb111 := hb98.but hx103 ne31
  have hb112 := hb99.but hx103 ne32
  have hb113 : At W H102 b23 ⟨30, [.int .i64 n, v57, v89], 3⟩ := hb104
  refine AL.nx ?_
  refine AW.rs ?_
  refine AL.val rfl (.inl rfl) (HV.lda (cs := [.int .i64 n, v57, v89]) rfl va30 (at_cells hb113 rfl)) ?_
  refine AL.w0 (.inl rfl) (WV.st rfl rfl va30 rfl hb112 (Nat.le_of_ble_eq_true rfl) (one_cons rfl (one_cons (sl_one1 ho109.rd.isSl) (one_cons (sl_one1 (ho110.rd.le (le_P (Le.refl _) (le_OR (Le.refl _)))).isSl) one_nil)))) ?_
  rintro _ H114 ⟨hx115, hb116⟩
  have X117 := Ext.thru X105 hx115 (fun z_ hz_ => by rw [hz_]; exact o16)
  have X118 := Ext.thru X106 hx115 (fun z_ hz_ => by rw [hz_]; exact o17)
  have ho120 := ho109.but hx115 (fun b hb _ e => by have hb' : H39.bd ≤ b := hb; have e' : b = b11 := e; omega) (fun z_ hz_ => by rw [hz_]; exact hb112.w)
  have ho121 := ho110.but hx115 (fun b hb _ e => by have hb' : H69.bd ≤ b := hb; have e' : b = b11 := e; omega) (fun z_ hz_ => by rw [hz_]; exact hb112.w)
  have hb122 := hb111.but hx115 ne18
  have hb123 := hb113.but hx115 (fun e => ne32 e.symm)
  have hb124 : At W H114 b11 ⟨30, [.int .i64 n, v57, v89], 3⟩ := hb116
  refine AL.nx ?_
  refine AW.ret ?_
  refine post_cell rfl rfl va30 hb124 ?_ (.inr rfl)
  exact ⟨⟨_, _, rfl, ho120.okk (fun b hb _ => Nat.le_trans o53 hb), ho121.okk (fun b hb _ => Nat.le_trans o84 hb)⟩, X117⟩

set_option maxRecDepth 100000 in
theorem eqRow_ok {va vb : Value} {l m : List Int} {ok ok2 : Nat → Prop} (a b : Int) (hr : RdK kI W H ok va l) (hr2 : RdK kI W H ok2 vb m) : ACalls Tryd.prog W 31 #[.agg #[.int .i64 a, va], .agg #[.int .i64 b, vb]] H (fun r H' => r = .bool (decide (a = b ∧ l = m)) ∧ Ext H H') := by
  refine ACalls.of (args := [.agg #[.int .i64 a, va], .agg #[.int .i64 b, vb]]) Tryd.func31 rfl rfl ?_
  have X0 := Ext.refl H
  have hm1 := hr.max
  have hm2 := hr2.max
  refine AW.rs ?_
  refine AL.w rfl (.inl rfl) (WV.bx rfl rfl) ?_
  rintro _ H4 ⟨b3, rfl, hx5, hn6, hb7⟩
  have o8 := Nat.le_trans X0.bd hn6
  have X9 := Ext.trans X0 hx5
  have X10 := Ext.refl H4
  refine AL.w rfl (.inl rfl) (WV.bx rfl rfl) ?_
  rintro _ H12 ⟨b11, rfl, hx13, hn14, hb15⟩
  have o16 := Nat.le_trans X9.bd hn14
  have o17 := Nat.le_trans X10.bd hn14
  have ne18 : b3 ≠ b11 := by have := hb7.lt; omega
  have X19 := Ext.trans X9 hx13
  have X20 := Ext.trans X10 hx13
  have hb21 := hb7.ext hx13
  have X22 := Ext.refl H12
  refine AL.val rfl (.inl rfl) (HV.as rfl) ?_
  refine AL.nx ?_
  refine AW.seq ?_
  refine AW.rs ?_
  refine AL.val rfl (.inl rfl) (HV.fa fl52_0 rfl) ?_
  refine AL.val rfl (.inl rfl) (HV.ld rfl va2 (at_cell hb21 rfl)) ?_
  refine AL.val rfl (.inl rfl) (HV.fa fl52_0 rfl) ?_
  refine AL.val rfl (.inl rfl) (HV.ld rfl va2 (at_cell hb15 rfl)) ?_
  refine AL.val rfl (.inl rfl) (HV.nei rfl rfl) ?_
  refine AL.nx ?_
  refine AW.ifd rfl (fun c23 => ?_) (fun c23 => ?_)
  · -- then
    refine AW.rs ?_
    refine AL.val rfl (.inl rfl) (HV.as rfl) ?_
    refine AL.nx ?_
    refine AW.ret ?_
    refine ret_and ?_
    refine post_one rfl rfl ?_ (.inr rfl)
    exact ⟨dec_f (fun e => by obtain ⟨e1, e2⟩ := e; first | omega | exact c23 e2 | exact absurd e1 c23), X19⟩
  · -- else
    refine AW.skip ?_
    refine nrm_and ?_
    refine AW.seq ?_
    refine AW.rs ?_
    refine AL.val rfl (.inl rfl) (HV.fa fl52_1 rfl) ?_
    refine AL.val rfl (.inl rfl) (HV.ld rfl va22 (at_cell_add (j := 1) hb21 rfl)) ?_
    refine AL.val rfl (.inl rfl) (HV.fa fl52_1 rfl) ?_
    refine AL.val rfl (.inl rfl) (HV.ld rfl va22 (at_cell_add (j := 1) hb15 rfl)) ?_
    refine AL.w rfl (.inl rfl) (WV.call fn19 rfl (eqS_ok (hr.ext X19) (hr2.ext X19))) ?_
    rintro _ H24 ⟨rfl, hx25⟩
    have X26 := Ext.trans X19 hx25
    have X27 := Ext.trans X20 hx25
    have X28 := Ext.trans X22 hx25
    have hb29 := hb21.ext hx25
    have hb30 := hb15.ext hx25
    refine AL.val rfl (.inl rfl) (HV.not rfl) ?_
    refine AL.nx ?_
    refine AW.ifn rfl (fun c31 => ?_) (fun c31 => ?_)
    · -- then
      refine AW.rs ?_
      refine AL.val rfl (.inl rfl) (HV.as rfl) ?_
      refine AL.nx ?_
      refine AW.ret ?_
      refine ret_and ?_
      refine post_one rfl rfl ?_ (.inr rfl)
      exact ⟨dec_f (fun e => by obtain ⟨e1, e2⟩ := e; first | omega | exact c31 e2 | exact absurd e1 c31), X26⟩
    · -- else
      refine AW.skip ?_
      refine nrm_and ?_
      refine AW.rs ?_
      refine AL.val rfl (.inl rfl) (HV.as rfl) ?_
      refine AL.nx ?_
      refine AW.ret ?_
      refine post_one rfl rfl ?_ (.inr rfl)
      exact ⟨dec_t ⟨by omega, c31⟩, X26⟩

set_option maxRecDepth 100000 in
theorem eqRowS_ok {va vb : Value} {l m : List (Int × List Int)} {ok ok2 : Nat → Prop} (hr : RdK (kP kI (kR kI)) W H ok va l) (hr2 : RdK (kP kI (kR kI)) W H ok2 vb m) : ACalls Tryd.prog W 20 #[va, vb] H (fun r H' => r = .bool (decide (l = m)) ∧ Ext H H') := by
  refine ACalls.of (args := [va, vb]) Tryd.func20 rfl rfl ?_
  have X0 := Ext.refl H
  have hm1 := hr.max
  have hm2 := hr2.max
  refine AW.rs ?_
  refine AL.val rfl (.inl rfl) (HV.as rfl) ?_
  refine AL.nx ?_
  refine AW.seq ?_
  refine AW.rs ?_
  refine AL.val rfl (.inl rfl) (HV.mv rfl) ?_
  refine AL.val rfl (.inl rfl) (HV.len Tryd.underlying28 rfl hr.isSl) ?_
  refine AL.val rfl (.inl rfl) (HV.mv rfl) ?_
  refine AL.val rfl (.inl rfl) (HV.len Tryd.underlying28 rfl hr2.isSl) ?_
  refine AL.val rfl (.inl rfl) (HV.nei rfl rfl) ?_
  refine AL.nx ?_
  refine AW.ifd rfl (fun c3 => ?_) (fun c3 => ?_)
  · -- then
    refine AW.rs ?_
    refine AL.val rfl (.inl rfl) (HV.as rfl) ?_
    refine AL.nx ?_
    refine AW.ret ?_
    refine ret_and ?_
    refine post_one rfl rfl ?_ (.inr rfl)
    exact ⟨dec_f (fun e => by subst e; omega), X0⟩
  · -- else
    refine AW.skip ?_
    refine nrm_and ?_
    refine AW.seq ?_
    refine AW.rs ?_
    refine AL.val rfl (.inl rfl) (HV.as rfl) ?_
    refine AL.nx ?_
    refine AW.block ?_
    refine AW.loop (σ := Nat) (fun i => [(0, va), (1, vb), (5, .int .i64 (i : Int))]) (fun i H' => Ext H H' ∧ i ≤ l.length ∧ (∀ j, j < i → l.getD j (0, []) = m.getD j (0, [])) ∧ True) (fun i => l.length - i) 0 ⟨X0, Nat.zero_le _, fun j hj => absurd hj (Nat.not_lt_zero _), trivial⟩ ⟨rfl, rfl, rfl, trivial⟩ ?_
    rintro i H4 ⟨X5, hi, he, _⟩
    refine AW.seq ?_
    refine AW.rs ?_
    refine AL.val rfl (.inl rfl) (HV.mv rfl) ?_
    refine AL.val rfl (.inl rfl) (HV.mv rfl) ?_
    refine AL.val rfl (.inl rfl) (HV.len Tryd.underlying28 rfl hr.isSl) ?_
    refine AL.val rfl (.inl rfl) (HV.lti rfl rfl) ?_
    refine AL.nx ?_
    refine AW.ifd rfl (fun c6 => ?_) (fun c6 => ?_)
    · -- then
      refine AW.skip ?_
      refine nrm_and ?_
      refine AW.seq ?_
      refine AW.block ?_
      refine AW.seq ?_
      refine AW.draw' [0, 0, 3, 7, 0, 0, 48, 112, 255, 511] mixed (by rfl) ?_
      refine Dr.read 0 _ 17 _ rfl rfl rfl rfl rfl (RV.of (by intro _ _ h; cases h) (.inl rfl) (fun _ xd => HV.mv rfl)) ?_
      refine Dr.read 1 _ 18 _ rfl rfl rfl rfl rfl (RV.of (by intro _ _ h; cases h) (.inl rfl) (fun _ xd => HV.mv rfl)) ?_
      obtain ⟨p7, z8, cs9, hz10, hK11, hC12, hP13⟩ := RdK.ix (q := (i : Int)) hr sl28 (by omega) (by omega)
      obtain ⟨cs14, cs15, rfl, hK16, hK17⟩ := hK11
      obtain rfl : cs14 = [.int .i64 z8.1] := hK16
      obtain ⟨v18, rfl, hr19⟩ := hK17
      have hm20 := hr19.max
      refine Dr.read 2 _ 19 _ rfl rfl rfl rfl rfl (RV.of (by intro _ _ h; cases h) (.inl rfl) (fun _ xd => hP13 rfl rfl)) ?_
      refine Dr.read 3 _ 20 _ rfl rfl rfl rfl rfl (RV.of (by intro _ _ h; cases h) (.inl rfl) (fun _ xd => HV.lda (cs := [.int .i64 z8.1, v18]) rfl va52 (fun j u hu => rdc_ext xd ((hC12.ext X5) j u hu)))) ?_
      refine Dr.read 4 _ 21 _ rfl rfl rfl rfl rfl (RV.of (by intro _ _ h; cases h) (.inl rfl) (fun _ xd => HV.mv rfl)) ?_
      refine Dr.read 5 _ 22 _ rfl rfl rfl rfl rfl (RV.of (by intro _ _ h; cases h) (.inl rfl) (fun _ xd => HV.mv rfl)) ?_
      obtain ⟨p21, z22, cs23, hz24, hK25, hC26, hP27⟩ := RdK.ix (q := (i : Int)) hr2 sl28 (by omega) (by omega)
      obtain ⟨cs28, cs29, rfl, hK30, hK31⟩ := hK25
      obtain rfl : cs28 = [.int .i64 z22.1] := hK30
      obtain ⟨v32, rfl, hr33⟩ := hK31
      have hm34 := hr33.max
      refine Dr.read 6 _ 23 _ rfl rfl rfl rfl rfl (RV.of (by intro _ _ h; cases h) (.inl rfl) (fun _ xd => hP27 rfl rfl)) ?_
      refine Dr.read 7 _ 24 _ rfl rfl rfl rfl rfl (RV.of (by intro _ _ h; cases h) (.inl rfl) (fun _ xd => HV.lda (cs := [.int .i64 z22.1, v32]) rfl va52 (fun j u hu => rdc_ext xd ((hC26.ext X5) j u hu)))) ?_
      refine Dr.eff 8 _ _ rfl (by intro d h; cases h; exact ⟨rfl, rfl⟩) rfl rfl rfl (EC.of (by intro _ _ h; cases h) (.inl rfl) (WV.call fn31 rfl (eqRow_ok z8.1 z22.1 (hr19.ext X5) (hr33.ext X5)))) (fun v H' h => .inl (h.2)) ?_
      rintro _ H35 ⟨rfl, hx36⟩
      have X37 := Ext.trans X5 hx36
      refine Dr.read 9 _ 26 _ rfl rfl rfl rfl rfl (RV.of (by intro _ _ h; cases h) (.inl rfl) (fun _ xd => HV.not rfl)) ?_
      refine Dr.fin rfl ?_
      refine nrm_and ?_
      refine AW.ifn rfl (fun c38 => ?_) (fun c38 => ?_)
      · -- then
        refine AW.rs ?_
        refine AL.val rfl (.inl rfl) (HV.as rfl) ?_
        refine AL.nx ?_
        refine AW.ret ?_
        refine ret_blk (ret_and (ret_and (ret_blk (ret_and ?_))))
        refine post_one rfl rfl ?_ (.inr rfl)
        exact ⟨dec_f (fun e => by subst e; have g19 : l.getD i (0, []) = z8 := gd hz10 (by omega); have g23 : l.getD i (0, []) = z22 := gd hz24 (by omega); exact c38 ⟨congrArg Prod.fst (g19.symm.trans g23), congrArg Prod.snd (g19.symm.trans g23)⟩), X37⟩
      · -- else
        refine AW.skip ?_
        refine nrm_blk (nrm_and ?_)
        refine AW.reg ?_
        refine AL.val rfl (.inl rfl) (HV.mv rfl) ?_
        refine AL.val rfl (.inl rfl) (HV.add rfl rfl (by omega)) ?_
        refine AL.val rfl (.inl rfl) (HV.as rfl) ?_
        refine AL.nil ?_
        refine nrm_and ?_
        exact ⟨i + 1, ⟨X37, by omega, fun j hj => by
      rcases Nat.lt_or_ge j i with h1 | h1
      · exact he j h1
      · obtain rfl : j = i := by omega
        have g19 : l.getD j (0, []) = z8 := gd hz10 (by omega); have g23 : m.getD j (0, []) = z22 := gd hz24 (by omega); rw [g19, g23]; exact Prod.ext c38.1 c38.2, trivial⟩, by first | omega | (dsimp only; omega), ⟨rfl, rfl, rfl, trivial⟩⟩
    · -- else
      refine AW.exit ?_
      refine ex_and (ex_and (ex_blk ?_))
      refine nrm_and ?_
      refine AW.rs ?_
      refine AL.val rfl (.inl rfl) (HV.as rfl) ?_
      refine AL.nx ?_
      refine AW.ret ?_
      refine post_one rfl rfl ?_ (.inr rfl)
      exact ⟨dec_t (list_eq (d := (0, [])) (by omega) (fun j hj => he j (by omega))), X5⟩

set_option maxRecDepth 100000 in
theorem eqTable_ok {vs v vt u : Value} {s t : List Int} {l m : List (Int × List Int)} {oks ok okt oku : Nat → Prop} (n n2 : Int) (hs : RdK kI W H oks vs s) (hr : RdK (kP kI (kR kI)) W H ok v l) (ht : RdK kI W H okt vt t) (hu : RdK (kP kI (kR kI)) W H oku u m) : ACalls Tryd.prog W 8 #[.agg #[.int .i64 n, vs, v], .agg #[.int .i64 n2, vt, u]] H (fun r H' => r = .bool (decide (n = n2 ∧ s = t ∧ l = m)) ∧ Ext H H') := by
  refine ACalls.of (args := [.agg #[.int .i64 n, vs, v], .agg #[.int .i64 n2, vt, u]]) Tryd.func8 rfl rfl ?_
  have X0 := Ext.refl H
  have hm1 := hs.max
  have hm2 := hr.max
  have hm3 := ht.max
  have hm4 := hu.max
  refine AW.rs ?_
  refine AL.w rfl (.inl rfl) (WV.bx rfl rfl) ?_
  rintro _ H6 ⟨b5, rfl, hx7, hn8, hb9⟩
  have o10 := Nat.le_trans X0.bd hn8
  have X11 := Ext.trans X0 hx7
  have X12 := Ext.refl H6
  refine AL.w rfl (.inl rfl) (WV.bx rfl rfl) ?_
  rintro _ H14 ⟨b13, rfl, hx15, hn16, hb17⟩
  have o18 := Nat.le_trans X11.bd hn16
  have o19 := Nat.le_trans X12.bd hn16
  have ne20 : b5 ≠ b13 := by have := hb9.lt; omega
  have X21 := Ext.trans X11 hx15
  have X22 := Ext.trans X12 hx15
  have hb23 := hb9.ext hx15
  have X24 := Ext.refl H14
  refine AL.val rfl (.inl rfl) (HV.as rfl) ?_
  refine AL.nx ?_
  refine AW.seq ?_
  refine AW.rs ?_
  refine AL.val rfl (.inl rfl) (HV.fa fl30_0 rfl) ?_
  refine AL.val rfl (.inl rfl) (HV.ld rfl va2 (at_cell hb23 rfl)) ?_
  refine AL.val rfl (.inl rfl) (HV.fa fl30_0 rfl) ?_
  refine AL.val rfl (.inl rfl) (HV.ld rfl va2 (at_cell hb17 rfl)) ?_
  refine AL.val rfl (.inl rfl) (HV.nei rfl rfl) ?_
  refine AL.nx ?_
  refine AW.ifd rfl (fun c25 => ?_) (fun c25 => ?_)
  · -- then
    refine AW.rs ?_
    refine AL.val rfl (.inl rfl) (HV.as rfl) ?_
    refine AL.nx ?_
    refine AW.ret ?_
    refine ret_and ?_
    refine post_one rfl rfl ?_ (.inr rfl)
    exact ⟨dec_f (fun e => by obtain ⟨e1, e2, e3⟩ := e; first | omega | exact c25 e2 | exact c25 e3 | exact c25 e1), X21⟩
  · -- else
    refine AW.skip ?_
    refine nrm_and ?_
    refine AW.seq ?_
    refine AW.rs ?_
    refine AL.val rfl (.inl rfl) (HV.fa fl30_1 rfl) ?_
    refine AL.val rfl (.inl rfl) (HV.ld rfl va22 (at_cell_add (j := 1) hb23 rfl)) ?_
    refine AL.val rfl (.inl rfl) (HV.fa fl30_1 rfl) ?_
    refine AL.val rfl (.inl rfl) (HV.ld rfl va22 (at_cell_add (j := 1) hb17 rfl)) ?_
    refine AL.w rfl (.inl rfl) (WV.call fn19 rfl (eqS_ok (hs.ext X21) (ht.ext X21))) ?_
    rintro _ H26 ⟨rfl, hx27⟩
    have X28 := Ext.trans X21 hx27
    have X29 := Ext.trans X22 hx27
    have X30 := Ext.trans X24 hx27
    have hb31 := hb23.ext hx27
    have hb32 := hb17.ext hx27
    refine AL.val rfl (.inl rfl) (HV.not rfl) ?_
    refine AL.nx ?_
    refine AW.ifn rfl (fun c33 => ?_) (fun c33 => ?_)
    · -- then
      refine AW.rs ?_
      refine AL.val rfl (.inl rfl) (HV.as rfl) ?_
      refine AL.nx ?_
      refine AW.ret ?_
      refine ret_and ?_
      refine post_one rfl rfl ?_ (.inr rfl)
      exact ⟨dec_f (fun e => by obtain ⟨e1, e2, e3⟩ := e; first | omega | exact c33 e2 | exact c33 e3 | exact c33 e1), X28⟩
    · -- else
      refine AW.skip ?_
      refine nrm_and ?_
      refine AW.seq ?_
      refine AW.rs ?_
      refine AL.val rfl (.inl rfl) (HV.fa fl30_2 rfl) ?_
      refine AL.val rfl (.inl rfl) (HV.ld rfl va28 (at_cell_add (j := 2) hb31 rfl)) ?_
      refine AL.val rfl (.inl rfl) (HV.fa fl30_2 rfl) ?_
      refine AL.val rfl (.inl rfl) (HV.ld rfl va28 (at_cell_add (j := 2) hb32 rfl)) ?_
      refine AL.w rfl (.inl rfl) (WV.call fn20 rfl (eqRowS_ok (hr.ext X28) (hu.ext X28))) ?_
      rintro _ H34 ⟨rfl, hx35⟩
      have X36 := Ext.trans X28 hx35
      have X37 := Ext.trans X29 hx35
      have X38 := Ext.trans X30 hx35
      have hb39 := hb31.ext hx35
      have hb40 := hb32.ext hx35
      refine AL.val rfl (.inl rfl) (HV.not rfl) ?_
      refine AL.nx ?_
      refine AW.ifn rfl (fun c41 => ?_) (fun c41 => ?_)
      · -- then
        refine AW.rs ?_
        refine AL.val rfl (.inl rfl) (HV.as rfl) ?_
        refine AL.nx ?_
        refine AW.ret ?_
        refine ret_and ?_
        refine post_one rfl rfl ?_ (.inr rfl)
        exact ⟨dec_f (fun e => by obtain ⟨e1, e2, e3⟩ := e; first | omega | exact c41 e2 | exact c41 e3 | exact c41 e1), X36⟩
      · -- else
        refine AW.skip ?_
        refine nrm_and ?_
        refine AW.rs ?_
        refine AL.val rfl (.inl rfl) (HV.as rfl) ?_
        refine AL.nx ?_
        refine AW.ret ?_
        refine post_one rfl rfl ?_ (.inr rfl)
        exact ⟨dec_t ⟨by omega, by assumption, by assumption⟩, X36⟩

set_option maxRecDepth 100000 in
theorem l06Less_ok {v v2 : Value} {l m : List Int} {ok ok2 : Nat → Prop} (hr : RdK kI W H ok v l) (hr2 : RdK kI W H ok2 v2 m) : ACalls Tryd.prog W 34 #[v, v2] H (fun r H' => r = .bool (decide (lexI l m < 0)) ∧ Ext H H') := by
  refine ACalls.of (args := [v, v2]) Tryd.func34 rfl rfl ?_
  have X0 := Ext.refl H
  have hm1 := hr.max
  have hm2 := hr2.max
  refine AW.rs ?_
  refine AL.val rfl (.inl rfl) (HV.as rfl) ?_
  refine AL.nx ?_
  refine AW.seq ?_
  refine AW.rs ?_
  refine AL.val rfl (.inl rfl) (HV.as rfl) ?_
  refine AL.nx ?_
  refine AW.block ?_
  refine AW.loop (σ := Nat) (fun i => [(0, v), (1, v2), (5, .int .i64 (i : Int))]) (fun i H' => Ext H H' ∧ i ≤ l.length ∧ i ≤ m.length ∧ (∀ j, j < i → l.getD j 0 = m.getD j 0) ∧ True) (fun i => l.length - i) 0 ⟨X0, Nat.zero_le _, Nat.zero_le _, fun j hj => absurd hj (Nat.not_lt_zero _), trivial⟩ ⟨rfl, rfl, rfl, trivial⟩ ?_
  rintro i H3 ⟨X4, hi, hi2, he, _⟩
  refine AW.seq ?_
  refine AW.rs ?_
  refine AL.val rfl (.inl rfl) (HV.mv rfl) ?_
  refine AL.val rfl (.inl rfl) (HV.mv rfl) ?_
  refine AL.val rfl (.inl rfl) (HV.len Tryd.underlying22 rfl hr.isSl) ?_
  refine AL.val rfl (.inl rfl) (HV.lti rfl rfl) ?_
  refine AL.val rfl (.inl rfl) (HV.mv rfl) ?_
  by_cases c5 : (i : Int) < (l.length : Int)
  · -- true
    have c5_ : decide ((i : Int) < (l.length : Int)) = true := decide_eq_true c5
    rw [c5_]
    refine AL.val rfl (.inr ⟨_, _, _, rfl, rfl, rfl⟩) (HV.mv rfl) ?_
    refine AL.val rfl (.inr ⟨_, _, _, rfl, rfl, rfl⟩) (HV.mv rfl) ?_
    refine AL.val rfl (.inr ⟨_, _, _, rfl, rfl, rfl⟩) (HV.len Tryd.underlying22 rfl hr2.isSl) ?_
    refine AL.val rfl (.inr ⟨_, _, _, rfl, rfl, rfl⟩) (HV.lti rfl rfl) ?_
    refine AL.val rfl (.inl rfl) (HV.pickT rfl rfl) ?_
    refine AL.nx ?_
    refine AW.ifd rfl (fun c6 => ?_) (fun c6 => ?_)
    · -- then
      refine AW.skip ?_
      refine nrm_and ?_
      refine AW.seq ?_
      refine AW.block ?_
      refine AW.seq ?_
      refine AW.draw' [0, 0, 3, 7, 0, 0, 48, 112, 255] mixed (by rfl) ?_
      refine Dr.read 0 _ 18 _ rfl rfl rfl rfl rfl (RV.of (by intro _ _ h; cases h) (.inl rfl) (fun _ xd => HV.mv rfl)) ?_
      refine Dr.read 1 _ 19 _ rfl rfl rfl rfl rfl (RV.of (by intro _ _ h; cases h) (.inl rfl) (fun _ xd => HV.mv rfl)) ?_
      obtain ⟨p7, z8, cs9, hz10, hK11, hC12, hP13⟩ := RdK.ix (q := (i : Int)) hr sl22 (by omega) (by omega)
      obtain rfl : cs9 = [.int .i64 z8] := hK11
      refine Dr.read 2 _ 20 _ rfl rfl rfl rfl rfl (RV.of (by intro _ _ h; cases h) (.inl rfl) (fun _ xd => hP13 rfl rfl)) ?_
      refine Dr.read 3 _ 21 _ rfl rfl rfl rfl rfl (RV.of (by intro _ _ h; cases h) (.inl rfl) (fun _ xd => HV.ld rfl va2 (rdc_ext xd (cells_first (hC12.ext X4) rfl)))) ?_
      refine Dr.read 4 _ 22 _ rfl rfl rfl rfl rfl (RV.of (by intro _ _ h; cases h) (.inl rfl) (fun _ xd => HV.mv rfl)) ?_
      refine Dr.read 5 _ 23 _ rfl rfl rfl rfl rfl (RV.of (by intro _ _ h; cases h) (.inl rfl) (fun _ xd => HV.mv rfl)) ?_
      obtain ⟨p14, z15, cs16, hz17, hK18, hC19, hP20⟩ := RdK.ix (q := (i : Int)) hr2 sl22 (by omega) (by omega)
      obtain rfl : cs16 = [.int .i64 z15] := hK18
      refine Dr.read 6 _ 24 _ rfl rfl rfl rfl rfl (RV.of (by intro _ _ h; cases h) (.inl rfl) (fun _ xd => hP20 rfl rfl)) ?_
      refine Dr.read 7 _ 25 _ rfl rfl rfl rfl rfl (RV.of (by intro _ _ h; cases h) (.inl rfl) (fun _ xd => HV.ld rfl va2 (rdc_ext xd (cells_first (hC19.ext X4) rfl)))) ?_
      refine Dr.read 8 _ 26 _ rfl rfl rfl rfl rfl (RV.of (by intro _ _ h; cases h) (.inl rfl) (fun _ xd => HV.nei rfl rfl)) ?_
      refine Dr.fin rfl ?_
      refine nrm_and ?_
      refine AW.ifd rfl (fun c21 => ?_) (fun c21 => ?_)
      · -- then
        refine AW.seq ?_
        refine AW.draw' [0, 0, 3, 7, 0, 0, 48, 112, 255, 511] mixed (by rfl) ?_
        refine Dr.read 0 _ 27 _ rfl rfl rfl rfl rfl (RV.of (by intro _ _ h; cases h) (.inl rfl) (fun _ xd => HV.mv rfl)) ?_
        refine Dr.read 1 _ 28 _ rfl rfl rfl rfl rfl (RV.of (by intro _ _ h; cases h) (.inl rfl) (fun _ xd => HV.mv rfl)) ?_
        obtain ⟨p22, z23, cs24, hz25, hK26, hC27, hP28⟩ := RdK.ix (q := (i : Int)) hr sl22 (by omega) (by omega)
        obtain rfl : cs24 = [.int .i64 z23] := hK26
        refine Dr.read 2 _ 29 _ rfl rfl rfl rfl rfl (RV.of (by intro _ _ h; cases h) (.inl rfl) (fun _ xd => hP28 rfl rfl)) ?_
        refine Dr.read 3 _ 30 _ rfl rfl rfl rfl rfl (RV.of (by intro _ _ h; cases h) (.inl rfl) (fun _ xd => HV.ld rfl va2 (rdc_ext xd (cells_first (hC27.ext X4) rfl)))) ?_
        refine Dr.read 4 _ 31 _ rfl rfl rfl rfl rfl (RV.of (by intro _ _ h; cases h) (.inl rfl) (fun _ xd => HV.mv rfl)) ?_
        refine Dr.read 5 _ 32 _ rfl rfl rfl rfl rfl (RV.of (by intro _ _ h; cases h) (.inl rfl) (fun _ xd => HV.mv rfl)) ?_
        obtain ⟨p29, z30, cs31, hz32, hK33, hC34, hP35⟩ := RdK.ix (q := (i : Int)) hr2 sl22 (by omega) (by omega)
        obtain rfl : cs31 = [.int .i64 z30] := hK33
        refine Dr.read 6 _ 33 _ rfl rfl rfl rfl rfl (RV.of (by intro _ _ h; cases h) (.inl rfl) (fun _ xd => hP35 rfl rfl)) ?_
        refine Dr.read 7 _ 34 _ rfl rfl rfl rfl rfl (RV.of (by intro _ _ h; cases h) (.inl rfl) (fun _ xd => HV.ld rfl va2 (rdc_ext xd (cells_first (hC34.ext X4) rfl)))) ?_
        refine Dr.read 8 _ 35 _ rfl rfl rfl rfl rfl (RV.of (by intro _ _ h; cases h) (.inl rfl) (fun _ xd => HV.lti rfl rfl)) ?_
        refine Dr.read 9 _ 4 _ rfl rfl rfl rfl rfl (RV.of (by intro _ _ h; cases h) (.inl rfl) (fun _ xd => HV.as rfl)) ?_
        refine Dr.fin rfl ?_
        refine nrm_and ?_
        refine AW.ret ?_
        refine ret_blk (ret_and (ret_and (ret_blk (ret_and ?_))))
        refine post_one rfl rfl ?_ (.inr rfl)
        exact ⟨congrArg Value.bool (by have g21 : l.getD i 0 = z8 := gd hz10 (by omega); have g25 : m.getD i 0 = z15 := gd hz17 (by omega); have g30 : l.getD i 0 = z23 := gd hz25 (by omega); have g34 : m.getD i 0 = z30 := gd hz32 (by omega); rw [lexI_at he (by omega) (by omega) (by omega), g21, g25]; unfold cmpI; have e1 : z23 = z8 := (by omega); have e2 : z30 = z15 := (by omega); rw [Bool.eq_iff_iff]; simp only [decide_eq_true_eq]; split <;> (try split) <;> omega), X4⟩
      · -- else
        refine AW.skip ?_
        refine nrm_blk (nrm_and ?_)
        refine AW.reg ?_
        refine AL.val rfl (.inl rfl) (HV.mv rfl) ?_
        refine AL.val rfl (.inl rfl) (HV.add rfl rfl (by omega)) ?_
        refine AL.val rfl (.inl rfl) (HV.as rfl) ?_
        refine AL.nil ?_
        refine nrm_and ?_
        exact ⟨i + 1, ⟨X4, by omega, by omega, fun j hj => by
      rcases Nat.lt_or_ge j i with h1 | h1
      · exact he j h1
      · obtain rfl : j = i := by omega
        have g21 : l.getD j 0 = z8 := gd hz10 (by omega); have g25 : m.getD j 0 = z15 := gd hz17 (by omega); omega, trivial⟩, by first | omega | (dsimp only; omega), ⟨rfl, rfl, rfl, trivial⟩⟩
    · -- else
      refine AW.exit ?_
      refine ex_and (ex_and (ex_blk ?_))
      refine nrm_and ?_
      refine AW.rs ?_
      refine AL.val rfl (.inl rfl) (HV.mv rfl) ?_
      refine AL.val rfl (.inl rfl) (HV.len Tryd.underlying22 rfl hr.isSl) ?_
      refine AL.val rfl (.inl rfl) (HV.mv rfl) ?_
      refine AL.val rfl (.inl rfl) (HV.len Tryd.underlying22 rfl hr2.isSl) ?_
      refine AL.val rfl (.inl rfl) (HV.lti rfl rfl) ?_
      refine AL.val rfl (.inl rfl) (HV.as rfl) ?_
      refine AL.nx ?_
      refine AW.ret ?_
      refine post_one rfl rfl ?_ (.inr rfl)
      exact ⟨congrArg Value.bool (by rw [lexI_end he (by omega) (by omega) (by omega), Bool.eq_iff_iff]; simp only [decide_eq_true_eq]; split <;> (try split) <;> omega), X4⟩
  · -- false
    have c5_ : decide ((i : Int) < (l.length : Int)) = false := decide_eq_false c5
    rw [c5_]
    refine AL.off rfl rfl (by decide) rfl ?_
    refine AL.off rfl rfl (by decide) rfl ?_
    refine AL.off rfl rfl (by decide) rfl ?_
    refine AL.off rfl rfl (by decide) rfl ?_
    refine AL.val rfl (.inl rfl) (HV.pickF rfl rfl) ?_
    refine AL.nx ?_
    refine AW.cond rfl (fun h => by cases h) (fun _ => ?_)
    refine AW.exit ?_
    refine ex_and (ex_and (ex_blk ?_))
    refine nrm_and ?_
    refine AW.rs ?_
    refine AL.val rfl (.inl rfl) (HV.mv rfl) ?_
    refine AL.val rfl (.inl rfl) (HV.len Tryd.underlying22 rfl hr.isSl) ?_
    refine AL.val rfl (.inl rfl) (HV.mv rfl) ?_
    refine AL.val rfl (.inl rfl) (HV.len Tryd.underlying22 rfl hr2.isSl) ?_
    refine AL.val rfl (.inl rfl) (HV.lti rfl rfl) ?_
    refine AL.val rfl (.inl rfl) (HV.as rfl) ?_
    refine AL.nx ?_
    refine AW.ret ?_
    refine post_one rfl rfl ?_ (.inr rfl)
    exact ⟨congrArg Value.bool (by rw [lexI_end he (by omega) (by omega) (by omega), Bool.eq_iff_iff]; simp only [decide_eq_true_eq]; split <;> (try split) <;> omega), X4⟩

set_option maxRecDepth 100000 in
theorem rowLess_ok {pa pb : Addr} {va vb : Value} {l m : List Int} {a b : Int} {ok ok2 : Nat → Prop} (hc1 : Cells W H pa [.int .i64 a, va]) (hr : RdK kI W H ok va l) (hc2 : Cells W H pb [.int .i64 b, vb]) (hr2 : RdK kI W H ok2 vb m) : ACalls Tryd.prog W 23 #[.pointer (some pa), .pointer (some pb)] H (fun r H' => r = .bool (decide (rowLess (a, l) (b, m))) ∧ Ext H H') := by
  refine ACalls.of (args := [.pointer (some pa), .pointer (some pb)]) Tryd.func23 rfl rfl ?_
  have X0 := Ext.refl H
  have hmA := hr.max
  have hmB := hr2.max
  refine AW.rs ?_
  refine AL.val rfl (.inl rfl) (HV.as rfl) ?_
  refine AL.nx ?_
  refine AW.seq ?_
  refine AW.seq ?_
  refine AW.draw' [0, 1, 3, 7, 0, 16, 48, 112, 255] mixed (by rfl) ?_
  refine Dr.read 0 _ 5 _ rfl rfl rfl rfl rfl (RV.of (by intro _ _ h; cases h) (.inl rfl) (fun _ xd => HV.mv rfl)) ?_
  refine Dr.read 1 _ 6 _ rfl rfl rfl rfl rfl (RV.of (by intro _ _ h; cases h) (.inl rfl) (fun _ xd => HV.nc rfl)) ?_
  refine Dr.read 2 _ 7 _ rfl rfl rfl rfl rfl (RV.of (by intro _ _ h; cases h) (.inl rfl) (fun _ xd => HV.fa fl52_0 rfl)) ?_
  refine Dr.read 3 _ 8 _ rfl rfl rfl rfl rfl (RV.of (by intro _ _ h; cases h) (.inl rfl) (fun _ xd => HV.ld rfl va2 (rdc_ext xd (cells_first hc1 rfl)))) ?_
  refine Dr.read 4 _ 9 _ rfl rfl rfl rfl rfl (RV.of (by intro _ _ h; cases h) (.inl rfl) (fun _ xd => HV.mv rfl)) ?_
  refine Dr.read 5 _ 10 _ rfl rfl rfl rfl rfl (RV.of (by intro _ _ h; cases h) (.inl rfl) (fun _ xd => HV.nc rfl)) ?_
  refine Dr.read 6 _ 11 _ rfl rfl rfl rfl rfl (RV.of (by intro _ _ h; cases h) (.inl rfl) (fun _ xd => HV.fa fl52_0 rfl)) ?_
  refine Dr.read 7 _ 12 _ rfl rfl rfl rfl rfl (RV.of (by intro _ _ h; cases h) (.inl rfl) (fun _ xd => HV.ld rfl va2 (rdc_ext xd (cells_first hc2 rfl)))) ?_
  refine Dr.read 8 _ 13 _ rfl rfl rfl rfl rfl (RV.of (by intro _ _ h; cases h) (.inl rfl) (fun _ xd => HV.nei rfl rfl)) ?_
  refine Dr.fin rfl ?_
  refine nrm_and ?_
  refine AW.ifd rfl (fun c1 => ?_) (fun c1 => ?_)
  · -- then
    refine AW.seq ?_
    refine AW.draw' [0, 1, 3, 7, 0, 16, 48, 112, 255, 511] mixed (by rfl) ?_
    refine Dr.read 0 _ 14 _ rfl rfl rfl rfl rfl (RV.of (by intro _ _ h; cases h) (.inl rfl) (fun _ xd => HV.mv rfl)) ?_
    refine Dr.read 1 _ 15 _ rfl rfl rfl rfl rfl (RV.of (by intro _ _ h; cases h) (.inl rfl) (fun _ xd => HV.nc rfl)) ?_
    refine Dr.read 2 _ 16 _ rfl rfl rfl rfl rfl (RV.of (by intro _ _ h; cases h) (.inl rfl) (fun _ xd => HV.fa fl52_0 rfl)) ?_
    refine Dr.read 3 _ 17 _ rfl rfl rfl rfl rfl (RV.of (by intro _ _ h; cases h) (.inl rfl) (fun _ xd => HV.ld rfl va2 (rdc_ext xd (cells_first hc1 rfl)))) ?_
    refine Dr.read 4 _ 18 _ rfl rfl rfl rfl rfl (RV.of (by intro _ _ h; cases h) (.inl rfl) (fun _ xd => HV.mv rfl)) ?_
    refine Dr.read 5 _ 19 _ rfl rfl rfl rfl rfl (RV.of (by intro _ _ h; cases h) (.inl rfl) (fun _ xd => HV.nc rfl)) ?_
    refine Dr.read 6 _ 20 _ rfl rfl rfl rfl rfl (RV.of (by intro _ _ h; cases h) (.inl rfl) (fun _ xd => HV.fa fl52_0 rfl)) ?_
    refine Dr.read 7 _ 21 _ rfl rfl rfl rfl rfl (RV.of (by intro _ _ h; cases h) (.inl rfl) (fun _ xd => HV.ld rfl va2 (rdc_ext xd (cells_first hc2 rfl)))) ?_
    refine Dr.read 8 _ 22 _ rfl rfl rfl rfl rfl (RV.of (by intro _ _ h; cases h) (.inl rfl) (fun _ xd => HV.lti rfl rfl)) ?_
    refine Dr.read 9 _ 4 _ rfl rfl rfl rfl rfl (RV.of (by intro _ _ h; cases h) (.inl rfl) (fun _ xd => HV.as rfl)) ?_
    refine Dr.fin rfl ?_
    refine nrm_and ?_
    refine AW.ret ?_
    refine ret_and ?_
    refine post_one rfl rfl ?_ (.inr rfl)
    exact ⟨congrArg Value.bool (decide_eq_decide.2 (by show _ ↔ (if a ≠ b then a < b else lexI l m < 0); rw [if_pos c1])), X0⟩
  · -- else
    refine AW.skip ?_
    refine nrm_and ?_
    refine AW.seq ?_
    refine AW.draw' [0, 1, 3, 7, 0, 16, 48, 112, 255, 511] mixed (by rfl) ?_
    refine Dr.read 0 _ 23 _ rfl rfl rfl rfl rfl (RV.of (by intro _ _ h; cases h) (.inl rfl) (fun _ xd => HV.mv rfl)) ?_
    refine Dr.read 1 _ 24 _ rfl rfl rfl rfl rfl (RV.of (by intro _ _ h; cases h) (.inl rfl) (fun _ xd => HV.nc rfl)) ?_
    refine Dr.read 2 _ 25 _ rfl rfl rfl rfl rfl (RV.of (by intro _ _ h; cases h) (.inl rfl) (fun _ xd => HV.fa fl52_1 rfl)) ?_
    refine Dr.read 3 _ 26 _ rfl rfl rfl rfl rfl (RV.of (by intro _ _ h; cases h) (.inl rfl) (fun _ xd => HV.ld rfl va22 (rdc_ext xd (cells_at hc1 rfl)))) ?_
    refine Dr.read 4 _ 27 _ rfl rfl rfl rfl rfl (RV.of (by intro _ _ h; cases h) (.inl rfl) (fun _ xd => HV.mv rfl)) ?_
    refine Dr.read 5 _ 28 _ rfl rfl rfl rfl rfl (RV.of (by intro _ _ h; cases h) (.inl rfl) (fun _ xd => HV.nc rfl)) ?_
    refine Dr.read 6 _ 29 _ rfl rfl rfl rfl rfl (RV.of (by intro _ _ h; cases h) (.inl rfl) (fun _ xd => HV.fa fl52_1 rfl)) ?_
    refine Dr.read 7 _ 30 _ rfl rfl rfl rfl rfl (RV.of (by intro _ _ h; cases h) (.inl rfl) (fun _ xd => HV.ld rfl va22 (rdc_ext xd (cells_at hc2 rfl)))) ?_
    refine Dr.eff 8 _ _ rfl (by intro d h; cases h; exact ⟨rfl, rfl⟩) rfl rfl rfl (EC.of (by intro _ _ h; cases h) (.inl rfl) (WV.call fn34 rfl (l06Less_ok hr hr2))) (fun v H' h => .inl (h.2)) ?_
    rintro _ H2 ⟨rfl, hx3⟩
    have X4 := Ext.trans X0 hx3
    refine Dr.read 9 _ 4 _ rfl rfl rfl rfl rfl (RV.of (by intro _ _ h; cases h) (.inl rfl) (fun _ xd => HV.as rfl)) ?_
    refine Dr.fin rfl ?_
    refine nrm_and ?_
    refine AW.ret ?_
    refine post_one rfl rfl ?_ (.inr rfl)
    exact ⟨congrArg Value.bool (decide_eq_decide.2 (by show _ ↔ (if a ≠ b then a < b else lexI l m < 0); rw [if_neg c1])), X4⟩

set_option maxRecDepth 100000 in
theorem below_ok {v v2 : Value} {l m : List Int} {ok ok2 : Nat → Prop} (hr : RdK kI W H ok v l) (hr2 : RdK kI W H ok2 v2 m) (hb : ∀ x ∈ m, 1 ≤ x ∧ x ≤ 64) : ACalls Tryd.prog W 33 #[v, v2] H (fun r H' => r = .bool (decide (below l m)) ∧ Ext H H') := by
  refine ACalls.of (args := [v, v2]) Tryd.func33 rfl rfl ?_
  have X0 := Ext.refl H
  have hm1 := hr.max
  have hm2 := hr2.max
  refine AW.rs ?_
  refine AL.val rfl (.inl rfl) (HV.as rfl) ?_
  refine AL.nx ?_
  refine AW.seq ?_
  refine AW.rs ?_
  refine AL.val rfl (.inl rfl) (HV.mv rfl) ?_
  refine AL.val rfl (.inl rfl) (HV.len Tryd.underlying22 rfl hr.isSl) ?_
  refine AL.val rfl (.inl rfl) (HV.mv rfl) ?_
  refine AL.val rfl (.inl rfl) (HV.len Tryd.underlying22 rfl hr2.isSl) ?_
  refine AL.val rfl (.inl rfl) (HV.nei rfl rfl) ?_
  refine AL.nx ?_
  refine AW.ifd rfl (fun c3 => ?_) (fun c3 => ?_)
  · -- then
    refine AW.rs ?_
    refine AL.val rfl (.inl rfl) (HV.as rfl) ?_
    refine AL.nx ?_
    refine AW.ret ?_
    refine ret_and ?_
    refine post_one rfl rfl ?_ (.inr rfl)
    exact ⟨dec_f (fun e => by have := e.1; omega), X0⟩
  · -- else
    refine AW.skip ?_
    refine nrm_and ?_
    refine AW.seq ?_
    refine AW.rs ?_
    refine AL.val rfl (.inl rfl) (HV.as rfl) ?_
    refine AL.nx ?_
    refine AW.block ?_
    refine AW.loop (σ := Nat) (fun i => [(0, v), (1, v2), (5, .int .i64 (i : Int))]) (fun i H' => Ext H H' ∧ i ≤ l.length ∧ (∀ j, j < i → 0 ≤ l.getD j 0 ∧ l.getD j 0 ≤ m.getD j 0 - 1) ∧ True) (fun i => l.length - i) 0 ⟨X0, Nat.zero_le _, fun j hj => absurd hj (Nat.not_lt_zero _), trivial⟩ ⟨rfl, rfl, rfl, trivial⟩ ?_
    rintro i H4 ⟨X5, hi, he, _⟩
    refine AW.seq ?_
    refine AW.rs ?_
    refine AL.val rfl (.inl rfl) (HV.mv rfl) ?_
    refine AL.val rfl (.inl rfl) (HV.mv rfl) ?_
    refine AL.val rfl (.inl rfl) (HV.len Tryd.underlying22 rfl hr.isSl) ?_
    refine AL.val rfl (.inl rfl) (HV.lti rfl rfl) ?_
    refine AL.nx ?_
    refine AW.ifd rfl (fun c6 => ?_) (fun c6 => ?_)
    · -- then
      refine AW.skip ?_
      refine nrm_and ?_
      refine AW.seq ?_
      refine AW.block ?_
      refine AW.seq ?_
      refine AW.draw' [0, 0, 3, 7, 0, 0, 48, 112, 240, 511, 1023] mixed (by rfl) ?_
      refine Dr.read 0 _ 17 _ rfl rfl rfl rfl rfl (RV.of (by intro _ _ h; cases h) (.inl rfl) (fun _ xd => HV.mv rfl)) ?_
      refine Dr.read 1 _ 18 _ rfl rfl rfl rfl rfl (RV.of (by intro _ _ h; cases h) (.inl rfl) (fun _ xd => HV.mv rfl)) ?_
      obtain ⟨p7, z8, cs9, hz10, hK11, hC12, hP13⟩ := RdK.ix (q := (i : Int)) hr sl22 (by omega) (by omega)
      obtain rfl : cs9 = [.int .i64 z8] := hK11
      refine Dr.read 2 _ 19 _ rfl rfl rfl rfl rfl (RV.of (by intro _ _ h; cases h) (.inl rfl) (fun _ xd => hP13 rfl rfl)) ?_
      refine Dr.read 3 _ 20 _ rfl rfl rfl rfl rfl (RV.of (by intro _ _ h; cases h) (.inl rfl) (fun _ xd => HV.ld rfl va2 (rdc_ext xd (cells_first (hC12.ext X5) rfl)))) ?_
      refine Dr.read 4 _ 21 _ rfl rfl rfl rfl rfl (RV.of (by intro _ _ h; cases h) (.inl rfl) (fun _ xd => HV.mv rfl)) ?_
      refine Dr.read 5 _ 22 _ rfl rfl rfl rfl rfl (RV.of (by intro _ _ h; cases h) (.inl rfl) (fun _ xd => HV.mv rfl)) ?_
      obtain ⟨p14, z15, cs16, hz17, hK18, hC19, hP20⟩ := RdK.ix (q := (i : Int)) hr2 sl22 (by omega) (by omega)
      obtain rfl : cs16 = [.int .i64 z15] := hK18
      refine Dr.read 6 _ 23 _ rfl rfl rfl rfl rfl (RV.of (by intro _ _ h; cases h) (.inl rfl) (fun _ xd => hP20 rfl rfl)) ?_
      refine Dr.read 7 _ 24 _ rfl rfl rfl rfl rfl (RV.of (by intro _ _ h; cases h) (.inl rfl) (fun _ xd => HV.ld rfl va2 (rdc_ext xd (cells_first (hC19.ext X5) rfl)))) ?_
      refine Dr.read 8 _ 25 _ rfl rfl rfl rfl rfl (RV.of (by intro _ _ h; cases h) (.inl rfl) (fun _ xd => HV.sub rfl rfl (by have := hb _ (List.mem_of_getElem? hz17); omega))) ?_
      refine Dr.eff 9 _ _ rfl (by intro d h; cases h; exact ⟨rfl, rfl⟩) rfl rfl rfl (EC.of (by intro _ _ h; cases h) (.inl rfl) (WV.call fn32 rfl (l00In_ok (W := W) z8 0 (z15 - 1)))) (fun v H' h => .inl (h.2)) ?_
      rintro _ H21 ⟨rfl, hx22⟩
      have X23 := Ext.trans X5 hx22
      refine Dr.read 10 _ 27 _ rfl rfl rfl rfl rfl (RV.of (by intro _ _ h; cases h) (.inl rfl) (fun _ xd => HV.not rfl)) ?_
      refine Dr.fin rfl ?_
      refine nrm_and ?_
      refine AW.ifn rfl (fun c24 => ?_) (fun c24 => ?_)
      · -- then
        refine AW.rs ?_
        refine AL.val rfl (.inl rfl) (HV.as rfl) ?_
        refine AL.nx ?_
        refine AW.ret ?_
        refine ret_blk (ret_and (ret_and (ret_blk (ret_and ?_))))
        refine post_one rfl rfl ?_ (.inr rfl)
        exact ⟨dec_f (fun e => by have q := e.2 i (by omega); have g20 : l.getD i 0 = z8 := gd hz10 (by omega); have g24 : m.getD i 0 = z15 := gd hz17 (by omega); rw [g20, g24] at q; exact c24 q), X23⟩
      · -- else
        refine AW.skip ?_
        refine nrm_blk (nrm_and ?_)
        refine AW.reg ?_
        refine AL.val rfl (.inl rfl) (HV.mv rfl) ?_
        refine AL.val rfl (.inl rfl) (HV.add rfl rfl (by omega)) ?_
        refine AL.val rfl (.inl rfl) (HV.as rfl) ?_
        refine AL.nil ?_
        refine nrm_and ?_
        exact ⟨i + 1, ⟨X23, by omega, fun j hj => by
      rcases Nat.lt_or_ge j i with h1 | h1
      · exact he j h1
      · obtain rfl : j = i := by omega
        have g20 : l.getD j 0 = z8 := gd hz10 (by omega); have g24 : m.getD j 0 = z15 := gd hz17 (by omega); omega, trivial⟩, by first | omega | (dsimp only; omega), ⟨rfl, rfl, rfl, trivial⟩⟩
    · -- else
      refine AW.exit ?_
      refine ex_and (ex_and (ex_blk ?_))
      refine nrm_and ?_
      refine AW.rs ?_
      refine AL.val rfl (.inl rfl) (HV.as rfl) ?_
      refine AL.nx ?_
      refine AW.ret ?_
      refine post_one rfl rfl ?_ (.inr rfl)
      exact ⟨dec_t ⟨by omega, fun h hh => he h (by omega)⟩, X5⟩

set_option maxRecDepth 100000 in
theorem l06Shape_ok {vs v : Value} {s : List Int} {l : List (Int × List Int)} {oks ok : Nat → Prop} {n : Int} {b : Nat} (hs : RdK kI W H oks vs s) (hr : RdK (kP kI (kR kI)) W H ok v l) (hb : At W H b ⟨30, [.int .i64 n, vs, v], 3⟩) : ACalls Tryd.prog W 22 #[.pointer (some ⟨b, 0, none⟩)] H (fun r H' => r = .bool (decide (shapeT n s l)) ∧ Ext H H') := by
  refine ACalls.of (args := [.pointer (some ⟨b, 0, none⟩)]) Tryd.func22 rfl rfl ?_
  have X0 := Ext.refl H
  have hmS := hs.max
  have hmL := hr.max
  refine AW.rs ?_
  refine AL.val rfl (.inl rfl) (HV.as rfl) ?_
  refine AL.nx ?_
  refine AW.seq ?_
  refine AW.rs ?_
  refine AL.val rfl (.inl rfl) (HV.mv rfl) ?_
  refine AL.val rfl (.inl rfl) (HV.nc rfl) ?_
  refine AL.val rfl (.inl rfl) (HV.fa fl30_0 rfl) ?_
  refine AL.val rfl (.inl rfl) (HV.ld rfl va2 (at_cell hb rfl)) ?_
  refine AL.w rfl (.inl rfl) (WV.call fn32 rfl (l00In_ok (W := W) n 1 64)) ?_
  rintro _ H1 ⟨rfl, hx2⟩
  have X3 := Ext.trans X0 hx2
  have hb4 := hb.ext hx2
  refine AL.val rfl (.inl rfl) (HV.not rfl) ?_
  refine AL.val rfl (.inl rfl) (HV.mv rfl) ?_
  by_cases c5 : 1 ≤ n ∧ n ≤ 64
  · -- false
    have c5_ : (!decide (1 ≤ n ∧ n ≤ 64)) = false := by rw [decide_eq_true c5]; rfl
    rw [c5_]
    refine AL.val rfl (.inr ⟨_, _, _, rfl, rfl, rfl⟩) (HV.mv rfl) ?_
    refine AL.val rfl (.inr ⟨_, _, _, rfl, rfl, rfl⟩) (HV.nc rfl) ?_
    refine AL.val rfl (.inr ⟨_, _, _, rfl, rfl, rfl⟩) (HV.fa fl30_1 rfl) ?_
    refine AL.val rfl (.inr ⟨_, _, _, rfl, rfl, rfl⟩) (HV.ld rfl va22 (at_cell_add (j := 1) hb4 rfl)) ?_
    refine AL.val rfl (.inr ⟨_, _, _, rfl, rfl, rfl⟩) (HV.len Tryd.underlying22 rfl hs.isSl) ?_
    refine AL.w rfl (.inr ⟨_, _, _, rfl, rfl, rfl⟩) (WV.call fn32 rfl (l00In_ok (W := W) (s.length : Int) 1 7)) ?_
    rintro _ H6 ⟨rfl, hx7⟩
    have X8 := Ext.trans X3 hx7
    have hb9 := hb4.ext hx7
    refine AL.val rfl (.inr ⟨_, _, _, rfl, rfl, rfl⟩) (HV.not rfl) ?_
    refine AL.val rfl (.inl rfl) (HV.pickF rfl rfl) ?_
    refine AL.val rfl (.inl rfl) (HV.mv rfl) ?_
    by_cases c10 : 1 ≤ (s.length : Int) ∧ (s.length : Int) ≤ 7
    · -- false
      have c10_ : (!decide (1 ≤ (s.length : Int) ∧ (s.length : Int) ≤ 7)) = false := by rw [decide_eq_true c10]; rfl
      rw [c10_]
      refine AL.val rfl (.inr ⟨_, _, _, rfl, rfl, rfl⟩) (HV.mv rfl) ?_
      refine AL.val rfl (.inr ⟨_, _, _, rfl, rfl, rfl⟩) (HV.nc rfl) ?_
      refine AL.val rfl (.inr ⟨_, _, _, rfl, rfl, rfl⟩) (HV.fa fl30_2 rfl) ?_
      refine AL.val rfl (.inr ⟨_, _, _, rfl, rfl, rfl⟩) (HV.ld rfl va28 (at_cell_add (j := 2) hb9 rfl)) ?_
      refine AL.val rfl (.inr ⟨_, _, _, rfl, rfl, rfl⟩) (HV.len Tryd.underlying28 rfl hr.isSl) ?_
      refine AL.w rfl (.inr ⟨_, _, _, rfl, rfl, rfl⟩) (WV.call fn32 rfl (l00In_ok (W := W) (l.length : Int) 1 700)) ?_
      rintro _ H11 ⟨rfl, hx12⟩
      have X13 := Ext.trans X8 hx12
      have hb14 := hb9.ext hx12
      refine AL.val rfl (.inr ⟨_, _, _, rfl, rfl, rfl⟩) (HV.not rfl) ?_
      refine AL.val rfl (.inl rfl) (HV.pickF rfl rfl) ?_
      refine AL.nx ?_
      refine AW.ifn rfl (fun c15 => ?_) (fun c15 => ?_)
      · -- then
        refine AW.rs ?_
        refine AL.val rfl (.inl rfl) (HV.as rfl) ?_
        refine AL.nx ?_
        refine AW.ret ?_
        refine ret_and ?_
        refine post_one rfl rfl ?_ (.inr rfl)
        exact ⟨dec_f (fun h => by obtain ⟨h1, h2, h3, h5, h6⟩ := h; omega), X13⟩
      · -- else
        refine AW.skip ?_
        refine nrm_and ?_
        refine AW.seq ?_
        refine AW.rs ?_
        refine AL.val rfl (.inl rfl) (HV.as rfl) ?_
        refine AL.nx ?_
        refine AW.block ?_
        have X16 := Ext.refl H11
        refine AW.loop (σ := Nat) (fun i => [(0, .pointer (some ⟨b, 0, none⟩)), (3, .int .i64 (i : Int))]) (fun i H' => Ext H H' ∧ Ext H11 H' ∧ At W H' b ⟨30, [.int .i64 n, vs, v], 3⟩ ∧ i ≤ s.length ∧ (∀ k, k < i → 1 ≤ s.getD k 0 ∧ s.getD k 0 ≤ 64) ∧ True) (fun i => s.length - i) 0 ⟨X13, X16, hb14, Nat.zero_le _, fun j hj => absurd hj (Nat.not_lt_zero _), trivial⟩ ⟨rfl, rfl, trivial⟩ ?_
        rintro i H17 ⟨X18, X19, hb20, hi, hs1, _⟩
        refine AW.seq ?_
        refine AW.rs ?_
        refine AL.val rfl (.inl rfl) (HV.mv rfl) ?_
        refine AL.val rfl (.inl rfl) (HV.mv rfl) ?_
        refine AL.val rfl (.inl rfl) (HV.nc rfl) ?_
        refine AL.val rfl (.inl rfl) (HV.fa fl30_1 rfl) ?_
        refine AL.val rfl (.inl rfl) (HV.ld rfl va22 (at_cell_add (j := 1) hb20 rfl)) ?_
        refine AL.val rfl (.inl rfl) (HV.len Tryd.underlying22 rfl hs.isSl) ?_
        refine AL.val rfl (.inl rfl) (HV.lti rfl rfl) ?_
        refine AL.nx ?_
        refine AW.ifd rfl (fun c21 => ?_) (fun c21 => ?_)
        · -- then
          refine AW.skip ?_
          refine nrm_and ?_
          refine AW.seq ?_
          refine AW.block ?_
          refine AW.rs ?_
          refine AL.val rfl (.inl rfl) (HV.mv rfl) ?_
          refine AL.val rfl (.inl rfl) (HV.nc rfl) ?_
          refine AL.val rfl (.inl rfl) (HV.fa fl30_1 rfl) ?_
          refine AL.val rfl (.inl rfl) (HV.ld rfl va22 (at_cell_add (j := 1) hb20 rfl)) ?_
          refine AL.val rfl (.inl rfl) (HV.mv rfl) ?_
          obtain ⟨p22, z23, cs24, hz25, hK26, hC27, hP28⟩ := RdK.ix (q := (i : Int)) hs sl22 (by omega) (by omega)
          obtain rfl : cs24 = [.int .i64 z23] := hK26
          refine AL.val rfl (.inl rfl) (hP28 rfl rfl) ?_
          refine AL.val rfl (.inl rfl) (HV.ld rfl va2 (cells_first (hC27.ext X18) rfl)) ?_
          refine AL.w rfl (.inl rfl) (WV.call fn32 rfl (l00In_ok (W := W) z23 1 64)) ?_
          rintro _ H29 ⟨rfl, hx30⟩
          have X31 := Ext.trans X18 hx30
          have X32 := Ext.trans X19 hx30
          have hb33 := hb20.ext hx30
          refine AL.val rfl (.inl rfl) (HV.not rfl) ?_
          refine AL.nx ?_
          refine AW.ifn rfl (fun c34 => ?_) (fun c34 => ?_)
          · -- then
            refine AW.rs ?_
            refine AL.val rfl (.inl rfl) (HV.as rfl) ?_
            refine AL.nx ?_
            refine AW.ret ?_
            refine ret_blk (ret_and (ret_and (ret_blk (ret_and ?_))))
            refine post_one rfl rfl ?_ (.inr rfl)
            exact ⟨dec_f (fun h => by obtain ⟨h1, h2, h3, h5, h6⟩ := h; have q := h5 i (by omega); have g44 : s.getD i 0 = z23 := gd hz25 (by omega); rw [g44] at q; exact c34 q), X31⟩
          · -- else
            refine AW.skip ?_
            refine nrm_blk (nrm_and ?_)
            refine AW.reg ?_
            refine AL.val rfl (.inl rfl) (HV.mv rfl) ?_
            refine AL.val rfl (.inl rfl) (HV.add rfl rfl (by omega)) ?_
            refine AL.val rfl (.inl rfl) (HV.as rfl) ?_
            refine AL.nil ?_
            refine nrm_and ?_
            exact ⟨i + 1, ⟨X31, X32, hb33, by omega, fun k hk => by
      rcases Nat.lt_or_ge k i with h1 | h1
      · exact hs1 k h1
      · obtain rfl : k = i := by omega
        have g44 : s.getD k 0 = z23 := gd hz25 (by omega); rw [g44]; exact c34, trivial⟩, by first | omega | (dsimp only; omega), ⟨rfl, rfl, trivial⟩⟩
        · -- else
          refine AW.exit ?_
          refine ex_and (ex_and (ex_blk ?_))
          refine nrm_and ?_
          refine AW.seq ?_
          refine AW.rs ?_
          refine AL.val rfl (.inl rfl) (HV.as rfl) ?_
          refine AL.nx ?_
          refine AW.block ?_
          have X35 := Ext.refl H17
          refine AW.loop (σ := Nat) (fun i2 => [(0, .pointer (some ⟨b, 0, none⟩)), (4, .int .i64 (i2 : Int))]) (fun i2 H' => Ext H H' ∧ Ext H11 H' ∧ Ext H17 H' ∧ At W H' b ⟨30, [.int .i64 n, vs, v], 3⟩ ∧ i2 ≤ l.length ∧ (∀ k, k < i2 → (0 ≤ (l.getD k (0, [])).1 ∧ (l.getD k (0, [])).1 ≤ n - 1) ∧ below (l.getD k (0, [])).2 s) ∧ True) (fun i2 => l.length - i2) 0 ⟨X18, X19, X35, hb20, Nat.zero_le _, fun j hj => absurd hj (Nat.not_lt_zero _), trivial⟩ ⟨rfl, rfl, trivial⟩ ?_
          rintro i2 H36 ⟨X37, X38, X39, hb40, hi2, hrow, _⟩
          refine AW.seq ?_
          refine AW.rs ?_
          refine AL.val rfl (.inl rfl) (HV.mv rfl) ?_
          refine AL.val rfl (.inl rfl) (HV.mv rfl) ?_
          refine AL.val rfl (.inl rfl) (HV.nc rfl) ?_
          refine AL.val rfl (.inl rfl) (HV.fa fl30_2 rfl) ?_
          refine AL.val rfl (.inl rfl) (HV.ld rfl va28 (at_cell_add (j := 2) hb40 rfl)) ?_
          refine AL.val rfl (.inl rfl) (HV.len Tryd.underlying28 rfl hr.isSl) ?_
          refine AL.val rfl (.inl rfl) (HV.lti rfl rfl) ?_
          refine AL.nx ?_
          refine AW.ifd rfl (fun c41 => ?_) (fun c41 => ?_)
          · -- then
            refine AW.skip ?_
            refine nrm_and ?_
            refine AW.seq ?_
            refine AW.block ?_
            refine AW.seq ?_
            refine AW.draw' [0, 1, 3, 7, 0, 31, 63, 127, 0, 256, 768, 1792, 3840, 8191, 16383, 32767, 65535, 131071, 262143, 524287, 65535, 2097151, 4194303, 8388607, 65535, 16842751, 50397183, 117506047, 268435455, 536870911, 1073741823] mixed (by rfl) ?_
            refine Dr.read 0 _ 56 _ rfl rfl rfl rfl rfl (RV.of (by intro _ _ h; cases h) (.inl rfl) (fun _ xd => HV.mv rfl)) ?_
            refine Dr.read 1 _ 57 _ rfl rfl rfl rfl rfl (RV.of (by intro _ _ h; cases h) (.inl rfl) (fun _ xd => HV.nc rfl)) ?_
            refine Dr.read 2 _ 58 _ rfl rfl rfl rfl rfl (RV.of (by intro _ _ h; cases h) (.inl rfl) (fun _ xd => HV.fa fl30_2 rfl)) ?_
            refine Dr.read 3 _ 59 _ rfl rfl rfl rfl rfl (RV.of (by intro _ _ h; cases h) (.inl rfl) (fun _ xd => HV.ld rfl va28 (rdc_ext xd (at_cell_add (j := 2) hb40 rfl)))) ?_
            refine Dr.read 4 _ 60 _ rfl rfl rfl rfl rfl (RV.of (by intro _ _ h; cases h) (.inl rfl) (fun _ xd => HV.mv rfl)) ?_
            obtain ⟨p42, z43, cs44, hz45, hK46, hC47, hP48⟩ := RdK.ix (q := (i2 : Int)) hr sl28 (by omega) (by omega)
            obtain ⟨cs49, cs50, rfl, hK51, hK52⟩ := hK46
            obtain rfl : cs49 = [.int .i64 z43.1] := hK51
            obtain ⟨v53, rfl, hr54⟩ := hK52
            have hm55 := hr54.max
            refine Dr.read 5 _ 61 _ rfl rfl rfl rfl rfl (RV.of (by intro _ _ h; cases h) (.inl rfl) (fun _ xd => hP48 rfl rfl)) ?_
            refine Dr.read 6 _ 62 _ rfl rfl rfl rfl rfl (RV.of (by intro _ _ h; cases h) (.inl rfl) (fun _ xd => HV.fa fl52_0 rfl)) ?_
            refine Dr.read 7 _ 63 _ rfl rfl rfl rfl rfl (RV.of (by intro _ _ h; cases h) (.inl rfl) (fun _ xd => HV.ld rfl va2 (rdc_ext xd (cells_first (hC47.ext X37) rfl)))) ?_
            refine Dr.read 8 _ 64 _ rfl rfl rfl rfl rfl (RV.of (by intro _ _ h; cases h) (.inl rfl) (fun _ xd => HV.mv rfl)) ?_
            refine Dr.read 9 _ 65 _ rfl rfl rfl rfl rfl (RV.of (by intro _ _ h; cases h) (.inl rfl) (fun _ xd => HV.nc rfl)) ?_
            refine Dr.read 10 _ 66 _ rfl rfl rfl rfl rfl (RV.of (by intro _ _ h; cases h) (.inl rfl) (fun _ xd => HV.fa fl30_0 rfl)) ?_
            refine Dr.read 11 _ 67 _ rfl rfl rfl rfl rfl (RV.of (by intro _ _ h; cases h) (.inl rfl) (fun _ xd => HV.ld rfl va2 (rdc_ext xd (at_cell hb40 rfl)))) ?_
            refine Dr.read 12 _ 68 _ rfl rfl rfl rfl rfl (RV.of (by intro _ _ h; cases h) (.inl rfl) (fun _ xd => HV.sub rfl rfl (by omega))) ?_
            refine Dr.eff 13 _ _ rfl (by intro d h; cases h; exact ⟨rfl, rfl⟩) rfl rfl rfl (EC.of (by intro _ _ h; cases h) (.inl rfl) (WV.call fn32 rfl (l00In_ok (W := W) z43.1 0 (n - 1)))) (fun v H' h => .inl (h.2)) ?_
            rintro _ H56 ⟨rfl, hx57⟩
            have X58 := Ext.trans X37 hx57
            have X59 := Ext.trans X38 hx57
            have X60 := Ext.trans X39 hx57
            have hb61 := hb40.ext hx57
            refine Dr.read 14 _ 70 _ rfl rfl rfl rfl rfl (RV.of (by intro _ _ h; cases h) (.inl rfl) (fun _ xd => HV.not rfl)) ?_
            refine Dr.read 15 _ 71 _ rfl rfl rfl rfl rfl (RV.of (by intro _ _ h; cases h) (.inl rfl) (fun _ xd => HV.mv rfl)) ?_
            by_cases c62 : 0 ≤ z43.1 ∧ z43.1 ≤ (n - 1)
            · -- false
              have c62_ : (!decide (0 ≤ z43.1 ∧ z43.1 ≤ (n - 1))) = false := by rw [decide_eq_true c62]; rfl
              rw [c62_]
              refine Dr.read 16 _ 72 _ rfl rfl rfl rfl rfl (RV.of (by intro _ _ h; cases h) (.inr ⟨_, _, _, rfl, rfl, rfl⟩) (fun _ xd => HV.mv rfl)) ?_
              refine Dr.read 17 _ 73 _ rfl rfl rfl rfl rfl (RV.of (by intro _ _ h; cases h) (.inr ⟨_, _, _, rfl, rfl, rfl⟩) (fun _ xd => HV.nc rfl)) ?_
              refine Dr.read 18 _ 74 _ rfl rfl rfl rfl rfl (RV.of (by intro _ _ h; cases h) (.inr ⟨_, _, _, rfl, rfl, rfl⟩) (fun _ xd => HV.fa fl30_2 rfl)) ?_
              refine Dr.read 19 _ 75 _ rfl rfl rfl rfl rfl (RV.of (by intro _ _ h; cases h) (.inr ⟨_, _, _, rfl, rfl, rfl⟩) (fun _ xd => HV.ld rfl va28 (rdc_ext xd (at_cell_add (j := 2) hb61 rfl)))) ?_
              refine Dr.read 20 _ 76 _ rfl rfl rfl rfl rfl (RV.of (by intro _ _ h; cases h) (.inr ⟨_, _, _, rfl, rfl, rfl⟩) (fun _ xd => HV.mv rfl)) ?_
              obtain ⟨p63, z64, cs65, hz66, hK67, hC68, hP69⟩ := RdK.ix (q := (i2 : Int)) hr sl28 (by omega) (by omega)
              obtain ⟨cs70, cs71, rfl, hK72, hK73⟩ := hK67
              obtain rfl : cs70 = [.int .i64 z64.1] := hK72
              obtain ⟨v74, rfl, hr75⟩ := hK73
              have hm76 := hr75.max
              refine Dr.read 21 _ 77 _ rfl rfl rfl rfl rfl (RV.of (by intro _ _ h; cases h) (.inr ⟨_, _, _, rfl, rfl, rfl⟩) (fun _ xd => hP69 rfl rfl)) ?_
              refine Dr.read 22 _ 78 _ rfl rfl rfl rfl rfl (RV.of (by intro _ _ h; cases h) (.inr ⟨_, _, _, rfl, rfl, rfl⟩) (fun _ xd => HV.fa fl52_1 rfl)) ?_
              refine Dr.read 23 _ 79 _ rfl rfl rfl rfl rfl (RV.of (by intro _ _ h; cases h) (.inr ⟨_, _, _, rfl, rfl, rfl⟩) (fun _ xd => HV.ld rfl va22 (rdc_ext xd (cells_at (hC68.ext X58) rfl)))) ?_
              refine Dr.read 24 _ 80 _ rfl rfl rfl rfl rfl (RV.of (by intro _ _ h; cases h) (.inr ⟨_, _, _, rfl, rfl, rfl⟩) (fun _ xd => HV.mv rfl)) ?_
              refine Dr.read 25 _ 81 _ rfl rfl rfl rfl rfl (RV.of (by intro _ _ h; cases h) (.inr ⟨_, _, _, rfl, rfl, rfl⟩) (fun _ xd => HV.nc rfl)) ?_
              refine Dr.read 26 _ 82 _ rfl rfl rfl rfl rfl (RV.of (by intro _ _ h; cases h) (.inr ⟨_, _, _, rfl, rfl, rfl⟩) (fun _ xd => HV.fa fl30_1 rfl)) ?_
              refine Dr.read 27 _ 83 _ rfl rfl rfl rfl rfl (RV.of (by intro _ _ h; cases h) (.inr ⟨_, _, _, rfl, rfl, rfl⟩) (fun _ xd => HV.ld rfl va22 (rdc_ext xd (at_cell_add (j := 1) hb61 rfl)))) ?_
              refine Dr.eff 28 _ _ rfl (by intro d h; cases h; exact ⟨rfl, rfl⟩) rfl rfl rfl (EC.of (by intro _ _ h; cases h) (.inr ⟨_, _, _, rfl, rfl, rfl⟩) (WV.call fn33 rfl (below_ok (hr75.ext X58) (hs.ext X58) (fun x hx => by obtain ⟨k, hk, rfl⟩ := List.getElem_of_mem hx; have := hs1 k (by omega); simpa [hk] using this)))) (fun v H' h => .inl (h.2)) ?_
              rintro _ H77 ⟨rfl, hx78⟩
              have X79 := Ext.trans X58 hx78
              have X80 := Ext.trans X59 hx78
              have X81 := Ext.trans X60 hx78
              have hb82 := hb61.ext hx78
              refine Dr.read 29 _ 85 _ rfl rfl rfl rfl rfl (RV.of (by intro _ _ h; cases h) (.inr ⟨_, _, _, rfl, rfl, rfl⟩) (fun _ xd => HV.not rfl)) ?_
              refine Dr.read 30 _ 86 _ rfl rfl rfl rfl rfl (RV.of (by intro _ _ h; cases h) (.inl rfl) (fun _ xd => HV.pickF rfl rfl)) ?_
              refine Dr.fin rfl ?_
              refine nrm_and ?_
              refine AW.ifn rfl (fun c83 => ?_) (fun c83 => ?_)
              · -- then
                refine AW.rs ?_
                refine AL.val rfl (.inl rfl) (HV.as rfl) ?_
                refine AL.nx ?_
                refine AW.ret ?_
                refine ret_blk (ret_and (ret_and (ret_blk (ret_and ?_))))
                refine post_one rfl rfl ?_ (.inr rfl)
                exact ⟨dec_f (fun h => by obtain ⟨h1, h2, h3, h5, h6⟩ := h; have q := h6 i2 (by omega); have g61 : l.getD i2 (0, []) = z43 := gd hz45 (by omega); have g77 : l.getD i2 (0, []) = z64 := gd hz66 (by omega); rw [g61] at q; first | exact c83 q.1 | (have e := g61.symm.trans g77; rw [e] at q; exact c83 q.2)), X79⟩
              · -- else
                refine AW.skip ?_
                refine nrm_blk (nrm_and ?_)
                refine AW.reg ?_
                refine AL.val rfl (.inl rfl) (HV.mv rfl) ?_
                refine AL.val rfl (.inl rfl) (HV.add rfl rfl (by omega)) ?_
                refine AL.val rfl (.inl rfl) (HV.as rfl) ?_
                refine AL.nil ?_
                refine nrm_and ?_
                exact ⟨i2 + 1, ⟨X79, X80, X81, hb82, by omega, fun k hk => by
      rcases Nat.lt_or_ge k i2 with h1 | h1
      · exact hrow k h1
      · obtain rfl : k = i2 := by omega
        have g61 : l.getD k (0, []) = z43 := gd hz45 (by omega); have g77 : l.getD k (0, []) = z64 := gd hz66 (by omega); have e := g61.symm.trans g77; rw [g61]; exact ⟨by assumption, by rw [e]; exact c83⟩, trivial⟩, by first | omega | (dsimp only; omega), ⟨rfl, rfl, trivial⟩⟩
            · -- true
              have c62_ : (!decide (0 ≤ z43.1 ∧ z43.1 ≤ (n - 1))) = true := by rw [decide_eq_false c62]; rfl
              rw [c62_]
              refine Dr.read 16 _ 72 _ rfl rfl rfl rfl rfl (RV.off (by intro _ _ h; cases h) rfl rfl (by decide)) ?_
              refine Dr.read 17 _ 73 _ rfl rfl rfl rfl rfl (RV.off (by intro _ _ h; cases h) rfl rfl (by decide)) ?_
              refine Dr.read 18 _ 74 _ rfl rfl rfl rfl rfl (RV.off (by intro _ _ h; cases h) rfl rfl (by decide)) ?_
              refine Dr.read 19 _ 75 _ rfl rfl rfl rfl rfl (RV.off (by intro _ _ h; cases h) rfl rfl (by decide)) ?_
              refine Dr.read 20 _ 76 _ rfl rfl rfl rfl rfl (RV.off (by intro _ _ h; cases h) rfl rfl (by decide)) ?_
              refine Dr.read 21 _ 77 _ rfl rfl rfl rfl rfl (RV.off (by intro _ _ h; cases h) rfl rfl (by decide)) ?_
              refine Dr.read 22 _ 78 _ rfl rfl rfl rfl rfl (RV.off (by intro _ _ h; cases h) rfl rfl (by decide)) ?_
              refine Dr.read 23 _ 79 _ rfl rfl rfl rfl rfl (RV.off (by intro _ _ h; cases h) rfl rfl (by decide)) ?_
              refine Dr.read 24 _ 80 _ rfl rfl rfl rfl rfl (RV.off (by intro _ _ h; cases h) rfl rfl (by decide)) ?_
              refine Dr.read 25 _ 81 _ rfl rfl rfl rfl rfl (RV.off (by intro _ _ h; cases h) rfl rfl (by decide)) ?_
              refine Dr.read 26 _ 82 _ rfl rfl rfl rfl rfl (RV.off (by intro _ _ h; cases h) rfl rfl (by decide)) ?_
              refine Dr.read 27 _ 83 _ rfl rfl rfl rfl rfl (RV.off (by intro _ _ h; cases h) rfl rfl (by decide)) ?_
              refine Dr.read 28 _ 84 _ rfl rfl rfl rfl rfl (RV.off (by intro _ _ h; cases h) rfl rfl (by decide)) ?_
              refine Dr.read 29 _ 85 _ rfl rfl rfl rfl rfl (RV.off (by intro _ _ h; cases h) rfl rfl (by decide)) ?_
              refine Dr.read 30 _ 86 _ rfl rfl rfl rfl rfl (RV.of (by intro _ _ h; cases h) (.inl rfl) (fun _ xd => HV.pickT rfl rfl)) ?_
              refine Dr.fin rfl ?_
              refine nrm_and ?_
              refine AW.cond rfl (fun _ => ?_) (fun h => by cases h)
              refine AW.rs ?_
              refine AL.val rfl (.inl rfl) (HV.as rfl) ?_
              refine AL.nx ?_
              refine AW.ret ?_
              refine ret_blk (ret_and (ret_and (ret_blk (ret_and ?_))))
              refine post_one rfl rfl ?_ (.inr rfl)
              exact ⟨dec_f (fun h => by obtain ⟨h1, h2, h3, h5, h6⟩ := h; have q := h6 i2 (by omega); have g61 : l.getD i2 (0, []) = z43 := gd hz45 (by omega); rw [g61] at q; first | exact c62 q.1 | (have e := g61.symm.trans g77; rw [e] at q; exact c62 q.2)), X58⟩
          · -- else
            refine AW.exit ?_
            refine ex_and (ex_and (ex_blk ?_))
            refine nrm_and ?_
            refine AW.rs ?_
            refine AL.val rfl (.inl rfl) (HV.as rfl) ?_
            refine AL.nx ?_
            refine AW.ret ?_
            refine post_one rfl rfl ?_ (.inr rfl)
            exact ⟨dec_t ⟨by assumption, by assumption, by assumption, fun h hh => hs1 h (by omega), fun k hk => hrow k (by omega)⟩, X37⟩
    · -- true
      have c10_ : (!decide (1 ≤ (s.length : Int) ∧ (s.length : Int) ≤ 7)) = true := by rw [decide_eq_false c10]; rfl
      rw [c10_]
      refine AL.off rfl rfl (by decide) rfl ?_
      refine AL.off rfl rfl (by decide) rfl ?_
      refine AL.off rfl rfl (by decide) rfl ?_
      refine AL.off rfl rfl (by decide) rfl ?_
      refine AL.off rfl rfl (by decide) rfl ?_
      refine AL.off rfl rfl (by decide) rfl ?_
      refine AL.off rfl rfl (by decide) rfl ?_
      refine AL.val rfl (.inl rfl) (HV.pickT rfl rfl) ?_
      refine AL.nx ?_
      refine AW.cond rfl (fun _ => ?_) (fun h => by cases h)
      refine AW.rs ?_
      refine AL.val rfl (.inl rfl) (HV.as rfl) ?_
      refine AL.nx ?_
      refine AW.ret ?_
      refine ret_and ?_
      refine post_one rfl rfl ?_ (.inr rfl)
      exact ⟨dec_f (fun h => by obtain ⟨h1, h2, h3, h5, h6⟩ := h; omega), X8⟩
  · -- true
    have c5_ : (!decide (1 ≤ n ∧ n ≤ 64)) = true := by rw [decide_eq_false c5]; rfl
    rw [c5_]
    refine AL.off rfl rfl (by decide) rfl ?_
    refine AL.off rfl rfl (by decide) rfl ?_
    refine AL.off rfl rfl (by decide) rfl ?_
    refine AL.off rfl rfl (by decide) rfl ?_
    refine AL.off rfl rfl (by decide) rfl ?_
    refine AL.off rfl rfl (by decide) rfl ?_
    refine AL.off rfl rfl (by decide) rfl ?_
    refine AL.val rfl (.inl rfl) (HV.pickT rfl rfl) ?_
    refine AL.val rfl (.inl rfl) (HV.mv rfl) ?_
    refine AL.off rfl rfl (by decide) rfl ?_
    refine AL.off rfl rfl (by decide) rfl ?_
    refine AL.off rfl rfl (by decide) rfl ?_
    refine AL.off rfl rfl (by decide) rfl ?_
    refine AL.off rfl rfl (by decide) rfl ?_
    refine AL.off rfl rfl (by decide) rfl ?_
    refine AL.off rfl rfl (by decide) rfl ?_
    refine AL.val rfl (.inl rfl) (HV.pickT rfl rfl) ?_
    refine AL.nx ?_
    refine AW.cond rfl (fun _ => ?_) (fun h => by cases h)
    refine AW.rs ?_
    refine AL.val rfl (.inl rfl) (HV.as rfl) ?_
    refine AL.nx ?_
    refine AW.ret ?_
    refine ret_and ?_
    refine post_one rfl rfl ?_ (.inr rfl)
    exact ⟨dec_f (fun h => by obtain ⟨h1, h2, h3, h5, h6⟩ := h; omega), X3⟩

set_option maxRecDepth 100000 in
theorem l06Ok_ok {vs v : Value} {s : List Int} {l : List (Int × List Int)} {oks ok : Nat → Prop} {n : Int} {b : Nat} (hs : RdK kI W H oks vs s) (hr : RdK (kP kI (kR kI)) W H ok v l) (hb : At W H b ⟨30, [.int .i64 n, vs, v], 3⟩) : ACalls Tryd.prog W 11 #[.pointer (some ⟨b, 0, none⟩)] H (fun r H' => r = .bool (decide (okT n s l)) ∧ Ext H H') := by
  refine ACalls.of (args := [.pointer (some ⟨b, 0, none⟩)]) Tryd.func11 rfl rfl ?_
  have X0 := Ext.refl H
  have hmS := hs.max
  have hmL := hr.max
  refine AW.rs ?_
  refine AL.val rfl (.inl rfl) (HV.as rfl) ?_
  refine AL.nx ?_
  refine AW.seq ?_
  refine AW.rs ?_
  refine AL.val rfl (.inl rfl) (HV.mv rfl) ?_
  refine AL.w rfl (.inl rfl) (WV.call fn22 rfl (l06Shape_ok hs hr hb)) ?_
  rintro _ H1 ⟨rfl, hx2⟩
  have X3 := Ext.trans X0 hx2
  have hb4 := hb.ext hx2
  refine AL.val rfl (.inl rfl) (HV.not rfl) ?_
  refine AL.nx ?_
  refine AW.ifn rfl (fun c5 => ?_) (fun c5 => ?_)
  · -- then
    refine AW.rs ?_
    refine AL.val rfl (.inl rfl) (HV.as rfl) ?_
    refine AL.nx ?_
    refine AW.ret ?_
    refine ret_and ?_
    refine post_one rfl rfl ?_ (.inr rfl)
    exact ⟨dec_f (fun h => c5 h.1), X3⟩
  · -- else
    refine AW.skip ?_
    refine nrm_and ?_
    refine AW.seq ?_
    refine AW.rs ?_
    refine AL.val rfl (.inl rfl) (HV.as rfl) ?_
    refine AL.nx ?_
    refine AW.block ?_
    have hsh : shapeT n s l := (by assumption)
    have h700 := hsh.2.2.1
    have X6 := Ext.refl H1
    refine AW.loop (σ := Nat) (fun i => [(0, .pointer (some ⟨b, 0, none⟩)), (3, .int .i64 (i : Int))]) (fun i H' => Ext H H' ∧ Ext H1 H' ∧ At W H' b ⟨30, [.int .i64 n, vs, v], 3⟩ ∧ 1 ≤ i ∧ i ≤ l.length ∧ (∀ k, 0 < k → k < i → ¬ rowLess (l.getD k (0, [])) (l.getD (k - 1) (0, []))) ∧ True) (fun i => l.length - i) 1 ⟨X3, X6, hb4, Nat.le_refl _, by omega, fun k h1 h2 => by omega, trivial⟩ ⟨rfl, rfl, trivial⟩ ?_
    rintro i H7 ⟨X8, X9, hb10, h1i, hi, he, _⟩
    refine AW.seq ?_
    refine AW.rs ?_
    refine AL.val rfl (.inl rfl) (HV.mv rfl) ?_
    refine AL.val rfl (.inl rfl) (HV.mv rfl) ?_
    refine AL.val rfl (.inl rfl) (HV.nc rfl) ?_
    refine AL.val rfl (.inl rfl) (HV.fa fl30_2 rfl) ?_
    refine AL.val rfl (.inl rfl) (HV.ld rfl va28 (at_cell_add (j := 2) hb10 rfl)) ?_
    refine AL.val rfl (.inl rfl) (HV.len Tryd.underlying28 rfl hr.isSl) ?_
    refine AL.val rfl (.inl rfl) (HV.lti rfl rfl) ?_
    refine AL.nx ?_
    refine AW.ifd rfl (fun c11 => ?_) (fun c11 => ?_)
    · -- then
      refine AW.skip ?_
      refine nrm_and ?_
      refine AW.seq ?_
      refine AW.block ?_
      refine AW.seq ?_
      refine AW.draw' [0, 1, 3, 7, 0, 31, 0, 64, 192, 448, 0, 1024, 4032, 8191] mixed (by rfl) ?_
      refine Dr.read 0 _ 16 _ rfl rfl rfl rfl rfl (RV.of (by intro _ _ h; cases h) (.inl rfl) (fun _ xd => HV.mv rfl)) ?_
      refine Dr.read 1 _ 17 _ rfl rfl rfl rfl rfl (RV.of (by intro _ _ h; cases h) (.inl rfl) (fun _ xd => HV.nc rfl)) ?_
      refine Dr.read 2 _ 18 _ rfl rfl rfl rfl rfl (RV.of (by intro _ _ h; cases h) (.inl rfl) (fun _ xd => HV.fa fl30_2 rfl)) ?_
      refine Dr.read 3 _ 19 _ rfl rfl rfl rfl rfl (RV.of (by intro _ _ h; cases h) (.inl rfl) (fun _ xd => HV.ld rfl va28 (rdc_ext xd (at_cell_add (j := 2) hb10 rfl)))) ?_
      refine Dr.read 4 _ 20 _ rfl rfl rfl rfl rfl (RV.of (by intro _ _ h; cases h) (.inl rfl) (fun _ xd => HV.mv rfl)) ?_
      obtain ⟨p12, z13, cs14, hz15, hK16, hC17, hP18⟩ := RdK.ix (q := (i : Int)) hr sl28 (by omega) (by omega)
      obtain ⟨cs19, cs20, rfl, hK21, hK22⟩ := hK16
      obtain rfl : cs19 = [.int .i64 z13.1] := hK21
      obtain ⟨v23, rfl, hr24⟩ := hK22
      have hm25 := hr24.max
      refine Dr.read 5 _ 21 _ rfl rfl rfl rfl rfl (RV.of (by intro _ _ h; cases h) (.inl rfl) (fun _ xd => hP18 rfl rfl)) ?_
      refine Dr.read 6 _ 22 _ rfl rfl rfl rfl rfl (RV.of (by intro _ _ h; cases h) (.inl rfl) (fun _ xd => HV.mv rfl)) ?_
      refine Dr.read 7 _ 23 _ rfl rfl rfl rfl rfl (RV.of (by intro _ _ h; cases h) (.inl rfl) (fun _ xd => HV.nc rfl)) ?_
      refine Dr.read 8 _ 24 _ rfl rfl rfl rfl rfl (RV.of (by intro _ _ h; cases h) (.inl rfl) (fun _ xd => HV.fa fl30_2 rfl)) ?_
      refine Dr.read 9 _ 25 _ rfl rfl rfl rfl rfl (RV.of (by intro _ _ h; cases h) (.inl rfl) (fun _ xd => HV.ld rfl va28 (rdc_ext xd (at_cell_add (j := 2) hb10 rfl)))) ?_
      refine Dr.read 10 _ 26 _ rfl rfl rfl rfl rfl (RV.of (by intro _ _ h; cases h) (.inl rfl) (fun _ xd => HV.mv rfl)) ?_
      refine Dr.read 11 _ 27 _ rfl rfl rfl rfl rfl (RV.of (by intro _ _ h; cases h) (.inl rfl) (fun _ xd => HV.sub rfl rfl (by omega))) ?_
      obtain ⟨p26, z27, cs28, hz29, hK30, hC31, hP32⟩ := RdK.ix (q := (i : Int) - 1) hr sl28 (by omega) (by omega)
      obtain ⟨cs33, cs34, rfl, hK35, hK36⟩ := hK30
      obtain rfl : cs33 = [.int .i64 z27.1] := hK35
      obtain ⟨v37, rfl, hr38⟩ := hK36
      have hm39 := hr38.max
      refine Dr.read 12 _ 28 _ rfl rfl rfl rfl rfl (RV.of (by intro _ _ h; cases h) (.inl rfl) (fun _ xd => hP32 rfl rfl)) ?_
      refine Dr.eff 13 _ _ rfl (by intro d h; cases h; exact ⟨rfl, rfl⟩) rfl rfl rfl (EC.of (by intro _ _ h; cases h) (.inl rfl) (WV.call fn23 rfl (rowLess_ok (hC17.ext X8) (hr24.ext X8) (hC31.ext X8) (hr38.ext X8)))) (fun v H' h => .inl (h.2)) ?_
      rintro _ H40 ⟨rfl, hx41⟩
      have X42 := Ext.trans X8 hx41
      have X43 := Ext.trans X9 hx41
      have hb44 := hb10.ext hx41
      refine Dr.fin rfl ?_
      refine nrm_and ?_
      refine AW.ifd rfl (fun c45 => ?_) (fun c45 => ?_)
      · -- then
        refine AW.rs ?_
        refine AL.val rfl (.inl rfl) (HV.as rfl) ?_
        refine AL.nx ?_
        refine AW.ret ?_
        refine ret_blk (ret_and (ret_and (ret_blk (ret_and ?_))))
        refine post_one rfl rfl ?_ (.inr rfl)
        exact ⟨dec_f (fun h => by have q := h.2 i (by omega) (by omega); have g21 : l.getD i (0, []) = z13 := gd hz15 (by omega); have g28 : l.getD (i - 1) (0, []) = z27 := gd hz29 (by omega); rw [g21, g28] at q; exact q c45), X42⟩
      · -- else
        refine AW.skip ?_
        refine nrm_blk (nrm_and ?_)
        refine AW.reg ?_
        refine AL.val rfl (.inl rfl) (HV.mv rfl) ?_
        refine AL.val rfl (.inl rfl) (HV.add rfl rfl (by omega)) ?_
        refine AL.val rfl (.inl rfl) (HV.as rfl) ?_
        refine AL.nil ?_
        refine nrm_and ?_
        exact ⟨i + 1, ⟨X42, X43, hb44, by omega, by omega, fun k h1 h2 => by
      rcases Nat.lt_or_ge k i with h3 | h3
      · exact he k h1 h3
      · obtain rfl : k = i := by omega
        have g21 : l.getD k (0, []) = z13 := gd hz15 (by omega); have g28 : l.getD (k - 1) (0, []) = z27 := gd hz29 (by omega); rw [g21, g28]; exact c45, trivial⟩, by first | omega | (dsimp only; omega), ⟨rfl, rfl, trivial⟩⟩
    · -- else
      refine AW.exit ?_
      refine ex_and (ex_and (ex_blk ?_))
      refine nrm_and ?_
      refine AW.rs ?_
      refine AL.val rfl (.inl rfl) (HV.as rfl) ?_
      refine AL.nx ?_
      refine AW.ret ?_
      refine post_one rfl rfl ?_ (.inr rfl)
      exact ⟨dec_t ⟨hsh, fun k h1 h2 => he k h1 (by omega)⟩, X8⟩

set_option maxRecDepth 100000 in
theorem orI_ok {v : Value} {l : List Int} {ok : Nat → Prop} (hr : RdK kI W H ok v l) : ACalls Tryd.prog W 35 #[v] H (fun r H' => r = .int .i64 (orL l) ∧ Ext H H') := by
  refine ACalls.of (args := [v]) Tryd.func35 rfl rfl ?_
  have X0 := Ext.refl H
  have hm1 := hr.max
  refine AW.rs ?_
  refine AL.val rfl (.inl rfl) (HV.as rfl) ?_
  refine AL.nx ?_
  refine AW.rs ?_
  refine AL.val rfl (.inl rfl) (HV.as rfl) ?_
  refine AL.nx ?_
  refine AW.seq ?_
  refine AW.rs ?_
  refine AL.val rfl (.inl rfl) (HV.mv rfl) ?_
  refine AL.val rfl (.inl rfl) (HV.len Tryd.underlying73 rfl hr.isSl) ?_
  refine AL.val rfl (.inl rfl) (HV.mv rfl) ?_
  refine AL.nx ?_
  refine AW.block ?_
  refine AW.loop (σ := Nat) (fun i => [(3, .int .i64 0), (6, v), (7, .int .i64 (l.length : Int)), (8, .int .i64 (i : Int))]) (fun i H' => Ext H H' ∧ i ≤ l.length ∧ (∀ j, j < i → l.getD j 0 = 0) ∧ True) (fun i => l.length - i) 0 ⟨X0, Nat.zero_le _, fun j hj => absurd hj (Nat.not_lt_zero _), trivial⟩ ⟨rfl, rfl, rfl, rfl, trivial⟩ ?_
  rintro i H2 ⟨X3, hi, he, _⟩
  refine AW.rs ?_
  refine AL.val rfl (.inl rfl) (HV.lti rfl rfl) ?_
  refine AL.nx ?_
  refine AW.seq ?_
  refine AW.ifd rfl (fun c4 => ?_) (fun c4 => ?_)
  · -- then
    refine AW.skip ?_
    refine nrm_and ?_
    refine AW.seq ?_
    refine AW.block ?_
    refine AW.rs ?_
    obtain ⟨p5, z6, cs7, hz8, hK9, hC10, hP11⟩ := RdK.ix (q := (i : Int)) hr sl73 (by omega) (by omega)
    obtain rfl : cs7 = [.int .i64 z6] := hK9
    refine AL.val rfl (.inl rfl) (hP11 rfl rfl) ?_
    refine AL.val rfl (.inl rfl) (HV.ld rfl va3 (cells_first (hC10.ext X3) rfl)) ?_
    refine AL.val rfl (.inl rfl) (HV.as rfl) ?_
    refine AL.nx ?_
    refine AW.rs ?_
    refine AL.val rfl (.inl rfl) (HV.mv rfl) ?_
    refine AL.val rfl (.inl rfl) (HV.mv rfl) ?_
    refine AL.val rfl (.inl rfl) (HV.nei rfl rfl) ?_
    refine AL.nx ?_
    refine AW.ifd rfl (fun c12 => ?_) (fun c12 => ?_)
    · -- then
      refine AW.rs ?_
      refine AL.val rfl (.inl rfl) (HV.mv rfl) ?_
      refine AL.val rfl (.inl rfl) (HV.as rfl) ?_
      refine AL.nx ?_
      refine AW.ret ?_
      refine ret_blk (ret_and (ret_and (ret_blk (ret_and ?_))))
      refine post_one rfl rfl ?_ (.inr rfl)
      exact ⟨congrArg (Value.int .i64) (orL_at he (getq hz8 rfl) c12).symm, X3⟩
    · -- else
      refine AW.skip ?_
      refine nrm_blk (nrm_and ?_)
      refine AW.reg ?_
      refine AL.val rfl (.inl rfl) (HV.add rfl rfl (by omega)) ?_
      refine AL.val rfl (.inl rfl) (HV.mv rfl) ?_
      refine AL.nil ?_
      refine nrm_and ?_
      exact ⟨i + 1, ⟨X3, by omega, fun j hj => by
      rcases Nat.lt_or_ge j i with h1 | h1
      · exact he j h1
      · obtain rfl : j = i := by omega
        have g10 : l.getD j 0 = z6 := gd hz8 (by omega); omega, trivial⟩, by first | omega | (dsimp only; omega), ⟨rfl, rfl, rfl, rfl, trivial⟩⟩
  · -- else
    refine AW.exit ?_
    refine ex_and (ex_and (ex_blk ?_))
    refine nrm_and ?_
    refine AW.rs ?_
    refine AL.val rfl (.inl rfl) (HV.mv rfl) ?_
    refine AL.val rfl (.inl rfl) (HV.as rfl) ?_
    refine AL.nx ?_
    refine AW.ret ?_
    refine post_one rfl rfl ?_ (.inr rfl)
    exact ⟨congrArg (Value.int .i64) (orL_end he (by omega)).symm, X3⟩

set_option maxRecDepth 100000 in
theorem cmpR_ok {va vb : Value} {l m : List Int} {ok ok2 : Nat → Prop} (a b : Int) (hr : RdK kI W H ok va l) (hr2 : RdK kI W H ok2 vb m) : ACalls Tryd.prog W 28 #[.agg #[.int .i64 a, va], .agg #[.int .i64 b, vb]] H (fun r H' => r = .int .i64 (cmpR (a, l) (b, m)) ∧ Ext H H') := by
  refine ACalls.of (args := [.agg #[.int .i64 a, va], .agg #[.int .i64 b, vb]]) Tryd.func28 rfl rfl ?_
  have X0 := Ext.refl H
  have hm1 := hr.max
  have hm2 := hr2.max
  refine AW.rs ?_
  refine AL.w rfl (.inl rfl) (WV.bx rfl rfl) ?_
  rintro _ H4 ⟨b3, rfl, hx5, hn6, hb7⟩
  have o8 := Nat.le_trans X0.bd hn6
  have X9 := Ext.trans X0 hx5
  have X10 := Ext.refl H4
  refine AL.w rfl (.inl rfl) (WV.bx rfl rfl) ?_
  rintro _ H12 ⟨b11, rfl, hx13, hn14, hb15⟩
  have o16 := Nat.le_trans X9.bd hn14
  have o17 := Nat.le_trans X10.bd hn14
  have ne18 : b3 ≠ b11 := by have := hb7.lt; omega
  have X19 := Ext.trans X9 hx13
  have X20 := Ext.trans X10 hx13
  have hb21 := hb7.ext hx13
  have X22 := Ext.refl H12
  refine AL.val rfl (.inl rfl) (HV.as rfl) ?_
  refine AL.nx ?_
  refine AW.seq ?_
  refine AW.draw' [0, 1, 0, 4, 15, 0, 32, 0, 128, 511, 1023, 2047, 4095] mixed (by rfl) ?_
  refine Dr.read 0 _ 5 _ rfl rfl rfl rfl rfl (RV.of (by intro _ _ h; cases h) (.inl rfl) (fun _ xd => HV.fa fl52_0 rfl)) ?_
  refine Dr.read 1 _ 6 _ rfl rfl rfl rfl rfl (RV.of (by intro _ _ h; cases h) (.inl rfl) (fun _ xd => HV.ld rfl va2 (rdc_ext xd (at_cell hb21 rfl)))) ?_
  refine Dr.read 2 _ 7 _ rfl rfl rfl rfl rfl (RV.of (by intro _ _ h; cases h) (.inl rfl) (fun _ xd => HV.fa fl52_0 rfl)) ?_
  refine Dr.read 3 _ 8 _ rfl rfl rfl rfl rfl (RV.of (by intro _ _ h; cases h) (.inl rfl) (fun _ xd => HV.ld rfl va2 (rdc_ext xd (at_cell hb15 rfl)))) ?_
  refine Dr.read 5 _ 10 _ rfl rfl rfl rfl rfl (RV.of (by intro _ _ h; cases h) (.inl rfl) (fun _ xd => HV.fa fl52_1 rfl)) ?_
  refine Dr.read 6 _ 11 _ rfl rfl rfl rfl rfl (RV.of (by intro _ _ h; cases h) (.inl rfl) (fun _ xd => HV.ld rfl va22 (rdc_ext xd (at_cell_add (j := 1) hb21 rfl)))) ?_
  refine Dr.read 7 _ 12 _ rfl rfl rfl rfl rfl (RV.of (by intro _ _ h; cases h) (.inl rfl) (fun _ xd => HV.fa fl52_1 rfl)) ?_
  refine Dr.read 8 _ 13 _ rfl rfl rfl rfl rfl (RV.of (by intro _ _ h; cases h) (.inl rfl) (fun _ xd => HV.ld rfl va22 (rdc_ext xd (at_cell_add (j := 1) hb15 rfl)))) ?_
  refine Dr.eff 4 _ _ rfl (by intro d h; cases h; exact ⟨rfl, rfl⟩) rfl rfl rfl (EC.of (by intro _ _ h; cases h) (.inl rfl) (WV.call fn36 rfl (cmpI_ok (W := W) a b))) (fun v H' h => .inl (h.2)) ?_
  rintro _ H23 ⟨rfl, hx24⟩
  have X25 := Ext.trans X19 hx24
  have X26 := Ext.trans X20 hx24
  have X27 := Ext.trans X22 hx24
  have hb28 := hb21.ext hx24
  have hb29 := hb15.ext hx24
  refine Dr.eff 9 _ _ rfl (by intro d h; cases h; exact ⟨rfl, rfl⟩) rfl rfl rfl (EC.of (by intro _ _ h; cases h) (.inl rfl) (WV.call fn37 rfl (lexI_ok (hr.ext X25) (hr2.ext X25)))) (fun v H' h => .inl (h.2)) ?_
  rintro _ H30 ⟨rfl, hx31⟩
  have X32 := Ext.trans X25 hx31
  have X33 := Ext.trans X26 hx31
  have X34 := Ext.trans X27 hx31
  have hb35 := hb28.ext hx31
  have hb36 := hb29.ext hx31
  have X37 := Ext.refl H30
  have y38 := hb35.lt
  have y39 := hb36.lt
  have o40 := X32.bd
  have o41 := X33.bd
  have o42 := X34.bd
  have o43 := X37.bd
  refine Dr.eff 10 _ _ rfl (by intro d h; cases h; exact ⟨rfl, rfl⟩) rfl rfl rfl (EC.of (by intro _ _ h; cases h) (.inl rfl) (WV.bsK (K := kI) (l := ([cmpI a b, lexI l m] : List Int)) (css := [[.int .i64 (cmpI a b)], [.int .i64 (lexI l m)]]) sl73 rfl rfl (by first | rfl | (simp [Instr.fill, Value.cells, kI, kB, kU, kU8, kS, Kd.sc]; done) | (simp [Instr.fill, Value.cells, kI, kB, kU, kU8, kS, Kd.sc, rng1, rng2, rng3, rng4, kP])) rfl (segs_cons rfl (segs_cons rfl segs_nil)))) (fun v H' h => .inl (h.1)) ?_
  rintro v44 H45 ⟨hx46, ho47⟩
  have X48 := Ext.trans X32 hx46
  have X49 := Ext.trans X33 hx46
  have X50 := Ext.trans X34 hx46
  have X51 := Ext.trans X37 hx46
  have hb52 := hb35.ext hx46
  have hb53 := hb36.ext hx46
  refine Dr.eff 11 _ _ rfl (by intro d h; cases h; exact ⟨rfl, rfl⟩) rfl rfl rfl (EC.of (by intro _ _ h; cases h) (.inl rfl) (WV.call fn35 rfl (orI_ok ho47.rd))) (fun v H' h => .inl (h.2)) ?_
  rintro _ H55 ⟨rfl, hx56⟩
  have X57 := Ext.trans X48 hx56
  have X58 := Ext.trans X49 hx56
  have X59 := Ext.trans X50 hx56
  have X60 := Ext.trans X51 hx56
  have ho61 := ho47.ext hx56
  have hb62 := hb52.ext hx56
  have hb63 := hb53.ext hx56
  refine Dr.read 12 _ 4 _ rfl rfl rfl rfl rfl (RV.of (by intro _ _ h; cases h) (.inl rfl) (fun _ xd => HV.as rfl)) ?_
  refine Dr.fin rfl ?_
  refine nrm_and ?_
  refine AW.ret ?_
  refine post_one rfl rfl ?_ (.inr rfl)
  exact ⟨congrArg (Value.int .i64) (orL_two (a, l) (b, m)), X57⟩

set_option maxRecDepth 100000 in
theorem implVT_ok {vs v : Value} {s : List Int} {l : List (Int × List Int)} {oks ok : Nat → Prop} (n : Int) (hs : RdK kI W H oks vs s) (hr : RdK (kP kI (kR kI)) W H ok v l) : ACalls Tryd.prog W 15 #[.agg #[.int .i64 n, vs, v]] H (fun r H' => r = .bool (decide (okT n s l)) ∧ Ext H H') := by
  refine ACalls.of (args := [.agg #[.int .i64 n, vs, v]]) Tryd.func15 rfl rfl ?_
  have X0 := Ext.refl H
  have hm1 := hs.max
  have hm2 := hr.max
  refine AW.rs ?_
  refine AL.w rfl (.inl rfl) (WV.bx rfl rfl) ?_
  rintro _ H4 ⟨b3, rfl, hx5, hn6, hb7⟩
  have o8 := Nat.le_trans X0.bd hn6
  have X9 := Ext.trans X0 hx5
  have X10 := Ext.refl H4
  refine AL.val rfl (.inl rfl) (HV.as rfl) ?_
  refine AL.nx ?_
  refine AW.seq ?_
  refine AW.rs ?_
  refine AL.val rfl (.inl rfl) (HV.fa fl30_0 rfl) ?_
  refine AL.val rfl (.inl rfl) (HV.ld rfl va2 (at_cell hb7 rfl)) ?_
  refine AL.w rfl (.inl rfl) (WV.call fn27 rfl (within_ok (W := W) n 1 64)) ?_
  rintro _ H11 ⟨rfl, hx12⟩
  have X13 := Ext.trans X9 hx12
  have X14 := Ext.trans X10 hx12
  have hb15 := hb7.ext hx12
  refine AL.val rfl (.inl rfl) (HV.not rfl) ?_
  refine AL.val rfl (.inl rfl) (HV.mv rfl) ?_
  by_cases c16 : 1 ≤ n ∧ n ≤ 64
  · -- false
    have c16_ : (!decide (1 ≤ n ∧ n ≤ 64)) = false := by rw [decide_eq_true c16]; rfl
    rw [c16_]
    refine AL.val rfl (.inr ⟨_, _, _, rfl, rfl, rfl⟩) (HV.fa fl30_1 rfl) ?_
    refine AL.val rfl (.inr ⟨_, _, _, rfl, rfl, rfl⟩) (HV.ld rfl va22 (at_cell_add (j := 1) hb15 rfl)) ?_
    refine AL.val rfl (.inr ⟨_, _, _, rfl, rfl, rfl⟩) (HV.len Tryd.underlying22 rfl hs.isSl) ?_
    refine AL.w rfl (.inr ⟨_, _, _, rfl, rfl, rfl⟩) (WV.call fn27 rfl (within_ok (W := W) (s.length : Int) 1 7)) ?_
    rintro _ H17 ⟨rfl, hx18⟩
    have X19 := Ext.trans X13 hx18
    have X20 := Ext.trans X14 hx18
    have hb21 := hb15.ext hx18
    refine AL.val rfl (.inr ⟨_, _, _, rfl, rfl, rfl⟩) (HV.not rfl) ?_
    refine AL.val rfl (.inl rfl) (HV.pickF rfl rfl) ?_
    refine AL.val rfl (.inl rfl) (HV.mv rfl) ?_
    by_cases c22 : 1 ≤ (s.length : Int) ∧ (s.length : Int) ≤ 7
    · -- false
      have c22_ : (!decide (1 ≤ (s.length : Int) ∧ (s.length : Int) ≤ 7)) = false := by rw [decide_eq_true c22]; rfl
      rw [c22_]
      refine AL.val rfl (.inr ⟨_, _, _, rfl, rfl, rfl⟩) (HV.fa fl30_2 rfl) ?_
      refine AL.val rfl (.inr ⟨_, _, _, rfl, rfl, rfl⟩) (HV.ld rfl va28 (at_cell_add (j := 2) hb21 rfl)) ?_
      refine AL.val rfl (.inr ⟨_, _, _, rfl, rfl, rfl⟩) (HV.len Tryd.underlying28 rfl hr.isSl) ?_
      refine AL.w rfl (.inr ⟨_, _, _, rfl, rfl, rfl⟩) (WV.call fn27 rfl (within_ok (W := W) (l.length : Int) 1 700)) ?_
      rintro _ H23 ⟨rfl, hx24⟩
      have X25 := Ext.trans X19 hx24
      have X26 := Ext.trans X20 hx24
      have hb27 := hb21.ext hx24
      refine AL.val rfl (.inr ⟨_, _, _, rfl, rfl, rfl⟩) (HV.not rfl) ?_
      refine AL.val rfl (.inl rfl) (HV.pickF rfl rfl) ?_
      refine AL.nx ?_
      refine AW.ifn rfl (fun c28 => ?_) (fun c28 => ?_)
      · -- then
        refine AW.rs ?_
        refine AL.val rfl (.inl rfl) (HV.as rfl) ?_
        refine AL.nx ?_
        refine AW.ret ?_
        refine ret_and ?_
        refine post_one rfl rfl ?_ (.inr rfl)
        exact ⟨dec_f (fun h => by obtain ⟨⟨h1, h2, h3, h5, h6⟩, h7⟩ := h; omega), X25⟩
      · -- else
        refine AW.skip ?_
        refine nrm_and ?_
        refine AW.seq ?_
        refine AW.rs ?_
        refine AL.val rfl (.inl rfl) (HV.fa fl30_1 rfl) ?_
        refine AL.val rfl (.inl rfl) (HV.ld rfl va22 (at_cell_add (j := 1) hb27 rfl)) ?_
        refine AL.val rfl (.inl rfl) (HV.len Tryd.underlying22 rfl hs.isSl) ?_
        refine AL.val rfl (.inl rfl) (HV.mv rfl) ?_
        refine AL.nx ?_
        refine AW.block ?_
        have X29 := Ext.refl H23
        refine AW.loop (σ := Nat) (fun i => [(1, .pointer (some ⟨b3, 0, none⟩)), (28, vs), (29, .int .i64 (s.length : Int)), (30, .int .i64 (i : Int))]) (fun i H' => Ext H H' ∧ Ext H4 H' ∧ Ext H23 H' ∧ At W H' b3 ⟨30, [.int .i64 n, vs, v], 3⟩ ∧ i ≤ s.length ∧ (∀ k, k < i → 1 ≤ s.getD k 0 ∧ s.getD k 0 ≤ 64) ∧ True) (fun i => s.length - i) 0 ⟨X25, X26, X29, hb27, Nat.zero_le _, fun j hj => absurd hj (Nat.not_lt_zero _), trivial⟩ ⟨rfl, rfl, rfl, rfl, trivial⟩ ?_
        rintro i H30 ⟨X31, X32, X33, hb34, hi, hs1, _⟩
        refine AW.rs ?_
        refine AL.val rfl (.inl rfl) (HV.lti rfl rfl) ?_
        refine AL.nx ?_
        refine AW.seq ?_
        refine AW.ifd rfl (fun c35 => ?_) (fun c35 => ?_)
        · -- then
          refine AW.skip ?_
          refine nrm_and ?_
          refine AW.seq ?_
          refine AW.block ?_
          refine AW.rs ?_
          obtain ⟨p36, z37, cs38, hz39, hK40, hC41, hP42⟩ := RdK.ix (q := (i : Int)) hs sl22 (by omega) (by omega)
          obtain rfl : cs38 = [.int .i64 z37] := hK40
          refine AL.val rfl (.inl rfl) (hP42 rfl rfl) ?_
          refine AL.val rfl (.inl rfl) (HV.ld rfl va2 (cells_first (hC41.ext X31) rfl)) ?_
          refine AL.val rfl (.inl rfl) (HV.as rfl) ?_
          refine AL.nx ?_
          refine AW.rs ?_
          refine AL.val rfl (.inl rfl) (HV.mv rfl) ?_
          refine AL.w rfl (.inl rfl) (WV.call fn27 rfl (within_ok (W := W) z37 1 64)) ?_
          rintro _ H43 ⟨rfl, hx44⟩
          have X45 := Ext.trans X31 hx44
          have X46 := Ext.trans X32 hx44
          have X47 := Ext.trans X33 hx44
          have hb48 := hb34.ext hx44
          refine AL.val rfl (.inl rfl) (HV.not rfl) ?_
          refine AL.nx ?_
          refine AW.ifn rfl (fun c49 => ?_) (fun c49 => ?_)
          · -- then
            refine AW.rs ?_
            refine AL.val rfl (.inl rfl) (HV.as rfl) ?_
            refine AL.nx ?_
            refine AW.ret ?_
            refine ret_blk (ret_and (ret_and (ret_blk (ret_and ?_))))
            refine post_one rfl rfl ?_ (.inr rfl)
            exact ⟨dec_f (fun h => by obtain ⟨⟨h1, h2, h3, h5, h6⟩, h7⟩ := h; have q := h5 i (by omega); have g32 : s.getD i 0 = z37 := gd hz39 (by omega); rw [g32] at q; exact c49 q), X45⟩
          · -- else
            refine AW.skip ?_
            refine nrm_blk (nrm_and ?_)
            refine AW.reg ?_
            refine AL.val rfl (.inl rfl) (HV.add rfl rfl (by omega)) ?_
            refine AL.val rfl (.inl rfl) (HV.mv rfl) ?_
            refine AL.nil ?_
            refine nrm_and ?_
            exact ⟨i + 1, ⟨X45, X46, X47, hb48, by omega, fun k hk => by
      rcases Nat.lt_or_ge k i with h1 | h1
      · exact hs1 k h1
      · obtain rfl : k = i := by omega
        have g32 : s.getD k 0 = z37 := gd hz39 (by omega); rw [g32]; exact c49, trivial⟩, by first | omega | (dsimp only; omega), ⟨rfl, rfl, rfl, rfl, trivial⟩⟩
        · -- else
          refine AW.exit ?_
          refine ex_and (ex_and (ex_blk ?_))
          refine nrm_and ?_
          refine AW.seq ?_
          refine AW.rs ?_
          refine AL.val rfl (.inl rfl) (HV.fa fl30_2 rfl) ?_
          refine AL.val rfl (.inl rfl) (HV.ld rfl va28 (at_cell_add (j := 2) hb34 rfl)) ?_
          refine AL.val rfl (.inl rfl) (HV.len Tryd.underlying28 rfl hr.isSl) ?_
          refine AL.val rfl (.inl rfl) (HV.mv rfl) ?_
          refine AL.nx ?_
          refine AW.block ?_
          have X50 := Ext.refl H30
          refine AW.loop (σ := Nat) (fun i2 => [(1, .pointer (some ⟨b3, 0, none⟩)), (39, v), (40, .int .i64 (l.length : Int)), (41, .int .i64 (i2 : Int))]) (fun i2 H' => Ext H H' ∧ Ext H4 H' ∧ Ext H23 H' ∧ Ext H30 H' ∧ At W H' b3 ⟨30, [.int .i64 n, vs, v], 3⟩ ∧ i2 ≤ l.length ∧ (∀ k, k < i2 → (0 ≤ (l.getD k (0, [])).1 ∧ (l.getD k (0, [])).1 ≤ n - 1) ∧ below (l.getD k (0, [])).2 s) ∧ (∀ k, 0 < k → k < i2 → ¬ rowLess (l.getD k (0, [])) (l.getD (k - 1) (0, []))) ∧ True) (fun i2 => l.length - i2) 0 ⟨X31, X32, X33, X50, hb34, Nat.zero_le _, fun j hj => absurd hj (Nat.not_lt_zero _), fun k h1 h2 => by omega, trivial⟩ ⟨rfl, rfl, rfl, rfl, trivial⟩ ?_
          rintro i2 H51 ⟨X52, X53, X54, X55, hb56, hi2, hrow, hord, _⟩
          refine AW.rs ?_
          refine AL.val rfl (.inl rfl) (HV.lti rfl rfl) ?_
          refine AL.nx ?_
          refine AW.seq ?_
          refine AW.ifd rfl (fun c57 => ?_) (fun c57 => ?_)
          · -- then
            refine AW.skip ?_
            refine nrm_and ?_
            refine AW.seq ?_
            refine AW.block ?_
            refine AW.rs ?_
            refine AL.val rfl (.inl rfl) (HV.mv rfl) ?_
            obtain ⟨p58, z59, cs60, hz61, hK62, hC63, hP64⟩ := RdK.ix (q := (i2 : Int)) hr sl28 (by omega) (by omega)
            obtain ⟨cs65, cs66, rfl, hK67, hK68⟩ := hK62
            obtain rfl : cs65 = [.int .i64 z59.1] := hK67
            obtain ⟨v69, rfl, hr70⟩ := hK68
            have hm71 := hr70.max
            refine AL.val rfl (.inl rfl) (hP64 rfl rfl) ?_
            refine AL.val rfl (.inl rfl) (HV.lda (cs := [.int .i64 z59.1, v69]) rfl va52 (hC63.ext X52)) ?_
            refine AL.w rfl (.inl rfl) (WV.al ze52 rfl) ?_
            rintro _ H73 ⟨b72, rfl, hx74, hn75, hb76⟩
            have o77 := Nat.le_trans X52.bd hn75
            have o78 := Nat.le_trans X53.bd hn75
            have o79 := Nat.le_trans X54.bd hn75
            have o80 := Nat.le_trans X55.bd hn75
            have ne81 : b3 ≠ b72 := by have := hb56.lt; omega
            have X82 := Ext.trans X52 hx74
            have X83 := Ext.trans X53 hx74
            have X84 := Ext.trans X54 hx74
            have X85 := Ext.trans X55 hx74
            have hb86 := hb56.ext hx74
            have X87 := Ext.refl H73
            refine AL.val rfl (.inl rfl) (HV.as rfl) ?_
            refine AL.w0 (.inl rfl) (WV.st rfl rfl va52 rfl hb76 (Nat.le_of_ble_eq_true rfl) (one_cons rfl (one_cons (sl_one1 (hr70.ext X82).isSl) one_nil))) ?_
            rintro _ H88 ⟨hx89, hb90⟩
            have X91 := Ext.thru X82 hx89 (fun z_ hz_ => by rw [hz_]; exact o77)
            have X92 := Ext.thru X83 hx89 (fun z_ hz_ => by rw [hz_]; exact o78)
            have X93 := Ext.thru X84 hx89 (fun z_ hz_ => by rw [hz_]; exact o79)
            have X94 := Ext.thru X85 hx89 (fun z_ hz_ => by rw [hz_]; exact o80)
            have hb96 := hb86.but hx89 ne81
            have hb97 : At W H88 b72 ⟨52, [.int .i64 z59.1, v69], 2⟩ := hb90
            refine AL.nx ?_
            refine AW.seq ?_
            refine AW.rs ?_
            refine AL.val rfl (.inl rfl) (HV.fa fl52_0 rfl) ?_
            refine AL.val rfl (.inl rfl) (HV.ld rfl va2 (at_cell hb97 rfl)) ?_
            refine AL.val rfl (.inl rfl) (HV.fa fl30_0 rfl) ?_
            refine AL.val rfl (.inl rfl) (HV.ld rfl va2 (at_cell hb96 rfl)) ?_
            refine AL.val rfl (.inl rfl) (HV.sub rfl rfl (by omega)) ?_
            refine AL.w rfl (.inl rfl) (WV.call fn27 rfl (within_ok (W := W) z59.1 0 (n - 1))) ?_
            rintro _ H98 ⟨rfl, hx99⟩
            have X100 := Ext.trans X91 hx99
            have X101 := Ext.trans X92 hx99
            have X102 := Ext.trans X93 hx99
            have X103 := Ext.trans X94 hx99
            have hb104 := hb96.ext hx99
            have hb105 := hb97.ext hx99
            refine AL.val rfl (.inl rfl) (HV.not rfl) ?_
            refine AL.val rfl (.inl rfl) (HV.mv rfl) ?_
            by_cases c106 : 0 ≤ z59.1 ∧ z59.1 ≤ (n - 1)
            · -- false
              have c106_ : (!decide (0 ≤ z59.1 ∧ z59.1 ≤ (n - 1))) = false := by rw [decide_eq_true c106]; rfl
              rw [c106_]
              refine AL.val rfl (.inr ⟨_, _, _, rfl, rfl, rfl⟩) (HV.fa fl52_1 rfl) ?_
              refine AL.val rfl (.inr ⟨_, _, _, rfl, rfl, rfl⟩) (HV.ld rfl va22 (at_cell_add (j := 1) hb105 rfl)) ?_
              refine AL.val rfl (.inr ⟨_, _, _, rfl, rfl, rfl⟩) (HV.len Tryd.underlying22 rfl hr70.isSl) ?_
              refine AL.val rfl (.inr ⟨_, _, _, rfl, rfl, rfl⟩) (HV.fa fl30_1 rfl) ?_
              refine AL.val rfl (.inr ⟨_, _, _, rfl, rfl, rfl⟩) (HV.ld rfl va22 (at_cell_add (j := 1) hb104 rfl)) ?_
              refine AL.val rfl (.inr ⟨_, _, _, rfl, rfl, rfl⟩) (HV.len Tryd.underlying22 rfl hs.isSl) ?_
              refine AL.val rfl (.inr ⟨_, _, _, rfl, rfl, rfl⟩) (HV.nei rfl rfl) ?_
              refine AL.val rfl (.inl rfl) (HV.pickF rfl rfl) ?_
              refine AL.nx ?_
              refine AW.ifd rfl (fun c107 => ?_) (fun c107 => ?_)
              · -- then
                refine AW.rs ?_
                refine AL.val rfl (.inl rfl) (HV.as rfl) ?_
                refine AL.nx ?_
                refine AW.ret ?_
                refine ret_and (ret_blk (ret_and (ret_and (ret_blk (ret_and ?_)))))
                refine post_one rfl rfl ?_ (.inr rfl)
                exact ⟨dec_f (fun h => by obtain ⟨⟨h1, h2, h3, h5, h6⟩, h7⟩ := h; have q := h6 i2 (by omega); have g44 : l.getD i2 (0, []) = z59 := gd hz61 (by omega); rw [g44] at q; have q2 := q.2.1; first | exact c107 q.1 | omega), X100⟩
              · -- else
                refine AW.skip ?_
                refine nrm_and ?_
                refine AW.seq ?_
                refine AW.rs ?_
                refine AL.val rfl (.inl rfl) (HV.fa fl52_1 rfl) ?_
                refine AL.val rfl (.inl rfl) (HV.ld rfl va22 (at_cell_add (j := 1) hb105 rfl)) ?_
                refine AL.val rfl (.inl rfl) (HV.len Tryd.underlying22 rfl hr70.isSl) ?_
                refine AL.val rfl (.inl rfl) (HV.mv rfl) ?_
                refine AL.nx ?_
                refine AW.block ?_
                have hz44_ := hz61
                have X108 := Ext.refl H98
                refine AW.loop (σ := Nat) (fun j => [(1, .pointer (some ⟨b3, 0, none⟩)), (5, .int .i64 (i2 : Int)), (6, .pointer (some ⟨b72, 0, none⟩)), (39, v), (40, .int .i64 (l.length : Int)), (41, .int .i64 (i2 : Int)), (42, .bool (decide ((i2 : Int) < (l.length : Int)))), (43, .int .i64 (i2 : Int)), (44, .pointer (some p58)), (45, .agg #[.int .i64 z59.1, v69]), (46, .pointer (some ⟨b72, 0, none⟩)), (47, .int .i64 z59.1), (48, .pointer (some ⟨b3, 0, none⟩)), (49, .int .i64 n), (50, .int .i64 (n - 1)), (51, .bool (decide (0 ≤ z59.1 ∧ z59.1 ≤ (n - 1)))), (52, .bool false), (53, .bool false), (54, .pointer (some ⟨b72, 1, none⟩)), (55, v69), (56, .int .i64 (z59.2.length : Int)), (57, .pointer (some ⟨b3, 1, none⟩)), (58, vs), (59, .int .i64 (s.length : Int)), (60, .bool (decide ((z59.2.length : Int) ≠ (s.length : Int)))), (61, .bool (decide ((z59.2.length : Int) ≠ (s.length : Int)))), (62, .pointer (some ⟨b72, 1, none⟩)), (63, v69), (64, .int .i64 (z59.2.length : Int)), (65, .int .i64 (j : Int))]) (fun j H' => Ext H H' ∧ Ext H4 H' ∧ Ext H23 H' ∧ Ext H30 H' ∧ Ext H98 H' ∧ At W H' b3 ⟨30, [.int .i64 n, vs, v], 3⟩ ∧ At W H' b72 ⟨52, [.int .i64 z59.1, v69], 2⟩ ∧ j ≤ z59.2.length ∧ (∀ h, h < j → 0 ≤ z59.2.getD h 0 ∧ z59.2.getD h 0 ≤ s.getD h 0 - 1) ∧ True) (fun j => z59.2.length - j) 0 ⟨X100, X101, X102, X103, X108, hb104, hb105, Nat.zero_le _, fun j hj => absurd hj (Nat.not_lt_zero _), trivial⟩ ⟨rfl, rfl, rfl, rfl, rfl, rfl, rfl, rfl, rfl, rfl, rfl, rfl, rfl, rfl, rfl, rfl, rfl, rfl, rfl, rfl, rfl, rfl, rfl, rfl, rfl, rfl, rfl, rfl, rfl, rfl, trivial⟩ ?_
                rintro j H109 ⟨X110, X111, X112, X113, X114, hb115, hb116, hj, hsh, _⟩
                refine AW.rs ?_
                refine AL.val rfl (.inl rfl) (HV.lti rfl rfl) ?_
                refine AL.nx ?_
                refine AW.seq ?_
                refine AW.ifd rfl (fun c117 => ?_) (fun c117 => ?_)
                · -- then
                  refine AW.skip ?_
                  refine nrm_and ?_
                  refine AW.seq ?_
                  refine AW.block ?_
                  refine AW.rs ?_
                  refine AL.val rfl (.inl rfl) (HV.mv rfl) ?_
                  obtain ⟨p118, z119, cs120, hz121, hK122, hC123, hP124⟩ := RdK.ix (q := (j : Int)) hr70 sl22 (by omega) (by omega)
                  obtain rfl : cs120 = [.int .i64 z119] := hK122
                  refine AL.val rfl (.inl rfl) (hP124 rfl rfl) ?_
                  refine AL.val rfl (.inl rfl) (HV.ld rfl va2 (cells_first (hC123.ext X110) rfl)) ?_
                  refine AL.val rfl (.inl rfl) (HV.as rfl) ?_
                  refine AL.val rfl (.inl rfl) (HV.as rfl) ?_
                  refine AL.nx ?_
                  refine AW.rs ?_
                  refine AL.val rfl (.inl rfl) (HV.mv rfl) ?_
                  refine AL.val rfl (.inl rfl) (HV.fa fl30_1 rfl) ?_
                  refine AL.val rfl (.inl rfl) (HV.ld rfl va22 (at_cell_add (j := 1) hb115 rfl)) ?_
                  refine AL.val rfl (.inl rfl) (HV.mv rfl) ?_
                  obtain ⟨p125, z126, cs127, hz128, hK129, hC130, hP131⟩ := RdK.ix (q := (j : Int)) hs sl22 (by omega) (by omega)
                  obtain rfl : cs127 = [.int .i64 z126] := hK129
                  refine AL.val rfl (.inl rfl) (hP131 rfl rfl) ?_
                  refine AL.val rfl (.inl rfl) (HV.ld rfl va2 (cells_first (hC130.ext X110) rfl)) ?_
                  refine AL.val rfl (.inl rfl) (HV.sub rfl rfl (by have q := hs1 j (by omega); rw [gd hz128 rfl] at q; omega)) ?_
                  refine AL.w rfl (.inl rfl) (WV.call fn27 rfl (within_ok (W := W) z119 0 (z126 - 1))) ?_
                  rintro _ H132 ⟨rfl, hx133⟩
                  have X134 := Ext.trans X110 hx133
                  have X135 := Ext.trans X111 hx133
                  have X136 := Ext.trans X112 hx133
                  have X137 := Ext.trans X113 hx133
                  have X138 := Ext.trans X114 hx133
                  have hb139 := hb115.ext hx133
                  have hb140 := hb116.ext hx133
                  refine AL.val rfl (.inl rfl) (HV.not rfl) ?_
                  refine AL.nx ?_
                  refine AW.ifn rfl (fun c141 => ?_) (fun c141 => ?_)
                  · -- then
                    refine AW.rs ?_
                    refine AL.val rfl (.inl rfl) (HV.as rfl) ?_
                    refine AL.nx ?_
                    refine AW.ret ?_
                    refine ret_blk (ret_and (ret_and (ret_blk (ret_and (ret_blk (ret_and (ret_and (ret_blk (ret_and ?_)))))))))
                    refine post_one rfl rfl ?_ (.inr rfl)
                    exact ⟨dec_f (fun h => by obtain ⟨⟨h1, h2, h3, h5, h6⟩, h7⟩ := h; have q := h6 i2 (by omega); rw [gd hz44_ rfl] at q; have q2 := q.2.2 j (by omega); have g68 : z59.2.getD j 0 = z119 := gd hz121 (by omega); have g74 : s.getD j 0 = z126 := gd hz128 (by omega); rw [g68, g74] at q2; exact c141 q2), X134⟩
                  · -- else
                    refine AW.skip ?_
                    refine nrm_blk (nrm_and ?_)
                    refine AW.reg ?_
                    refine AL.val rfl (.inl rfl) (HV.add rfl rfl (by omega)) ?_
                    refine AL.val rfl (.inl rfl) (HV.mv rfl) ?_
                    refine AL.nil ?_
                    refine nrm_and ?_
                    exact ⟨j + 1, ⟨X134, X135, X136, X137, X138, hb139, hb140, by omega, fun h hh => by
      rcases Nat.lt_or_ge h j with h1 | h1
      · exact hsh h h1
      · obtain rfl : h = j := by omega
        have g68 : z59.2.getD h 0 = z119 := gd hz121 (by omega); have g74 : s.getD h 0 = z126 := gd hz128 (by omega); rw [g68, g74]; exact c141, trivial⟩, by first | omega | (dsimp only; omega), ⟨rfl, rfl, rfl, rfl, rfl, rfl, rfl, rfl, rfl, rfl, rfl, rfl, rfl, rfl, rfl, rfl, rfl, rfl, rfl, rfl, rfl, rfl, rfl, rfl, rfl, rfl, rfl, rfl, rfl, rfl, trivial⟩⟩
                · -- else
                  refine AW.exit ?_
                  refine ex_and (ex_and (ex_blk ?_))
                  refine nrm_and ?_
                  refine AW.seq ?_
                  refine AW.draw' [0, 1, 3, 7, 15, 7, 39, 127, 255, 7, 1023, 2047, 4095] mixed (by rfl) ?_
                  refine Dr.read 0 _ 80 _ rfl rfl rfl rfl rfl (RV.of (by intro _ _ h; cases h) (.inl rfl) (fun _ xd => HV.mv rfl)) ?_
                  refine Dr.read 1 _ 81 _ rfl rfl rfl rfl rfl (RV.of (by intro _ _ h; cases h) (.inl rfl) (fun _ xd => HV.gti rfl rfl)) ?_
                  refine Dr.read 2 _ 82 _ rfl rfl rfl rfl rfl (RV.of (by intro _ _ h; cases h) (.inl rfl) (fun _ xd => HV.mv rfl)) ?_
                  by_cases c142 : (i2 : Int) > 0
                  · -- true
                    have c142_ : decide ((i2 : Int) > 0) = true := decide_eq_true c142
                    rw [c142_]
                    refine Dr.read 3 _ 83 _ rfl rfl rfl rfl rfl (RV.of (by intro _ _ h; cases h) (.inr ⟨_, _, _, rfl, rfl, rfl⟩) (fun _ xd => HV.fa fl30_2 rfl)) ?_
                    refine Dr.read 4 _ 84 _ rfl rfl rfl rfl rfl (RV.of (by intro _ _ h; cases h) (.inr ⟨_, _, _, rfl, rfl, rfl⟩) (fun _ xd => HV.ld rfl va28 (rdc_ext xd (at_cell_add (j := 2) hb115 rfl)))) ?_
                    refine Dr.read 5 _ 85 _ rfl rfl rfl rfl rfl (RV.of (by intro _ _ h; cases h) (.inr ⟨_, _, _, rfl, rfl, rfl⟩) (fun _ xd => HV.mv rfl)) ?_
                    refine Dr.read 6 _ 86 _ rfl rfl rfl rfl rfl (RV.of (by intro _ _ h; cases h) (.inr ⟨_, _, _, rfl, rfl, rfl⟩) (fun _ xd => HV.sub rfl rfl (by omega))) ?_
                    obtain ⟨p143, z144, cs145, hz146, hK147, hC148, hP149⟩ := RdK.ix (q := (i2 : Int) - 1) hr sl28 (by omega) (by omega)
                    obtain ⟨cs150, cs151, rfl, hK152, hK153⟩ := hK147
                    obtain rfl : cs150 = [.int .i64 z144.1] := hK152
                    obtain ⟨v154, rfl, hr155⟩ := hK153
                    have hm156 := hr155.max
                    refine Dr.read 7 _ 87 _ rfl rfl rfl rfl rfl (RV.of (by intro _ _ h; cases h) (.inr ⟨_, _, _, rfl, rfl, rfl⟩) (fun _ xd => hP149 rfl rfl)) ?_
                    refine Dr.read 8 _ 88 _ rfl rfl rfl rfl rfl (RV.of (by intro _ _ h; cases h) (.inr ⟨_, _, _, rfl, rfl, rfl⟩) (fun _ xd => HV.lda (cs := [.int .i64 z144.1, v154]) rfl va52 (fun j u hu => rdc_ext xd ((hC148.ext X110) j u hu)))) ?_
                    refine Dr.read 9 _ 89 _ rfl rfl rfl rfl rfl (RV.of (by intro _ _ h; cases h) (.inr ⟨_, _, _, rfl, rfl, rfl⟩) (fun _ xd => HV.lda (cs := [.int .i64 z59.1, v69]) rfl va52 (fun j u hu => rdc_ext xd ((at_cells hb116 rfl) j u hu)))) ?_
                    refine Dr.eff 10 _ _ rfl (by intro d h; cases h; exact ⟨rfl, rfl⟩) rfl rfl rfl (EC.of (by intro _ _ h; cases h) (.inr ⟨_, _, _, rfl, rfl, rfl⟩) (WV.call fn28 rfl (cmpR_ok z144.1 z59.1 (hr155.ext X110) (hr70.ext X110)))) (fun v H' h => .inl (h.2)) ?_
                    rintro _ H157 ⟨rfl, hx158⟩
                    have X159 := Ext.trans X110 hx158
                    have X160 := Ext.trans X111 hx158
                    have X161 := Ext.trans X112 hx158
                    have X162 := Ext.trans X113 hx158
                    have X163 := Ext.trans X114 hx158
                    have hb164 := hb115.ext hx158
                    have hb165 := hb116.ext hx158
                    refine Dr.read 11 _ 91 _ rfl rfl rfl rfl rfl (RV.of (by intro _ _ h; cases h) (.inr ⟨_, _, _, rfl, rfl, rfl⟩) (fun _ xd => HV.gti rfl rfl)) ?_
                    refine Dr.read 12 _ 92 _ rfl rfl rfl rfl rfl (RV.of (by intro _ _ h; cases h) (.inl rfl) (fun _ xd => HV.pickT rfl rfl)) ?_
                    refine Dr.fin rfl ?_
                    refine nrm_and ?_
                    refine AW.ifd rfl (fun c166 => ?_) (fun c166 => ?_)
                    · -- then
                      refine AW.rs ?_
                      refine AL.val rfl (.inl rfl) (HV.as rfl) ?_
                      refine AL.nx ?_
                      refine AW.ret ?_
                      refine ret_blk (ret_and (ret_and (ret_blk (ret_and ?_))))
                      refine post_one rfl rfl ?_ (.inr rfl)
                      exact ⟨dec_f (fun h => by obtain ⟨⟨h1, h2, h3, h5, h6⟩, h7⟩ := h; have q := h7 i2 (by omega) (by omega); have g44 : l.getD i2 (0, []) = z59 := gd hz61 (by omega); have g87 : l.getD (i2 - 1) (0, []) = z144 := gd hz146 (by omega); rw [g44, g87] at q; exact q ((cmpR_gt _ _).1 c166)), X159⟩
                    · -- else
                      refine AW.skip ?_
                      refine nrm_blk (nrm_and ?_)
                      refine AW.reg ?_
                      refine AL.val rfl (.inl rfl) (HV.add rfl rfl (by omega)) ?_
                      refine AL.val rfl (.inl rfl) (HV.mv rfl) ?_
                      refine AL.nil ?_
                      refine nrm_and ?_
                      exact ⟨i2 + 1, ⟨X159, X160, X161, X162, hb164, by omega, fun k hk => by
      rcases Nat.lt_or_ge k i2 with h1 | h1
      · exact hrow k h1
      · obtain rfl : k = i2 := by omega
        rw [gd hz44_ rfl]; exact ⟨by assumption, by omega, fun h hh => hsh h (by omega)⟩, fun k h1 h2 => by
      rcases Nat.lt_or_ge k i2 with h3 | h3
      · exact hord k h1 h3
      · obtain rfl : k = i2 := by omega
        have g44 : l.getD k (0, []) = z59 := gd hz44_ (by omega); have g87 : l.getD (k - 1) (0, []) = z144 := gd hz146 (by omega); rw [g44, g87]; exact fun hq => c166 ((cmpR_gt _ _).2 hq), trivial⟩, by first | omega | (dsimp only; omega), ⟨rfl, rfl, rfl, rfl, trivial⟩⟩
                  · -- false
                    have c142_ : decide ((i2 : Int) > 0) = false := decide_eq_false c142
                    rw [c142_]
                    refine Dr.read 3 _ 83 _ rfl rfl rfl rfl rfl (RV.off (by intro _ _ h; cases h) rfl rfl (by decide)) ?_
                    refine Dr.read 4 _ 84 _ rfl rfl rfl rfl rfl (RV.off (by intro _ _ h; cases h) rfl rfl (by decide)) ?_
                    refine Dr.read 5 _ 85 _ rfl rfl rfl rfl rfl (RV.off (by intro _ _ h; cases h) rfl rfl (by decide)) ?_
                    refine Dr.read 6 _ 86 _ rfl rfl rfl rfl rfl (RV.off (by intro _ _ h; cases h) rfl rfl (by decide)) ?_
                    refine Dr.read 7 _ 87 _ rfl rfl rfl rfl rfl (RV.off (by intro _ _ h; cases h) rfl rfl (by decide)) ?_
                    refine Dr.read 8 _ 88 _ rfl rfl rfl rfl rfl (RV.off (by intro _ _ h; cases h) rfl rfl (by decide)) ?_
                    refine Dr.read 9 _ 89 _ rfl rfl rfl rfl rfl (RV.off (by intro _ _ h; cases h) rfl rfl (by decide)) ?_
                    refine Dr.read 10 _ 90 _ rfl rfl rfl rfl rfl (RV.off (by intro _ _ h; cases h) rfl rfl (by decide)) ?_
                    refine Dr.read 11 _ 91 _ rfl rfl rfl rfl rfl (RV.off (by intro _ _ h; cases h) rfl rfl (by decide)) ?_
                    refine Dr.read 12 _ 92 _ rfl rfl rfl rfl rfl (RV.of (by intro _ _ h; cases h) (.inl rfl) (fun _ xd => HV.pickF rfl rfl)) ?_
                    refine Dr.fin rfl ?_
                    refine nrm_and ?_
                    refine AW.cond rfl (fun h => by cases h) (fun _ => ?_)
                    refine AW.skip ?_
                    refine nrm_blk (nrm_and ?_)
                    refine AW.reg ?_
                    refine AL.val rfl (.inl rfl) (HV.add rfl rfl (by omega)) ?_
                    refine AL.val rfl (.inl rfl) (HV.mv rfl) ?_
                    refine AL.nil ?_
                    refine nrm_and ?_
                    exact ⟨i2 + 1, ⟨X110, X111, X112, X113, hb115, by omega, fun k hk => by
      rcases Nat.lt_or_ge k i2 with h1 | h1
      · exact hrow k h1
      · obtain rfl : k = i2 := by omega
        rw [gd hz44_ rfl]; exact ⟨by assumption, by omega, fun h hh => hsh h (by omega)⟩, fun k h1 h2 => by
      rcases Nat.lt_or_ge k i2 with h3 | h3
      · exact hord k h1 h3
      · obtain rfl : k = i2 := by omega
        omega, trivial⟩, by first | omega | (dsimp only; omega), ⟨rfl, rfl, rfl, rfl, trivial⟩⟩
            · -- true
              have c106_ : (!decide (0 ≤ z59.1 ∧ z59.1 ≤ (n - 1))) = true := by rw [decide_eq_false c106]; rfl
              rw [c106_]
              refine AL.off rfl rfl (by decide) rfl ?_
              refine AL.off rfl rfl (by decide) rfl ?_
              refine AL.off rfl rfl (by decide) rfl ?_
              refine AL.off rfl rfl (by decide) rfl ?_
              refine AL.off rfl rfl (by decide) rfl ?_
              refine AL.off rfl rfl (by decide) rfl ?_
              refine AL.off rfl rfl (by decide) rfl ?_
              refine AL.val rfl (.inl rfl) (HV.pickT rfl rfl) ?_
              refine AL.nx ?_
              refine AW.cond rfl (fun _ => ?_) (fun h => by cases h)
              refine AW.rs ?_
              refine AL.val rfl (.inl rfl) (HV.as rfl) ?_
              refine AL.nx ?_
              refine AW.ret ?_
              refine ret_and (ret_blk (ret_and (ret_and (ret_blk (ret_and ?_)))))
              refine post_one rfl rfl ?_ (.inr rfl)
              exact ⟨dec_f (fun h => by obtain ⟨⟨h1, h2, h3, h5, h6⟩, h7⟩ := h; have q := h6 i2 (by omega); have g44 : l.getD i2 (0, []) = z59 := gd hz61 (by omega); rw [g44] at q; have q2 := q.2.1; first | exact c106 q.1 | omega), X100⟩
          · -- else
            refine AW.exit ?_
            refine ex_and (ex_and (ex_blk ?_))
            refine nrm_and ?_
            refine AW.rs ?_
            refine AL.val rfl (.inl rfl) (HV.as rfl) ?_
            refine AL.nx ?_
            refine AW.ret ?_
            refine post_one rfl rfl ?_ (.inr rfl)
            exact ⟨dec_t ⟨⟨by assumption, by assumption, by assumption, fun h hh => hs1 h (by omega), fun k hk => hrow k (by omega)⟩, fun k h1 h2 => hord k h1 (by omega)⟩, X52⟩
    · -- true
      have c22_ : (!decide (1 ≤ (s.length : Int) ∧ (s.length : Int) ≤ 7)) = true := by rw [decide_eq_false c22]; rfl
      rw [c22_]
      refine AL.off rfl rfl (by decide) rfl ?_
      refine AL.off rfl rfl (by decide) rfl ?_
      refine AL.off rfl rfl (by decide) rfl ?_
      refine AL.off rfl rfl (by decide) rfl ?_
      refine AL.off rfl rfl (by decide) rfl ?_
      refine AL.val rfl (.inl rfl) (HV.pickT rfl rfl) ?_
      refine AL.nx ?_
      refine AW.cond rfl (fun _ => ?_) (fun h => by cases h)
      refine AW.rs ?_
      refine AL.val rfl (.inl rfl) (HV.as rfl) ?_
      refine AL.nx ?_
      refine AW.ret ?_
      refine ret_and ?_
      refine post_one rfl rfl ?_ (.inr rfl)
      exact ⟨dec_f (fun h => by obtain ⟨⟨h1, h2, h3, h5, h6⟩, h7⟩ := h; omega), X19⟩
  · -- true
    have c16_ : (!decide (1 ≤ n ∧ n ≤ 64)) = true := by rw [decide_eq_false c16]; rfl
    rw [c16_]
    refine AL.off rfl rfl (by decide) rfl ?_
    refine AL.off rfl rfl (by decide) rfl ?_
    refine AL.off rfl rfl (by decide) rfl ?_
    refine AL.off rfl rfl (by decide) rfl ?_
    refine AL.off rfl rfl (by decide) rfl ?_
    refine AL.val rfl (.inl rfl) (HV.pickT rfl rfl) ?_
    refine AL.val rfl (.inl rfl) (HV.mv rfl) ?_
    refine AL.off rfl rfl (by decide) rfl ?_
    refine AL.off rfl rfl (by decide) rfl ?_
    refine AL.off rfl rfl (by decide) rfl ?_
    refine AL.off rfl rfl (by decide) rfl ?_
    refine AL.off rfl rfl (by decide) rfl ?_
    refine AL.val rfl (.inl rfl) (HV.pickT rfl rfl) ?_
    refine AL.nx ?_
    refine AW.cond rfl (fun _ => ?_) (fun h => by cases h)
    refine AW.rs ?_
    refine AL.val rfl (.inl rfl) (HV.as rfl) ?_
    refine AL.nx ?_
    refine AW.ret ?_
    refine ret_and ?_
    refine post_one rfl rfl ?_ (.inr rfl)
    exact ⟨dec_f (fun h => by obtain ⟨⟨h1, h2, h3, h5, h6⟩, h7⟩ := h; omega), X13⟩
end Go.Proofs.YtfjihanfiliniaaDoor.VC
