/- Walks. -/
import Derived.Test.YtbjcgcililpfdaaVF3
set_option linter.unusedVariables false
set_option linter.unusedSimpArgs false
namespace Go.Proofs.Ytbjcgcililpfdaa.VC
open Go Go.RowKit
variable {W : World} {H : Hp}

/-! ### Weights -/
def wsum (k : List Int) (s j : Nat) : Int := (List.range j).foldl (fun a h => if s / 2 ^ h % 2 = 1 then a + k.getD h 0 else a) 0
theorem wsum_succ (k : List Int) (s j : Nat) : wsum k s (j + 1) = if s / 2 ^ j % 2 = 1 then wsum k s j + k.getD j 0 else wsum k s j := by
  unfold wsum
  rw [List.range_succ, List.foldl_append]; rfl
theorem wsum_in {k : List Int} (h : Within 8 k) (s : Nat) : ∀ j : Nat, 0 ≤ wsum k s j ∧ wsum k s j ≤ 8 * (j : Int)
  | 0 => by simp [wsum]
  | j + 1 => by
    have ih := wsum_in h s j
    have hk : 0 ≤ k.getD j 0 ∧ k.getD j 0 ≤ 8 := by
      rw [List.getD_eq_getElem?_getD]
      cases e : k[j]? with
      | none => exact ⟨Int.le_refl _, by decide⟩
      | some y => exact h y (List.mem_of_getElem? e)
    rw [wsum_succ]
    split <;> omega
def qt (t : List Bool) (k : List Int) (i : Nat) : Int × Int := (List.range i).foldl (fun a s => if t.getD s false = true then (a.1, min a.2 (wsum k s k.length)) else (max a.1 (wsum k s k.length + 1), a.2)) (0, 7001)
theorem qt_succ (t : List Bool) (k : List Int) (i : Nat) : qt t k (i + 1) = if t.getD i false = true then ((qt t k i).1, min (qt t k i).2 (wsum k i k.length)) else (max (qt t k i).1 (wsum k i k.length + 1), (qt t k i).2) := by
  unfold qt
  rw [List.range_succ, List.foldl_append]; rfl
theorem qt_in {t : List Bool} {k : List Int} (h : Within 8 k) (hk : k.length ≤ 5) : ∀ i, 0 ≤ (qt t k i).1 ∧ (qt t k i).1 ≤ 41 ∧ 0 ≤ (qt t k i).2 ∧ (qt t k i).2 ≤ 7001
  | 0 => by simp [qt]
  | i + 1 => by
    have ih := qt_in (t := t) h hk i
    have hw := wsum_in h i k.length
    rw [qt_succ]
    split <;> simp only <;> omega
def qhi (t : List Bool) (k : List Int) : Int := (qt t k t.length).1
def qok (t : List Bool) (k : List Int) : Prop := (qt t k t.length).1 ≤ (qt t k t.length).2
instance (t : List Bool) (k : List Int) : Decidable (qok t k) := by unfold qok; infer_instance
/-! The next weights -/
structure Step (n : Nat) (k : List Int) (p : Nat) (k2 : List Int) : Prop where
  lt : p < n
  ne : k.getD p 0 ≠ 8
  top : ∀ j, p < j → j < n → k.getD j 0 = 8
  len : k2.length = k.length
  inc : k2.getD p 0 = k.getD p 0 + 1
  low : ∀ j, p < j → j < n → k2.getD j 0 = 0
  same : ∀ j, j < p → k2.getD j 0 = k.getD j 0
inductive Srch (t : List Bool) (n : Nat) : List Int → List Int × Int × Int → Prop
  | hit {k} : qok t k → Srch t n k (k, qhi t k, 0)
  | stop {k} : ¬ qok t k → (∀ j, j < n → k.getD j 0 = 8) → Srch t n k ([], 0, 6)
  | step {k p k2 res} : ¬ qok t k → Step n k p k2 → Srch t n k2 res → Srch t n k res
theorem Step.det {n p p' : Nat} {k k2 k2' : List Int} (hk : k.length = n) (h : Step n k p k2) (h' : Step n k p' k2') : k2 = k2' := by
  have hp : p = p' := by
    rcases Nat.lt_trichotomy p p' with g | g | g
    · exact absurd (h.top p' g h'.lt) h'.ne
    · exact g
    · exact absurd (h'.top p g h.lt) h.ne
  subst hp
  refine list_eq (d := 0) (by rw [h.len, h'.len]) (fun j hj => ?_)
  rw [h.len, hk] at hj
  rcases Nat.lt_trichotomy j p with g | g | g
  · rw [h.same j g, h'.same j g]
  · subst g; rw [h.inc, h'.inc]
  · rw [h.low j g hj, h'.low j g hj]
theorem Srch.det {t : List Bool} {n : Nat} {k : List Int} {r r' : List Int × Int × Int} (hk : k.length = n) (h : Srch t n k r) (h' : Srch t n k r') : r = r' := by
  induction h with
  | hit a => cases h' with
    | hit b => rfl
    | stop b _ => exact absurd a b
    | step b _ _ => exact absurd a b
  | stop a c => cases h' with
    | hit b => exact absurd b a
    | stop b _ => rfl
    | step b s _ => exact absurd (c _ s.lt) s.ne
  | step a s _ ih => cases h' with
    | hit b => exact absurd b a
    | stop b c => exact absurd (c _ s.lt) s.ne
    | step b s' q =>
      have := s.det hk s'
      subst this
      exact ih (by rw [s.len, hk]) q
/-- Weights as a number. -/
def val (k : List Int) : Nat → Nat
  | 0 => 0
  | j + 1 => 9 * val k j + (k.getD j 0).toNat
theorem getD_in {k : List Int} (h : Within 8 k) (j : Nat) : 0 ≤ k.getD j 0 ∧ k.getD j 0 ≤ 8 := by
  rw [List.getD_eq_getElem?_getD]
  cases e : k[j]? with
  | none => exact ⟨Int.le_refl _, by decide⟩
  | some y => exact h y (List.mem_of_getElem? e)
theorem val_lt {k : List Int} (h : Within 8 k) : ∀ n, val k n < 9 ^ n
  | 0 => by simp [val]
  | n + 1 => by
    have := val_lt h n
    have := getD_in h n
    simp only [val, Nat.pow_succ]
    omega
theorem val_max {k : List Int} (h : Within 8 k) {n : Nat} (hn : n ≤ 5) : val k n < 59049 :=
  Nat.lt_of_lt_of_le (val_lt h n) (Nat.pow_le_pow_right (n := 9) (by decide) hn)
theorem val_same {k k2 : List Int} : ∀ {n : Nat}, (∀ j, j < n → k2.getD j 0 = k.getD j 0) → val k2 n = val k n
  | 0, _ => rfl
  | n + 1, h => by
    simp only [val]
    rw [h n (by omega), val_same (fun j hj => h j (by omega))]
theorem Step.val {k k2 : List Int} {n p : Nat} (hW : Within 8 k) (h : Step n k p k2) : val k2 n = VC.val k n + 1 := by
  have key : ∀ m, p < m → m ≤ n → VC.val k2 m = VC.val k m + 1 := fun m => by
    induction m with
    | zero => intro a; omega
    | succ m ih =>
      intro a b
      simp only [VC.val]
      rcases Nat.lt_or_ge p m with g | g
      · rw [ih g (by omega), h.low m g (by omega), h.top m g (by omega)]
        simp only [Int.toNat_zero, show (8 : Int).toNat = 8 from rfl]
        omega
      · obtain rfl : p = m := by omega
        rw [h.inc, val_same h.same]
        have := getD_in hW p
        omega
  exact key n h.lt (Nat.le_refl _)
theorem lset_get {k : List Int} {i j : Nat} {x : Int} (hi : i < k.length) : (k.set i x).getD j 0 = if j = i then x else k.getD j 0 := by
  simp only [List.getD_eq_getElem?_getD]
  split
  · rename_i e; subst e; simp [hi]
  · rename_i e; rw [List.getElem?_set_ne (fun q => e q.symm)]
theorem odo_hi {n p : Nat} {k k2 : List Int} {w z : Int} (hk2 : k2.length = n) (hw : w = (p : Int) - 1) (hw0 : 0 ≤ w) (hp : p ≤ n) (hz : k2[w.toNat]? = some z) (h8 : z = 8) (hhi : ∀ j, p ≤ j → j < n → k.getD j 0 = 8 ∧ k2.getD j 0 = 0) (hlo : ∀ j, j < p → k2.getD j 0 = k.getD j 0) :
    ∀ j, p - 1 ≤ j → j < n → k.getD j 0 = 8 ∧ (k2.set w.toNat 0).getD j 0 = 0 := fun j h1 h2 => by
  rw [lset_get (by omega)]
  by_cases e : j = w.toNat
  · rw [if_pos e, ← hlo j (by omega)]
    have : k2.getD j 0 = z := gd hz (by omega)
    exact ⟨by omega, rfl⟩
  · rw [if_neg e]; exact hhi j (by omega) h2
theorem odo_lo {n p : Nat} {k k2 : List Int} {w : Int} (hk2 : k2.length = n) (hw : w = (p : Int) - 1) (hw0 : 0 ≤ w) (hp : p ≤ n) (hlo : ∀ j, j < p → k2.getD j 0 = k.getD j 0) : ∀ j, j < p - 1 → (k2.set w.toNat 0).getD j 0 = k.getD j 0 := fun j h => by
  rw [lset_get (by omega), if_neg (by omega)]; exact hlo j (by omega)
theorem odo_inc {n p : Nat} {k k2 : List Int} {w z z' : Int} (hkl : k.length = n) (hk2 : k2.length = n) (hw : w = (p : Int) - 1) (hw0 : 0 ≤ w) (hp : p ≤ n) (hz : k2[w.toNat]? = some z) (hne : ¬ z = 8) (hz' : k2[w.toNat]? = some z')
    (hhi : ∀ j, p ≤ j → j < n → k.getD j 0 = 8 ∧ k2.getD j 0 = 0) (hlo : ∀ j, j < p → k2.getD j 0 = k.getD j 0) : Step n k w.toNat (k2.set w.toNat (z' + 1)) := by
  have e : k2.getD w.toNat 0 = z := gd hz (by omega)
  have e' : k2.getD w.toNat 0 = z' := gd hz' (by omega)
  have e2 := hlo w.toNat (by omega)
  refine ⟨by omega, by omega, fun j h1 h2 => (hhi j (by omega) h2).1, by simp [hk2, hkl], by rw [lset_get (by omega), if_pos rfl]; omega, fun j h1 h2 => ?_, fun j h1 => ?_⟩
  · rw [lset_get (by omega), if_neg (by omega)]; exact (hhi j (by omega) h2).2
  · rw [lset_get (by omega), if_neg (by omega)]; exact hlo j (by omega)
theorem Step.within {n p : Nat} {k k2 : List Int} (hkl : k.length = n) (hW : Within 8 k) (h : Step n k p k2) : Within 8 k2 := fun x hx => by
  obtain ⟨j, hj, rfl⟩ := List.getElem_of_mem hx
  have e : k2.getD j 0 = k2[j] := by simp [hj]
  rw [← e]
  have hjn : j < n := by rw [← hkl, ← h.len]; exact hj
  rcases Nat.lt_trichotomy j p with g | g | g
  · rw [h.same j g]; exact getD_in hW j
  · subst g; rw [h.inc]; have := getD_in hW j; have := h.ne; omega
  · rw [h.low j g hjn]; decide
theorem app_step {kt : List Bool} {i : Nat} {l : List (List Int)} {z : Bool} (hk : kt.length = i) (he : ∀ s : Nat, s < i → kt.getD s false = decide (opI s l)) (hz : z = decide (opI i l)) : ∀ s : Nat, s < i + 1 → (kt ++ [z]).getD s false = decide (opI s l) := fun s hs => by
  simp only [List.getD_eq_getElem?_getD] at he ⊢
  by_cases e : s = i
  · subst e; rw [List.getElem?_append_right (by omega)]; simp [hk, hz]
  · rw [List.getElem?_append_left (by omega)]; exact he s (by omega)
def fwRes (n : Int) (l : List (List Int)) (res : List Int × Int × Int) : Prop := (okI n l → n ≤ 5 → Srch (tabI n l) n.toNat (List.replicate n.toNat 0) res) ∧ (okI n l → ¬ n ≤ 5 → res = ([], 0, 3)) ∧ (¬ okI n l → res = ([], 0, 1))
theorem fwRes.det {n : Int} {l : List (List Int)} {r r' : List Int × Int × Int} (h : fwRes n l r) (h' : fwRes n l r') : r = r' := by
  by_cases a : okI n l
  · by_cases b : n ≤ 5
    · exact (h.1 a b).det (by simp) (h'.1 a b)
    · rw [h.2.1 a b, h'.2.1 a b]
  · rw [h.2.2 a, h'.2.2 a]
theorem Srch.len {t : List Bool} {n : Nat} {k : List Int} {r : List Int × Int × Int} (hk : k.length = n) (h : Srch t n k r) : r.1.length ≤ n := by
  induction h with
  | hit a => exact Nat.le_of_eq hk
  | stop a c => exact Nat.zero_le _
  | step a s _ ih => exact ih (by rw [s.len, hk])
theorem fwRes.len {n : Int} {l : List (List Int)} {k : List Int} {q e : Int} (h : fwRes n l (k, q, e)) : k.length ≤ 8 := by
  by_cases a : okI n l
  · by_cases b : n ≤ 5
    · have := (h.1 a b).len (by simp)
      simp only at this
      omega
    · have := h.2.1 a b
      simp only [Prod.mk.injEq] at this
      rw [this.1]; exact Nat.zero_le _
  · have := h.2.2 a
    simp only [Prod.mk.injEq] at this
    rw [this.1]; exact Nat.zero_le _
set_option maxRecDepth 100000 in
theorem l00Min_ok (a b : Int) : ACalls Try.prog W 104 #[.int .i64 a, .int .i64 b] H (fun r H' => r = .int .i64 (min a b) ∧ Ext H H') := by
  refine ACalls.of (args := [.int .i64 a, .int .i64 b]) Try.func104 rfl rfl ?_
  have X0 := Ext.refl H
  refine AW.rs ?_
  refine AL.val rfl (.inl rfl) (HV.as rfl) ?_
  refine AL.nx ?_
  refine AW.seq ?_
  refine AW.rs ?_
  refine AL.val rfl (.inl rfl) (HV.mv rfl) ?_
  refine AL.val rfl (.inl rfl) (HV.mv rfl) ?_
  refine AL.val rfl (.inl rfl) (HV.lti rfl rfl) ?_
  refine AL.nx ?_
  refine AW.ifd rfl (fun c1 => ?_) (fun c1 => ?_)
  · -- then
    refine AW.rs ?_
    refine AL.val rfl (.inl rfl) (HV.mv rfl) ?_
    refine AL.val rfl (.inl rfl) (HV.as rfl) ?_
    refine AL.nx ?_
    refine AW.ret ?_
    refine ret_and ?_
    refine post_one rfl rfl ?_ (.inr rfl)
    exact ⟨congrArg (Value.int .i64) (by omega), X0⟩
  · -- else
    refine AW.skip ?_
    refine nrm_and ?_
    refine AW.rs ?_
    refine AL.val rfl (.inl rfl) (HV.mv rfl) ?_
    refine AL.val rfl (.inl rfl) (HV.as rfl) ?_
    refine AL.nx ?_
    refine AW.ret ?_
    refine post_one rfl rfl ?_ (.inr rfl)
    exact ⟨congrArg (Value.int .i64) (by omega), X0⟩

set_option maxRecDepth 100000 in
theorem l00Max_ok (a b : Int) : ACalls Try.prog W 105 #[.int .i64 a, .int .i64 b] H (fun r H' => r = .int .i64 (max a b) ∧ Ext H H') := by
  refine ACalls.of (args := [.int .i64 a, .int .i64 b]) Try.func105 rfl rfl ?_
  have X0 := Ext.refl H
  refine AW.rs ?_
  refine AL.val rfl (.inl rfl) (HV.as rfl) ?_
  refine AL.nx ?_
  refine AW.seq ?_
  refine AW.rs ?_
  refine AL.val rfl (.inl rfl) (HV.mv rfl) ?_
  refine AL.val rfl (.inl rfl) (HV.mv rfl) ?_
  refine AL.val rfl (.inl rfl) (HV.gti rfl rfl) ?_
  refine AL.nx ?_
  refine AW.ifd rfl (fun c1 => ?_) (fun c1 => ?_)
  · -- then
    refine AW.rs ?_
    refine AL.val rfl (.inl rfl) (HV.mv rfl) ?_
    refine AL.val rfl (.inl rfl) (HV.as rfl) ?_
    refine AL.nx ?_
    refine AW.ret ?_
    refine ret_and ?_
    refine post_one rfl rfl ?_ (.inr rfl)
    exact ⟨congrArg (Value.int .i64) (by omega), X0⟩
  · -- else
    refine AW.skip ?_
    refine nrm_and ?_
    refine AW.rs ?_
    refine AL.val rfl (.inl rfl) (HV.mv rfl) ?_
    refine AL.val rfl (.inl rfl) (HV.as rfl) ?_
    refine AL.nx ?_
    refine AW.ret ?_
    refine post_one rfl rfl ?_ (.inr rfl)
    exact ⟨congrArg (Value.int .i64) (by omega), X0⟩

set_option maxRecDepth 100000 in
theorem l02Quota_ok {v v2 : Value} {k : List Int} {t : List Bool} {ok ok2 : Nat → Prop} (hr : RdK kI W H ok v k) (hr2 : RdK kB W H ok2 v2 t) (hk : k.length ≤ 5) (hW : Within 8 k) (ht : t.length ≤ 128) : ACalls Try.prog W 71 #[v, v2] H (fun r H' => r = .tuple #[.int .i64 (qhi t k), .bool (decide (qok t k))] ∧ Ext H H') := by
  refine ACalls.of (args := [v, v2]) Try.func71 rfl rfl ?_
  have X0 := Ext.refl H
  have hm1 := hr.max
  have hm2 := hr2.max
  refine AW.rs ?_
  refine AL.val rfl (.inl rfl) (HV.as rfl) ?_
  refine AL.val rfl (.inl rfl) (HV.as rfl) ?_
  refine AL.nx ?_
  refine AW.rs ?_
  refine AL.val rfl (.inl rfl) (HV.as rfl) ?_
  refine AL.nx ?_
  refine AW.rs ?_
  refine AL.val rfl (.inl rfl) (HV.as rfl) ?_
  refine AL.nx ?_
  refine AW.seq ?_
  refine AW.rs ?_
  refine AL.val rfl (.inl rfl) (HV.as rfl) ?_
  refine AL.nx ?_
  refine AW.block ?_
  refine AW.loop (σ := Nat × Int × Int) (fun ⟨i, x, y⟩ => [(0, v), (1, v2), (4, .int .i64 0), (5, .bool false), (6, .int .i64 x), (7, .int .i64 y), (8, .int .i64 (i : Int))]) (fun ⟨i, x, y⟩ H' => Ext H H' ∧ i ≤ t.length ∧ x = (qt t k i).1 - 1 ∧ y = (qt t k i).2 ∧ True) (fun ⟨i, x, y⟩ => t.length - i) (0, -1, 7001) ⟨X0, Nat.zero_le _, rfl, by simp [qt], trivial⟩ ⟨rfl, rfl, rfl, rfl, rfl, rfl, rfl, trivial⟩ ?_
  rintro ⟨i, x, y⟩ H3 ⟨X4, hi, hx, hy, _⟩
  refine AW.seq ?_
  refine AW.rs ?_
  refine AL.val rfl (.inl rfl) (HV.mv rfl) ?_
  refine AL.val rfl (.inl rfl) (HV.mv rfl) ?_
  refine AL.val rfl (.inl rfl) (HV.len Try.underlying81 rfl hr2.isSl) ?_
  refine AL.val rfl (.inl rfl) (HV.lti rfl rfl) ?_
  refine AL.nx ?_
  refine AW.ifd rfl (fun c5 => ?_) (fun c5 => ?_)
  · -- then
    refine AW.skip ?_
    refine nrm_and ?_
    refine AW.seq ?_
    refine AW.block ?_
    refine AW.rs ?_
    refine AL.val rfl (.inl rfl) (HV.as rfl) ?_
    refine AL.nx ?_
    refine AW.seq ?_
    refine AW.rs ?_
    refine AL.val rfl (.inl rfl) (HV.as rfl) ?_
    refine AL.nx ?_
    refine AW.block ?_
    have X6 := Ext.refl H3
    refine AW.loop (σ := Nat × Int) (fun ⟨j, z⟩ => [(0, v), (1, v2), (4, .int .i64 0), (5, .bool false), (6, .int .i64 x), (7, .int .i64 y), (8, .int .i64 (i : Int)), (11, .int .i64 (i : Int)), (12, v2), (13, .int .i64 (t.length : Int)), (14, .bool (decide ((i : Int) < (t.length : Int)))), (9, .int .i64 z), (10, .int .i64 (j : Int))]) (fun ⟨j, z⟩ H' => Ext H H' ∧ Ext H3 H' ∧ j ≤ k.length ∧ z = wsum k i j ∧ True) (fun ⟨j, z⟩ => k.length - j) (0, 0) ⟨X4, X6, Nat.zero_le _, rfl, trivial⟩ ⟨rfl, rfl, rfl, rfl, rfl, rfl, rfl, rfl, rfl, rfl, rfl, rfl, rfl, trivial⟩ ?_
    rintro ⟨j, z⟩ H7 ⟨X8, X9, hj, hz, _⟩
    refine AW.seq ?_
    refine AW.rs ?_
    refine AL.val rfl (.inl rfl) (HV.mv rfl) ?_
    refine AL.val rfl (.inl rfl) (HV.mv rfl) ?_
    refine AL.val rfl (.inl rfl) (HV.len Try.underlying25 rfl hr.isSl) ?_
    refine AL.val rfl (.inl rfl) (HV.lti rfl rfl) ?_
    refine AL.nx ?_
    refine AW.ifd rfl (fun c10 => ?_) (fun c10 => ?_)
    · -- then
      refine AW.skip ?_
      refine nrm_and ?_
      refine AW.seq ?_
      refine AW.block ?_
      refine AW.rs ?_
      refine AL.val rfl (.inl rfl) (HV.mv rfl) ?_
      refine AL.val rfl (.inl rfl) (HV.mv rfl) ?_
      refine AL.val rfl (.inl rfl) (HV.cv (by rw [Try.underlying3]; rfl) Try.underlying75 rfl) ?_
      refine AL.val rfl (.inl rfl) (HV.shr rfl rfl (u64_nonneg _)) ?_
      refine AL.val rfl (.inl rfl) (HV.bits (by simp) rfl rfl) ?_
      refine AL.val rfl (.inl rfl) (HV.eqi rfl rfl) ?_
      refine AL.nx ?_
      refine AW.ifd rfl (fun c11 => ?_) (fun c11 => ?_)
      · -- then
        refine AW.reg ?_
        refine AL.val rfl (.inl rfl) (HV.mv rfl) ?_
        refine AL.val rfl (.inl rfl) (HV.mv rfl) ?_
        refine AL.val rfl (.inl rfl) (HV.mv rfl) ?_
        obtain ⟨p12, z13, cs14, hz15, hK16, hC17, hP18⟩ := RdK.ix (q := (j : Int)) hr sl25 (by omega) (by omega)
        obtain rfl : cs14 = [.int .i64 z13] := hK16
        refine AL.val rfl (.inl rfl) (hP18 rfl rfl) ?_
        refine AL.val rfl (.inl rfl) (HV.ld rfl va2 (cells_first (hC17.ext X8) rfl)) ?_
        refine AL.val rfl (.inl rfl) (HV.add rfl rfl (by have := wsum_in hW i j; have := hW _ (List.mem_of_getElem? hz15); omega)) ?_
        refine AL.val rfl (.inl rfl) (HV.as rfl) ?_
        refine AL.nil ?_
        refine nrm_blk (nrm_and ?_)
        refine AW.reg ?_
        refine AL.val rfl (.inl rfl) (HV.mv rfl) ?_
        refine AL.val rfl (.inl rfl) (HV.add rfl rfl (by omega)) ?_
        refine AL.val rfl (.inl rfl) (HV.as rfl) ?_
        refine AL.nil ?_
        refine nrm_and ?_
        exact ⟨(j + 1, z + z13), ⟨X8, X9, by omega, by rw [wsum_succ, if_pos (by have b1 : bt .and .i64 ((i : Int).fdiv (2 ^ min (IntKind.u64.wrap (j : Int) : Int).toNat IntKind.i64.bits)) 1 = ((i / 2 ^ j % 2 : Nat) : Int) := (by rw [shr_i i (show j < 7 by omega), bit_of (.inl rfl) (by omega)]); omega), gd hz15 rfl]; omega, trivial⟩, by first | omega | (dsimp only; omega), ⟨rfl, rfl, rfl, rfl, rfl, rfl, rfl, rfl, rfl, rfl, rfl, rfl, rfl, trivial⟩⟩
      · -- else
        refine AW.skip ?_
        refine nrm_blk (nrm_and ?_)
        refine AW.reg ?_
        refine AL.val rfl (.inl rfl) (HV.mv rfl) ?_
        refine AL.val rfl (.inl rfl) (HV.add rfl rfl (by omega)) ?_
        refine AL.val rfl (.inl rfl) (HV.as rfl) ?_
        refine AL.nil ?_
        refine nrm_and ?_
        exact ⟨(j + 1, z), ⟨X8, X9, by omega, by rw [wsum_succ, if_neg (by have b1 : bt .and .i64 ((i : Int).fdiv (2 ^ min (IntKind.u64.wrap (j : Int) : Int).toNat IntKind.i64.bits)) 1 = ((i / 2 ^ j % 2 : Nat) : Int) := (by rw [shr_i i (show j < 7 by omega), bit_of (.inl rfl) (by omega)]); omega)]; exact hz, trivial⟩, by first | omega | (dsimp only; omega), ⟨rfl, rfl, rfl, rfl, rfl, rfl, rfl, rfl, rfl, rfl, rfl, rfl, rfl, trivial⟩⟩
    · -- else
      refine AW.exit ?_
      refine ex_and (ex_and (ex_blk ?_))
      refine nrm_and ?_
      refine AW.rs ?_
      refine AL.val rfl (.inl rfl) (HV.mv rfl) ?_
      refine AL.val rfl (.inl rfl) (HV.mv rfl) ?_
      obtain ⟨p19, z20, cs21, hz22, hK23, hC24, hP25⟩ := RdK.ix (q := (i : Int)) hr2 sl81 (by omega) (by omega)
      obtain rfl : cs21 = [.bool z20] := hK23
      refine AL.val rfl (.inl rfl) (hP25 rfl rfl) ?_
      refine AL.val rfl (.inl rfl) (HV.ld rfl va4 (cells_first (hC24.ext X8) rfl)) ?_
      refine AL.nx ?_
      refine AW.cond rfl (fun c26 => ?_) (fun c26 => ?_)
      · -- then
        refine AW.reg ?_
        refine AL.val rfl (.inl rfl) (HV.mv rfl) ?_
        refine AL.val rfl (.inl rfl) (HV.mv rfl) ?_
        refine AL.w rfl (.inl rfl) (WV.call fn104 rfl (l00Min_ok (W := W) y z)) ?_
        rintro _ H27 ⟨rfl, hx28⟩
        have X29 := Ext.trans X8 hx28
        have X30 := Ext.trans X9 hx28
        refine AL.val rfl (.inl rfl) (HV.as rfl) ?_
        refine AL.nil ?_
        refine nrm_blk (nrm_and ?_)
        refine AW.reg ?_
        refine AL.val rfl (.inl rfl) (HV.mv rfl) ?_
        refine AL.val rfl (.inl rfl) (HV.add rfl rfl (by omega)) ?_
        refine AL.val rfl (.inl rfl) (HV.as rfl) ?_
        refine AL.nil ?_
        refine nrm_and ?_
        exact ⟨(i + 1, x, (min y z)), ⟨X29, by omega, by obtain rfl : j = k.length := (by omega); have hq := qt_succ t k i; have g38 : t.getD i false = z20 := gd hz22 (by omega); rw [if_pos (by rw [g38]; first | exact c26 | (rw [c26]; decide))] at hq; have hb := qt_in (t := t) hW hk i; have hw := wsum_in hW i k.length; simp only [hq]; omega, by obtain rfl : j = k.length := (by omega); have hq := qt_succ t k i; have g38 : t.getD i false = z20 := gd hz22 (by omega); rw [if_pos (by rw [g38]; first | exact c26 | (rw [c26]; decide))] at hq; have hb := qt_in (t := t) hW hk i; have hw := wsum_in hW i k.length; simp only [hq]; omega, trivial⟩, by first | omega | (dsimp only; omega), ⟨rfl, rfl, rfl, rfl, rfl, rfl, rfl, trivial⟩⟩
      · -- else
        refine AW.reg ?_
        refine AL.val rfl (.inl rfl) (HV.mv rfl) ?_
        refine AL.val rfl (.inl rfl) (HV.mv rfl) ?_
        refine AL.w rfl (.inl rfl) (WV.call fn105 rfl (l00Max_ok (W := W) x z)) ?_
        rintro _ H31 ⟨rfl, hx32⟩
        have X33 := Ext.trans X8 hx32
        have X34 := Ext.trans X9 hx32
        refine AL.val rfl (.inl rfl) (HV.as rfl) ?_
        refine AL.nil ?_
        refine nrm_blk (nrm_and ?_)
        refine AW.reg ?_
        refine AL.val rfl (.inl rfl) (HV.mv rfl) ?_
        refine AL.val rfl (.inl rfl) (HV.add rfl rfl (by omega)) ?_
        refine AL.val rfl (.inl rfl) (HV.as rfl) ?_
        refine AL.nil ?_
        refine nrm_and ?_
        exact ⟨(i + 1, (max x z), y), ⟨X33, by omega, by obtain rfl : j = k.length := (by omega); have hq := qt_succ t k i; have g38 : t.getD i false = z20 := gd hz22 (by omega); rw [if_neg (by rw [g38]; first | exact c26 | (rw [c26]; decide))] at hq; have hb := qt_in (t := t) hW hk i; have hw := wsum_in hW i k.length; simp only [hq]; omega, by obtain rfl : j = k.length := (by omega); have hq := qt_succ t k i; have g38 : t.getD i false = z20 := gd hz22 (by omega); rw [if_neg (by rw [g38]; first | exact c26 | (rw [c26]; decide))] at hq; have hb := qt_in (t := t) hW hk i; have hw := wsum_in hW i k.length; simp only [hq]; omega, trivial⟩, by first | omega | (dsimp only; omega), ⟨rfl, rfl, rfl, rfl, rfl, rfl, rfl, trivial⟩⟩
  · -- else
    refine AW.exit ?_
    refine ex_and (ex_and (ex_blk ?_))
    refine nrm_and ?_
    refine AW.rs ?_
    refine AL.val rfl (.inl rfl) (HV.mv rfl) ?_
    refine AL.val rfl (.inl rfl) (HV.add rfl rfl (by have hb := qt_in (t := t) hW hk i; omega)) ?_
    refine AL.val rfl (.inl rfl) (HV.mv rfl) ?_
    refine AL.val rfl (.inl rfl) (HV.mv rfl) ?_
    refine AL.val rfl (.inl rfl) (HV.lti rfl rfl) ?_
    refine AL.val rfl (.inl rfl) (HV.as rfl) ?_
    refine AL.val rfl (.inl rfl) (HV.as rfl) ?_
    refine AL.nx ?_
    refine AW.ret ?_
    refine post_two rfl rfl rfl ?_ (.inr rfl)
    have hb := qt_in (t := t) hW hk t.length; obtain rfl : i = t.length := (by omega); exact ⟨by rw [show decide (x < y) = decide (qok t k) from decide_eq_decide.2 (by unfold qok; omega), show x + 1 = qhi t k by unfold qhi; omega], X4⟩

set_option maxRecDepth 100000 in
theorem quotaOf_ok {v v2 : Value} {k : List Int} {t : List Bool} {ok ok2 : Nat → Prop} (hr : RdK kI W H ok v k) (hr2 : RdK kB W H ok2 v2 t) (hk : k.length ≤ 5) (hW : Within 8 k) (ht : t.length ≤ 128) : ACalls Try.prog W 72 #[v, v2] H (fun r H' => r = .tuple #[.int .i64 (qhi t k), .bool (decide (qok t k))] ∧ Ext H H') := by
  refine ACalls.of (args := [v, v2]) Try.func72 rfl rfl ?_
  have X0 := Ext.refl H
  have hm1 := hr.max
  have hm2 := hr2.max
  refine AW.rs ?_
  refine AL.val rfl (.inl rfl) (HV.as rfl) ?_
  refine AL.val rfl (.inl rfl) (HV.as rfl) ?_
  refine AL.nx ?_
  refine AW.rs ?_
  refine AL.val rfl (.inl rfl) (HV.as rfl) ?_
  refine AL.val rfl (.inl rfl) (HV.as rfl) ?_
  refine AL.nx ?_
  refine AW.seq ?_
  refine AW.rs ?_
  refine AL.val rfl (.inl rfl) (HV.mv rfl) ?_
  refine AL.val rfl (.inl rfl) (HV.len Try.underlying81 rfl hr2.isSl) ?_
  refine AL.val rfl (.inl rfl) (HV.mv rfl) ?_
  refine AL.nx ?_
  refine AW.block ?_
  refine AW.loop (σ := Nat × Int × Int) (fun ⟨i, x, y⟩ => [(0, v), (4, .int .i64 0), (5, .bool false), (13, v2), (14, .int .i64 (t.length : Int)), (6, .int .i64 x), (7, .int .i64 y), (15, .int .i64 (i : Int))]) (fun ⟨i, x, y⟩ H' => Ext H H' ∧ i ≤ t.length ∧ x = (qt t k i).1 ∧ (y = (qt t k i).2 ∨ (qt t k i).2 = 7001 ∧ y = 9223372036854775807) ∧ True) (fun ⟨i, x, y⟩ => t.length - i) (0, 0, 9223372036854775807) ⟨X0, Nat.zero_le _, rfl, by simp [qt], trivial⟩ ⟨rfl, rfl, rfl, rfl, rfl, rfl, rfl, rfl, trivial⟩ ?_
  rintro ⟨i, x, y⟩ H3 ⟨X4, hi, hx, hy, _⟩
  refine AW.rs ?_
  refine AL.val rfl (.inl rfl) (HV.lti rfl rfl) ?_
  refine AL.nx ?_
  refine AW.seq ?_
  refine AW.ifd rfl (fun c5 => ?_) (fun c5 => ?_)
  · -- then
    refine AW.skip ?_
    refine nrm_and ?_
    refine AW.seq ?_
    refine AW.block ?_
    refine AW.rs ?_
    refine AL.val rfl (.inl rfl) (HV.mv rfl) ?_
    obtain ⟨p6, z7, cs8, hz9, hK10, hC11, hP12⟩ := RdK.ix (q := (i : Int)) hr2 sl81 (by omega) (by omega)
    obtain rfl : cs8 = [.bool z7] := hK10
    refine AL.val rfl (.inl rfl) (hP12 rfl rfl) ?_
    refine AL.val rfl (.inl rfl) (HV.ld rfl va4 (cells_first (hC11.ext X4) rfl)) ?_
    refine AL.val rfl (.inl rfl) (HV.as rfl) ?_
    refine AL.val rfl (.inl rfl) (HV.as rfl) ?_
    refine AL.nx ?_
    refine AW.rs ?_
    refine AL.val rfl (.inl rfl) (HV.as rfl) ?_
    refine AL.nx ?_
    refine AW.seq ?_
    refine AW.rs ?_
    refine AL.val rfl (.inl rfl) (HV.mv rfl) ?_
    refine AL.val rfl (.inl rfl) (HV.len Try.underlying25 rfl hr.isSl) ?_
    refine AL.val rfl (.inl rfl) (HV.mv rfl) ?_
    refine AL.nx ?_
    refine AW.block ?_
    have X13 := Ext.refl H3
    refine AW.loop (σ := Nat × Int) (fun ⟨j, z⟩ => [(0, v), (4, .int .i64 0), (5, .bool false), (6, .int .i64 x), (7, .int .i64 y), (8, .int .i64 (i : Int)), (9, .bool z7), (13, v2), (14, .int .i64 (t.length : Int)), (15, .int .i64 (i : Int)), (16, .bool (decide ((i : Int) < (t.length : Int)))), (17, .int .i64 (i : Int)), (18, .pointer (some p6)), (19, .bool z7), (20, v), (21, .int .i64 (k.length : Int)), (10, .int .i64 z), (22, .int .i64 (j : Int))]) (fun ⟨j, z⟩ H' => Ext H H' ∧ Ext H3 H' ∧ j ≤ k.length ∧ z = wsum k i j ∧ True) (fun ⟨j, z⟩ => k.length - j) (0, 0) ⟨X4, X13, Nat.zero_le _, rfl, trivial⟩ ⟨rfl, rfl, rfl, rfl, rfl, rfl, rfl, rfl, rfl, rfl, rfl, rfl, rfl, rfl, rfl, rfl, rfl, rfl, trivial⟩ ?_
    rintro ⟨j, z⟩ H14 ⟨X15, X16, hj, hz, _⟩
    refine AW.rs ?_
    refine AL.val rfl (.inl rfl) (HV.lti rfl rfl) ?_
    refine AL.nx ?_
    refine AW.seq ?_
    refine AW.ifd rfl (fun c17 => ?_) (fun c17 => ?_)
    · -- then
      refine AW.skip ?_
      refine nrm_and ?_
      refine AW.seq ?_
      refine AW.block ?_
      refine AW.rs ?_
      refine AL.val rfl (.inl rfl) (HV.mv rfl) ?_
      obtain ⟨p18, z19, cs20, hz21, hK22, hC23, hP24⟩ := RdK.ix (q := (j : Int)) hr sl25 (by omega) (by omega)
      obtain rfl : cs20 = [.int .i64 z19] := hK22
      refine AL.val rfl (.inl rfl) (hP24 rfl rfl) ?_
      refine AL.val rfl (.inl rfl) (HV.ld rfl va2 (cells_first (hC23.ext X15) rfl)) ?_
      refine AL.val rfl (.inl rfl) (HV.as rfl) ?_
      refine AL.val rfl (.inl rfl) (HV.as rfl) ?_
      refine AL.nx ?_
      refine AW.rs ?_
      refine AL.val rfl (.inl rfl) (HV.mv rfl) ?_
      refine AL.val rfl (.inl rfl) (HV.cve (by rw [Try.underlying3]; rfl) Try.underlying76 rfl (u64_id ⟨by omega, by omega⟩)) ?_
      refine AL.val rfl (.inl rfl) (HV.mv rfl) ?_
      refine AL.w rfl (.inl rfl) (WV.call fn66 rfl (has_ok (W := W) i j (by omega) (by omega))) ?_
      rintro _ H25 ⟨rfl, hx26⟩
      have X27 := Ext.trans X15 hx26
      have X28 := Ext.trans X16 hx26
      refine AL.nx ?_
      refine AW.ifd rfl (fun c29 => ?_) (fun c29 => ?_)
      · -- then
        refine AW.reg ?_
        refine AL.val rfl (.inl rfl) (HV.mv rfl) ?_
        refine AL.val rfl (.inl rfl) (HV.mv rfl) ?_
        refine AL.val rfl (.inl rfl) (HV.add rfl rfl (by have := wsum_in hW i j; have := hW _ (List.mem_of_getElem? hz21); omega)) ?_
        refine AL.val rfl (.inl rfl) (HV.as rfl) ?_
        refine AL.nil ?_
        refine nrm_blk (nrm_and ?_)
        refine AW.reg ?_
        refine AL.val rfl (.inl rfl) (HV.add rfl rfl (by omega)) ?_
        refine AL.val rfl (.inl rfl) (HV.mv rfl) ?_
        refine AL.nil ?_
        refine nrm_and ?_
        exact ⟨(j + 1, z + z19), ⟨X27, X28, by omega, by rw [wsum_succ, if_pos (by omega), gd hz21 rfl]; omega, trivial⟩, by first | omega | (dsimp only; omega), ⟨rfl, rfl, rfl, rfl, rfl, rfl, rfl, rfl, rfl, rfl, rfl, rfl, rfl, rfl, rfl, rfl, rfl, rfl, trivial⟩⟩
      · -- else
        refine AW.skip ?_
        refine nrm_blk (nrm_and ?_)
        refine AW.reg ?_
        refine AL.val rfl (.inl rfl) (HV.add rfl rfl (by omega)) ?_
        refine AL.val rfl (.inl rfl) (HV.mv rfl) ?_
        refine AL.nil ?_
        refine nrm_and ?_
        exact ⟨(j + 1, z), ⟨X27, X28, by omega, by rw [wsum_succ, if_neg (by omega)]; exact hz, trivial⟩, by first | omega | (dsimp only; omega), ⟨rfl, rfl, rfl, rfl, rfl, rfl, rfl, rfl, rfl, rfl, rfl, rfl, rfl, rfl, rfl, rfl, rfl, rfl, trivial⟩⟩
    · -- else
      refine AW.exit ?_
      refine ex_and (ex_and (ex_blk ?_))
      refine nrm_and ?_
      refine AW.rs ?_
      refine AL.val rfl (.inl rfl) (HV.mv rfl) ?_
      refine AL.nx ?_
      refine AW.cond rfl (fun c30 => ?_) (fun c30 => ?_)
      · -- then
        refine AW.reg ?_
        refine AL.val rfl (.inl rfl) (HV.mv rfl) ?_
        refine AL.val rfl (.inl rfl) (HV.mv rfl) ?_
        refine AL.val rfl (.inl rfl) (HV.mn rfl rfl) ?_
        refine AL.val rfl (.inl rfl) (HV.as rfl) ?_
        refine AL.nil ?_
        refine nrm_blk (nrm_and ?_)
        refine AW.reg ?_
        refine AL.val rfl (.inl rfl) (HV.add rfl rfl (by omega)) ?_
        refine AL.val rfl (.inl rfl) (HV.mv rfl) ?_
        refine AL.nil ?_
        refine nrm_and ?_
        exact ⟨(i + 1, x, min y z), ⟨X15, by omega, by obtain rfl : j = k.length := (by omega); have hq := qt_succ t k i; have g19 : t.getD i false = z7 := gd hz9 (by omega); rw [if_pos (by rw [g19]; first | exact c30 | (rw [c30]; decide))] at hq; have hb := qt_in (t := t) hW hk i; have hw := wsum_in hW i k.length; simp only [hq]; omega, by obtain rfl : j = k.length := (by omega); have hq := qt_succ t k i; have g19 : t.getD i false = z7 := gd hz9 (by omega); rw [if_pos (by rw [g19]; first | exact c30 | (rw [c30]; decide))] at hq; have hb := qt_in (t := t) hW hk i; have hw := wsum_in hW i k.length; simp only [hq]; omega, trivial⟩, by first | omega | (dsimp only; omega), ⟨rfl, rfl, rfl, rfl, rfl, rfl, rfl, rfl, trivial⟩⟩
      · -- else
        refine AW.reg ?_
        refine AL.val rfl (.inl rfl) (HV.mv rfl) ?_
        refine AL.val rfl (.inl rfl) (HV.mv rfl) ?_
        refine AL.val rfl (.inl rfl) (HV.add rfl rfl (by have := wsum_in hW i j; omega)) ?_
        refine AL.val rfl (.inl rfl) (HV.mx rfl rfl) ?_
        refine AL.val rfl (.inl rfl) (HV.as rfl) ?_
        refine AL.nil ?_
        refine nrm_blk (nrm_and ?_)
        refine AW.reg ?_
        refine AL.val rfl (.inl rfl) (HV.add rfl rfl (by omega)) ?_
        refine AL.val rfl (.inl rfl) (HV.mv rfl) ?_
        refine AL.nil ?_
        refine nrm_and ?_
        exact ⟨(i + 1, max x (z + 1), y), ⟨X15, by omega, by obtain rfl : j = k.length := (by omega); have hq := qt_succ t k i; have g19 : t.getD i false = z7 := gd hz9 (by omega); rw [if_neg (by rw [g19]; first | exact c30 | (rw [c30]; decide))] at hq; have hb := qt_in (t := t) hW hk i; have hw := wsum_in hW i k.length; simp only [hq]; omega, by obtain rfl : j = k.length := (by omega); have hq := qt_succ t k i; have g19 : t.getD i false = z7 := gd hz9 (by omega); rw [if_neg (by rw [g19]; first | exact c30 | (rw [c30]; decide))] at hq; have hb := qt_in (t := t) hW hk i; have hw := wsum_in hW i k.length; simp only [hq]; omega, trivial⟩, by first | omega | (dsimp only; omega), ⟨rfl, rfl, rfl, rfl, rfl, rfl, rfl, rfl, trivial⟩⟩
  · -- else
    refine AW.exit ?_
    refine ex_and (ex_and (ex_blk ?_))
    refine nrm_and ?_
    refine AW.rs ?_
    refine AL.val rfl (.inl rfl) (HV.mv rfl) ?_
    refine AL.val rfl (.inl rfl) (HV.mv rfl) ?_
    refine AL.val rfl (.inl rfl) (HV.mv rfl) ?_
    refine AL.val rfl (.inl rfl) (HV.lei rfl rfl) ?_
    refine AL.val rfl (.inl rfl) (HV.as rfl) ?_
    refine AL.val rfl (.inl rfl) (HV.as rfl) ?_
    refine AL.nx ?_
    refine AW.ret ?_
    refine post_two rfl rfl rfl ?_ (.inr rfl)
    have hb := qt_in (t := t) hW hk t.length; obtain rfl : i = t.length := (by omega); exact ⟨by rw [show decide (x ≤ y) = decide (qok t k) from decide_eq_decide.2 (by unfold qok; omega), show x = qhi t k by unfold qhi; omega], X4⟩

set_option maxRecDepth 100000 in
theorem specFw_ok {v : Value} {l : List (List Int)} {ok : Nat → Prop} (n : Int) (hr : RdK (kR kI) W H ok v l) : ACalls Try.prog W 33 #[.agg #[.int .i64 n, v]] H (fun r H' => (∃ v k q e, r = .tuple #[v, .int .i64 q, .int .i64 e] ∧ fwRes n l (k, q, e) ∧ OwnK kI 2 W H' (fun b => H.bd ≤ b) v k) ∧ Ext H H') := by
  refine ACalls.of (args := [.agg #[.int .i64 n, v]]) Try.func33 rfl rfl ?_
  have X0 := Ext.refl H
  have hm1 := hr.max
  refine AW.rs ?_
  refine AL.w rfl (.inl rfl) (WV.bx rfl rfl) ?_
  rintro _ H3 ⟨b2, rfl, hx4, hn5, hb6⟩
  have o7 := Nat.le_trans X0.bd hn5
  have X8 := Ext.trans X0 hx4
  have X9 := Ext.refl H3
  refine AL.val rfl (.inl rfl) (HV.as rfl) ?_
  refine AL.val rfl (.inl rfl) (HV.as rfl) ?_
  refine AL.val rfl (.inl rfl) (HV.as rfl) ?_
  refine AL.nx ?_
  refine AW.seq ?_
  refine AW.rs ?_
  refine AL.w rfl (.inl rfl) (WV.call fn60 rfl (l01Ok_ok (hr.ext X8) hb6)) ?_
  rintro _ H10 ⟨rfl, hx11⟩
  have X12 := Ext.trans X8 hx11
  have X13 := Ext.trans X9 hx11
  have hb14 := hb6.ext hx11
  refine AL.val rfl (.inl rfl) (HV.not rfl) ?_
  refine AL.nx ?_
  refine AW.ifn rfl (fun c15 => ?_) (fun c15 => ?_)
  · -- then
    refine AW.rs ?_
    have X16 := Ext.refl H10
    have y17 := hb14.lt
    have o18 := X12.bd
    have o19 := X13.bd
    have o20 := X16.bd
    refine AL.w rfl (.inl rfl) (WV.bsK (K := kI) (l := ([] : List Int)) (css := []) sl25 rfl rfl (by first | rfl | (simp [Instr.fill, Value.cells, kI, kB, kU, kS, Kd.sc]; done) | (simp [Instr.fill, Value.cells, kI, kB, kU, kS, Kd.sc, rng1, rng2, rng3, rng4, kP])) rfl segs_nil) ?_
    rintro v21 H22 ⟨hx23, ho24⟩
    have X25 := Ext.trans X12 hx23
    have X26 := Ext.trans X13 hx23
    have X27 := Ext.trans X16 hx23
    have hb28 := hb14.ext hx23
    refine AL.val rfl (.inl rfl) (HV.as rfl) ?_
    refine AL.val rfl (.inl rfl) (HV.as rfl) ?_
    refine AL.val rfl (.inl rfl) (HV.as rfl) ?_
    refine AL.nx ?_
    refine AW.ret ?_
    refine ret_and ?_
    refine post_three rfl rfl rfl rfl ?_ (.inr rfl)
    exact ⟨⟨_, (([] : List Int) : List Int), _, _, rfl, ⟨fun h => absurd h c15, fun h => absurd h c15, fun _ => rfl⟩, ho24.okk (fun b hb _ => Nat.le_trans o18 hb)⟩, X25⟩
  · -- else
    refine AW.skip ?_
    refine nrm_and ?_
    refine AW.seq ?_
    refine AW.rs ?_
    refine AL.val rfl (.inl rfl) (HV.fa fl42_0 rfl) ?_
    refine AL.val rfl (.inl rfl) (HV.ld rfl va2 (at_cell hb14 rfl)) ?_
    refine AL.val rfl (.inl rfl) (HV.gti rfl rfl) ?_
    refine AL.nx ?_
    refine AW.ifd rfl (fun c30 => ?_) (fun c30 => ?_)
    · -- then
      refine AW.rs ?_
      have X31 := Ext.refl H10
      have y32 := hb14.lt
      have o33 := X12.bd
      have o34 := X13.bd
      have o35 := X31.bd
      refine AL.w rfl (.inl rfl) (WV.bsK (K := kI) (l := ([] : List Int)) (css := []) sl25 rfl rfl (by first | rfl | (simp [Instr.fill, Value.cells, kI, kB, kU, kS, Kd.sc]; done) | (simp [Instr.fill, Value.cells, kI, kB, kU, kS, Kd.sc, rng1, rng2, rng3, rng4, kP])) rfl segs_nil) ?_
      rintro v36 H37 ⟨hx38, ho39⟩
      have X40 := Ext.trans X12 hx38
      have X41 := Ext.trans X13 hx38
      have X42 := Ext.trans X31 hx38
      have hb43 := hb14.ext hx38
      refine AL.val rfl (.inl rfl) (HV.as rfl) ?_
      refine AL.val rfl (.inl rfl) (HV.as rfl) ?_
      refine AL.val rfl (.inl rfl) (HV.as rfl) ?_
      refine AL.nx ?_
      refine AW.ret ?_
      refine ret_and ?_
      refine post_three rfl rfl rfl rfl ?_ (.inr rfl)
      exact ⟨⟨_, (([] : List Int) : List Int), _, _, rfl, ⟨fun _ h => by omega, fun _ _ => rfl, fun h => absurd (by assumption : okI n l) h⟩, ho39.okk (fun b hb _ => Nat.le_trans o33 hb)⟩, X40⟩
    · -- else
      refine AW.skip ?_
      refine nrm_and ?_
      refine AW.rs ?_
      refine AL.w rfl (.inl rfl) (WV.call fn61 rfl (l01Table_ok (hr.ext X12) hb14 (by assumption : okI n l).1)) ?_
      rintro v45 H46 ⟨hx47, ho48⟩
      have X50 := Ext.trans X12 hx47
      have X51 := Ext.trans X13 hx47
      have hb52 := hb14.ext hx47
      have X53 := Ext.refl H46
      have hr49 := ho48.rd
      refine AL.val rfl (.inl rfl) (HV.as rfl) ?_
      refine AL.nx ?_
      refine AW.rs ?_
      refine AL.val rfl (.inl rfl) (HV.fa fl42_0 rfl) ?_
      refine AL.val rfl (.inl rfl) (HV.ld rfl va2 (at_cell hb52 rfl)) ?_
      have y54 := hb52.lt
      have o55 := X50.bd
      have o56 := X51.bd
      have o57 := X53.bd
      refine AL.w rfl (.inl rfl) (WV.mkK (K := kI) (0 : Int) (fun _ _ _ => rfl) sl25 rfl rfl rfl (by have := (by assumption : okI n l).1; omega) (by have := (by assumption : okI n l).1; omega) (by have := (by assumption : okI n l).1; omega)) ?_
      rintro v58 H59 ⟨hx60, ho61⟩
      have X62 := Ext.trans X50 hx60
      have X63 := Ext.trans X51 hx60
      have X64 := Ext.trans X53 hx60
      have hb65 := hb52.ext hx60
      refine AL.val rfl (.inl rfl) (HV.as rfl) ?_
      refine AL.nx ?_
      refine AW.block ?_
      have hok : okI n l := (by assumption)
      have hn5 : n ≤ 5 := (by omega)
      have hn := hok.1
      obtain ⟨N, hN, hN2, hN1⟩ := shl7 hn
      refine AW.loop (σ := List Int) (fun k => [(5, v45), (6, v58), (6, v58)]) (fun k H' => Ext H H' ∧ Ext H3 H' ∧ Ext H46 H' ∧ At W H' b2 ⟨42, [.int .i64 n, v], 2⟩ ∧ k.length = n.toNat ∧ Within 8 k ∧ (∀ res, Srch (tabI n l) n.toNat k res → Srch (tabI n l) n.toNat (List.replicate n.toNat 0) res) ∧ OwnK kI 2 W H' (fun b => H46.bd ≤ b) v58 k ∧ True) (fun k => 59049 - val k n.toNat) (List.replicate (n : Int).toNat (0 : Int)) ⟨X62, X63, X64, hb65, by simp, fun x hx => by have := List.eq_of_mem_replicate hx; omega, fun _ h => h, ho61, trivial⟩ ⟨rfl, rfl, rfl, trivial⟩ ?_
      rintro k H67 ⟨X68, X69, X70, hb71, hkl, hW, he, hoL, _⟩
      refine AW.block ?_
      refine AW.rs ?_
      refine AL.val rfl (.inl rfl) (HV.mv rfl) ?_
      refine AL.val rfl (.inl rfl) (HV.mv rfl) ?_
      refine AL.w rfl (.inl rfl) (WV.call fn71 rfl (l02Quota_ok hoL.rd (hr49.ext X70) (by omega) hW (by rw [tabI_length]; have := pow7 hn; omega))) ?_
      rintro _ H72 ⟨rfl, hx73⟩
      have X74 := Ext.trans X68 hx73
      have X75 := Ext.trans X69 hx73
      have X76 := Ext.trans X70 hx73
      have ho77 := hoL.ext hx73
      have hb78 := hb71.ext hx73
      refine AL.val rfl (.inl rfl) (HV.mv rfl) ?_
      refine AL.val rfl (.inl rfl) (HV.ex rfl rfl) ?_
      refine AL.val rfl (.inl rfl) (HV.ex rfl rfl) ?_
      refine AL.val rfl (.inl rfl) (HV.as rfl) ?_
      refine AL.val rfl (.inl rfl) (HV.as rfl) ?_
      refine AL.nx ?_
      refine AW.seq ?_
      refine AW.rs ?_
      refine AL.val rfl (.inl rfl) (HV.mv rfl) ?_
      refine AL.nx ?_
      refine AW.ifd rfl (fun c79 => ?_) (fun c79 => ?_)
      · -- then
        refine AW.rs ?_
        refine AL.val rfl (.inl rfl) (HV.mv rfl) ?_
        refine AL.val rfl (.inl rfl) (HV.mv rfl) ?_
        refine AL.val rfl (.inl rfl) (HV.as rfl) ?_
        refine AL.val rfl (.inl rfl) (HV.as rfl) ?_
        refine AL.val rfl (.inl rfl) (HV.as rfl) ?_
        refine AL.nx ?_
        refine AW.ret ?_
        refine ret_and (ret_blk (ret_and (ret_blk ?_)))
        refine post_three rfl rfl rfl rfl ?_ (.inr rfl)
        exact ⟨⟨_, k, _, _, rfl, ⟨fun _ _ => he _ (Srch.hit c79), fun _ h => absurd hn5 h, fun h => absurd hok h⟩, ho77.okk (fun b hb _ => Nat.le_trans o55 hb)⟩, X74⟩
      · -- else
        refine AW.skip ?_
        refine nrm_and ?_
        refine AW.rs ?_
        refine AL.val rfl (.inl rfl) (HV.mv rfl) ?_
        refine AL.val rfl (.inl rfl) (HV.len Try.underlying25 rfl ho77.rd.isSl) ?_
        refine AL.val rfl (.inl rfl) (HV.sub rfl rfl (by omega)) ?_
        refine AL.val rfl (.inl rfl) (HV.as rfl) ?_
        refine AL.nx ?_
        refine AW.seq ?_
        refine AW.block ?_
        have hno : ¬ qok (tabI n l) k := (by assumption)
        refine AW.loop (σ := Nat × Int × List Int) (fun ⟨p, w, k2⟩ => [(5, v45), (6, v58), (7, .int .i64 (qhi (tabI n l) k)), (8, .bool (decide (qok (tabI n l) k))), (21, .tuple #[.int .i64 (qhi (tabI n l) k), .bool (decide (qok (tabI n l) k))]), (22, v58), (23, v45), (24, .tuple #[.int .i64 (qhi (tabI n l) k), .bool (decide (qok (tabI n l) k))]), (25, .int .i64 (qhi (tabI n l) k)), (26, .bool (decide (qok (tabI n l) k))), (27, .bool (decide (qok (tabI n l) k))), (30, v58), (31, .int .i64 (k.length : Int)), (32, .int .i64 ((k.length : Int) - 1)), (6, v58), (9, .int .i64 w)]) (fun ⟨p, w, k2⟩ H' => Ext H H' ∧ Ext H3 H' ∧ Ext H46 H' ∧ At W H' b2 ⟨42, [.int .i64 n, v], 2⟩ ∧ p ≤ n.toNat ∧ w = (p : Int) - 1 ∧ k2.length = n.toNat ∧ (∀ j, p ≤ j → j < n.toNat → k.getD j 0 = 8 ∧ k2.getD j 0 = 0) ∧ (∀ j, j < p → k2.getD j 0 = k.getD j 0) ∧ OwnK kI 2 W H' (fun b => H46.bd ≤ b) v58 k2 ∧ True) (fun ⟨p, w, k2⟩ => p) (n.toNat, (k.length : Int) - 1, k) ⟨X74, X75, X76, hb78, Nat.le_refl _, by omega, hkl, fun j a b => by omega, fun _ _ => rfl, ho77, trivial⟩ ⟨rfl, rfl, rfl, rfl, rfl, rfl, rfl, rfl, rfl, rfl, rfl, rfl, rfl, rfl, rfl, rfl, trivial⟩ ?_
        rintro ⟨p, w, k2⟩ H80 ⟨X81, X82, X83, hb84, hp, hw, hk2, hhi, hlo, hoL2, _⟩
        refine AW.seq ?_
        refine AW.rs ?_
        refine AL.val rfl (.inl rfl) (HV.mv rfl) ?_
        refine AL.val rfl (.inl rfl) (HV.gei rfl rfl) ?_
        refine AL.val rfl (.inl rfl) (HV.mv rfl) ?_
        by_cases c85 : w ≥ 0
        · -- true
          have c85_ : decide (w ≥ 0) = true := decide_eq_true c85
          rw [c85_]
          refine AL.val rfl (.inr ⟨_, _, _, rfl, rfl, rfl⟩) (HV.mv rfl) ?_
          refine AL.val rfl (.inr ⟨_, _, _, rfl, rfl, rfl⟩) (HV.mv rfl) ?_
          obtain ⟨g86, z87, cs88, hz89, hK90, hC91, hg92, hP93⟩ := OwnK.ix (q := w) hoL2 sl25 (by omega) (by omega)
          have X94 := Ext.refl H80
          obtain rfl : cs88 = [.int .i64 z87] := hK90
          refine AL.val rfl (.inr ⟨_, _, _, rfl, rfl, rfl⟩) (hP93 rfl rfl) ?_
          refine AL.val rfl (.inr ⟨_, _, _, rfl, rfl, rfl⟩) (HV.ld rfl va2 (cells_first hC91 rfl)) ?_
          refine AL.val rfl (.inr ⟨_, _, _, rfl, rfl, rfl⟩) (HV.eqi rfl rfl) ?_
          refine AL.val rfl (.inl rfl) (HV.pickT rfl rfl) ?_
          refine AL.nx ?_
          refine AW.ifd rfl (fun c95 => ?_) (fun c95 => ?_)
          · -- then
            refine AW.skip ?_
            refine nrm_and ?_
            refine AW.block ?_
            refine AW.rs ?_
            refine AL.val rfl (.inl rfl) (HV.mv rfl) ?_
            refine AL.val rfl (.inl rfl) (HV.mv rfl) ?_
            obtain ⟨g96, z97, cs98, hz99, hK100, hC101, hg102, hP103⟩ := OwnK.ix (q := w) hoL2 sl25 (by omega) (by omega)
            obtain rfl : cs98 = [.int .i64 z97] := hK100
            refine AL.val rfl (.inl rfl) (hP103 rfl rfl) ?_
            refine AL.w0 (.inl rfl) (WV.stK (okx := fun _ => False) (x' := 0) hoL2 hg102 rfl rfl va2 (by omega) rfl (fun _ h => h.elim)) ?_
            rintro _ H104 ⟨hx105, ho106⟩
            have X107 := Ext.thru X81 hx105 (fun b hb => Nat.le_trans o55 (hoL2.blk b hb).1)
            have X108 := Ext.thru X82 hx105 (fun b hb => Nat.le_trans o56 (hoL2.blk b hb).1)
            have X109 := Ext.thru X83 hx105 (fun b hb => Nat.le_trans o57 (hoL2.blk b hb).1)
            have hb111 := hb84.but hx105 (fun e => by have q : H46.bd ≤ _ := (hoL2.blk _ e).1; omega)
            have ho112 := ho106.okk (ok' := fun b => H46.bd ≤ b) (fun b hb _ => hb.elim id False.elim)
            refine AL.nx ?_
            refine AW.reg ?_
            refine AL.val rfl (.inl rfl) (HV.mv rfl) ?_
            refine AL.val rfl (.inl rfl) (HV.sub rfl rfl (by omega)) ?_
            refine AL.val rfl (.inl rfl) (HV.as rfl) ?_
            refine AL.nil ?_
            refine nrm_blk (nrm_and ?_)
            exact ⟨(p - 1, w - 1, (k2.set (w : Int).toNat 0)), ⟨X107, X108, X109, hb111, by omega, by omega, by simp [hk2], odo_hi hk2 hw (by omega) hp hz89 (by assumption) hhi hlo, odo_lo hk2 hw (by omega) hp hlo, ho112, trivial⟩, by first | omega | (dsimp only; omega), ⟨rfl, rfl, rfl, rfl, rfl, rfl, rfl, rfl, rfl, rfl, rfl, rfl, rfl, rfl, rfl, rfl, trivial⟩⟩
          · -- else
            refine AW.exit ?_
            refine ex_and (ex_and (ex_blk ?_))
            refine nrm_and ?_
            refine AW.seq ?_
            refine AW.rs ?_
            refine AL.val rfl (.inl rfl) (HV.mv rfl) ?_
            refine AL.val rfl (.inl rfl) (HV.lti rfl rfl) ?_
            refine AL.nx ?_
            refine AW.ifd rfl (fun c113 => ?_) (fun c113 => ?_)
            · -- then
              refine AW.rs ?_
              have y114 := hb84.lt
              have o115 := X81.bd
              have o116 := X82.bd
              have o117 := X83.bd
              have o118 := X94.bd
              have a119 := hoL2.ltb
              refine AL.w rfl (.inl rfl) (WV.bsK (K := kI) (l := ([] : List Int)) (css := []) sl25 rfl rfl (by first | rfl | (simp [Instr.fill, Value.cells, kI, kB, kU, kS, Kd.sc]; done) | (simp [Instr.fill, Value.cells, kI, kB, kU, kS, Kd.sc, rng1, rng2, rng3, rng4, kP])) rfl segs_nil) ?_
              rintro v120 H121 ⟨hx122, ho123⟩
              have X124 := Ext.trans X81 hx122
              have X125 := Ext.trans X82 hx122
              have X126 := Ext.trans X83 hx122
              have X127 := Ext.trans X94 hx122
              have ho128 := hoL2.ext hx122
              have hb129 := hb84.ext hx122
              refine AL.val rfl (.inl rfl) (HV.as rfl) ?_
              refine AL.val rfl (.inl rfl) (HV.as rfl) ?_
              refine AL.val rfl (.inl rfl) (HV.as rfl) ?_
              refine AL.nx ?_
              refine AW.ret ?_
              refine ret_and (ret_blk (ret_and (ret_blk ?_)))
              refine post_three rfl rfl rfl rfl ?_ (.inr rfl)
              exact ⟨⟨_, (([] : List Int) : List Int), _, _, rfl, ⟨fun _ _ => by first | (exfalso; omega) | exact he _ (Srch.stop hno (fun j hj => (hhi j (by omega) hj).1)), fun _ h => absurd hn5 h, fun h => absurd hok h⟩, ho123.okk (fun b hb _ => Nat.le_trans o115 hb)⟩, X124⟩
            · -- else
              refine AW.skip ?_
              refine nrm_and ?_
              refine AW.reg ?_
              refine AL.val rfl (.inl rfl) (HV.mv rfl) ?_
              refine AL.val rfl (.inl rfl) (HV.mv rfl) ?_
              obtain ⟨g131, z132, cs133, hz134, hK135, hC136, hg137, hP138⟩ := OwnK.ix (q := w) hoL2 sl25 (by omega) (by omega)
              obtain rfl : cs133 = [.int .i64 z132] := hK135
              refine AL.val rfl (.inl rfl) (hP138 rfl rfl) ?_
              refine AL.val rfl (.inl rfl) (HV.ld rfl va2 (cells_first hC136 rfl)) ?_
              refine AL.val rfl (.inl rfl) (HV.add rfl rfl (by first | omega | (have := getD_in hW w.toNat; have e := hlo w.toNat (by omega); rw [gd hz134 (by omega)] at e; omega))) ?_
              obtain ⟨g139, z140, cs141, hz142, hK143, hC144, hg145, hP146⟩ := OwnK.ix (q := w) hoL2 sl25 (by omega) (by omega)
              obtain rfl : cs141 = [.int .i64 z140] := hK143
              refine AL.val rfl (.inl rfl) (hP146 rfl rfl) ?_
              refine AL.w0 (.inl rfl) (WV.stK (okx := fun _ => False) (x' := z132 + 1) hoL2 hg145 rfl rfl va2 (by omega) rfl (fun _ h => h.elim)) ?_
              rintro _ H147 ⟨hx148, ho149⟩
              have X150 := Ext.thru X81 hx148 (fun b hb => Nat.le_trans o55 (hoL2.blk b hb).1)
              have X151 := Ext.thru X82 hx148 (fun b hb => Nat.le_trans o56 (hoL2.blk b hb).1)
              have X152 := Ext.thru X83 hx148 (fun b hb => Nat.le_trans o57 (hoL2.blk b hb).1)
              have hb154 := hb84.but hx148 (fun e => by have q : H46.bd ≤ _ := (hoL2.blk _ e).1; omega)
              have ho155 := ho149.okk (ok' := fun b => H46.bd ≤ b) (fun b hb _ => hb.elim id False.elim)
              refine AL.nil ?_
              refine nrm_blk (nrm_and ?_)
              have hst : Step n.toNat k w.toNat (k2.set (w : Int).toNat (z132 + 1)) := by first | (exfalso; omega) | exact odo_inc hkl hk2 hw (by omega) hp hz89 (by assumption) hz134 hhi hlo
              have hv := hst.val hW
              have hW3 := hst.within hkl hW
              have hv3 := val_max hW3 (n := n.toNat) (by omega)
              exact ⟨(k2.set (w : Int).toNat (z132 + 1)), ⟨X150, X151, X152, hb154, by rw [hst.len]; exact hkl, hW3, fun res h => he res (Srch.step hno hst h), ho155, trivial⟩, by first | omega | (dsimp only; omega), ⟨rfl, rfl, rfl, trivial⟩⟩
        · -- false
          have c85_ : decide (w ≥ 0) = false := decide_eq_false c85
          rw [c85_]
          refine AL.off rfl rfl (by decide) rfl ?_
          refine AL.off rfl rfl (by decide) rfl ?_
          refine AL.off rfl rfl (by decide) rfl ?_
          refine AL.off rfl rfl (by decide) rfl ?_
          refine AL.off rfl rfl (by decide) rfl ?_
          refine AL.val rfl (.inl rfl) (HV.pickF rfl rfl) ?_
          refine AL.nx ?_
          refine AW.cond rfl (fun h => by cases h) (fun _ => ?_)
          refine AW.exit ?_
          refine ex_and (ex_and (ex_blk ?_))
          refine nrm_and ?_
          refine AW.seq ?_
          refine AW.rs ?_
          refine AL.val rfl (.inl rfl) (HV.mv rfl) ?_
          refine AL.val rfl (.inl rfl) (HV.lti rfl rfl) ?_
          refine AL.nx ?_
          refine AW.ifd rfl (fun c157 => ?_) (fun c157 => ?_)
          · -- then
            refine AW.rs ?_
            have X158 := Ext.refl H80
            have y159 := hb84.lt
            have o160 := X81.bd
            have o161 := X82.bd
            have o162 := X83.bd
            have o163 := X158.bd
            have a164 := hoL2.ltb
            refine AL.w rfl (.inl rfl) (WV.bsK (K := kI) (l := ([] : List Int)) (css := []) sl25 rfl rfl (by first | rfl | (simp [Instr.fill, Value.cells, kI, kB, kU, kS, Kd.sc]; done) | (simp [Instr.fill, Value.cells, kI, kB, kU, kS, Kd.sc, rng1, rng2, rng3, rng4, kP])) rfl segs_nil) ?_
            rintro v165 H166 ⟨hx167, ho168⟩
            have X169 := Ext.trans X81 hx167
            have X170 := Ext.trans X82 hx167
            have X171 := Ext.trans X83 hx167
            have X172 := Ext.trans X158 hx167
            have ho173 := hoL2.ext hx167
            have hb174 := hb84.ext hx167
            refine AL.val rfl (.inl rfl) (HV.as rfl) ?_
            refine AL.val rfl (.inl rfl) (HV.as rfl) ?_
            refine AL.val rfl (.inl rfl) (HV.as rfl) ?_
            refine AL.nx ?_
            refine AW.ret ?_
            refine ret_and (ret_blk (ret_and (ret_blk ?_)))
            refine post_three rfl rfl rfl rfl ?_ (.inr rfl)
            exact ⟨⟨_, (([] : List Int) : List Int), _, _, rfl, ⟨fun _ _ => by first | (exfalso; omega) | exact he _ (Srch.stop hno (fun j hj => (hhi j (by omega) hj).1)), fun _ h => absurd hn5 h, fun h => absurd hok h⟩, ho168.okk (fun b hb _ => Nat.le_trans o160 hb)⟩, X169⟩
          · -- else
            refine AW.skip ?_
            refine nrm_and ?_
            refine AW.reg ?_
            refine AL.val rfl (.inl rfl) (HV.mv rfl) ?_
            refine AL.val rfl (.inl rfl) (HV.mv rfl) ?_
            obtain ⟨g176, z177, cs178, hz179, hK180, hC181, hg182, hP183⟩ := OwnK.ix (q := w) hoL2 sl25 (by omega) (by omega)
            have X184 := Ext.refl H80
            obtain rfl : cs178 = [.int .i64 z177] := hK180
            refine AL.val rfl (.inl rfl) (hP183 rfl rfl) ?_
            refine AL.val rfl (.inl rfl) (HV.ld rfl va2 (cells_first hC181 rfl)) ?_
            refine AL.val rfl (.inl rfl) (HV.add rfl rfl (by first | omega | (have := getD_in hW w.toNat; have e := hlo w.toNat (by omega); rw [gd hz179 (by omega)] at e; omega))) ?_
            obtain ⟨g185, z186, cs187, hz188, hK189, hC190, hg191, hP192⟩ := OwnK.ix (q := w) hoL2 sl25 (by omega) (by omega)
            obtain rfl : cs187 = [.int .i64 z186] := hK189
            refine AL.val rfl (.inl rfl) (hP192 rfl rfl) ?_
            refine AL.w0 (.inl rfl) (WV.stK (okx := fun _ => False) (x' := z177 + 1) hoL2 hg191 rfl rfl va2 (by omega) rfl (fun _ h => h.elim)) ?_
            rintro _ H193 ⟨hx194, ho195⟩
            have X196 := Ext.thru X81 hx194 (fun b hb => Nat.le_trans o55 (hoL2.blk b hb).1)
            have X197 := Ext.thru X82 hx194 (fun b hb => Nat.le_trans o56 (hoL2.blk b hb).1)
            have X198 := Ext.thru X83 hx194 (fun b hb => Nat.le_trans o57 (hoL2.blk b hb).1)
            have hb200 := hb84.but hx194 (fun e => by have q : H46.bd ≤ _ := (hoL2.blk _ e).1; omega)
            have ho201 := ho195.okk (ok' := fun b => H46.bd ≤ b) (fun b hb _ => hb.elim id False.elim)
            refine AL.nil ?_
            refine nrm_blk (nrm_and ?_)
            have hst : Step n.toNat k w.toNat (k2.set (w : Int).toNat (z177 + 1)) := by exfalso; omega
            have hv := hst.val hW
            have hW3 := hst.within hkl hW
            have hv3 := val_max hW3 (n := n.toNat) (by omega)
            exact ⟨(k2.set (w : Int).toNat (z177 + 1)), ⟨X196, X197, X198, hb200, by rw [hst.len]; exact hkl, hW3, fun res h => he res (Srch.step hno hst h), ho201, trivial⟩, by first | omega | (dsimp only; omega), ⟨rfl, rfl, rfl, trivial⟩⟩

set_option maxRecDepth 100000 in
theorem implFw_ok {v : Value} {l : List (List Int)} {ok : Nat → Prop} (n : Int) (hr : RdK (kR kI) W H ok v l) : ACalls Try.prog W 34 #[.agg #[.int .i64 n, v]] H (fun r H' => (∃ v k q e, r = .tuple #[v, .int .i64 q, .int .i64 e] ∧ fwRes n l (k, q, e) ∧ OwnK kI 2 W H' (fun b => H.bd ≤ b) v k) ∧ Ext H H') := by
  refine ACalls.of (args := [.agg #[.int .i64 n, v]]) Try.func34 rfl rfl ?_
  have X0 := Ext.refl H
  have hm1 := hr.max
  refine AW.rs ?_
  refine AL.w rfl (.inl rfl) (WV.bx rfl rfl) ?_
  rintro _ H3 ⟨b2, rfl, hx4, hn5, hb6⟩
  have o7 := Nat.le_trans X0.bd hn5
  have X8 := Ext.trans X0 hx4
  have X9 := Ext.refl H3
  refine AL.val rfl (.inl rfl) (HV.as rfl) ?_
  refine AL.val rfl (.inl rfl) (HV.as rfl) ?_
  refine AL.val rfl (.inl rfl) (HV.as rfl) ?_
  refine AL.nx ?_
  refine AW.seq ?_
  refine AW.rs ?_
  refine AL.val rfl (.inl rfl) (HV.lda (cs := [.int .i64 n, v]) rfl va42 (at_cells hb6 rfl)) ?_
  refine AL.w rfl (.inl rfl) (WV.call fn63 rfl (validFam_ok n (hr.ext X8))) ?_
  rintro _ H10 ⟨rfl, hx11⟩
  have X12 := Ext.trans X8 hx11
  have X13 := Ext.trans X9 hx11
  have hb14 := hb6.ext hx11
  refine AL.val rfl (.inl rfl) (HV.not rfl) ?_
  refine AL.nx ?_
  refine AW.ifn rfl (fun c15 => ?_) (fun c15 => ?_)
  · -- then
    refine AW.rs ?_
    refine AL.val rfl (.inl rfl) (HV.as rfl) ?_
    refine AL.val rfl (.inl rfl) (HV.as rfl) ?_
    refine AL.val rfl (.inl rfl) (HV.as rfl) ?_
    refine AL.nx ?_
    refine AW.ret ?_
    refine ret_and ?_
    refine post_three rfl rfl rfl rfl ?_ (.inr rfl)
    exact ⟨⟨_, [], _, _, rfl, ⟨fun h => absurd h (fun h => c15 ((ok_iff n l).1 h)), fun h => absurd h (fun h => c15 ((ok_iff n l).1 h)), fun _ => rfl⟩, OwnK.nil _⟩, X12⟩
  · -- else
    refine AW.skip ?_
    refine nrm_and ?_
    refine AW.seq ?_
    refine AW.rs ?_
    refine AL.val rfl (.inl rfl) (HV.fa fl42_0 rfl) ?_
    refine AL.val rfl (.inl rfl) (HV.ld rfl va2 (at_cell hb14 rfl)) ?_
    refine AL.val rfl (.inl rfl) (HV.gti rfl rfl) ?_
    refine AL.nx ?_
    refine AW.ifd rfl (fun c16 => ?_) (fun c16 => ?_)
    · -- then
      refine AW.rs ?_
      refine AL.val rfl (.inl rfl) (HV.as rfl) ?_
      refine AL.val rfl (.inl rfl) (HV.as rfl) ?_
      refine AL.val rfl (.inl rfl) (HV.as rfl) ?_
      refine AL.nx ?_
      refine AW.ret ?_
      refine ret_and ?_
      refine post_three rfl rfl rfl rfl ?_ (.inr rfl)
      exact ⟨⟨_, [], _, _, rfl, ⟨fun _ h => by omega, fun _ _ => rfl, fun h => absurd ((ok_iff n l).2 (by assumption)) h⟩, OwnK.nil _⟩, X12⟩
    · -- else
      refine AW.skip ?_
      refine nrm_and ?_
      refine AW.rs ?_
      have X17 := Ext.refl H10
      have y18 := hb14.lt
      have o19 := X12.bd
      have o20 := X13.bd
      have o21 := X17.bd
      refine AL.w rfl (.inl rfl) (WV.bsK (K := kB) (l := ([] : List Bool)) (css := []) sl81 rfl rfl (by first | rfl | (simp [Instr.fill, Value.cells, kI, kB, kU, kS, Kd.sc]; done) | (simp [Instr.fill, Value.cells, kI, kB, kU, kS, Kd.sc, rng1, rng2, rng3, rng4, kP])) rfl segs_nil) ?_
      rintro v22 H23 ⟨hx24, ho25⟩
      have X26 := Ext.trans X12 hx24
      have X27 := Ext.trans X13 hx24
      have X28 := Ext.trans X17 hx24
      have hb29 := hb14.ext hx24
      refine AL.val rfl (.inl rfl) (HV.as rfl) ?_
      refine AL.nx ?_
      refine AW.seq ?_
      refine AW.rs ?_
      refine AL.val rfl (.inl rfl) (HV.as rfl) ?_
      refine AL.nx ?_
      refine AW.block ?_
      have hokC : okC n l := (by assumption)
      have hok := (ok_iff n l).2 hokC
      have hn5 : n ≤ 5 := (by omega)
      have hn := hok.1
      obtain ⟨N, hN, hN2, hN1⟩ := shl7 hn
      refine AW.loop (σ := Nat × Value × List Bool) (fun ⟨i, vv, kt⟩ => [(1, .pointer (some ⟨b2, 0, none⟩)), (2, (.slice none 0 0)), (3, .int .i64 0), (4, .int .i64 0), (5, vv), (6, .int .u64 (i : Int))]) (fun ⟨i, vv, kt⟩ H' => Ext H H' ∧ Ext H3 H' ∧ Ext H10 H' ∧ At W H' b2 ⟨42, [.int .i64 n, v], 2⟩ ∧ i ≤ N ∧ kt.length = i ∧ (∀ s : Nat, s < i → kt.getD s false = decide (opI s l)) ∧ OwnK kB 4 W H' (fun b => H10.bd ≤ b) vv kt ∧ True) (fun ⟨i, vv, kt⟩ => N - i) (0, v22, (([] : List Bool) : List Bool)) ⟨X26, X27, X28, hb29, Nat.zero_le _, rfl, fun j hj => absurd hj (Nat.not_lt_zero _), ho25, trivial⟩ ⟨rfl, rfl, rfl, rfl, rfl, rfl, trivial⟩ ?_
      rintro ⟨i, vv, kt⟩ H31 ⟨X32, X33, X34, hb35, hi, hkt, hkd, hoT, _⟩
      refine AW.seq ?_
      refine AW.rs ?_
      refine AL.val rfl (.inl rfl) (HV.mv rfl) ?_
      refine AL.val rfl (.inl rfl) (HV.fa fl42_0 rfl) ?_
      refine AL.val rfl (.inl rfl) (HV.ld rfl va2 (at_cell hb35 rfl)) ?_
      refine AL.w rfl (.inl rfl) (WV.call fn65 rfl (everybody_ok (W := W) hn)) ?_
      rintro _ H36 ⟨rfl, hx37⟩
      have X38 := Ext.trans X32 hx37
      have X39 := Ext.trans X33 hx37
      have X40 := Ext.trans X34 hx37
      have ho41 := hoT.ext hx37
      have hb42 := hb35.ext hx37
      refine AL.val rfl (.inl rfl) (HV.lei rfl rfl) ?_
      refine AL.nx ?_
      refine AW.ifd rfl (fun c43 => ?_) (fun c43 => ?_)
      · -- then
        refine AW.skip ?_
        refine nrm_and ?_
        refine AW.seq ?_
        refine AW.block ?_
        refine AW.reg ?_
        refine AL.val rfl (.inl rfl) (HV.mv rfl) ?_
        refine AL.val rfl (.inl rfl) (HV.lda (cs := [.int .i64 n, v]) rfl va42 (at_cells hb42 rfl)) ?_
        refine AL.val rfl (.inl rfl) (HV.mv rfl) ?_
        refine AL.w rfl (.inl rfl) (WV.call fn64 rfl (opens_ok n (hr.ext X38) (i : Int) (okC_low hokC))) ?_
        rintro _ H44 ⟨rfl, hx45⟩
        have X46 := Ext.trans X38 hx45
        have X47 := Ext.trans X39 hx45
        have X48 := Ext.trans X40 hx45
        have ho49 := ho41.ext hx45
        have hb50 := hb42.ext hx45
        have X51 := Ext.refl H44
        have y52 := hb50.lt
        have o53 := X46.bd
        have o54 := X47.bd
        have o55 := X48.bd
        have o56 := X51.bd
        have a57 := ho49.ltb
        refine AL.w rfl (.inl rfl) (WV.bsK (K := kB) (l := ([decide (opC (i : Int) l)] : List Bool)) (css := [[.bool (decide (opC (i : Int) l))]]) sl81 rfl rfl (by first | rfl | (simp [Instr.fill, Value.cells, kI, kB, kU, kS, Kd.sc]; done) | (simp [Instr.fill, Value.cells, kI, kB, kU, kS, Kd.sc, rng1, rng2, rng3, rng4, kP])) rfl (segs_cons rfl segs_nil)) ?_
        rintro v58 H59 ⟨hx60, ho61⟩
        have X62 := Ext.trans X46 hx60
        have X63 := Ext.trans X47 hx60
        have X64 := Ext.trans X48 hx60
        have X65 := Ext.trans X51 hx60
        have ho66 := ho49.ext hx60
        have hb67 := hb50.ext hx60
        have X69 := Ext.refl H59
        refine AL.w rfl (.inl rfl) (WV.apk sl81 rfl rfl ho66 ho61.rd (by simp [hkt]; omega) (by simp [hkt]; omega) (fun b hb _ e => Nat.lt_irrefl _ (Nat.lt_of_lt_of_le (a57 b e) hb))) ?_
        rintro v70 H71 ⟨hx72, ho73, hb74⟩
        have ho75 := ho73.narrow (ok' := fun b => H10.bd ≤ b) kB_flat (fun b q => (hb74 b q).elim (fun e => (ho66.blk b e).1) (fun e => Nat.le_trans X64.bd e))
        have X76 := Ext.thru X62 hx72 (fun b hb => Nat.le_trans o19 (ho66.blk b hb).1)
        have X77 := Ext.thru X63 hx72 (fun b hb => Nat.le_trans o20 (ho66.blk b hb).1)
        have X78 := Ext.thru X64 hx72 (fun b hb => Nat.le_trans o21 (ho66.blk b hb).1)
        have hb82 := hb67.but hx72 (fun e => by have q : H10.bd ≤ _ := (ho66.blk _ e).1; omega)
        refine AL.val rfl (.inl rfl) (HV.as rfl) ?_
        refine AL.nil ?_
        refine nrm_blk (nrm_and ?_)
        refine AW.reg ?_
        refine AL.val rfl (.inl rfl) (HV.mv rfl) ?_
        refine AL.val rfl (.inl rfl) (HV.addu rfl rfl (by omega)) ?_
        refine AL.val rfl (.inl rfl) (HV.as rfl) ?_
        refine AL.nil ?_
        refine nrm_and ?_
        exact ⟨(i + 1, v70, (kt ++ (([decide (opC (i : Int) l)] : List Bool) : List Bool))), ⟨X76, X77, X78, hb82, by omega, by simp [hkt], app_step hkt hkd (decide_eq_decide.2 (opN hokC (show i < 2 ^ n.toNat by omega)).symm), ho75, trivial⟩, by first | omega | (dsimp only; omega), ⟨rfl, rfl, rfl, rfl, rfl, rfl, trivial⟩⟩
      · -- else
        refine AW.exit ?_
        refine ex_and (ex_and (ex_blk ?_))
        refine nrm_and ?_
        refine AW.rs ?_
        obtain rfl : kt = tabI n l := list_eq (d := false) (by rw [hkt, tabI_length, hN2]; omega) (fun j hj => by rw [tabI_get (by omega)]; exact hkd j (by omega))
        have X83 := Ext.refl H36
        have hr84 := ho41.rd
        refine AL.val rfl (.inl rfl) (HV.fa fl42_0 rfl) ?_
        refine AL.val rfl (.inl rfl) (HV.ld rfl va2 (at_cell hb42 rfl)) ?_
        have y85 := hb42.lt
        have o86 := X38.bd
        have o87 := X39.bd
        have o88 := X40.bd
        have o89 := X83.bd
        refine AL.w rfl (.inl rfl) (WV.mkK (K := kI) (0 : Int) (fun _ _ _ => rfl) sl25 rfl rfl rfl (by omega) (by omega) (by omega)) ?_
        rintro v90 H91 ⟨hx92, ho93⟩
        have X94 := Ext.trans X38 hx92
        have X95 := Ext.trans X39 hx92
        have X96 := Ext.trans X40 hx92
        have X97 := Ext.trans X83 hx92
        have hb98 := hb42.ext hx92
        refine AL.val rfl (.inl rfl) (HV.as rfl) ?_
        refine AL.nx ?_
        refine AW.block ?_
        refine AW.loop (σ := List Int) (fun k => [(1, .pointer (some ⟨b2, 0, none⟩)), (5, vv), (7, v90), (7, v90)]) (fun k H' => Ext H H' ∧ Ext H3 H' ∧ Ext H10 H' ∧ Ext H36 H' ∧ At W H' b2 ⟨42, [.int .i64 n, v], 2⟩ ∧ k.length = n.toNat ∧ Within 8 k ∧ (∀ res, Srch (tabI n l) n.toNat k res → Srch (tabI n l) n.toNat (List.replicate n.toNat 0) res) ∧ OwnK kI 2 W H' (fun b => H36.bd ≤ b) v90 k ∧ True) (fun k => 59049 - val k n.toNat) (List.replicate (n : Int).toNat (0 : Int)) ⟨X94, X95, X96, X97, hb98, by simp, fun x hx => by have := List.eq_of_mem_replicate hx; omega, fun _ h => h, ho93, trivial⟩ ⟨rfl, rfl, rfl, rfl, trivial⟩ ?_
        rintro k H100 ⟨X101, X102, X103, X104, hb105, hkl, hW, he, hoL, _⟩
        refine AW.block ?_
        refine AW.seq ?_
        refine AW.rs ?_
        refine AL.val rfl (.inl rfl) (HV.mv rfl) ?_
        refine AL.val rfl (.inl rfl) (HV.mv rfl) ?_
        refine AL.w rfl (.inl rfl) (WV.call fn72 rfl (quotaOf_ok hoL.rd (hr84.ext X104) (by omega) hW (by rw [tabI_length]; have := pow7 hn; omega))) ?_
        rintro _ H106 ⟨rfl, hx107⟩
        have X108 := Ext.trans X101 hx107
        have X109 := Ext.trans X102 hx107
        have X110 := Ext.trans X103 hx107
        have X111 := Ext.trans X104 hx107
        have ho112 := hoL.ext hx107
        have hb113 := hb105.ext hx107
        refine AL.val rfl (.inl rfl) (HV.mv rfl) ?_
        refine AL.val rfl (.inl rfl) (HV.ex rfl rfl) ?_
        refine AL.val rfl (.inl rfl) (HV.ex rfl rfl) ?_
        refine AL.val rfl (.inl rfl) (HV.as rfl) ?_
        refine AL.val rfl (.inl rfl) (HV.as rfl) ?_
        refine AL.nx ?_
        refine AW.rs ?_
        refine AL.val rfl (.inl rfl) (HV.mv rfl) ?_
        refine AL.nx ?_
        refine AW.ifd rfl (fun c114 => ?_) (fun c114 => ?_)
        · -- then
          refine AW.rs ?_
          refine AL.val rfl (.inl rfl) (HV.mv rfl) ?_
          refine AL.val rfl (.inl rfl) (HV.mv rfl) ?_
          refine AL.val rfl (.inl rfl) (HV.as rfl) ?_
          refine AL.val rfl (.inl rfl) (HV.as rfl) ?_
          refine AL.val rfl (.inl rfl) (HV.as rfl) ?_
          refine AL.nx ?_
          refine AW.ret ?_
          refine ret_and (ret_blk (ret_and (ret_blk ?_)))
          refine post_three rfl rfl rfl rfl ?_ (.inr rfl)
          exact ⟨⟨_, k, _, _, rfl, ⟨fun _ _ => he _ (Srch.hit c114), fun _ h => absurd hn5 h, fun h => absurd hok h⟩, ho112.okk (fun b hb _ => Nat.le_trans o86 hb)⟩, X108⟩
        · -- else
          refine AW.skip ?_
          refine nrm_and ?_
          refine AW.rs ?_
          refine AL.val rfl (.inl rfl) (HV.fa fl42_0 rfl) ?_
          refine AL.val rfl (.inl rfl) (HV.ld rfl va2 (at_cell hb113 rfl)) ?_
          refine AL.val rfl (.inl rfl) (HV.sub rfl rfl (by omega)) ?_
          refine AL.val rfl (.inl rfl) (HV.as rfl) ?_
          refine AL.nx ?_
          refine AW.seq ?_
          refine AW.block ?_
          have hno : ¬ qok (tabI n l) k := (by assumption)
          refine AW.loop (σ := Nat × Int × List Int) (fun ⟨p, w, k2⟩ => [(1, .pointer (some ⟨b2, 0, none⟩)), (5, vv), (7, v90), (8, .int .i64 (qhi (tabI n l) k)), (9, .bool (decide (qok (tabI n l) k))), (34, .tuple #[.int .i64 (qhi (tabI n l) k), .bool (decide (qok (tabI n l) k))]), (35, v90), (36, vv), (37, .tuple #[.int .i64 (qhi (tabI n l) k), .bool (decide (qok (tabI n l) k))]), (38, .int .i64 (qhi (tabI n l) k)), (39, .bool (decide (qok (tabI n l) k))), (40, .bool (decide (qok (tabI n l) k))), (43, .pointer (some ⟨b2, 0, none⟩)), (44, .int .i64 n), (45, .int .i64 (n - 1)), (7, v90), (10, .int .i64 w)]) (fun ⟨p, w, k2⟩ H' => Ext H H' ∧ Ext H3 H' ∧ Ext H10 H' ∧ Ext H36 H' ∧ At W H' b2 ⟨42, [.int .i64 n, v], 2⟩ ∧ p ≤ n.toNat ∧ w = (p : Int) - 1 ∧ k2.length = n.toNat ∧ (∀ j, p ≤ j → j < n.toNat → k.getD j 0 = 8 ∧ k2.getD j 0 = 0) ∧ (∀ j, j < p → k2.getD j 0 = k.getD j 0) ∧ OwnK kI 2 W H' (fun b => H36.bd ≤ b) v90 k2 ∧ True) (fun ⟨p, w, k2⟩ => p) (n.toNat, n - 1, k) ⟨X108, X109, X110, X111, hb113, Nat.le_refl _, by omega, hkl, fun j a b => by omega, fun _ _ => rfl, ho112, trivial⟩ ⟨rfl, rfl, rfl, rfl, rfl, rfl, rfl, rfl, rfl, rfl, rfl, rfl, rfl, rfl, rfl, rfl, rfl, trivial⟩ ?_
          rintro ⟨p, w, k2⟩ H115 ⟨X116, X117, X118, X119, hb120, hp, hw, hk2, hhi, hlo, hoL2, _⟩
          refine AW.seq ?_
          refine AW.rs ?_
          refine AL.val rfl (.inl rfl) (HV.mv rfl) ?_
          refine AL.val rfl (.inl rfl) (HV.gei rfl rfl) ?_
          refine AL.val rfl (.inl rfl) (HV.mv rfl) ?_
          by_cases c121 : w ≥ 0
          · -- true
            have c121_ : decide (w ≥ 0) = true := decide_eq_true c121
            rw [c121_]
            refine AL.val rfl (.inr ⟨_, _, _, rfl, rfl, rfl⟩) (HV.mv rfl) ?_
            refine AL.val rfl (.inr ⟨_, _, _, rfl, rfl, rfl⟩) (HV.mv rfl) ?_
            obtain ⟨g122, z123, cs124, hz125, hK126, hC127, hg128, hP129⟩ := OwnK.ix (q := w) hoL2 sl25 (by omega) (by omega)
            have X130 := Ext.refl H115
            obtain rfl : cs124 = [.int .i64 z123] := hK126
            refine AL.val rfl (.inr ⟨_, _, _, rfl, rfl, rfl⟩) (hP129 rfl rfl) ?_
            refine AL.val rfl (.inr ⟨_, _, _, rfl, rfl, rfl⟩) (HV.ld rfl va2 (cells_first hC127 rfl)) ?_
            refine AL.val rfl (.inr ⟨_, _, _, rfl, rfl, rfl⟩) (HV.eqi rfl rfl) ?_
            refine AL.val rfl (.inl rfl) (HV.pickT rfl rfl) ?_
            refine AL.nx ?_
            refine AW.ifd rfl (fun c131 => ?_) (fun c131 => ?_)
            · -- then
              refine AW.skip ?_
              refine nrm_and ?_
              refine AW.block ?_
              refine AW.rs ?_
              refine AL.val rfl (.inl rfl) (HV.mv rfl) ?_
              refine AL.val rfl (.inl rfl) (HV.mv rfl) ?_
              obtain ⟨g132, z133, cs134, hz135, hK136, hC137, hg138, hP139⟩ := OwnK.ix (q := w) hoL2 sl25 (by omega) (by omega)
              obtain rfl : cs134 = [.int .i64 z133] := hK136
              refine AL.val rfl (.inl rfl) (hP139 rfl rfl) ?_
              refine AL.w0 (.inl rfl) (WV.stK (okx := fun _ => False) (x' := 0) hoL2 hg138 rfl rfl va2 (by omega) rfl (fun _ h => h.elim)) ?_
              rintro _ H140 ⟨hx141, ho142⟩
              have X143 := Ext.thru X116 hx141 (fun b hb => Nat.le_trans o86 (hoL2.blk b hb).1)
              have X144 := Ext.thru X117 hx141 (fun b hb => Nat.le_trans o87 (hoL2.blk b hb).1)
              have X145 := Ext.thru X118 hx141 (fun b hb => Nat.le_trans o88 (hoL2.blk b hb).1)
              have X146 := Ext.thru X119 hx141 (fun b hb => Nat.le_trans o89 (hoL2.blk b hb).1)
              have hb148 := hb120.but hx141 (fun e => by have q : H36.bd ≤ _ := (hoL2.blk _ e).1; omega)
              have ho149 := ho142.okk (ok' := fun b => H36.bd ≤ b) (fun b hb _ => hb.elim id False.elim)
              refine AL.nx ?_
              refine AW.reg ?_
              refine AL.val rfl (.inl rfl) (HV.mv rfl) ?_
              refine AL.val rfl (.inl rfl) (HV.sub rfl rfl (by omega)) ?_
              refine AL.val rfl (.inl rfl) (HV.as rfl) ?_
              refine AL.nil ?_
              refine nrm_blk (nrm_and ?_)
              exact ⟨(p - 1, w - 1, (k2.set (w : Int).toNat 0)), ⟨X143, X144, X145, X146, hb148, by omega, by omega, by simp [hk2], odo_hi hk2 hw (by omega) hp hz125 (by assumption) hhi hlo, odo_lo hk2 hw (by omega) hp hlo, ho149, trivial⟩, by first | omega | (dsimp only; omega), ⟨rfl, rfl, rfl, rfl, rfl, rfl, rfl, rfl, rfl, rfl, rfl, rfl, rfl, rfl, rfl, rfl, rfl, trivial⟩⟩
            · -- else
              refine AW.exit ?_
              refine ex_and (ex_and (ex_blk ?_))
              refine nrm_and ?_
              refine AW.seq ?_
              refine AW.rs ?_
              refine AL.val rfl (.inl rfl) (HV.mv rfl) ?_
              refine AL.val rfl (.inl rfl) (HV.lti rfl rfl) ?_
              refine AL.nx ?_
              refine AW.ifd rfl (fun c150 => ?_) (fun c150 => ?_)
              · -- then
                refine AW.rs ?_
                refine AL.val rfl (.inl rfl) (HV.as rfl) ?_
                refine AL.val rfl (.inl rfl) (HV.as rfl) ?_
                refine AL.val rfl (.inl rfl) (HV.as rfl) ?_
                refine AL.nx ?_
                refine AW.ret ?_
                refine ret_and (ret_blk (ret_and (ret_blk ?_)))
                refine post_three rfl rfl rfl rfl ?_ (.inr rfl)
                exact ⟨⟨_, [], _, _, rfl, ⟨fun _ _ => by first | (exfalso; omega) | exact he _ (Srch.stop hno (fun j hj => (hhi j (by omega) hj).1)), fun _ h => absurd hn5 h, fun h => absurd hok h⟩, OwnK.nil _⟩, X116⟩
              · -- else
                refine AW.skip ?_
                refine nrm_and ?_
                refine AW.reg ?_
                refine AL.val rfl (.inl rfl) (HV.mv rfl) ?_
                refine AL.val rfl (.inl rfl) (HV.mv rfl) ?_
                obtain ⟨g151, z152, cs153, hz154, hK155, hC156, hg157, hP158⟩ := OwnK.ix (q := w) hoL2 sl25 (by omega) (by omega)
                obtain rfl : cs153 = [.int .i64 z152] := hK155
                refine AL.val rfl (.inl rfl) (hP158 rfl rfl) ?_
                refine AL.val rfl (.inl rfl) (HV.ld rfl va2 (cells_first hC156 rfl)) ?_
                refine AL.val rfl (.inl rfl) (HV.add rfl rfl (by first | omega | (have := getD_in hW w.toNat; have e := hlo w.toNat (by omega); rw [gd hz154 (by omega)] at e; omega))) ?_
                obtain ⟨g159, z160, cs161, hz162, hK163, hC164, hg165, hP166⟩ := OwnK.ix (q := w) hoL2 sl25 (by omega) (by omega)
                obtain rfl : cs161 = [.int .i64 z160] := hK163
                refine AL.val rfl (.inl rfl) (hP166 rfl rfl) ?_
                refine AL.w0 (.inl rfl) (WV.stK (okx := fun _ => False) (x' := z152 + 1) hoL2 hg165 rfl rfl va2 (by omega) rfl (fun _ h => h.elim)) ?_
                rintro _ H167 ⟨hx168, ho169⟩
                have X170 := Ext.thru X116 hx168 (fun b hb => Nat.le_trans o86 (hoL2.blk b hb).1)
                have X171 := Ext.thru X117 hx168 (fun b hb => Nat.le_trans o87 (hoL2.blk b hb).1)
                have X172 := Ext.thru X118 hx168 (fun b hb => Nat.le_trans o88 (hoL2.blk b hb).1)
                have X173 := Ext.thru X119 hx168 (fun b hb => Nat.le_trans o89 (hoL2.blk b hb).1)
                have hb175 := hb120.but hx168 (fun e => by have q : H36.bd ≤ _ := (hoL2.blk _ e).1; omega)
                have ho176 := ho169.okk (ok' := fun b => H36.bd ≤ b) (fun b hb _ => hb.elim id False.elim)
                refine AL.nil ?_
                refine nrm_blk (nrm_and ?_)
                have hst : Step n.toNat k w.toNat (k2.set (w : Int).toNat (z152 + 1)) := by first | (exfalso; omega) | exact odo_inc hkl hk2 hw (by omega) hp hz125 (by assumption) hz154 hhi hlo
                have hv := hst.val hW
                have hW3 := hst.within hkl hW
                have hv3 := val_max hW3 (n := n.toNat) (by omega)
                exact ⟨(k2.set (w : Int).toNat (z152 + 1)), ⟨X170, X171, X172, X173, hb175, by rw [hst.len]; exact hkl, hW3, fun res h => he res (Srch.step hno hst h), ho176, trivial⟩, by first | omega | (dsimp only; omega), ⟨rfl, rfl, rfl, rfl, trivial⟩⟩
          · -- false
            have c121_ : decide (w ≥ 0) = false := decide_eq_false c121
            rw [c121_]
            refine AL.off rfl rfl (by decide) rfl ?_
            refine AL.off rfl rfl (by decide) rfl ?_
            refine AL.off rfl rfl (by decide) rfl ?_
            refine AL.off rfl rfl (by decide) rfl ?_
            refine AL.off rfl rfl (by decide) rfl ?_
            refine AL.val rfl (.inl rfl) (HV.pickF rfl rfl) ?_
            refine AL.nx ?_
            refine AW.cond rfl (fun h => by cases h) (fun _ => ?_)
            refine AW.exit ?_
            refine ex_and (ex_and (ex_blk ?_))
            refine nrm_and ?_
            refine AW.seq ?_
            refine AW.rs ?_
            refine AL.val rfl (.inl rfl) (HV.mv rfl) ?_
            refine AL.val rfl (.inl rfl) (HV.lti rfl rfl) ?_
            refine AL.nx ?_
            refine AW.ifd rfl (fun c178 => ?_) (fun c178 => ?_)
            · -- then
              refine AW.rs ?_
              refine AL.val rfl (.inl rfl) (HV.as rfl) ?_
              refine AL.val rfl (.inl rfl) (HV.as rfl) ?_
              refine AL.val rfl (.inl rfl) (HV.as rfl) ?_
              refine AL.nx ?_
              refine AW.ret ?_
              refine ret_and (ret_blk (ret_and (ret_blk ?_)))
              refine post_three rfl rfl rfl rfl ?_ (.inr rfl)
              exact ⟨⟨_, [], _, _, rfl, ⟨fun _ _ => by first | (exfalso; omega) | exact he _ (Srch.stop hno (fun j hj => (hhi j (by omega) hj).1)), fun _ h => absurd hn5 h, fun h => absurd hok h⟩, OwnK.nil _⟩, X116⟩
            · -- else
              refine AW.skip ?_
              refine nrm_and ?_
              refine AW.reg ?_
              refine AL.val rfl (.inl rfl) (HV.mv rfl) ?_
              refine AL.val rfl (.inl rfl) (HV.mv rfl) ?_
              obtain ⟨g179, z180, cs181, hz182, hK183, hC184, hg185, hP186⟩ := OwnK.ix (q := w) hoL2 sl25 (by omega) (by omega)
              have X187 := Ext.refl H115
              obtain rfl : cs181 = [.int .i64 z180] := hK183
              refine AL.val rfl (.inl rfl) (hP186 rfl rfl) ?_
              refine AL.val rfl (.inl rfl) (HV.ld rfl va2 (cells_first hC184 rfl)) ?_
              refine AL.val rfl (.inl rfl) (HV.add rfl rfl (by first | omega | (have := getD_in hW w.toNat; have e := hlo w.toNat (by omega); rw [gd hz182 (by omega)] at e; omega))) ?_
              obtain ⟨g188, z189, cs190, hz191, hK192, hC193, hg194, hP195⟩ := OwnK.ix (q := w) hoL2 sl25 (by omega) (by omega)
              obtain rfl : cs190 = [.int .i64 z189] := hK192
              refine AL.val rfl (.inl rfl) (hP195 rfl rfl) ?_
              refine AL.w0 (.inl rfl) (WV.stK (okx := fun _ => False) (x' := z180 + 1) hoL2 hg194 rfl rfl va2 (by omega) rfl (fun _ h => h.elim)) ?_
              rintro _ H196 ⟨hx197, ho198⟩
              have X199 := Ext.thru X116 hx197 (fun b hb => Nat.le_trans o86 (hoL2.blk b hb).1)
              have X200 := Ext.thru X117 hx197 (fun b hb => Nat.le_trans o87 (hoL2.blk b hb).1)
              have X201 := Ext.thru X118 hx197 (fun b hb => Nat.le_trans o88 (hoL2.blk b hb).1)
              have X202 := Ext.thru X119 hx197 (fun b hb => Nat.le_trans o89 (hoL2.blk b hb).1)
              have hb204 := hb120.but hx197 (fun e => by have q : H36.bd ≤ _ := (hoL2.blk _ e).1; omega)
              have ho205 := ho198.okk (ok' := fun b => H36.bd ≤ b) (fun b hb _ => hb.elim id False.elim)
              refine AL.nil ?_
              refine nrm_blk (nrm_and ?_)
              have hst : Step n.toNat k w.toNat (k2.set (w : Int).toNat (z180 + 1)) := by exfalso; omega
              have hv := hst.val hW
              have hW3 := hst.within hkl hW
              have hv3 := val_max hW3 (n := n.toNat) (by omega)
              exact ⟨(k2.set (w : Int).toNat (z180 + 1)), ⟨X199, X200, X201, X202, hb204, by rw [hst.len]; exact hkl, hW3, fun res h => he res (Srch.step hno hst h), ho205, trivial⟩, by first | omega | (dsimp only; omega), ⟨rfl, rfl, rfl, rfl, trivial⟩⟩

set_option maxRecDepth 100000 in
theorem law_FindWeights {v : Value} {l : List (List Int)} {ok : Nat → Prop} (n : Int) (hr : RdK (kR kI) W H ok v l) : ACalls Try.prog W 8 #[.agg #[.int .i64 n, v]] H (fun r H' => r = .bool true ∧ Ext H H') := by
  refine ACalls.of (args := [.agg #[.int .i64 n, v]]) Try.func8 rfl rfl ?_
  have X0 := Ext.refl H
  have hm1 := hr.max
  refine AW.rs ?_
  refine AL.w rfl (.inl rfl) (WV.bx rfl rfl) ?_
  rintro _ H3 ⟨b2, rfl, hx4, hn5, hb6⟩
  have o7 := Nat.le_trans X0.bd hn5
  have X8 := Ext.trans X0 hx4
  have X9 := Ext.refl H3
  refine AL.val rfl (.inl rfl) (HV.as rfl) ?_
  refine AL.nx ?_
  refine AW.rs ?_
  refine AL.val rfl (.inl rfl) (HV.as rfl) ?_
  refine AL.nx ?_
  refine AW.rs ?_
  refine AL.val rfl (.inl rfl) (HV.lda (cs := [.int .i64 n, v]) rfl va39 (at_cells hb6 rfl)) ?_
  refine AL.val rfl (.inl rfl) (HV.mv rfl) ?_
  refine AL.w rfl (.inl rfl) (WV.call fn19 rfl (szFamily_ok n (hr.ext X8) 1048576 (by omega))) ?_
  rintro _ H10 ⟨⟨q12, rfl, ha13, hb14, he15⟩, hx11⟩
  have X16 := Ext.trans X8 hx11
  have X17 := Ext.trans X9 hx11
  have hb18 := hb6.ext hx11
  refine AL.val rfl (.inl rfl) (HV.as rfl) ?_
  refine AL.nx ?_
  refine AW.seq ?_
  refine AW.rs ?_
  refine AL.val rfl (.inl rfl) (HV.mv rfl) ?_
  refine AL.val rfl (.inl rfl) (HV.lti rfl rfl) ?_
  refine AL.nx ?_
  refine AW.ifd rfl (fun c19 => ?_) (fun c19 => ?_)
  · -- then
    refine AW.rs ?_
    refine AL.val rfl (.inl rfl) (HV.as rfl) ?_
    refine AL.nx ?_
    refine AW.ret ?_
    refine ret_and ?_
    refine post_one rfl rfl ?_ (.inr rfl)
    exact ⟨rfl, X16⟩
  · -- else
    refine AW.skip ?_
    refine nrm_and ?_
    refine AW.rs ?_
    refine AL.val rfl (.inl rfl) (HV.lda (cs := [.int .i64 n, v]) rfl va39 (at_cells hb18 rfl)) ?_
    refine AL.w rfl (.inl rfl) (WV.call fn21 rfl (toFamily_ok n (hr.ext X16) (he15 (by omega)))) ?_
    rintro _ H21 ⟨⟨v20, rfl, ho23⟩, hx22⟩
    have X25 := Ext.trans X16 hx22
    have X26 := Ext.trans X17 hx22
    have hb27 := hb18.ext hx22
    have X28 := Ext.refl H21
    have hr24 := rd_ofO ho23.rd
    have y29 := hb27.lt
    have o30 := X25.bd
    have o31 := X26.bd
    have o32 := X28.bd
    refine AL.w rfl (.inl rfl) (WV.call fn33 rfl (specFw_ok n hr24)) ?_
    rintro _ H38 ⟨⟨v33, k34, q35, e36, rfl, hf37, ho40⟩, hx39⟩
    have X42 := Ext.trans X25 hx39
    have X43 := Ext.trans X26 hx39
    have X44 := Ext.trans X28 hx39
    have hb45 := hb27.ext hx39
    have X46 := Ext.refl H38
    have hr41 := ho40.rd
    refine AL.val rfl (.inl rfl) (HV.mv rfl) ?_
    refine AL.val rfl (.inl rfl) (HV.ex rfl rfl) ?_
    refine AL.val rfl (.inl rfl) (HV.ex rfl rfl) ?_
    refine AL.val rfl (.inl rfl) (HV.ex rfl rfl) ?_
    refine AL.val rfl (.inl rfl) (HV.as rfl) ?_
    refine AL.val rfl (.inl rfl) (HV.as rfl) ?_
    refine AL.val rfl (.inl rfl) (HV.as rfl) ?_
    refine AL.nx ?_
    refine AW.rs ?_
    refine AL.val rfl (.inl rfl) (HV.lda (cs := [.int .i64 n, v]) rfl va39 (at_cells hb45 rfl)) ?_
    have y47 := hb45.lt
    have o48 := X42.bd
    have o49 := X43.bd
    have o50 := X44.bd
    have o51 := X46.bd
    refine AL.w rfl (.inl rfl) (WV.call fn21 rfl (toFamily_ok n (hr.ext X42) (he15 (by omega)))) ?_
    rintro _ H53 ⟨⟨u52, rfl, ho55⟩, hx54⟩
    have X57 := Ext.trans X42 hx54
    have X58 := Ext.trans X43 hx54
    have X59 := Ext.trans X44 hx54
    have X60 := Ext.trans X46 hx54
    have hb61 := hb45.ext hx54
    have X62 := Ext.refl H53
    have ho56 := ho55.lo
    refine AL.w rfl (.inl rfl) (WV.al ze42 rfl) ?_
    rintro _ H65 ⟨b64, rfl, hx66, hn67, hb68⟩
    have o69 := Nat.le_trans X57.bd hn67
    have o70 := Nat.le_trans X58.bd hn67
    have o71 := Nat.le_trans X59.bd hn67
    have o72 := Nat.le_trans X60.bd hn67
    have o73 := Nat.le_trans X62.bd hn67
    have ne74 : b2 ≠ b64 := by have := hb61.lt; omega
    have X75 := Ext.trans X57 hx66
    have X76 := Ext.trans X58 hx66
    have X77 := Ext.trans X59 hx66
    have X78 := Ext.trans X60 hx66
    have X79 := Ext.trans X62 hx66
    have ho80 := ho56.ext hx66
    have hb81 := hb61.ext hx66
    have X82 := Ext.refl H65
    refine AL.w0 (.inl rfl) (WV.st rfl rfl va42 rfl hb68 (Nat.le_of_ble_eq_true rfl) (one_cons rfl (one_cons (sl_one1 (rd_ofO ho80.rd).isSl) one_nil))) ?_
    rintro _ H83 ⟨hx84, hb85⟩
    have X86 := Ext.thru X75 hx84 (fun z_ hz_ => by rw [hz_]; exact o69)
    have X87 := Ext.thru X76 hx84 (fun z_ hz_ => by rw [hz_]; exact o70)
    have X88 := Ext.thru X77 hx84 (fun z_ hz_ => by rw [hz_]; exact o71)
    have X89 := Ext.thru X78 hx84 (fun z_ hz_ => by rw [hz_]; exact o72)
    have X90 := Ext.thru X79 hx84 (fun z_ hz_ => by rw [hz_]; exact o73)
    have ho92 := ho80.but hx84 (fun b hb _ e => by have hb' : H38.bd ≤ b ∧ b < H53.bd := hb; have e' : b = b64 := e; omega) (fun z_ hz_ => by rw [hz_]; exact hb68.w)
    have hb93 := hb81.but hx84 ne74
    have hb94 : At W H83 b64 ⟨42, [.int .i64 n, u52], 2⟩ := hb85
    refine AL.nx ?_
    refine AW.rs ?_
    refine AL.val rfl (.inl rfl) (HV.lda (cs := [.int .i64 n, u52]) rfl va42 (at_cells hb94 rfl)) ?_
    have X95 := Ext.refl H83
    have y96 := hb93.lt
    have y97 := hb94.lt
    have o98 := X86.bd
    have o99 := X87.bd
    have o100 := X88.bd
    have o101 := X89.bd
    have o102 := X90.bd
    have o103 := X95.bd
    have a104 := ho92.ltb
    have s105 := ho92.lo
    refine AL.w rfl (.inl rfl) (WV.call fn34 rfl (implFw_ok n (rd_ofO ho92.rd))) ?_
    rintro _ H111 ⟨⟨v106, k107, q108, e109, rfl, hf110, ho113⟩, hx112⟩
    have X115 := Ext.trans X86 hx112
    have X116 := Ext.trans X87 hx112
    have X117 := Ext.trans X88 hx112
    have X118 := Ext.trans X89 hx112
    have X119 := Ext.trans X90 hx112
    have X120 := Ext.trans X95 hx112
    have s122 := s105.ext hx112
    have ho121 := ho92.ext hx112
    have hb123 := hb93.ext hx112
    have hb124 := hb94.ext hx112
    have X125 := Ext.refl H111
    have hd126 := fwRes.det hf37 hf110
    simp only [Prod.mk.injEq] at hd126
    have := fwRes.len hf110
    refine AL.val rfl (.inl rfl) (HV.mv rfl) ?_
    refine AL.val rfl (.inl rfl) (HV.ex rfl rfl) ?_
    refine AL.val rfl (.inl rfl) (HV.ex rfl rfl) ?_
    refine AL.val rfl (.inl rfl) (HV.ex rfl rfl) ?_
    refine AL.val rfl (.inl rfl) (HV.as rfl) ?_
    refine AL.val rfl (.inl rfl) (HV.as rfl) ?_
    refine AL.val rfl (.inl rfl) (HV.as rfl) ?_
    refine AL.nx ?_
    refine AW.seq ?_
    refine AW.rs ?_
    refine AL.val rfl (.inl rfl) (HV.mv rfl) ?_
    refine AL.val rfl (.inl rfl) (HV.mv rfl) ?_
    refine AL.w rfl (.inl rfl) (WV.call fn18 rfl (eqS_ok ho113.rd (hr41.ext X118))) ?_
    rintro _ H128 ⟨rfl, hx129⟩
    have X130 := Ext.trans X115 hx129
    have X131 := Ext.trans X116 hx129
    have X132 := Ext.trans X117 hx129
    have X133 := Ext.trans X118 hx129
    have X134 := Ext.trans X119 hx129
    have X135 := Ext.trans X120 hx129
    have X136 := Ext.trans X125 hx129
    have s138 := s122.ext hx129
    have ho137 := ho121.ext hx129
    have ho139 := ho113.ext hx129
    have hb140 := hb123.ext hx129
    have hb141 := hb124.ext hx129
    refine AL.val rfl (.inl rfl) (HV.not rfl) ?_
    refine AL.val rfl (.inl rfl) (HV.mv rfl) ?_
    by_cases c142 : k107 = k34
    · -- false
      have c142_ : (!decide (k107 = k34)) = false := by rw [decide_eq_true c142]; rfl
      rw [c142_]
      refine AL.val rfl (.inr ⟨_, _, _, rfl, rfl, rfl⟩) (HV.mv rfl) ?_
      refine AL.val rfl (.inr ⟨_, _, _, rfl, rfl, rfl⟩) (HV.mv rfl) ?_
      refine AL.val rfl (.inr ⟨_, _, _, rfl, rfl, rfl⟩) (HV.nei rfl rfl) ?_
      refine AL.val rfl (.inl rfl) (HV.pickF rfl rfl) ?_
      refine AL.val rfl (.inl rfl) (HV.mv rfl) ?_
      by_cases c143 : q108 ≠ q35
      · -- true
        have c143_ : decide (q108 ≠ q35) = true := decide_eq_true c143
        rw [c143_]
        refine AL.off rfl rfl (by decide) rfl ?_
        refine AL.off rfl rfl (by decide) rfl ?_
        refine AL.off rfl rfl (by decide) rfl ?_
        refine AL.val rfl (.inl rfl) (HV.pickT rfl rfl) ?_
        refine AL.nx ?_
        refine AW.cond rfl (fun _ => ?_) (fun h => by cases h)
        refine AW.rs ?_
        refine AL.val rfl (.inl rfl) (HV.as rfl) ?_
        refine AL.nx ?_
        refine AW.ret ?_
        refine ret_and ?_
        refine post_one rfl rfl ?_ (.inr rfl)
        exfalso; first | omega | exact absurd hd126.1.symm c143 | (simp at c143; done) | exact absurd c143 (by simp)
      · -- false
        have c143_ : decide (q108 ≠ q35) = false := decide_eq_false c143
        rw [c143_]
        refine AL.val rfl (.inr ⟨_, _, _, rfl, rfl, rfl⟩) (HV.mv rfl) ?_
        refine AL.val rfl (.inr ⟨_, _, _, rfl, rfl, rfl⟩) (HV.mv rfl) ?_
        refine AL.val rfl (.inr ⟨_, _, _, rfl, rfl, rfl⟩) (HV.nei rfl rfl) ?_
        refine AL.val rfl (.inl rfl) (HV.pickF rfl rfl) ?_
        refine AL.nx ?_
        refine AW.ifd rfl (fun c145 => ?_) (fun c145 => ?_)
        · -- then
          refine AW.rs ?_
          refine AL.val rfl (.inl rfl) (HV.as rfl) ?_
          refine AL.nx ?_
          refine AW.ret ?_
          refine ret_and ?_
          refine post_one rfl rfl ?_ (.inr rfl)
          exfalso; first | omega | exact absurd hd126.1.symm c145 | (simp at c145; done) | exact absurd c145 (by simp)
        · -- else
          refine AW.skip ?_
          refine nrm_and ?_
          refine AW.seq ?_
          refine AW.seq ?_
          refine AW.draw' [0, 0, 2, 7, 15] mixed (by rfl) ?_
          refine Dr.read 0 _ 51 _ rfl rfl rfl rfl rfl (RV.of (by intro _ _ h; cases h) (.inl rfl) (fun _ xd => HV.lda (cs := [.int .i64 n, u52]) rfl va42 (fun j u hu => rdc_ext xd ((at_cells hb141 rfl) j u hu)))) ?_
          refine Dr.read 1 _ 52 _ rfl rfl rfl rfl rfl (RV.of (by intro _ _ h; cases h) (.inl rfl) (fun _ xd => HV.lda (cs := [.int .i64 n, v]) rfl va39 (fun j u hu => rdc_ext xd ((at_cells hb140 rfl) j u hu)))) ?_
          refine Dr.eff 2 _ _ rfl (by intro d h; cases h; exact ⟨rfl, rfl⟩) rfl rfl rfl (EC.of (by intro _ _ h; cases h) (.inl rfl) (WV.call fn21 rfl (toFamily_ok n (hr.ext X130) (he15 (by omega))))) (fun v H' h => .inl (h.2)) ?_
          rintro _ H147 ⟨⟨v146, rfl, ho149⟩, hx148⟩
          have X151 := Ext.trans X130 hx148
          have X152 := Ext.trans X131 hx148
          have X153 := Ext.trans X132 hx148
          have X154 := Ext.trans X133 hx148
          have X155 := Ext.trans X134 hx148
          have X156 := Ext.trans X135 hx148
          have X157 := Ext.trans X136 hx148
          have s159 := s138.ext hx148
          have ho158 := ho137.ext hx148
          have ho160 := ho139.ext hx148
          have hb161 := hb140.ext hx148
          have hb162 := hb141.ext hx148
          have X163 := Ext.refl H147
          have hr150 := rd_ofO ho149.rd
          refine Dr.eff 3 _ _ rfl (by intro d h; cases h; exact ⟨rfl, rfl⟩) rfl rfl rfl (EC.of (by intro _ _ h; cases h) (.inl rfl) (WV.call fn23 rfl (eqFam_ok n n (rd_ofO ho158.rd) hr150))) (fun v H' h => .inl (h.2)) ?_
          rintro _ H164 ⟨rfl, hx165⟩
          have X166 := Ext.trans X151 hx165
          have X167 := Ext.trans X152 hx165
          have X168 := Ext.trans X153 hx165
          have X169 := Ext.trans X154 hx165
          have X170 := Ext.trans X155 hx165
          have X171 := Ext.trans X156 hx165
          have X172 := Ext.trans X157 hx165
          have X173 := Ext.trans X163 hx165
          have s175 := s159.ext hx165
          have ho174 := ho158.ext hx165
          have ho176 := ho160.ext hx165
          have hb177 := hb161.ext hx165
          have hb178 := hb162.ext hx165
          refine Dr.read 4 _ 55 _ rfl rfl rfl rfl rfl (RV.of (by intro _ _ h; cases h) (.inl rfl) (fun _ xd => HV.not rfl)) ?_
          refine Dr.fin rfl ?_
          refine nrm_and ?_
          refine AW.ifn rfl (fun c179 => ?_) (fun c179 => ?_)
          · -- then
            refine AW.rs ?_
            refine AL.val rfl (.inl rfl) (HV.as rfl) ?_
            refine AL.nx ?_
            refine AW.ret ?_
            refine ret_and ?_
            refine post_one rfl rfl ?_ (.inr rfl)
            exfalso; first | omega | exact absurd hd126.1.symm c179 | (simp at c179; done) | exact absurd c179 (by simp)
          · -- else
            refine AW.skip ?_
            refine nrm_and ?_
            refine AW.rs ?_
            refine AL.val rfl (.inl rfl) (HV.as rfl) ?_
            refine AL.nx ?_
            refine AW.rs ?_
            refine AL.val rfl (.inl rfl) (HV.lda (cs := [.int .i64 n, u52]) rfl va42 (at_cells hb178 rfl)) ?_
            refine AL.val rfl (.inl rfl) (HV.mv rfl) ?_
            refine AL.w rfl (.inl rfl) (WV.call fn26 rfl (markFam_ok n ho174 (he15 (by omega)) 1 (by omega))) ?_
            rintro _ H180 ⟨⟨q181, rfl, ha182⟩, hx183⟩
            have X184 := Ext.thru X166 hx183 (fun b hb => Nat.le_trans o48 hb.1)
            have X185 := Ext.thru X167 hx183 (fun b hb => Nat.le_trans o49 hb.1)
            have X186 := Ext.thru X168 hx183 (fun b hb => Nat.le_trans o50 hb.1)
            have X187 := Ext.thru X169 hx183 (fun b hb => Nat.le_trans o51 hb.1)
            have ho192 := ho176.but hx183 (fun b hb _ e => by have h1 : H83.bd ≤ b := hb; have h2 : H38.bd ≤ b ∧ b < H53.bd := e; omega) (fun b hb => by have h2 : H38.bd ≤ b ∧ b < H53.bd := hb; have := hb177.w; omega)
            have hb193 := hb177.but hx183 (fun e => by have q : H38.bd ≤ b2 ∧ b2 < H53.bd := e; omega)
            refine AL.val rfl (.inl rfl) (HV.as rfl) ?_
            refine AL.nx ?_
            refine AW.seq ?_
            refine AW.rs ?_
            refine AL.val rfl (.inl rfl) (HV.mv rfl) ?_
            refine AL.val rfl (.inl rfl) (HV.lti rfl rfl) ?_
            refine AL.val rfl (.inl rfl) (HV.mv rfl) ?_
            by_cases c195 : q181 < 0
            · -- true
              have c195_ : decide (q181 < 0) = true := decide_eq_true c195
              rw [c195_]
              refine AL.off rfl rfl (by decide) rfl ?_
              refine AL.off rfl rfl (by decide) rfl ?_
              refine AL.off rfl rfl (by decide) rfl ?_
              refine AL.off rfl rfl (by decide) rfl ?_
              refine AL.val rfl (.inl rfl) (HV.pickT rfl rfl) ?_
              refine AL.val rfl (.inl rfl) (HV.mv rfl) ?_
              refine AL.off rfl rfl (by decide) rfl ?_
              refine AL.off rfl rfl (by decide) rfl ?_
              refine AL.off rfl rfl (by decide) rfl ?_
              refine AL.val rfl (.inl rfl) (HV.pickT rfl rfl) ?_
              refine AL.val rfl (.inl rfl) (HV.mv rfl) ?_
              refine AL.off rfl rfl (by decide) rfl ?_
              refine AL.off rfl rfl (by decide) rfl ?_
              refine AL.off rfl rfl (by decide) rfl ?_
              refine AL.val rfl (.inl rfl) (HV.pickT rfl rfl) ?_
              refine AL.nx ?_
              refine AW.cond rfl (fun _ => ?_) (fun h => by cases h)
              refine AW.rs ?_
              refine AL.val rfl (.inl rfl) (HV.as rfl) ?_
              refine AL.nx ?_
              refine AW.ret ?_
              refine ret_and ?_
              refine post_one rfl rfl ?_ (.inr rfl)
              exfalso; first | omega | exact absurd hd126.1.symm c195 | (simp at c195; done) | exact absurd c195 (by simp)
            · -- false
              have c195_ : decide (q181 < 0) = false := decide_eq_false c195
              rw [c195_]
              refine AL.val rfl (.inr ⟨_, _, _, rfl, rfl, rfl⟩) (HV.mv rfl) ?_
              refine AL.val rfl (.inr ⟨_, _, _, rfl, rfl, rfl⟩) (HV.mv rfl) ?_
              refine AL.w rfl (.inr ⟨_, _, _, rfl, rfl, rfl⟩) (WV.call fn18 rfl (eqS_ok ho192.rd (hr41.ext X187))) ?_
              rintro _ H197 ⟨rfl, hx198⟩
              have X199 := Ext.trans X184 hx198
              have X200 := Ext.trans X185 hx198
              have X201 := Ext.trans X186 hx198
              have X202 := Ext.trans X187 hx198
              have ho203 := ho192.ext hx198
              have hb204 := hb193.ext hx198
              refine AL.val rfl (.inr ⟨_, _, _, rfl, rfl, rfl⟩) (HV.not rfl) ?_
              refine AL.val rfl (.inl rfl) (HV.pickF rfl rfl) ?_
              refine AL.val rfl (.inl rfl) (HV.mv rfl) ?_
              by_cases c205 : k107 = k34
              · -- false
                have c205_ : (!decide (k107 = k34)) = false := by rw [decide_eq_true c205]; rfl
                rw [c205_]
                refine AL.val rfl (.inr ⟨_, _, _, rfl, rfl, rfl⟩) (HV.mv rfl) ?_
                refine AL.val rfl (.inr ⟨_, _, _, rfl, rfl, rfl⟩) (HV.mv rfl) ?_
                refine AL.val rfl (.inr ⟨_, _, _, rfl, rfl, rfl⟩) (HV.nei rfl rfl) ?_
                refine AL.val rfl (.inl rfl) (HV.pickF rfl rfl) ?_
                refine AL.val rfl (.inl rfl) (HV.mv rfl) ?_
                by_cases c206 : q108 ≠ q35
                · -- true
                  have c206_ : decide (q108 ≠ q35) = true := decide_eq_true c206
                  rw [c206_]
                  refine AL.off rfl rfl (by decide) rfl ?_
                  refine AL.off rfl rfl (by decide) rfl ?_
                  refine AL.off rfl rfl (by decide) rfl ?_
                  refine AL.val rfl (.inl rfl) (HV.pickT rfl rfl) ?_
                  refine AL.nx ?_
                  refine AW.cond rfl (fun _ => ?_) (fun h => by cases h)
                  refine AW.rs ?_
                  refine AL.val rfl (.inl rfl) (HV.as rfl) ?_
                  refine AL.nx ?_
                  refine AW.ret ?_
                  refine ret_and ?_
                  refine post_one rfl rfl ?_ (.inr rfl)
                  exfalso; first | omega | exact absurd hd126.1.symm c206 | (simp at c206; done) | exact absurd c206 (by simp)
                · -- false
                  have c206_ : decide (q108 ≠ q35) = false := decide_eq_false c206
                  rw [c206_]
                  refine AL.val rfl (.inr ⟨_, _, _, rfl, rfl, rfl⟩) (HV.mv rfl) ?_
                  refine AL.val rfl (.inr ⟨_, _, _, rfl, rfl, rfl⟩) (HV.mv rfl) ?_
                  refine AL.val rfl (.inr ⟨_, _, _, rfl, rfl, rfl⟩) (HV.nei rfl rfl) ?_
                  refine AL.val rfl (.inl rfl) (HV.pickF rfl rfl) ?_
                  refine AL.nx ?_
                  refine AW.ifd rfl (fun c208 => ?_) (fun c208 => ?_)
                  · -- then
                    refine AW.rs ?_
                    refine AL.val rfl (.inl rfl) (HV.as rfl) ?_
                    refine AL.nx ?_
                    refine AW.ret ?_
                    refine ret_and ?_
                    refine post_one rfl rfl ?_ (.inr rfl)
                    exfalso; first | omega | exact absurd hd126.1.symm c208 | (simp at c208; done) | exact absurd c208 (by simp)
                  · -- else
                    refine AW.skip ?_
                    refine nrm_and ?_
                    refine AW.rs ?_
                    refine AL.val rfl (.inl rfl) (HV.as rfl) ?_
                    refine AL.nx ?_
                    refine AW.rs ?_
                    refine AL.val rfl (.inl rfl) (HV.mv rfl) ?_
                    refine AL.val rfl (.inl rfl) (HV.mv rfl) ?_
                    refine AL.w rfl (.inl rfl) (WV.call fn27 rfl (markS_ok 1 ho203 (by omega))) ?_
                    rintro _ H209 ⟨k210, rfl, hk211, hh212, hx213, ho214⟩
                    have X215 := Ext.thru X199 hx213 (fun b hb => Nat.le_trans o98 (ho203.blk b hb).1)
                    have X216 := Ext.thru X200 hx213 (fun b hb => Nat.le_trans o99 (ho203.blk b hb).1)
                    have X217 := Ext.thru X201 hx213 (fun b hb => Nat.le_trans o100 (ho203.blk b hb).1)
                    have X218 := Ext.thru X202 hx213 (fun b hb => Nat.le_trans o101 (ho203.blk b hb).1)
                    have hb219 := hb204.but hx213 (fun e => by have q : H83.bd ≤ _ := (ho203.blk _ e).1; omega)
                    refine AL.val rfl (.inl rfl) (HV.as rfl) ?_
                    refine AL.nx ?_
                    refine AW.rs ?_
                    refine AL.val rfl (.inl rfl) (HV.as rfl) ?_
                    refine AL.nx ?_
                    refine AW.rs ?_
                    refine AL.val rfl (.inl rfl) (HV.mv rfl) ?_
                    refine AL.val rfl (.inl rfl) (HV.mv rfl) ?_
                    refine AL.w rfl (.inl rfl) (WV.call fn28 rfl (heldS_ok 1 ho214.rd (by omega) hh212)) ?_
                    rintro _ H220 ⟨rfl, hx221⟩
                    have X222 := Ext.trans X215 hx221
                    have X223 := Ext.trans X216 hx221
                    have X224 := Ext.trans X217 hx221
                    have X225 := Ext.trans X218 hx221
                    have ho226 := ho214.ext hx221
                    have hb227 := hb219.ext hx221
                    refine AL.val rfl (.inl rfl) (HV.as rfl) ?_
                    refine AL.nx ?_
                    refine AW.seq ?_
                    refine AW.rs ?_
                    refine AL.val rfl (.inl rfl) (HV.mv rfl) ?_
                    refine AL.val rfl (.inl rfl) (HV.lti rfl rfl) ?_
                    refine AL.nx ?_
                    refine AW.ifd rfl (fun c228 => ?_) (fun c228 => ?_)
                    · -- then
                      refine AW.rs ?_
                      refine AL.val rfl (.inl rfl) (HV.as rfl) ?_
                      refine AL.nx ?_
                      refine AW.ret ?_
                      refine ret_and ?_
                      refine post_one rfl rfl ?_ (.inr rfl)
                      exfalso; first | omega | exact absurd hd126.1.symm c228 | (simp at c228; done) | exact absurd c228 (by simp)
                    · -- else
                      refine AW.skip ?_
                      refine nrm_and ?_
                      refine AW.seq ?_
                      refine AW.rs ?_
                      refine AL.val rfl (.inl rfl) (HV.mv rfl) ?_
                      refine AL.val rfl (.inl rfl) (HV.mv rfl) ?_
                      refine AL.val rfl (.inl rfl) (HV.nei rfl rfl) ?_
                      refine AL.nx ?_
                      refine AW.ifd rfl (fun c229 => ?_) (fun c229 => ?_)
                      · -- then
                        refine AW.rs ?_
                        refine AL.val rfl (.inl rfl) (HV.as rfl) ?_
                        refine AL.nx ?_
                        refine AW.ret ?_
                        refine ret_and ?_
                        refine post_one rfl rfl ?_ (.inr rfl)
                        exfalso; first | omega | exact absurd hd126.1.symm c229 | (simp at c229; done) | exact absurd c229 (by simp)
                      · -- else
                        refine AW.skip ?_
                        refine nrm_and ?_
                        refine AW.rs ?_
                        refine AL.val rfl (.inl rfl) (HV.lda (cs := [.int .i64 n, v]) rfl va39 (at_cells hb227 rfl)) ?_
                        refine AL.w rfl (.inl rfl) (WV.call fn21 rfl (toFamily_ok n (hr.ext X222) (he15 (by omega)))) ?_
                        rintro _ H231 ⟨⟨v230, rfl, ho233⟩, hx232⟩
                        have X235 := Ext.trans X222 hx232
                        have X236 := Ext.trans X223 hx232
                        have X237 := Ext.trans X224 hx232
                        have X238 := Ext.trans X225 hx232
                        have ho239 := ho226.ext hx232
                        have hb240 := hb227.ext hx232
                        have X241 := Ext.refl H231
                        have hr234 := rd_ofO ho233.rd
                        have y242 := hb240.lt
                        have o243 := X235.bd
                        have o244 := X236.bd
                        have o245 := X237.bd
                        have o246 := X238.bd
                        have o247 := X241.bd
                        have a248 := ho239.ltb
                        refine AL.w rfl (.inl rfl) (WV.call fn34 rfl (implFw_ok n hr234)) ?_
                        rintro _ H254 ⟨⟨v249, k250, q251, e252, rfl, hf253, ho256⟩, hx255⟩
                        have X258 := Ext.trans X235 hx255
                        have X259 := Ext.trans X236 hx255
                        have X260 := Ext.trans X237 hx255
                        have X261 := Ext.trans X238 hx255
                        have X262 := Ext.trans X241 hx255
                        have ho263 := ho239.ext hx255
                        have hb264 := hb240.ext hx255
                        have X265 := Ext.refl H254
                        have hd266 := fwRes.det hf37 hf253
                        simp only [Prod.mk.injEq] at hd266
                        have hr257 := ho256.rd
                        refine AL.val rfl (.inl rfl) (HV.mv rfl) ?_
                        refine AL.val rfl (.inl rfl) (HV.ex rfl rfl) ?_
                        refine AL.val rfl (.inl rfl) (HV.ex rfl rfl) ?_
                        refine AL.val rfl (.inl rfl) (HV.ex rfl rfl) ?_
                        refine AL.val rfl (.inl rfl) (HV.as rfl) ?_
                        refine AL.val rfl (.inl rfl) (HV.as rfl) ?_
                        refine AL.val rfl (.inl rfl) (HV.as rfl) ?_
                        refine AL.nx ?_
                        refine AW.seq ?_
                        refine AW.rs ?_
                        refine AL.val rfl (.inl rfl) (HV.mv rfl) ?_
                        refine AL.val rfl (.inl rfl) (HV.mv rfl) ?_
                        refine AL.w rfl (.inl rfl) (WV.call fn18 rfl (eqS_ok hr257 (hr41.ext X261))) ?_
                        rintro _ H267 ⟨rfl, hx268⟩
                        have X269 := Ext.trans X258 hx268
                        have X270 := Ext.trans X259 hx268
                        have X271 := Ext.trans X260 hx268
                        have X272 := Ext.trans X261 hx268
                        have X273 := Ext.trans X262 hx268
                        have X274 := Ext.trans X265 hx268
                        have ho275 := ho263.ext hx268
                        have hb276 := hb264.ext hx268
                        refine AL.val rfl (.inl rfl) (HV.not rfl) ?_
                        refine AL.val rfl (.inl rfl) (HV.mv rfl) ?_
                        by_cases c277 : k250 = k34
                        · -- false
                          have c277_ : (!decide (k250 = k34)) = false := by rw [decide_eq_true c277]; rfl
                          rw [c277_]
                          refine AL.val rfl (.inr ⟨_, _, _, rfl, rfl, rfl⟩) (HV.mv rfl) ?_
                          refine AL.val rfl (.inr ⟨_, _, _, rfl, rfl, rfl⟩) (HV.mv rfl) ?_
                          refine AL.val rfl (.inr ⟨_, _, _, rfl, rfl, rfl⟩) (HV.nei rfl rfl) ?_
                          refine AL.val rfl (.inl rfl) (HV.pickF rfl rfl) ?_
                          refine AL.val rfl (.inl rfl) (HV.mv rfl) ?_
                          by_cases c278 : q251 ≠ q35
                          · -- true
                            have c278_ : decide (q251 ≠ q35) = true := decide_eq_true c278
                            rw [c278_]
                            refine AL.off rfl rfl (by decide) rfl ?_
                            refine AL.off rfl rfl (by decide) rfl ?_
                            refine AL.off rfl rfl (by decide) rfl ?_
                            refine AL.val rfl (.inl rfl) (HV.pickT rfl rfl) ?_
                            refine AL.nx ?_
                            refine AW.cond rfl (fun _ => ?_) (fun h => by cases h)
                            refine AW.rs ?_
                            refine AL.val rfl (.inl rfl) (HV.as rfl) ?_
                            refine AL.nx ?_
                            refine AW.ret ?_
                            refine ret_and ?_
                            refine post_one rfl rfl ?_ (.inr rfl)
                            exfalso; first | omega | exact absurd hd126.1.symm c278 | exact absurd hd266.1.symm c278 | (simp at c278; done) | exact absurd c278 (by simp)
                          · -- false
                            have c278_ : decide (q251 ≠ q35) = false := decide_eq_false c278
                            rw [c278_]
                            refine AL.val rfl (.inr ⟨_, _, _, rfl, rfl, rfl⟩) (HV.mv rfl) ?_
                            refine AL.val rfl (.inr ⟨_, _, _, rfl, rfl, rfl⟩) (HV.mv rfl) ?_
                            refine AL.val rfl (.inr ⟨_, _, _, rfl, rfl, rfl⟩) (HV.nei rfl rfl) ?_
                            refine AL.val rfl (.inl rfl) (HV.pickF rfl rfl) ?_
                            refine AL.nx ?_
                            refine AW.ifd rfl (fun c280 => ?_) (fun c280 => ?_)
                            · -- then
                              refine AW.rs ?_
                              refine AL.val rfl (.inl rfl) (HV.as rfl) ?_
                              refine AL.nx ?_
                              refine AW.ret ?_
                              refine ret_and ?_
                              refine post_one rfl rfl ?_ (.inr rfl)
                              exfalso; first | omega | exact absurd hd126.1.symm c280 | exact absurd hd266.1.symm c280 | (simp at c280; done) | exact absurd c280 (by simp)
                            · -- else
                              refine AW.skip ?_
                              refine nrm_and ?_
                              refine AW.rs ?_
                              refine AL.val rfl (.inl rfl) (HV.as rfl) ?_
                              refine AL.nx ?_
                              refine AW.rs ?_
                              refine AL.val rfl (.inl rfl) (HV.mv rfl) ?_
                              refine AL.val rfl (.inl rfl) (HV.mv rfl) ?_
                              refine AL.w rfl (.inl rfl) (WV.call fn28 rfl (heldS_ok 1 ho275.rd (by omega) hh212)) ?_
                              rintro _ H281 ⟨rfl, hx282⟩
                              have X283 := Ext.trans X269 hx282
                              have X284 := Ext.trans X270 hx282
                              have X285 := Ext.trans X271 hx282
                              have X286 := Ext.trans X272 hx282
                              have X287 := Ext.trans X273 hx282
                              have X288 := Ext.trans X274 hx282
                              have ho289 := ho275.ext hx282
                              have hb290 := hb276.ext hx282
                              refine AL.val rfl (.inl rfl) (HV.as rfl) ?_
                              refine AL.nx ?_
                              refine AW.seq ?_
                              refine AW.rs ?_
                              refine AL.val rfl (.inl rfl) (HV.mv rfl) ?_
                              refine AL.val rfl (.inl rfl) (HV.lti rfl rfl) ?_
                              refine AL.nx ?_
                              refine AW.ifd rfl (fun c291 => ?_) (fun c291 => ?_)
                              · -- then
                                refine AW.rs ?_
                                refine AL.val rfl (.inl rfl) (HV.as rfl) ?_
                                refine AL.nx ?_
                                refine AW.ret ?_
                                refine ret_and ?_
                                refine post_one rfl rfl ?_ (.inr rfl)
                                exfalso; first | omega | exact absurd hd126.1.symm c291 | exact absurd hd266.1.symm c291 | (simp at c291; done) | exact absurd c291 (by simp)
                              · -- else
                                refine AW.skip ?_
                                refine nrm_and ?_
                                refine AW.seq ?_
                                refine AW.rs ?_
                                refine AL.val rfl (.inl rfl) (HV.mv rfl) ?_
                                refine AL.val rfl (.inl rfl) (HV.mv rfl) ?_
                                refine AL.val rfl (.inl rfl) (HV.nei rfl rfl) ?_
                                refine AL.nx ?_
                                refine AW.ifd rfl (fun c292 => ?_) (fun c292 => ?_)
                                · -- then
                                  refine AW.rs ?_
                                  refine AL.val rfl (.inl rfl) (HV.as rfl) ?_
                                  refine AL.nx ?_
                                  refine AW.ret ?_
                                  refine ret_and ?_
                                  refine post_one rfl rfl ?_ (.inr rfl)
                                  exfalso; first | omega | exact absurd hd126.1.symm c292 | exact absurd hd266.1.symm c292 | (simp at c292; done) | exact absurd c292 (by simp)
                                · -- else
                                  refine AW.skip ?_
                                  refine nrm_and ?_
                                  refine AW.rs ?_
                                  refine AL.val rfl (.inl rfl) (HV.as rfl) ?_
                                  refine AL.nx ?_
                                  refine AW.ret ?_
                                  refine post_one rfl rfl ?_ (.inr rfl)
                                  exact ⟨rfl, X283⟩
                        · -- true
                          have c277_ : (!decide (k250 = k34)) = true := by rw [decide_eq_false c277]; rfl
                          rw [c277_]
                          refine AL.off rfl rfl (by decide) rfl ?_
                          refine AL.off rfl rfl (by decide) rfl ?_
                          refine AL.off rfl rfl (by decide) rfl ?_
                          refine AL.val rfl (.inl rfl) (HV.pickT rfl rfl) ?_
                          refine AL.val rfl (.inl rfl) (HV.mv rfl) ?_
                          refine AL.off rfl rfl (by decide) rfl ?_
                          refine AL.off rfl rfl (by decide) rfl ?_
                          refine AL.off rfl rfl (by decide) rfl ?_
                          refine AL.val rfl (.inl rfl) (HV.pickT rfl rfl) ?_
                          refine AL.nx ?_
                          refine AW.cond rfl (fun _ => ?_) (fun h => by cases h)
                          refine AW.rs ?_
                          refine AL.val rfl (.inl rfl) (HV.as rfl) ?_
                          refine AL.nx ?_
                          refine AW.ret ?_
                          refine ret_and ?_
                          refine post_one rfl rfl ?_ (.inr rfl)
                          exfalso; first | omega | exact absurd hd126.1.symm c277 | exact absurd hd266.1.symm c277 | (simp at c277; done) | exact absurd c277 (by simp)
              · -- true
                have c205_ : (!decide (k107 = k34)) = true := by rw [decide_eq_false c205]; rfl
                rw [c205_]
                refine AL.off rfl rfl (by decide) rfl ?_
                refine AL.off rfl rfl (by decide) rfl ?_
                refine AL.off rfl rfl (by decide) rfl ?_
                refine AL.val rfl (.inl rfl) (HV.pickT rfl rfl) ?_
                refine AL.val rfl (.inl rfl) (HV.mv rfl) ?_
                refine AL.off rfl rfl (by decide) rfl ?_
                refine AL.off rfl rfl (by decide) rfl ?_
                refine AL.off rfl rfl (by decide) rfl ?_
                refine AL.val rfl (.inl rfl) (HV.pickT rfl rfl) ?_
                refine AL.nx ?_
                refine AW.cond rfl (fun _ => ?_) (fun h => by cases h)
                refine AW.rs ?_
                refine AL.val rfl (.inl rfl) (HV.as rfl) ?_
                refine AL.nx ?_
                refine AW.ret ?_
                refine ret_and ?_
                refine post_one rfl rfl ?_ (.inr rfl)
                exfalso; first | omega | exact absurd hd126.1.symm c205 | exact absurd hd266.1.symm c205 | (simp at c205; done) | exact absurd c205 (by simp)
    · -- true
      have c142_ : (!decide (k107 = k34)) = true := by rw [decide_eq_false c142]; rfl
      rw [c142_]
      refine AL.off rfl rfl (by decide) rfl ?_
      refine AL.off rfl rfl (by decide) rfl ?_
      refine AL.off rfl rfl (by decide) rfl ?_
      refine AL.val rfl (.inl rfl) (HV.pickT rfl rfl) ?_
      refine AL.val rfl (.inl rfl) (HV.mv rfl) ?_
      refine AL.off rfl rfl (by decide) rfl ?_
      refine AL.off rfl rfl (by decide) rfl ?_
      refine AL.off rfl rfl (by decide) rfl ?_
      refine AL.val rfl (.inl rfl) (HV.pickT rfl rfl) ?_
      refine AL.nx ?_
      refine AW.cond rfl (fun _ => ?_) (fun h => by cases h)
      refine AW.rs ?_
      refine AL.val rfl (.inl rfl) (HV.as rfl) ?_
      refine AL.nx ?_
      refine AW.ret ?_
      refine ret_and ?_
      refine post_one rfl rfl ?_ (.inr rfl)
      exfalso; first | omega | exact absurd hd126.1.symm c142 | exact absurd hd266.1.symm c142 | (simp at c142; done) | exact absurd c142 (by simp)
end Go.Proofs.Ytbjcgcililpfdaa.VC
