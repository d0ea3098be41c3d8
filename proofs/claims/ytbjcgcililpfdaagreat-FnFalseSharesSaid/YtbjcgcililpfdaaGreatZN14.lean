/- Walks. -/
import Derived.Test.YtbjcgcililpfdaaGreatZN13
import Derived.Test.YtbjcgcililpfdaaGreatZN12
set_option linter.unusedVariables false
set_option linter.unusedSimpArgs false
namespace Go.Proofs.YtbjcgcililpfdaaGreat.VC
open Go Go.RowKit
variable {W : World} {H : Hp}

open VI (throughM)
/-! ### Choices by masks -/
def chM {σ : Type} : List σ → Nat → List σ
  | [], _ => []
  | s :: t, c => if c % 2 = 1 then s :: chM t (c / 2) else chM t (c / 2)
theorem chM_sub {σ : Type} : ∀ (l : List σ) (c : Nat), (chM l c).Sublist l
  | [], _ => List.Sublist.refl _
  | s :: t, c => by
    unfold chM
    split
    · exact (chM_sub t (c / 2)).cons_cons s
    · exact (chM_sub t (c / 2)).cons s
theorem chM_all {σ : Type} : ∀ {l U : List σ}, U.Sublist l → ∃ c, c < 2 ^ l.length ∧ chM l c = U
  | [], U, h => ⟨0, by simp, (List.sublist_nil.1 h).symm⟩
  | s :: t, U, h => by
    cases h with
    | cons _ h =>
      obtain ⟨c, h1, h2⟩ := chM_all h
      refine ⟨2 * c, by rw [List.length_cons, Nat.pow_succ]; omega, ?_⟩
      unfold chM
      rw [if_neg (by omega), show 2 * c / 2 = c by omega]; exact h2
    | cons_cons _ h =>
      obtain ⟨c, h1, h2⟩ := chM_all h
      refine ⟨2 * c + 1, by rw [List.length_cons, Nat.pow_succ]; omega, ?_⟩
      unfold chM
      rw [if_pos (by omega), show (2 * c + 1) / 2 = c by omega, h2]
theorem chM_snoc {σ : Type} (s : σ) : ∀ (l : List σ) (c : Nat), chM (l ++ [s]) c = chM l c ++ (if c / 2 ^ l.length % 2 = 1 then [s] else [])
  | [], c => by
    show (if c % 2 = 1 then s :: chM [] (c / 2) else chM [] (c / 2)) = [] ++ _
    simp [chM]
  | a :: t, c => by
    have e : c / 2 ^ (a :: t).length = c / 2 / 2 ^ t.length := by rw [List.length_cons, Nat.pow_succ, Nat.mul_comm, Nat.div_div_eq_div_mul]
    rw [e]
    have ih := chM_snoc s t (c / 2)
    show (if c % 2 = 1 then a :: chM (t ++ [s]) (c / 2) else chM (t ++ [s]) (c / 2)) = (if c % 2 = 1 then a :: chM t (c / 2) else chM t (c / 2)) ++ _
    rw [ih]
    split <;> rfl
def ones (q : Int) : Int := bt .and .i64 (IntKind.i64.wrap (IntKind.u64.wrap ((IntKind.u64.wrap ((IntKind.u64.wrap ((bt .and .u64 (IntKind.u64.wrap (((IntKind.u64.wrap ((bt .and .u64 ((IntKind.u64.wrap ((bt .and .u64 ((q : Int).fdiv (2 ^ min (1 : Int).toNat IntKind.u64.bits)) 6148914691236517205) + (bt .and .u64 q 6148914691236517205)) : Int).fdiv (2 ^ min (2 : Int).toNat IntKind.u64.bits)) 3689348814741910323) + (bt .and .u64 (IntKind.u64.wrap ((bt .and .u64 ((q : Int).fdiv (2 ^ min (1 : Int).toNat IntKind.u64.bits)) 6148914691236517205) + (bt .and .u64 q 6148914691236517205))) 3689348814741910323)) : Int).fdiv (2 ^ min (4 : Int).toNat IntKind.u64.bits)) + (IntKind.u64.wrap ((bt .and .u64 ((IntKind.u64.wrap ((bt .and .u64 ((q : Int).fdiv (2 ^ min (1 : Int).toNat IntKind.u64.bits)) 6148914691236517205) + (bt .and .u64 q 6148914691236517205)) : Int).fdiv (2 ^ min (2 : Int).toNat IntKind.u64.bits)) 3689348814741910323) + (bt .and .u64 (IntKind.u64.wrap ((bt .and .u64 ((q : Int).fdiv (2 ^ min (1 : Int).toNat IntKind.u64.bits)) 6148914691236517205) + (bt .and .u64 q 6148914691236517205))) 3689348814741910323))))) 1085102592571150095) + ((bt .and .u64 (IntKind.u64.wrap (((IntKind.u64.wrap ((bt .and .u64 ((IntKind.u64.wrap ((bt .and .u64 ((q : Int).fdiv (2 ^ min (1 : Int).toNat IntKind.u64.bits)) 6148914691236517205) + (bt .and .u64 q 6148914691236517205)) : Int).fdiv (2 ^ min (2 : Int).toNat IntKind.u64.bits)) 3689348814741910323) + (bt .and .u64 (IntKind.u64.wrap ((bt .and .u64 ((q : Int).fdiv (2 ^ min (1 : Int).toNat IntKind.u64.bits)) 6148914691236517205) + (bt .and .u64 q 6148914691236517205))) 3689348814741910323)) : Int).fdiv (2 ^ min (4 : Int).toNat IntKind.u64.bits)) + (IntKind.u64.wrap ((bt .and .u64 ((IntKind.u64.wrap ((bt .and .u64 ((q : Int).fdiv (2 ^ min (1 : Int).toNat IntKind.u64.bits)) 6148914691236517205) + (bt .and .u64 q 6148914691236517205)) : Int).fdiv (2 ^ min (2 : Int).toNat IntKind.u64.bits)) 3689348814741910323) + (bt .and .u64 (IntKind.u64.wrap ((bt .and .u64 ((q : Int).fdiv (2 ^ min (1 : Int).toNat IntKind.u64.bits)) 6148914691236517205) + (bt .and .u64 q 6148914691236517205))) 3689348814741910323))))) 1085102592571150095 : Int).fdiv (2 ^ min (8 : Int).toNat IntKind.u64.bits)))) + ((IntKind.u64.wrap ((bt .and .u64 (IntKind.u64.wrap (((IntKind.u64.wrap ((bt .and .u64 ((IntKind.u64.wrap ((bt .and .u64 ((q : Int).fdiv (2 ^ min (1 : Int).toNat IntKind.u64.bits)) 6148914691236517205) + (bt .and .u64 q 6148914691236517205)) : Int).fdiv (2 ^ min (2 : Int).toNat IntKind.u64.bits)) 3689348814741910323) + (bt .and .u64 (IntKind.u64.wrap ((bt .and .u64 ((q : Int).fdiv (2 ^ min (1 : Int).toNat IntKind.u64.bits)) 6148914691236517205) + (bt .and .u64 q 6148914691236517205))) 3689348814741910323)) : Int).fdiv (2 ^ min (4 : Int).toNat IntKind.u64.bits)) + (IntKind.u64.wrap ((bt .and .u64 ((IntKind.u64.wrap ((bt .and .u64 ((q : Int).fdiv (2 ^ min (1 : Int).toNat IntKind.u64.bits)) 6148914691236517205) + (bt .and .u64 q 6148914691236517205)) : Int).fdiv (2 ^ min (2 : Int).toNat IntKind.u64.bits)) 3689348814741910323) + (bt .and .u64 (IntKind.u64.wrap ((bt .and .u64 ((q : Int).fdiv (2 ^ min (1 : Int).toNat IntKind.u64.bits)) 6148914691236517205) + (bt .and .u64 q 6148914691236517205))) 3689348814741910323))))) 1085102592571150095) + ((bt .and .u64 (IntKind.u64.wrap (((IntKind.u64.wrap ((bt .and .u64 ((IntKind.u64.wrap ((bt .and .u64 ((q : Int).fdiv (2 ^ min (1 : Int).toNat IntKind.u64.bits)) 6148914691236517205) + (bt .and .u64 q 6148914691236517205)) : Int).fdiv (2 ^ min (2 : Int).toNat IntKind.u64.bits)) 3689348814741910323) + (bt .and .u64 (IntKind.u64.wrap ((bt .and .u64 ((q : Int).fdiv (2 ^ min (1 : Int).toNat IntKind.u64.bits)) 6148914691236517205) + (bt .and .u64 q 6148914691236517205))) 3689348814741910323)) : Int).fdiv (2 ^ min (4 : Int).toNat IntKind.u64.bits)) + (IntKind.u64.wrap ((bt .and .u64 ((IntKind.u64.wrap ((bt .and .u64 ((q : Int).fdiv (2 ^ min (1 : Int).toNat IntKind.u64.bits)) 6148914691236517205) + (bt .and .u64 q 6148914691236517205)) : Int).fdiv (2 ^ min (2 : Int).toNat IntKind.u64.bits)) 3689348814741910323) + (bt .and .u64 (IntKind.u64.wrap ((bt .and .u64 ((q : Int).fdiv (2 ^ min (1 : Int).toNat IntKind.u64.bits)) 6148914691236517205) + (bt .and .u64 q 6148914691236517205))) 3689348814741910323))))) 1085102592571150095 : Int).fdiv (2 ^ min (8 : Int).toNat IntKind.u64.bits))) : Int).fdiv (2 ^ min (16 : Int).toNat IntKind.u64.bits)))) + ((IntKind.u64.wrap ((IntKind.u64.wrap ((bt .and .u64 (IntKind.u64.wrap (((IntKind.u64.wrap ((bt .and .u64 ((IntKind.u64.wrap ((bt .and .u64 ((q : Int).fdiv (2 ^ min (1 : Int).toNat IntKind.u64.bits)) 6148914691236517205) + (bt .and .u64 q 6148914691236517205)) : Int).fdiv (2 ^ min (2 : Int).toNat IntKind.u64.bits)) 3689348814741910323) + (bt .and .u64 (IntKind.u64.wrap ((bt .and .u64 ((q : Int).fdiv (2 ^ min (1 : Int).toNat IntKind.u64.bits)) 6148914691236517205) + (bt .and .u64 q 6148914691236517205))) 3689348814741910323)) : Int).fdiv (2 ^ min (4 : Int).toNat IntKind.u64.bits)) + (IntKind.u64.wrap ((bt .and .u64 ((IntKind.u64.wrap ((bt .and .u64 ((q : Int).fdiv (2 ^ min (1 : Int).toNat IntKind.u64.bits)) 6148914691236517205) + (bt .and .u64 q 6148914691236517205)) : Int).fdiv (2 ^ min (2 : Int).toNat IntKind.u64.bits)) 3689348814741910323) + (bt .and .u64 (IntKind.u64.wrap ((bt .and .u64 ((q : Int).fdiv (2 ^ min (1 : Int).toNat IntKind.u64.bits)) 6148914691236517205) + (bt .and .u64 q 6148914691236517205))) 3689348814741910323))))) 1085102592571150095) + ((bt .and .u64 (IntKind.u64.wrap (((IntKind.u64.wrap ((bt .and .u64 ((IntKind.u64.wrap ((bt .and .u64 ((q : Int).fdiv (2 ^ min (1 : Int).toNat IntKind.u64.bits)) 6148914691236517205) + (bt .and .u64 q 6148914691236517205)) : Int).fdiv (2 ^ min (2 : Int).toNat IntKind.u64.bits)) 3689348814741910323) + (bt .and .u64 (IntKind.u64.wrap ((bt .and .u64 ((q : Int).fdiv (2 ^ min (1 : Int).toNat IntKind.u64.bits)) 6148914691236517205) + (bt .and .u64 q 6148914691236517205))) 3689348814741910323)) : Int).fdiv (2 ^ min (4 : Int).toNat IntKind.u64.bits)) + (IntKind.u64.wrap ((bt .and .u64 ((IntKind.u64.wrap ((bt .and .u64 ((q : Int).fdiv (2 ^ min (1 : Int).toNat IntKind.u64.bits)) 6148914691236517205) + (bt .and .u64 q 6148914691236517205)) : Int).fdiv (2 ^ min (2 : Int).toNat IntKind.u64.bits)) 3689348814741910323) + (bt .and .u64 (IntKind.u64.wrap ((bt .and .u64 ((q : Int).fdiv (2 ^ min (1 : Int).toNat IntKind.u64.bits)) 6148914691236517205) + (bt .and .u64 q 6148914691236517205))) 3689348814741910323))))) 1085102592571150095 : Int).fdiv (2 ^ min (8 : Int).toNat IntKind.u64.bits)))) + ((IntKind.u64.wrap ((bt .and .u64 (IntKind.u64.wrap (((IntKind.u64.wrap ((bt .and .u64 ((IntKind.u64.wrap ((bt .and .u64 ((q : Int).fdiv (2 ^ min (1 : Int).toNat IntKind.u64.bits)) 6148914691236517205) + (bt .and .u64 q 6148914691236517205)) : Int).fdiv (2 ^ min (2 : Int).toNat IntKind.u64.bits)) 3689348814741910323) + (bt .and .u64 (IntKind.u64.wrap ((bt .and .u64 ((q : Int).fdiv (2 ^ min (1 : Int).toNat IntKind.u64.bits)) 6148914691236517205) + (bt .and .u64 q 6148914691236517205))) 3689348814741910323)) : Int).fdiv (2 ^ min (4 : Int).toNat IntKind.u64.bits)) + (IntKind.u64.wrap ((bt .and .u64 ((IntKind.u64.wrap ((bt .and .u64 ((q : Int).fdiv (2 ^ min (1 : Int).toNat IntKind.u64.bits)) 6148914691236517205) + (bt .and .u64 q 6148914691236517205)) : Int).fdiv (2 ^ min (2 : Int).toNat IntKind.u64.bits)) 3689348814741910323) + (bt .and .u64 (IntKind.u64.wrap ((bt .and .u64 ((q : Int).fdiv (2 ^ min (1 : Int).toNat IntKind.u64.bits)) 6148914691236517205) + (bt .and .u64 q 6148914691236517205))) 3689348814741910323))))) 1085102592571150095) + ((bt .and .u64 (IntKind.u64.wrap (((IntKind.u64.wrap ((bt .and .u64 ((IntKind.u64.wrap ((bt .and .u64 ((q : Int).fdiv (2 ^ min (1 : Int).toNat IntKind.u64.bits)) 6148914691236517205) + (bt .and .u64 q 6148914691236517205)) : Int).fdiv (2 ^ min (2 : Int).toNat IntKind.u64.bits)) 3689348814741910323) + (bt .and .u64 (IntKind.u64.wrap ((bt .and .u64 ((q : Int).fdiv (2 ^ min (1 : Int).toNat IntKind.u64.bits)) 6148914691236517205) + (bt .and .u64 q 6148914691236517205))) 3689348814741910323)) : Int).fdiv (2 ^ min (4 : Int).toNat IntKind.u64.bits)) + (IntKind.u64.wrap ((bt .and .u64 ((IntKind.u64.wrap ((bt .and .u64 ((q : Int).fdiv (2 ^ min (1 : Int).toNat IntKind.u64.bits)) 6148914691236517205) + (bt .and .u64 q 6148914691236517205)) : Int).fdiv (2 ^ min (2 : Int).toNat IntKind.u64.bits)) 3689348814741910323) + (bt .and .u64 (IntKind.u64.wrap ((bt .and .u64 ((q : Int).fdiv (2 ^ min (1 : Int).toNat IntKind.u64.bits)) 6148914691236517205) + (bt .and .u64 q 6148914691236517205))) 3689348814741910323))))) 1085102592571150095 : Int).fdiv (2 ^ min (8 : Int).toNat IntKind.u64.bits))) : Int).fdiv (2 ^ min (16 : Int).toNat IntKind.u64.bits))) : Int).fdiv (2 ^ min (32 : Int).toNat IntKind.u64.bits))))) 127
/-! ### How many ones, and what the choices leave -/
def cntM : Nat → Nat → Nat
  | 0, _ => 0
  | n + 1, c => c % 2 + cntM n (c / 2)
theorem chM_cnt {σ : Type} : ∀ (l : List σ) (c : Nat), (chM l c).length = cntM l.length c
  | [], _ => rfl
  | s :: t, c => by
    have ih := chM_cnt t (c / 2)
    unfold chM
    show _ = c % 2 + cntM t.length (c / 2)
    split
    · rw [List.length_cons, ih]; omega
    · rw [ih]; omega
theorem cntM_zero : ∀ n, cntM n 0 = 0
  | 0 => rfl
  | n + 1 => by show 0 % 2 + cntM n (0 / 2) = 0; rw [show 0 / 2 = 0 from rfl, cntM_zero n]
theorem cntM_top : ∀ {n m c : Nat}, c < 2 ^ n → n ≤ m → cntM m c = cntM n c
  | 0, m, c, h, _ => by
    obtain rfl : c = 0 := by simpa using h
    rw [cntM_zero]; rfl
  | n + 1, 0, c, _, h => by omega
  | n + 1, m + 1, c, h, hm => by
    show c % 2 + cntM m (c / 2) = c % 2 + cntM n (c / 2)
    rw [cntM_top (n := n) (m := m) (c := c / 2) (by rw [Nat.pow_succ] at h; omega) (by omega)]
theorem ones_cnt {s : Nat} (hs : s < 1024) : ones (s : Int) = (cntM 10 s : Nat) := by
  have := (by decide +kernel : ∀ s : Fin 1024, ones (s.val : Int) = (cntM 10 s.val : Nat)) ⟨s, hs⟩
  exact this
theorem ones_ch {σ : Type} {l : List σ} {c : Nat} (hl : l.length ≤ 10) (hc : c < 2 ^ l.length) : ones (c : Int) = ((chM l c).length : Nat) := by
  have q := Nat.pow_le_pow_right (n := 2) (by decide) hl
  rw [ones_cnt (by omega), chM_cnt, cntM_top hc hl]
theorem chM_take {σ : Type} (l : List σ) (c : Nat) {i : Nat} {z : σ} (hz : l[i]? = some z) : chM (l.take (i + 1)) c = chM (l.take i) c ++ (if c / 2 ^ i % 2 = 1 then [z] else []) := by
  obtain ⟨hi, e⟩ := List.getElem?_eq_some_iff.1 hz
  rw [List.take_succ_eq_append_getElem hi, e, chM_snoc, List.length_take, show min i l.length = i by omega]
def goodM (p : Int) (l : List (Int × Int)) (ag : Int) (m : Nat) (c : Nat) : Prop := (chM l c).length = m ∧ nearC p l ag (thrC p (chM l c))
noncomputable instance (p : Int) (l : List (Int × Int)) (ag : Int) (m c : Nat) : Decidable (goodM p l ag m c) := Classical.propDecidable _
noncomputable def nrC (p : Int) (l : List (Int × Int)) (ag : Int) (m n : Nat) : List (List Int) := ((List.range n).filter (fun c => decide (goodM p l ag m c))).map (fun c => thrC p (chM l c))
theorem nrC_y {p : Int} {l : List (Int × Int)} {ag : Int} {m n : Nat} (h : goodM p l ag m n) : nrC p l ag m (n + 1) = nrC p l ag m n ++ [thrC p (chM l n)] := by
  unfold nrC; simp [List.range_succ, List.filter_append, h]
theorem nrC_n {p : Int} {l : List (Int × Int)} {ag : Int} {m n : Nat} (h : ¬ goodM p l ag m n) : nrC p l ag m (n + 1) = nrC p l ag m n := by
  unfold nrC; simp [List.range_succ, List.filter_append, h]
theorem nrC_len (p : Int) (l : List (Int × Int)) (ag : Int) (m n : Nat) : (nrC p l ag m n).length ≤ n := by
  unfold nrC
  rw [List.length_map]
  exact Nat.le_trans (List.length_filter_le _ _) (by simp)
theorem nrC_mem {p : Int} {l : List (Int × Int)} {ag : Int} {m : Nat} (c : List Int) : c ∈ nrC p l ag m (2 ^ l.length) ↔ isNear p l ag m c := by
  unfold nrC isNear
  rw [List.mem_map]
  constructor
  · rintro ⟨n, hn, rfl⟩
    obtain ⟨_, h2⟩ := List.mem_filter.1 hn
    have h3 : goodM p l ag m n := by simpa using h2
    exact ⟨_, chM_sub l n, h3.1, rfl, h3.2⟩
  · rintro ⟨U, h1, h2, rfl, h4⟩
    obtain ⟨n, hn, rfl⟩ := chM_all h1
    exact ⟨n, List.mem_filter.2 ⟨List.mem_range.2 hn, decide_eq_true (⟨h2, h4⟩ : goodM p l ag m n)⟩, rfl⟩
/-- What is sorted and thinned is what the reference has. -/
theorem near_fin {p dg ag : Int} {l : List (Int × Int)} (hd : 0 ≤ dg) {ts ts' : List RT} (h1 : ts.map (fun x => x.2.1) = nrC p l ag (dg + 1).toNat (2 ^ l.length)) (h2 : List.Perm ts' ts) (h3 : ts'.Pairwise (fun x y => ¬ lessC y.2.1 x.2.1)) :
    (thinN ts' ts'.length).map (fun x => x.2.1) = nearK p l dg ag := by
  obtain ⟨q1, q2⟩ := thin_ok h3
  refine near_eq (m := (dg + 1).toNat) ⟨q1, fun c => (q2 c).trans ?_⟩ (wk_near (by omega))
  rw [(h2.map (fun x : RT => x.2.1)).mem_iff, h1]
  exact nrC_mem c
set_option maxRecDepth 100000 in
theorem ones64_ok (q : Int) : ACalls Tryz.prog W 93 #[.int .u64 q] H (fun r H' => r = .int .i64 (ones q) ∧ Ext H H') := by
  refine ACalls.of (args := [.int .u64 q]) Tryz.func93 rfl rfl ?_
  have X0 := Ext.refl H
  refine AW.rs ?_
  refine AL.val rfl (.inl rfl) (HV.as rfl) ?_
  refine AL.nx ?_
  refine AW.rs ?_
  refine AL.val rfl (.inl rfl) (HV.mv rfl) ?_
  refine AL.val rfl (.inl rfl) (HV.shr rfl rfl (by omega)) ?_
  refine AL.val rfl (.inl rfl) (HV.bits (by simp) rfl rfl) ?_
  refine AL.val rfl (.inl rfl) (HV.mv rfl) ?_
  refine AL.val rfl (.inl rfl) (HV.bits (by simp) rfl rfl) ?_
  refine AL.val rfl (.inl rfl) (HV.addw rfl rfl) ?_
  refine AL.val rfl (.inl rfl) (HV.as rfl) ?_
  refine AL.nx ?_
  refine AW.rs ?_
  refine AL.val rfl (.inl rfl) (HV.mv rfl) ?_
  refine AL.val rfl (.inl rfl) (HV.shr rfl rfl (by omega)) ?_
  refine AL.val rfl (.inl rfl) (HV.bits (by simp) rfl rfl) ?_
  refine AL.val rfl (.inl rfl) (HV.mv rfl) ?_
  refine AL.val rfl (.inl rfl) (HV.bits (by simp) rfl rfl) ?_
  refine AL.val rfl (.inl rfl) (HV.addw rfl rfl) ?_
  refine AL.val rfl (.inl rfl) (HV.as rfl) ?_
  refine AL.nx ?_
  refine AW.rs ?_
  refine AL.val rfl (.inl rfl) (HV.mv rfl) ?_
  refine AL.val rfl (.inl rfl) (HV.shr rfl rfl (by omega)) ?_
  refine AL.val rfl (.inl rfl) (HV.mv rfl) ?_
  refine AL.val rfl (.inl rfl) (HV.addw rfl rfl) ?_
  refine AL.val rfl (.inl rfl) (HV.bits (by simp) rfl rfl) ?_
  refine AL.val rfl (.inl rfl) (HV.as rfl) ?_
  refine AL.nx ?_
  refine AW.rs ?_
  refine AL.val rfl (.inl rfl) (HV.mv rfl) ?_
  refine AL.val rfl (.inl rfl) (HV.mv rfl) ?_
  refine AL.val rfl (.inl rfl) (HV.shr rfl rfl (by omega)) ?_
  refine AL.val rfl (.inl rfl) (HV.addw rfl rfl) ?_
  refine AL.val rfl (.inl rfl) (HV.as rfl) ?_
  refine AL.nx ?_
  refine AW.rs ?_
  refine AL.val rfl (.inl rfl) (HV.mv rfl) ?_
  refine AL.val rfl (.inl rfl) (HV.mv rfl) ?_
  refine AL.val rfl (.inl rfl) (HV.shr rfl rfl (by omega)) ?_
  refine AL.val rfl (.inl rfl) (HV.addw rfl rfl) ?_
  refine AL.val rfl (.inl rfl) (HV.as rfl) ?_
  refine AL.nx ?_
  refine AW.rs ?_
  refine AL.val rfl (.inl rfl) (HV.mv rfl) ?_
  refine AL.val rfl (.inl rfl) (HV.mv rfl) ?_
  refine AL.val rfl (.inl rfl) (HV.shr rfl rfl (by omega)) ?_
  refine AL.val rfl (.inl rfl) (HV.addw rfl rfl) ?_
  refine AL.val rfl (.inl rfl) (HV.as rfl) ?_
  refine AL.nx ?_
  refine AW.rs ?_
  refine AL.val rfl (.inl rfl) (HV.mv rfl) ?_
  refine AL.val rfl (.inl rfl) (HV.cv (by rw [Tryz.underlying59]; rfl) Tryz.underlying3 rfl) ?_
  refine AL.val rfl (.inl rfl) (HV.bits (by simp) rfl rfl) ?_
  refine AL.val rfl (.inl rfl) (HV.as rfl) ?_
  refine AL.nx ?_
  refine AW.ret ?_
  refine post_one rfl rfl ?_ (.inr rfl)
  exact ⟨rfl, X0⟩

set_option maxRecDepth 100000 in
theorem ones_ok (q : Int) : ACalls Tryz.prog W 77 #[.int .u64 q] H (fun r H' => r = .int .i64 (ones q) ∧ Ext H H') := by
  refine ACalls.of (args := [.int .u64 q]) Tryz.func77 rfl rfl ?_
  have X0 := Ext.refl H
  refine AW.rs ?_
  refine AL.val rfl (.inl rfl) (HV.as rfl) ?_
  refine AL.nx ?_
  refine AW.seq ?_
  refine AW.cond rfl (fun h => by cases h) (fun _ => ?_)
  refine AW.skip ?_
  refine nrm_and ?_
  refine AW.rs ?_
  refine AL.val rfl (.inl rfl) (HV.mv rfl) ?_
  refine AL.w rfl (.inl rfl) (WV.call fn93 rfl (ones64_ok (W := W) q)) ?_
  rintro _ H2 ⟨rfl, hx3⟩
  have X4 := Ext.trans X0 hx3
  refine AL.val rfl (.inl rfl) (HV.as rfl) ?_
  refine AL.nx ?_
  refine AW.ret ?_
  refine post_one rfl rfl ?_ (.inr rfl)
  exact ⟨rfl, X4⟩

set_option maxRecDepth 100000 in
theorem size_ok (q : Int) : ACalls Tryz.prog W 64 #[.int .u64 q] H (fun r H' => r = .int .i64 (ones q) ∧ Ext H H') := by
  refine ACalls.of (args := [.int .u64 q]) Tryz.func64 rfl rfl ?_
  have X0 := Ext.refl H
  refine AW.rs ?_
  refine AL.val rfl (.inl rfl) (HV.as rfl) ?_
  refine AL.nx ?_
  refine AW.rs ?_
  refine AL.val rfl (.inl rfl) (HV.mv rfl) ?_
  refine AL.w rfl (.inl rfl) (WV.call fn77 rfl (ones_ok (W := W) q)) ?_
  rintro _ H1 ⟨rfl, hx2⟩
  have X3 := Ext.trans X0 hx2
  refine AL.val rfl (.inl rfl) (HV.as rfl) ?_
  refine AL.nx ?_
  refine AW.ret ?_
  refine post_one rfl rfl ?_ (.inr rfl)
  exact ⟨rfl, X3⟩

theorem thrO_ok {v : Value} {l : List (Int × Int)} {ok : Nat → Prop} {p : Int} (hr : RdK (kP kI kI) W H ok v l) (hv : vS p l) : ACalls Tryz.prog W 49 #[.int .i64 p, v] H (fun r H' => Ext H H' ∧ OwnK kI 2 W H' (fun b => H.bd ≤ b) r (thrC p l)) := throughO_ok hr hv

set_option maxRecDepth 100000 in
theorem near1_ok {bp bs ba bo B : Nat} {vs vo : Value} {l : List (Int × Int)} {out : List (List Int)} {p ag : Int} (hrs : RdK (kP kI kI) W H (fun b => b < B) vs l) (ho : OwnD (kO 2 kI) 25 W H (fun b => B ≤ b ∧ b ≠ bo) vo out) (hbp : At W H bp ⟨2, [.int .i64 p], 1⟩) (hbs : At W H bs ⟨28, [vs], 1⟩) (hba : At W H ba ⟨2, [.int .i64 ag], 1⟩) (hbo : At W H bo ⟨37, [vo], 1⟩) (hB : (bp < B ∧ bs < B ∧ ba < B) ∧ B ≤ bo) (hv : vS p l) {vh : Value} {ch : List (Int × Int)} {okh : Nat → Prop} (hrh : RdK (kP kI kI) W H okh vh ch) (hvc : vS p ch) (hol : out.length + 1 ≤ 1000000) : ACalls Tryz.prog W 48 #[vh, .pointer (some ⟨bp, 0, none⟩), .pointer (some ⟨bs, 0, none⟩), .pointer (some ⟨ba, 0, none⟩), .pointer (some ⟨bo, 0, none⟩)] H (fun r H' => (∃ v', At W H' bo ⟨37, [v'], 1⟩ ∧ OwnD (kO 2 kI) 25 W H' (fun b => B ≤ b ∧ b ≠ bo) v' (if nearC p l ag (thrC p ch) then out ++ [thrC p ch] else out)) ∧ But (fun b => B ≤ b) H H') := by
  refine ACalls.of (args := [vh, .pointer (some ⟨bp, 0, none⟩), .pointer (some ⟨bs, 0, none⟩), .pointer (some ⟨ba, 0, none⟩), .pointer (some ⟨bo, 0, none⟩)]) Tryz.func48 rfl rfl ?_
  have X0 := Ext.refl H
  have hm1 := hrh.max
  have hp := hv.1.1
  have hl10 := vS_len hv
  have iso := ho.own.isSl
  have hml : (missL p l (thrC p ch)).length ≤ l.length := missN_len _ _ _ _
  refine AW.rs ?_
  refine AL.val rfl (.inl rfl) (HV.ld rfl va2 (at_cell hbp rfl)) ?_
  refine AL.val rfl (.inl rfl) (HV.mv rfl) ?_
  have y2 := hbp.lt
  have y3 := hbs.lt
  have y4 := hba.lt
  have y5 := hbo.lt
  have o6 := X0.bd
  refine AL.w rfl (.inl rfl) (WV.call fn49 rfl (thrO_ok hrh hvc)) ?_
  rintro v7 H8 ⟨hx9, ho10⟩
  have X11 := Ext.trans X0 hx9
  have hb12 := hbp.ext hx9
  have hb13 := hbs.ext hx9
  have hb14 := hba.ext hx9
  have hb15 := hbo.ext hx9
  refine AL.val rfl (.inl rfl) (HV.as rfl) ?_
  refine AL.nx ?_
  refine AW.seq ?_
  refine AW.draw' [0, 1, 0, 0, 0, 28, 60, 127, 0, 511] mixed (by rfl) ?_
  refine Dr.read 0 _ 10 _ rfl rfl rfl rfl rfl (RV.of (by intro _ _ h; cases h) (.inl rfl) (fun _ xd => HV.ld rfl va28 (rdc_ext xd (at_cell hb13 rfl)))) ?_
  refine Dr.read 1 _ 11 _ rfl rfl rfl rfl rfl (RV.of (by intro _ _ h; cases h) (.inl rfl) (fun _ xd => HV.len Tryz.underlying28 rfl hrs.isSl)) ?_
  refine Dr.read 2 _ 12 _ rfl rfl rfl rfl rfl (RV.of (by intro _ _ h; cases h) (.inl rfl) (fun _ xd => HV.ld rfl va2 (rdc_ext xd (at_cell hb12 rfl)))) ?_
  refine Dr.read 3 _ 13 _ rfl rfl rfl rfl rfl (RV.of (by intro _ _ h; cases h) (.inl rfl) (fun _ xd => HV.ld rfl va28 (rdc_ext xd (at_cell hb13 rfl)))) ?_
  refine Dr.read 4 _ 14 _ rfl rfl rfl rfl rfl (RV.of (by intro _ _ h; cases h) (.inl rfl) (fun _ xd => HV.mv rfl)) ?_
  refine Dr.read 8 _ 18 _ rfl rfl rfl rfl rfl (RV.of (by intro _ _ h; cases h) (.inl rfl) (fun _ xd => HV.ld rfl va2 (rdc_ext xd (at_cell hb14 rfl)))) ?_
  have X17 := Ext.refl H8
  have y18 := hb12.lt
  have y19 := hb13.lt
  have y20 := hb14.lt
  have y21 := hb15.lt
  have o22 := X11.bd
  have o23 := X17.bd
  have a24 := ho10.ltb
  refine Dr.eff 5 _ _ rfl (by intro d h; cases h; exact ⟨rfl, rfl⟩) rfl rfl rfl (EC.of (by intro _ _ h; cases h) (.inl rfl) (WV.call fn30 rfl (wrong_ok (hrs.ext X11) ho10.rd hv (thrC_in hp.1 ch)))) (fun v H' h => .inl (h.1)) ?_
  rintro v25 H26 ⟨hx27, ho28⟩
  have X29 := Ext.trans X11 hx27
  have X30 := Ext.trans X17 hx27
  have ho31 := ho10.ext hx27
  have hb32 := hb12.ext hx27
  have hb33 := hb13.ext hx27
  have hb34 := hb14.ext hx27
  have hb35 := hb15.ext hx27
  refine Dr.read 6 _ 16 _ rfl rfl rfl rfl rfl (RV.of (by intro _ _ h; cases h) (.inl rfl) (fun _ xd => HV.len Tryz.underlying25 rfl ho28.rd.isSl)) ?_
  refine Dr.read 7 _ 17 _ rfl rfl rfl rfl rfl (RV.of (by intro _ _ h; cases h) (.inl rfl) (fun _ xd => HV.sub rfl rfl (by omega))) ?_
  refine Dr.read 9 _ 19 _ rfl rfl rfl rfl rfl (RV.of (by intro _ _ h; cases h) (.inl rfl) (fun _ xd => HV.gei rfl rfl)) ?_
  refine Dr.fin rfl ?_
  refine nrm_and ?_
  refine AW.ifd rfl (fun c37 => ?_) (fun c37 => ?_)
  · -- then
    refine AW.reg ?_
    refine AL.val rfl (.inl rfl) (HV.ld rfl va37 (at_cell hb35 rfl)) ?_
    refine AL.val rfl (.inl rfl) (HV.mv rfl) ?_
    have X38 := Ext.refl H26
    have hc39 : v7.cells = #[v7] := by obtain ⟨A, c, e⟩ := ho31.isSl; rw [e]; rfl
    refine AL.w rfl (.inl rfl) (WV.bsO (okx := fun b => H.bd ≤ b) (K := kO 2 kI) (l := [(thrC p ch)]) (css := [[v7]]) sl37 rfl rfl (by simp [Instr.fill, hc39, kO, rng1]) rfl (segs_cons ⟨_, rfl, ho31.okk (fun b hb _ => Nat.le_trans o6 hb)⟩ segs_nil)) ?_
    rintro v40 H41 ⟨hx42, ho43⟩
    have ho44 := ho43.okk (ok' := fun b => H.bd ≤ b) (fun b hb _ => hb.elim id (fun e => Nat.le_trans X29.bd e))
    have X45 := Ext.trans X29 hx42
    have X46 := Ext.trans X30 hx42
    have X47 := Ext.trans X38 hx42
    have ho48 := ho31.ext hx42
    have ho49 := ho28.ext hx42
    have hb50 := hb32.ext hx42
    have hb51 := hb33.ext hx42
    have hb52 := hb34.ext hx42
    have hb53 := hb35.ext hx42
    have X54 := Ext.refl H41
    have ho61 := (ho.okk (ok' := fun b => (B ≤ b ∧ b ≠ bo) ∧ b < H.bd) (fun b hb hlt => ⟨hb, hlt⟩)).ext X45
    refine AL.w rfl (.inl rfl) (WV.apD (ok := fun b => B ≤ b ∧ b ≠ bo) (B := H.bd) sl37 rfl rfl ho61 ho44.rd X45.bd (by omega) (by omega)) ?_
    rintro v55 H56 ⟨hb57, hD58, hbl59⟩
    have hB62 := But.trans (Ext.but X45 (fun b => B ≤ b)) (But.mono hb57 (fun b e => (ho.own.blk b e).1.1))
    have hbo63 := (hbo.ext X45).but hb57 (fun e => (ho.own.blk _ e).1.2 rfl)
    have hbo_lt := hbo.lt
    have hD60 := hD58.okk (ok' := (fun b => B ≤ b ∧ b ≠ bo)) (fun b hb _ => hb.elim id (fun h => ⟨by omega, by omega⟩))
    have X64 := Ext.refl H56
    refine AL.w0 (.inl rfl) (WV.st rfl rfl va37 (sl_size hD60.own.isSl) hbo63 (Nat.le_of_ble_eq_true rfl) (sl_one hD60.own.isSl)) ?_
    rintro _ H65 ⟨hx66, ha67⟩
    rw [sl_cells hD60.own.isSl] at ha67
    have hb68 : At W H65 bo ⟨37, [v55], 1⟩ := ha67
    have hD69 := hD60.but hx66 (fun b hb _ e => hb.2 e) (fun z_ hz_ => by rw [hz_]; exact hbo63.w)
    have X70 := Ext.refl H65
    refine AL.nil ?_
    refine post_none rfl ?_ (.inl rfl)
    have hn : nearC p l ag (thrC p ch) := (by unfold nearC; omega); rw [if_pos hn]; exact ⟨⟨_, hb68, hD69⟩, (But.trans hB62 (But.mono hx66 (fun b e => by have h : b = bo := e; omega)))⟩
  · -- else
    refine AW.skip ?_
    refine post_none rfl ?_ (.inl rfl)
    have hn : ¬ nearC p l ag (thrC p ch) := (by unfold nearC; omega); rw [if_neg hn]; exact ⟨⟨_, hb35, ho.ext X29⟩, Ext.but X29 _⟩
end Go.Proofs.YtbjcgcililpfdaaGreat.VC

