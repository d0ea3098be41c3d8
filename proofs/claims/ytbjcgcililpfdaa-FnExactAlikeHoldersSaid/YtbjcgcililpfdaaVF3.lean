/- Walks. -/
import Derived.Test.YtbjcgcililpfdaaVF2
set_option linter.unusedVariables false
set_option linter.unusedSimpArgs false
namespace Go.Proofs.Ytbjcgcililpfdaa.VC
open Go Go.RowKit
variable {W : World} {H : Hp}

/-! ### How many -/
theorem range1 : Array.range 1 = #[0] := by decide
def pcnt (s h : Nat) : Nat := ((List.range h).filter (fun j => s / 2 ^ j % 2 == 1)).length
theorem pcnt_succ (s h : Nat) : pcnt s (h + 1) = pcnt s h + if s / 2 ^ h % 2 = 1 then 1 else 0 := by
  unfold pcnt
  rw [List.range_succ, List.filter_append, List.length_append]
  by_cases e : s / 2 ^ h % 2 = 1 <;> simp [e]
theorem pcnt_end {s h : Nat} (hs : s < 128) (hh : h ≤ 7) (h0 : s / 2 ^ h = 0) : pcnt s h = pcnt s 7 := by
  have := (by decide +kernel : ∀ s : Fin 128, ∀ h : Fin 8, s.val / 2 ^ h.val = 0 → pcnt s.val h.val = pcnt s.val 7) ⟨s, hs⟩ ⟨h, by omega⟩ h0
  exact this
theorem pcnt_le {n : Int} {s : Nat} (hn : 1 ≤ n ∧ n ≤ 7) (h : s < 2 ^ n.toNat) : (pcnt s 7 : Int) ≤ n := by
  have p7 := pow7 hn
  have := (by decide +kernel : ∀ n : Fin 8, ∀ s : Fin 128, s.val < 2 ^ n.val → pcnt s.val 7 ≤ n.val) ⟨n.toNat, by omega⟩ ⟨s, by omega⟩ h
  simp only at this
  omega
theorem shr_i2 (s : Nat) {j : Nat} (h : j < 60) : (s : Int).fdiv (2 ^ min (IntKind.u64.wrap (j : Int) : Int).toNat IntKind.i64.bits) = ((s / 2 ^ j : Nat) : Int) := by
  rw [u64_id ⟨by omega, by omega⟩, Int.toNat_natCast, show min j IntKind.i64.bits = j from Nat.min_eq_left (by simp only [IntKind.bits]; omega), fdiv_nat]
theorem h_lt {s h : Nat} (hs : s < 128) (hh : h ≤ 7) (h0 : 0 < s / 2 ^ h) : h < 7 := by
  rcases Nat.lt_or_ge h 7 with g | g
  · exact g
  · obtain rfl : h = 7 := by omega
    have : s / 2 ^ 7 = 0 := Nat.div_eq_of_lt hs
    omega
noncomputable def cbStep (l : List (List Int)) (k : List Int) (s : Nat) : List Int := if opI s l then k.set (pcnt s 7) (k.getD (pcnt s 7) 0 + 1) else k
noncomputable def cbAll (l : List (List Int)) (m i : Nat) : List Int := (List.range i).foldl (cbStep l) (List.replicate m 0)
theorem cbAll_succ (l : List (List Int)) (m i : Nat) : cbAll l m (i + 1) = cbStep l (cbAll l m i) i := by
  unfold cbAll
  rw [List.range_succ, List.foldl_append]; rfl
theorem cbAll_length (l : List (List Int)) (m : Nat) : ∀ i, (cbAll l m i).length = m
  | 0 => by simp [cbAll]
  | i + 1 => by
    rw [cbAll_succ]
    unfold cbStep
    split <;> simp [cbAll_length l m i]
theorem cb_yes {l : List (List Int)} {m i : Nat} {z q : Int} (hz : (cbAll l m i)[q.toNat]? = some z) (hq : q = (pcnt i 7 : Nat)) (h : opI i l) : cbAll l m (i + 1) = (cbAll l m i).set q.toNat (z + 1) := by
  subst hq
  rw [cbAll_succ, cbStep, if_pos h, gd hz rfl, Int.toNat_natCast]
theorem cb_no {l : List (List Int)} {m i : Nat} (h : ¬ opI i l) : cbAll l m (i + 1) = cbAll l m i := by
  rw [cbAll_succ, cbStep, if_neg h]
theorem cbAll_in (l : List (List Int)) (m : Nat) : ∀ i : Nat, Within (i : Int) (cbAll l m i)
  | 0 => fun x hx => by
    have : x = 0 := List.eq_of_mem_replicate (by simpa [cbAll] using hx)
    omega
  | i + 1 => by
    rw [cbAll_succ]
    have ih := cbAll_in l m i
    unfold cbStep
    intro x hx
    split at hx
    · rcases List.mem_or_eq_of_mem_set hx with hx | rfl
      · have := ih x hx; omega
      · have : 0 ≤ (cbAll l m i).getD (pcnt i 7) 0 ∧ (cbAll l m i).getD (pcnt i 7) 0 ≤ i := by
          rw [List.getD_eq_getElem?_getD]
          cases e : (cbAll l m i)[pcnt i 7]? with
          | none => exact ⟨Int.le_refl _, by simp⟩
          | some y => exact ih y (List.mem_of_getElem? e)
        omega
    · have := ih x hx; omega
theorem cb_len {k : List Int} {n : Int} {l : List (List Int)} {m : Nat} (h : k = if okI n l then cbAll l (n + 1).toNat m else []) : k.length ≤ 8 := by
  by_cases h0 : okI n l
  · rw [if_pos h0] at h
    rw [h, cbAll_length]
    have := h0.1
    omega
  · rw [if_neg h0] at h
    rw [h]; exact Nat.zero_le _
def ones (q : Int) : Int := bt .and .i64 (IntKind.i64.wrap (IntKind.u64.wrap ((IntKind.u64.wrap ((IntKind.u64.wrap ((bt .and .u64 (IntKind.u64.wrap (((IntKind.u64.wrap ((bt .and .u64 ((IntKind.u64.wrap ((bt .and .u64 ((q : Int).fdiv (2 ^ min (1 : Int).toNat IntKind.u64.bits)) 6148914691236517205) + (bt .and .u64 q 6148914691236517205)) : Int).fdiv (2 ^ min (2 : Int).toNat IntKind.u64.bits)) 3689348814741910323) + (bt .and .u64 (IntKind.u64.wrap ((bt .and .u64 ((q : Int).fdiv (2 ^ min (1 : Int).toNat IntKind.u64.bits)) 6148914691236517205) + (bt .and .u64 q 6148914691236517205))) 3689348814741910323)) : Int).fdiv (2 ^ min (4 : Int).toNat IntKind.u64.bits)) + (IntKind.u64.wrap ((bt .and .u64 ((IntKind.u64.wrap ((bt .and .u64 ((q : Int).fdiv (2 ^ min (1 : Int).toNat IntKind.u64.bits)) 6148914691236517205) + (bt .and .u64 q 6148914691236517205)) : Int).fdiv (2 ^ min (2 : Int).toNat IntKind.u64.bits)) 3689348814741910323) + (bt .and .u64 (IntKind.u64.wrap ((bt .and .u64 ((q : Int).fdiv (2 ^ min (1 : Int).toNat IntKind.u64.bits)) 6148914691236517205) + (bt .and .u64 q 6148914691236517205))) 3689348814741910323))))) 1085102592571150095) + ((bt .and .u64 (IntKind.u64.wrap (((IntKind.u64.wrap ((bt .and .u64 ((IntKind.u64.wrap ((bt .and .u64 ((q : Int).fdiv (2 ^ min (1 : Int).toNat IntKind.u64.bits)) 6148914691236517205) + (bt .and .u64 q 6148914691236517205)) : Int).fdiv (2 ^ min (2 : Int).toNat IntKind.u64.bits)) 3689348814741910323) + (bt .and .u64 (IntKind.u64.wrap ((bt .and .u64 ((q : Int).fdiv (2 ^ min (1 : Int).toNat IntKind.u64.bits)) 6148914691236517205) + (bt .and .u64 q 6148914691236517205))) 3689348814741910323)) : Int).fdiv (2 ^ min (4 : Int).toNat IntKind.u64.bits)) + (IntKind.u64.wrap ((bt .and .u64 ((IntKind.u64.wrap ((bt .and .u64 ((q : Int).fdiv (2 ^ min (1 : Int).toNat IntKind.u64.bits)) 6148914691236517205) + (bt .and .u64 q 6148914691236517205)) : Int).fdiv (2 ^ min (2 : Int).toNat IntKind.u64.bits)) 3689348814741910323) + (bt .and .u64 (IntKind.u64.wrap ((bt .and .u64 ((q : Int).fdiv (2 ^ min (1 : Int).toNat IntKind.u64.bits)) 6148914691236517205) + (bt .and .u64 q 6148914691236517205))) 3689348814741910323))))) 1085102592571150095 : Int).fdiv (2 ^ min (8 : Int).toNat IntKind.u64.bits)))) + ((IntKind.u64.wrap ((bt .and .u64 (IntKind.u64.wrap (((IntKind.u64.wrap ((bt .and .u64 ((IntKind.u64.wrap ((bt .and .u64 ((q : Int).fdiv (2 ^ min (1 : Int).toNat IntKind.u64.bits)) 6148914691236517205) + (bt .and .u64 q 6148914691236517205)) : Int).fdiv (2 ^ min (2 : Int).toNat IntKind.u64.bits)) 3689348814741910323) + (bt .and .u64 (IntKind.u64.wrap ((bt .and .u64 ((q : Int).fdiv (2 ^ min (1 : Int).toNat IntKind.u64.bits)) 6148914691236517205) + (bt .and .u64 q 6148914691236517205))) 3689348814741910323)) : Int).fdiv (2 ^ min (4 : Int).toNat IntKind.u64.bits)) + (IntKind.u64.wrap ((bt .and .u64 ((IntKind.u64.wrap ((bt .and .u64 ((q : Int).fdiv (2 ^ min (1 : Int).toNat IntKind.u64.bits)) 6148914691236517205) + (bt .and .u64 q 6148914691236517205)) : Int).fdiv (2 ^ min (2 : Int).toNat IntKind.u64.bits)) 3689348814741910323) + (bt .and .u64 (IntKind.u64.wrap ((bt .and .u64 ((q : Int).fdiv (2 ^ min (1 : Int).toNat IntKind.u64.bits)) 6148914691236517205) + (bt .and .u64 q 6148914691236517205))) 3689348814741910323))))) 1085102592571150095) + ((bt .and .u64 (IntKind.u64.wrap (((IntKind.u64.wrap ((bt .and .u64 ((IntKind.u64.wrap ((bt .and .u64 ((q : Int).fdiv (2 ^ min (1 : Int).toNat IntKind.u64.bits)) 6148914691236517205) + (bt .and .u64 q 6148914691236517205)) : Int).fdiv (2 ^ min (2 : Int).toNat IntKind.u64.bits)) 3689348814741910323) + (bt .and .u64 (IntKind.u64.wrap ((bt .and .u64 ((q : Int).fdiv (2 ^ min (1 : Int).toNat IntKind.u64.bits)) 6148914691236517205) + (bt .and .u64 q 6148914691236517205))) 3689348814741910323)) : Int).fdiv (2 ^ min (4 : Int).toNat IntKind.u64.bits)) + (IntKind.u64.wrap ((bt .and .u64 ((IntKind.u64.wrap ((bt .and .u64 ((q : Int).fdiv (2 ^ min (1 : Int).toNat IntKind.u64.bits)) 6148914691236517205) + (bt .and .u64 q 6148914691236517205)) : Int).fdiv (2 ^ min (2 : Int).toNat IntKind.u64.bits)) 3689348814741910323) + (bt .and .u64 (IntKind.u64.wrap ((bt .and .u64 ((q : Int).fdiv (2 ^ min (1 : Int).toNat IntKind.u64.bits)) 6148914691236517205) + (bt .and .u64 q 6148914691236517205))) 3689348814741910323))))) 1085102592571150095 : Int).fdiv (2 ^ min (8 : Int).toNat IntKind.u64.bits))) : Int).fdiv (2 ^ min (16 : Int).toNat IntKind.u64.bits)))) + ((IntKind.u64.wrap ((IntKind.u64.wrap ((bt .and .u64 (IntKind.u64.wrap (((IntKind.u64.wrap ((bt .and .u64 ((IntKind.u64.wrap ((bt .and .u64 ((q : Int).fdiv (2 ^ min (1 : Int).toNat IntKind.u64.bits)) 6148914691236517205) + (bt .and .u64 q 6148914691236517205)) : Int).fdiv (2 ^ min (2 : Int).toNat IntKind.u64.bits)) 3689348814741910323) + (bt .and .u64 (IntKind.u64.wrap ((bt .and .u64 ((q : Int).fdiv (2 ^ min (1 : Int).toNat IntKind.u64.bits)) 6148914691236517205) + (bt .and .u64 q 6148914691236517205))) 3689348814741910323)) : Int).fdiv (2 ^ min (4 : Int).toNat IntKind.u64.bits)) + (IntKind.u64.wrap ((bt .and .u64 ((IntKind.u64.wrap ((bt .and .u64 ((q : Int).fdiv (2 ^ min (1 : Int).toNat IntKind.u64.bits)) 6148914691236517205) + (bt .and .u64 q 6148914691236517205)) : Int).fdiv (2 ^ min (2 : Int).toNat IntKind.u64.bits)) 3689348814741910323) + (bt .and .u64 (IntKind.u64.wrap ((bt .and .u64 ((q : Int).fdiv (2 ^ min (1 : Int).toNat IntKind.u64.bits)) 6148914691236517205) + (bt .and .u64 q 6148914691236517205))) 3689348814741910323))))) 1085102592571150095) + ((bt .and .u64 (IntKind.u64.wrap (((IntKind.u64.wrap ((bt .and .u64 ((IntKind.u64.wrap ((bt .and .u64 ((q : Int).fdiv (2 ^ min (1 : Int).toNat IntKind.u64.bits)) 6148914691236517205) + (bt .and .u64 q 6148914691236517205)) : Int).fdiv (2 ^ min (2 : Int).toNat IntKind.u64.bits)) 3689348814741910323) + (bt .and .u64 (IntKind.u64.wrap ((bt .and .u64 ((q : Int).fdiv (2 ^ min (1 : Int).toNat IntKind.u64.bits)) 6148914691236517205) + (bt .and .u64 q 6148914691236517205))) 3689348814741910323)) : Int).fdiv (2 ^ min (4 : Int).toNat IntKind.u64.bits)) + (IntKind.u64.wrap ((bt .and .u64 ((IntKind.u64.wrap ((bt .and .u64 ((q : Int).fdiv (2 ^ min (1 : Int).toNat IntKind.u64.bits)) 6148914691236517205) + (bt .and .u64 q 6148914691236517205)) : Int).fdiv (2 ^ min (2 : Int).toNat IntKind.u64.bits)) 3689348814741910323) + (bt .and .u64 (IntKind.u64.wrap ((bt .and .u64 ((q : Int).fdiv (2 ^ min (1 : Int).toNat IntKind.u64.bits)) 6148914691236517205) + (bt .and .u64 q 6148914691236517205))) 3689348814741910323))))) 1085102592571150095 : Int).fdiv (2 ^ min (8 : Int).toNat IntKind.u64.bits)))) + ((IntKind.u64.wrap ((bt .and .u64 (IntKind.u64.wrap (((IntKind.u64.wrap ((bt .and .u64 ((IntKind.u64.wrap ((bt .and .u64 ((q : Int).fdiv (2 ^ min (1 : Int).toNat IntKind.u64.bits)) 6148914691236517205) + (bt .and .u64 q 6148914691236517205)) : Int).fdiv (2 ^ min (2 : Int).toNat IntKind.u64.bits)) 3689348814741910323) + (bt .and .u64 (IntKind.u64.wrap ((bt .and .u64 ((q : Int).fdiv (2 ^ min (1 : Int).toNat IntKind.u64.bits)) 6148914691236517205) + (bt .and .u64 q 6148914691236517205))) 3689348814741910323)) : Int).fdiv (2 ^ min (4 : Int).toNat IntKind.u64.bits)) + (IntKind.u64.wrap ((bt .and .u64 ((IntKind.u64.wrap ((bt .and .u64 ((q : Int).fdiv (2 ^ min (1 : Int).toNat IntKind.u64.bits)) 6148914691236517205) + (bt .and .u64 q 6148914691236517205)) : Int).fdiv (2 ^ min (2 : Int).toNat IntKind.u64.bits)) 3689348814741910323) + (bt .and .u64 (IntKind.u64.wrap ((bt .and .u64 ((q : Int).fdiv (2 ^ min (1 : Int).toNat IntKind.u64.bits)) 6148914691236517205) + (bt .and .u64 q 6148914691236517205))) 3689348814741910323))))) 1085102592571150095) + ((bt .and .u64 (IntKind.u64.wrap (((IntKind.u64.wrap ((bt .and .u64 ((IntKind.u64.wrap ((bt .and .u64 ((q : Int).fdiv (2 ^ min (1 : Int).toNat IntKind.u64.bits)) 6148914691236517205) + (bt .and .u64 q 6148914691236517205)) : Int).fdiv (2 ^ min (2 : Int).toNat IntKind.u64.bits)) 3689348814741910323) + (bt .and .u64 (IntKind.u64.wrap ((bt .and .u64 ((q : Int).fdiv (2 ^ min (1 : Int).toNat IntKind.u64.bits)) 6148914691236517205) + (bt .and .u64 q 6148914691236517205))) 3689348814741910323)) : Int).fdiv (2 ^ min (4 : Int).toNat IntKind.u64.bits)) + (IntKind.u64.wrap ((bt .and .u64 ((IntKind.u64.wrap ((bt .and .u64 ((q : Int).fdiv (2 ^ min (1 : Int).toNat IntKind.u64.bits)) 6148914691236517205) + (bt .and .u64 q 6148914691236517205)) : Int).fdiv (2 ^ min (2 : Int).toNat IntKind.u64.bits)) 3689348814741910323) + (bt .and .u64 (IntKind.u64.wrap ((bt .and .u64 ((q : Int).fdiv (2 ^ min (1 : Int).toNat IntKind.u64.bits)) 6148914691236517205) + (bt .and .u64 q 6148914691236517205))) 3689348814741910323))))) 1085102592571150095 : Int).fdiv (2 ^ min (8 : Int).toNat IntKind.u64.bits))) : Int).fdiv (2 ^ min (16 : Int).toNat IntKind.u64.bits))) : Int).fdiv (2 ^ min (32 : Int).toNat IntKind.u64.bits))))) 127
theorem ones_eq {s : Nat} (hs : s < 128) : ones (s : Int) = (pcnt s 7 : Nat) := by
  have := (by decide +kernel : ∀ s : Fin 128, ones (s.val : Int) = (pcnt s.val 7 : Nat)) ⟨s, hs⟩
  exact this
set_option maxRecDepth 100000 in
theorem ones64_ok (q : Int) : ACalls Try.prog W 135 #[.int .u64 q] H (fun r H' => r = .int .i64 (ones q) ∧ Ext H H') := by
  refine ACalls.of (args := [.int .u64 q]) Try.func135 rfl rfl ?_
  have X0 := Ext.refl H
  refine AW.rs ?_
  refine AL.val rfl (.inl rfl) (HV.as rfl) ?_
  refine AL.nx ?_
  refine AW.rs ?_
  refine AL.val rfl (.inl rfl) (HV.mv rfl) ?_
  refine AL.val rfl (.inl rfl) (HV.shr rfl rfl (by omega)) ?_
  refine AL.val rfl (.inl rfl) (HV.bits (by simp) rfl rfl) ?_
  refine AL.val rfl (.inl rfl) (HV.mv rfl) ?_
  refine AL.val rfl (.inl rfl) (HV.bits (by simp) rfl rfl) ?_
  refine AL.val rfl (.inl rfl) (HV.addw rfl rfl) ?_
  refine AL.val rfl (.inl rfl) (HV.as rfl) ?_
  refine AL.nx ?_
  refine AW.rs ?_
  refine AL.val rfl (.inl rfl) (HV.mv rfl) ?_
  refine AL.val rfl (.inl rfl) (HV.shr rfl rfl (by omega)) ?_
  refine AL.val rfl (.inl rfl) (HV.bits (by simp) rfl rfl) ?_
  refine AL.val rfl (.inl rfl) (HV.mv rfl) ?_
  refine AL.val rfl (.inl rfl) (HV.bits (by simp) rfl rfl) ?_
  refine AL.val rfl (.inl rfl) (HV.addw rfl rfl) ?_
  refine AL.val rfl (.inl rfl) (HV.as rfl) ?_
  refine AL.nx ?_
  refine AW.rs ?_
  refine AL.val rfl (.inl rfl) (HV.mv rfl) ?_
  refine AL.val rfl (.inl rfl) (HV.shr rfl rfl (by omega)) ?_
  refine AL.val rfl (.inl rfl) (HV.mv rfl) ?_
  refine AL.val rfl (.inl rfl) (HV.addw rfl rfl) ?_
  refine AL.val rfl (.inl rfl) (HV.bits (by simp) rfl rfl) ?_
  refine AL.val rfl (.inl rfl) (HV.as rfl) ?_
  refine AL.nx ?_
  refine AW.rs ?_
  refine AL.val rfl (.inl rfl) (HV.mv rfl) ?_
  refine AL.val rfl (.inl rfl) (HV.mv rfl) ?_
  refine AL.val rfl (.inl rfl) (HV.shr rfl rfl (by omega)) ?_
  refine AL.val rfl (.inl rfl) (HV.addw rfl rfl) ?_
  refine AL.val rfl (.inl rfl) (HV.as rfl) ?_
  refine AL.nx ?_
  refine AW.rs ?_
  refine AL.val rfl (.inl rfl) (HV.mv rfl) ?_
  refine AL.val rfl (.inl rfl) (HV.mv rfl) ?_
  refine AL.val rfl (.inl rfl) (HV.shr rfl rfl (by omega)) ?_
  refine AL.val rfl (.inl rfl) (HV.addw rfl rfl) ?_
  refine AL.val rfl (.inl rfl) (HV.as rfl) ?_
  refine AL.nx ?_
  refine AW.rs ?_
  refine AL.val rfl (.inl rfl) (HV.mv rfl) ?_
  refine AL.val rfl (.inl rfl) (HV.mv rfl) ?_
  refine AL.val rfl (.inl rfl) (HV.shr rfl rfl (by omega)) ?_
  refine AL.val rfl (.inl rfl) (HV.addw rfl rfl) ?_
  refine AL.val rfl (.inl rfl) (HV.as rfl) ?_
  refine AL.nx ?_
  refine AW.rs ?_
  refine AL.val rfl (.inl rfl) (HV.mv rfl) ?_
  refine AL.val rfl (.inl rfl) (HV.cv (by rw [Try.underlying145]; rfl) Try.underlying3 rfl) ?_
  refine AL.val rfl (.inl rfl) (HV.bits (by simp) rfl rfl) ?_
  refine AL.val rfl (.inl rfl) (HV.as rfl) ?_
  refine AL.nx ?_
  refine AW.ret ?_
  refine post_one rfl rfl ?_ (.inr rfl)
  exact ⟨rfl, X0⟩

set_option maxRecDepth 100000 in
theorem ones_ok (q : Int) : ACalls Try.prog W 103 #[.int .u64 q] H (fun r H' => r = .int .i64 (ones q) ∧ Ext H H') := by
  refine ACalls.of (args := [.int .u64 q]) Try.func103 rfl rfl ?_
  have X0 := Ext.refl H
  refine AW.rs ?_
  refine AL.val rfl (.inl rfl) (HV.as rfl) ?_
  refine AL.nx ?_
  refine AW.seq ?_
  refine AW.cond rfl (fun h => by cases h) (fun _ => ?_)
  refine AW.skip ?_
  refine nrm_and ?_
  refine AW.rs ?_
  refine AL.val rfl (.inl rfl) (HV.mv rfl) ?_
  refine AL.w rfl (.inl rfl) (WV.call fn135 rfl (ones64_ok (W := W) q)) ?_
  rintro _ H2 ⟨rfl, hx3⟩
  have X4 := Ext.trans X0 hx3
  refine AL.val rfl (.inl rfl) (HV.as rfl) ?_
  refine AL.nx ?_
  refine AW.ret ?_
  refine post_one rfl rfl ?_ (.inr rfl)
  exact ⟨rfl, X4⟩

set_option maxRecDepth 100000 in
theorem size_ok (q : Int) : ACalls Try.prog W 70 #[.int .u64 q] H (fun r H' => r = .int .i64 (ones q) ∧ Ext H H') := by
  refine ACalls.of (args := [.int .u64 q]) Try.func70 rfl rfl ?_
  have X0 := Ext.refl H
  refine AW.rs ?_
  refine AL.val rfl (.inl rfl) (HV.as rfl) ?_
  refine AL.nx ?_
  refine AW.rs ?_
  refine AL.val rfl (.inl rfl) (HV.mv rfl) ?_
  refine AL.w rfl (.inl rfl) (WV.call fn103 rfl (ones_ok (W := W) q)) ?_
  rintro _ H1 ⟨rfl, hx2⟩
  have X3 := Ext.trans X0 hx2
  refine AL.val rfl (.inl rfl) (HV.as rfl) ?_
  refine AL.nx ?_
  refine AW.ret ?_
  refine post_one rfl rfl ?_ (.inr rfl)
  exact ⟨rfl, X3⟩

set_option maxRecDepth 100000 in
theorem l01Of_ok (s : Nat) (hs : s < 128) : ACalls Try.prog W 69 #[.int .i64 (s : Int)] H (fun r H' => Ext H H' ∧ ∃ k : List Int, k.length = pcnt s 7 ∧ OwnK kI 2 W H' (fun b => H.bd ≤ b) r k) := by
  refine ACalls.of (args := [.int .i64 (s : Int)]) Try.func69 rfl rfl ?_
  have X0 := Ext.refl H
  refine AW.rs ?_
  refine AL.val rfl (.inl rfl) (HV.as rfl) ?_
  refine AL.nx ?_
  refine AW.rs ?_
  have o1 := X0.bd
  refine AL.w rfl (.inl rfl) (WV.bsK (K := kI) (l := ([] : List Int)) (css := []) sl25 rfl rfl (by first | rfl | (simp [Instr.fill, Value.cells, kI, kB, kU, kS, Kd.sc]; done) | (simp [Instr.fill, Value.cells, kI, kB, kU, kS, Kd.sc, rng1, rng2, rng3, rng4, kP])) rfl segs_nil) ?_
  rintro v2 H3 ⟨hx4, ho5⟩
  have X6 := Ext.trans X0 hx4
  refine AL.val rfl (.inl rfl) (HV.as rfl) ?_
  refine AL.nx ?_
  refine AW.seq ?_
  refine AW.rs ?_
  refine AL.val rfl (.inl rfl) (HV.as rfl) ?_
  refine AL.nx ?_
  refine AW.block ?_
  refine AW.loop (σ := Nat × Value × List Int) (fun ⟨h, vv, k⟩ => [(0, .int .i64 (s : Int)), (2, (.slice none 0 0)), (3, vv), (4, .int .i64 (h : Int))]) (fun ⟨h, vv, k⟩ H' => Ext H H' ∧ h ≤ 7 ∧ k.length = pcnt s h ∧ k.length ≤ h ∧ OwnK kI 2 W H' (fun b => H.bd ≤ b) vv k ∧ True) (fun ⟨h, vv, k⟩ => 7 - h) (0, v2, (([] : List Int) : List Int)) ⟨X6, by omega, rfl, Nat.le_refl _, ho5, trivial⟩ ⟨rfl, rfl, rfl, rfl, trivial⟩ ?_
  rintro ⟨h, vv, k⟩ H8 ⟨X9, hh, hk, hk2, hoL, _⟩
  obtain ⟨D, hD⟩ : ∃ D, s / 2 ^ h = D := ⟨_, rfl⟩
  have e := shr_i2 s (j := h) (by omega)
  have b1 := bit_of (k := .i64) (.inl rfl) (s := s) (j := h) hs
  have h7 := fun g => h_lt hs hh g
  rw [hD] at e b1 h7
  rw [← e] at b1
  have h8 : (0 : Int) < (s : Int).fdiv (2 ^ min (IntKind.u64.wrap (h : Int) : Int).toNat IntKind.i64.bits) → h < 7 := fun g => h7 (by omega)
  refine AW.seq ?_
  refine AW.rs ?_
  refine AL.val rfl (.inl rfl) (HV.mv rfl) ?_
  refine AL.val rfl (.inl rfl) (HV.mv rfl) ?_
  refine AL.val rfl (.inl rfl) (HV.cv (by rw [Try.underlying2]; rfl) Try.underlying75 rfl) ?_
  refine AL.val rfl (.inl rfl) (HV.shr rfl rfl (u64_nonneg _)) ?_
  refine AL.val rfl (.inl rfl) (HV.gti rfl rfl) ?_
  refine AL.nx ?_
  refine AW.ifd rfl (fun c10 => ?_) (fun c10 => ?_)
  · -- then
    refine AW.skip ?_
    refine nrm_and ?_
    refine AW.seq ?_
    refine AW.block ?_
    refine AW.rs ?_
    refine AL.val rfl (.inl rfl) (HV.mv rfl) ?_
    refine AL.val rfl (.inl rfl) (HV.mv rfl) ?_
    refine AL.val rfl (.inl rfl) (HV.cv (by rw [Try.underlying2]; rfl) Try.underlying75 rfl) ?_
    refine AL.val rfl (.inl rfl) (HV.shr rfl rfl (u64_nonneg _)) ?_
    refine AL.val rfl (.inl rfl) (HV.bits (by simp) rfl rfl) ?_
    refine AL.val rfl (.inl rfl) (HV.eqi rfl rfl) ?_
    refine AL.nx ?_
    refine AW.ifd rfl (fun c11 => ?_) (fun c11 => ?_)
    · -- then
      refine AW.reg ?_
      refine AL.val rfl (.inl rfl) (HV.mv rfl) ?_
      refine AL.val rfl (.inl rfl) (HV.mv rfl) ?_
      have X12 := Ext.refl H8
      have o13 := X9.bd
      have o14 := X12.bd
      have a15 := hoL.ltb
      refine AL.w rfl (.inl rfl) (WV.bsK (K := kI) (l := ([(h : Int)] : List Int)) (css := [[.int .i64 (h : Int)]]) sl25 rfl rfl (by first | rfl | (simp [Instr.fill, Value.cells, kI, kB, kU, kS, Kd.sc]; done) | (simp [Instr.fill, Value.cells, kI, kB, kU, kS, Kd.sc, rng1, rng2, rng3, rng4, kP])) rfl (segs_cons rfl segs_nil)) ?_
      rintro v16 H17 ⟨hx18, ho19⟩
      have X20 := Ext.trans X9 hx18
      have X21 := Ext.trans X12 hx18
      have ho22 := hoL.ext hx18
      have X24 := Ext.refl H17
      refine AL.w rfl (.inl rfl) (WV.apk sl25 rfl rfl ho22 ho19.rd (by rw [List.length_singleton]; omega) (by rw [List.length_singleton]; omega) (fun b hb _ e => Nat.lt_irrefl _ (Nat.lt_of_lt_of_le (a15 b e) hb))) ?_
      rintro v25 H26 ⟨hx27, ho28, hb29⟩
      have ho30 := ho28.narrow (ok' := fun b => H.bd ≤ b) kI_flat (fun b q => (hb29 b q).elim (fun e => (ho22.blk b e).1) (fun e => Nat.le_trans X20.bd e))
      have X31 := Ext.thru X20 hx27 (fun b hb => Nat.le_trans o1 (ho22.blk b hb).1)
      refine AL.val rfl (.inl rfl) (HV.as rfl) ?_
      refine AL.nil ?_
      refine nrm_blk (nrm_and ?_)
      refine AW.reg ?_
      refine AL.val rfl (.inl rfl) (HV.mv rfl) ?_
      refine AL.val rfl (.inl rfl) (HV.add rfl rfl (by have := h8 (by omega); omega)) ?_
      refine AL.val rfl (.inl rfl) (HV.as rfl) ?_
      refine AL.nil ?_
      refine nrm_and ?_
      exact ⟨(h + 1, v25, (k ++ (([(h : Int)] : List Int) : List Int))), ⟨X31, by omega, by first | (rw [List.length_append, hk, pcnt_succ, hD, if_pos (by omega)]; rfl) | (rw [hk, pcnt_succ, hD, if_neg (by omega)]; rfl), by first | omega | (rw [List.length_append]; simp; omega), ho30, trivial⟩, by first | omega | (dsimp only; omega), ⟨rfl, rfl, rfl, rfl, trivial⟩⟩
    · -- else
      refine AW.skip ?_
      refine nrm_blk (nrm_and ?_)
      refine AW.reg ?_
      refine AL.val rfl (.inl rfl) (HV.mv rfl) ?_
      refine AL.val rfl (.inl rfl) (HV.add rfl rfl (by have := h8 (by omega); omega)) ?_
      refine AL.val rfl (.inl rfl) (HV.as rfl) ?_
      refine AL.nil ?_
      refine nrm_and ?_
      exact ⟨(h + 1, vv, k), ⟨X9, by omega, by first | (rw [List.length_append, hk, pcnt_succ, hD, if_pos (by omega)]; rfl) | (rw [hk, pcnt_succ, hD, if_neg (by omega)]; rfl), by first | omega | (rw [List.length_append]; simp; omega), hoL, trivial⟩, by first | omega | (dsimp only; omega), ⟨rfl, rfl, rfl, rfl, trivial⟩⟩
  · -- else
    refine AW.exit ?_
    refine ex_and (ex_and (ex_blk ?_))
    refine nrm_and ?_
    refine AW.rs ?_
    refine AL.val rfl (.inl rfl) (HV.mv rfl) ?_
    refine AL.val rfl (.inl rfl) (HV.as rfl) ?_
    refine AL.nx ?_
    refine AW.ret ?_
    refine post_one rfl rfl ?_ (.inr rfl)
    exact ⟨X9, k, by rw [hk]; exact pcnt_end hs hh (hD.trans (by omega)), hoL.okk (fun b hb _ => Nat.le_trans o1 hb)⟩

set_option maxRecDepth 100000 in
theorem specCb_ok {v : Value} {l : List (List Int)} {ok : Nat → Prop} (n : Int) (hr : RdK (kR kI) W H ok v l) : ACalls Try.prog W 31 #[.agg #[.int .i64 n, v]] H (fun r H' => (∃ v k, r = .tuple #[v, .int .i64 (if okI n l then 0 else 1)] ∧ k = (if okI n l then cbAll l (n + 1).toNat (2 ^ n.toNat) else []) ∧ OwnK kI 2 W H' (fun b => H.bd ≤ b) v k) ∧ Ext H H') := by
  refine ACalls.of (args := [.agg #[.int .i64 n, v]]) Try.func31 rfl rfl ?_
  have X0 := Ext.refl H
  have hm1 := hr.max
  refine AW.rs ?_
  refine AL.w rfl (.inl rfl) (WV.bx rfl rfl) ?_
  rintro _ H3 ⟨b2, rfl, hx4, hn5, hb6⟩
  have o7 := Nat.le_trans X0.bd hn5
  have X8 := Ext.trans X0 hx4
  have X9 := Ext.refl H3
  refine AL.val rfl (.inl rfl) (HV.as rfl) ?_
  refine AL.val rfl (.inl rfl) (HV.as rfl) ?_
  refine AL.nx ?_
  refine AW.seq ?_
  refine AW.rs ?_
  refine AL.w rfl (.inl rfl) (WV.call fn60 rfl (l01Ok_ok (hr.ext X8) hb6)) ?_
  rintro _ H10 ⟨rfl, hx11⟩
  have X12 := Ext.trans X8 hx11
  have X13 := Ext.trans X9 hx11
  have hb14 := hb6.ext hx11
  refine AL.val rfl (.inl rfl) (HV.not rfl) ?_
  refine AL.nx ?_
  refine AW.ifn rfl (fun c15 => ?_) (fun c15 => ?_)
  · -- then
    refine AW.rs ?_
    have X16 := Ext.refl H10
    have y17 := hb14.lt
    have o18 := X12.bd
    have o19 := X13.bd
    have o20 := X16.bd
    refine AL.w rfl (.inl rfl) (WV.bsK (K := kI) (l := ([] : List Int)) (css := []) sl25 rfl rfl (by first | rfl | (simp [Instr.fill, Value.cells, kI, kB, kU, kS, Kd.sc]; done) | (simp [Instr.fill, Value.cells, kI, kB, kU, kS, Kd.sc, rng1, rng2, rng3, rng4, kP])) rfl segs_nil) ?_
    rintro v21 H22 ⟨hx23, ho24⟩
    have X25 := Ext.trans X12 hx23
    have X26 := Ext.trans X13 hx23
    have X27 := Ext.trans X16 hx23
    have hb28 := hb14.ext hx23
    refine AL.val rfl (.inl rfl) (HV.as rfl) ?_
    refine AL.val rfl (.inl rfl) (HV.as rfl) ?_
    refine AL.nx ?_
    refine AW.ret ?_
    refine ret_and ?_
    refine post_two rfl rfl rfl ?_ (.inr rfl)
    exact ⟨⟨_, [], by rw [if_neg c15], by rw [if_neg c15], ho24.okk (fun b hb _ => Nat.le_trans o18 hb)⟩, X25⟩
  · -- else
    refine AW.skip ?_
    refine nrm_and ?_
    refine AW.rs ?_
    refine AL.w rfl (.inl rfl) (WV.call fn61 rfl (l01Table_ok (hr.ext X12) hb14 (by assumption : okI n l).1)) ?_
    rintro v30 H31 ⟨hx32, ho33⟩
    have X35 := Ext.trans X12 hx32
    have X36 := Ext.trans X13 hx32
    have hb37 := hb14.ext hx32
    have X38 := Ext.refl H31
    have hr34 := ho33.rd
    refine AL.val rfl (.inl rfl) (HV.as rfl) ?_
    refine AL.nx ?_
    refine AW.rs ?_
    refine AL.val rfl (.inl rfl) (HV.fa fl42_0 rfl) ?_
    refine AL.val rfl (.inl rfl) (HV.ld rfl va2 (at_cell hb37 rfl)) ?_
    refine AL.val rfl (.inl rfl) (HV.add rfl rfl (by have := (by assumption : okI n l).1; omega)) ?_
    have y39 := hb37.lt
    have o40 := X35.bd
    have o41 := X36.bd
    have o42 := X38.bd
    refine AL.w rfl (.inl rfl) (WV.mkK (K := kI) (0 : Int) (fun _ _ _ => rfl) sl25 rfl rfl rfl (by have := (by assumption : okI n l).1; omega) (by have := (by assumption : okI n l).1; omega) (by have := (by assumption : okI n l).1; omega)) ?_
    rintro v43 H44 ⟨hx45, ho46⟩
    have X47 := Ext.trans X35 hx45
    have X48 := Ext.trans X36 hx45
    have X49 := Ext.trans X38 hx45
    have hb50 := hb37.ext hx45
    refine AL.val rfl (.inl rfl) (HV.as rfl) ?_
    refine AL.nx ?_
    refine AW.seq ?_
    refine AW.rs ?_
    refine AL.val rfl (.inl rfl) (HV.as rfl) ?_
    refine AL.nx ?_
    refine AW.block ?_
    have hok : okI n l := (by assumption)
    have hn := hok.1
    obtain ⟨N, hN, hN2, hN1⟩ := shl7 hn
    have hTL : (tabI n l).length = N := by rw [tabI_length, hN2]
    refine AW.loop (σ := Nat) (fun i => [(2, (.slice none 0 0)), (3, .int .i64 0), (4, v30), (5, v43), (5, v43), (6, .int .i64 (i : Int))]) (fun i H' => Ext H H' ∧ Ext H3 H' ∧ Ext H31 H' ∧ At W H' b2 ⟨42, [.int .i64 n, v], 2⟩ ∧ i ≤ N ∧ OwnK kI 2 W H' (fun b => H31.bd ≤ b) v43 (cbAll l (n + 1).toNat i) ∧ True) (fun i => N - i) 0 ⟨X47, X48, X49, hb50, Nat.zero_le _, ho46, trivial⟩ ⟨rfl, rfl, rfl, rfl, rfl, rfl, trivial⟩ ?_
    rintro i H52 ⟨X53, X54, X55, hb56, hi, hoL, _⟩
    refine AW.seq ?_
    refine AW.rs ?_
    refine AL.val rfl (.inl rfl) (HV.mv rfl) ?_
    refine AL.val rfl (.inl rfl) (HV.mv rfl) ?_
    refine AL.val rfl (.inl rfl) (HV.len Try.underlying81 rfl hr34.isSl) ?_
    refine AL.val rfl (.inl rfl) (HV.lti rfl rfl) ?_
    refine AL.nx ?_
    refine AW.ifd rfl (fun c57 => ?_) (fun c57 => ?_)
    · -- then
      refine AW.skip ?_
      refine nrm_and ?_
      refine AW.seq ?_
      refine AW.block ?_
      refine AW.rs ?_
      refine AL.val rfl (.inl rfl) (HV.mv rfl) ?_
      refine AL.val rfl (.inl rfl) (HV.mv rfl) ?_
      obtain ⟨p58, z59, cs60, hz61, hK62, hC63, hP64⟩ := RdK.ix (q := (i : Int)) hr34 sl81 (by omega) (by omega)
      obtain rfl : cs60 = [.bool z59] := hK62
      refine AL.val rfl (.inl rfl) (hP64 rfl rfl) ?_
      refine AL.val rfl (.inl rfl) (HV.ld rfl va4 (cells_first (hC63.ext X55) rfl)) ?_
      refine AL.nx ?_
      refine AW.cond rfl (fun c65 => ?_) (fun c65 => ?_)
      · -- then
        refine AW.reg ?_
        refine AL.val rfl (.inl rfl) (HV.mv rfl) ?_
        refine AL.val rfl (.inl rfl) (HV.mv rfl) ?_
        refine AL.w rfl (.inl rfl) (WV.call fn69 rfl (l01Of_ok i (by omega))) ?_
        rintro v66 H69 ⟨hx70, k67, hk68, ho71⟩
        have X73 := Ext.trans X53 hx70
        have X74 := Ext.trans X54 hx70
        have X75 := Ext.trans X55 hx70
        have ho76 := hoL.ext hx70
        have hb77 := hb56.ext hx70
        have X78 := Ext.refl H69
        have hr72 := ho71.rd
        refine AL.val rfl (.inl rfl) (HV.len Try.underlying25 rfl hr72.isSl) ?_
        obtain ⟨g79, z80, cs81, hz82, hK83, hC84, hg85, hP86⟩ := OwnK.ix (q := (k67.length : Int)) ho76 sl25 (by omega) (by rw [cbAll_length]; have := pcnt_le hn (show i < 2 ^ n.toNat by omega); omega)
        obtain rfl : cs81 = [.int .i64 z80] := hK83
        refine AL.val rfl (.inl rfl) (hP86 rfl rfl) ?_
        refine AL.val rfl (.inl rfl) (HV.ld rfl va2 (cells_first hC84 rfl)) ?_
        refine AL.val rfl (.inl rfl) (HV.add rfl rfl (by have := cbAll_in l (n + 1).toNat i _ (List.mem_of_getElem? hz82); omega)) ?_
        obtain ⟨g87, z88, cs89, hz90, hK91, hC92, hg93, hP94⟩ := OwnK.ix (q := (k67.length : Int)) ho76 sl25 (by omega) (by rw [cbAll_length]; have := pcnt_le hn (show i < 2 ^ n.toNat by omega); omega)
        obtain rfl : cs89 = [.int .i64 z88] := hK91
        refine AL.val rfl (.inl rfl) (hP94 rfl rfl) ?_
        refine AL.w0 (.inl rfl) (WV.stK (okx := fun _ => False) (x' := z80 + 1) ho76 hg93 rfl rfl va2 (by rw [cbAll_length]; have := pcnt_le hn (show i < 2 ^ n.toNat by omega); omega) rfl (fun _ h => h.elim)) ?_
        rintro _ H95 ⟨hx96, ho97⟩
        have X98 := Ext.thru X73 hx96 (fun b hb => Nat.le_trans o40 (ho76.blk b hb).1)
        have X99 := Ext.thru X74 hx96 (fun b hb => Nat.le_trans o41 (ho76.blk b hb).1)
        have X100 := Ext.thru X75 hx96 (fun b hb => Nat.le_trans o42 (ho76.blk b hb).1)
        have hb102 := hb77.but hx96 (fun e => by have q : H31.bd ≤ _ := (ho76.blk _ e).1; omega)
        have ho103 := ho97.okk (ok' := fun b => H31.bd ≤ b) (fun b hb _ => hb.elim id False.elim)
        refine AL.nil ?_
        refine nrm_blk (nrm_and ?_)
        refine AW.reg ?_
        refine AL.val rfl (.inl rfl) (HV.mv rfl) ?_
        refine AL.val rfl (.inl rfl) (HV.add rfl rfl (by omega)) ?_
        refine AL.val rfl (.inl rfl) (HV.as rfl) ?_
        refine AL.nil ?_
        refine nrm_and ?_
        exact ⟨i + 1, ⟨X98, X99, X100, hb102, by omega, by rw [cb_yes hz82 (by omega) (by have z_ := tab_z hz61 rfl (show i < 2 ^ n.toNat by omega); simp_all)]; exact ho103, trivial⟩, by first | omega | (dsimp only; omega), ⟨rfl, rfl, rfl, rfl, rfl, rfl, trivial⟩⟩
      · -- else
        refine AW.skip ?_
        refine nrm_blk (nrm_and ?_)
        refine AW.reg ?_
        refine AL.val rfl (.inl rfl) (HV.mv rfl) ?_
        refine AL.val rfl (.inl rfl) (HV.add rfl rfl (by omega)) ?_
        refine AL.val rfl (.inl rfl) (HV.as rfl) ?_
        refine AL.nil ?_
        refine nrm_and ?_
        exact ⟨i + 1, ⟨X53, X54, X55, hb56, by omega, by rw [cb_no (by have z_ := tab_z hz61 rfl (show i < 2 ^ n.toNat by omega); simp_all)]; exact hoL, trivial⟩, by first | omega | (dsimp only; omega), ⟨rfl, rfl, rfl, rfl, rfl, rfl, trivial⟩⟩
    · -- else
      refine AW.exit ?_
      refine ex_and (ex_and (ex_blk ?_))
      refine nrm_and ?_
      refine AW.rs ?_
      refine AL.val rfl (.inl rfl) (HV.mv rfl) ?_
      refine AL.val rfl (.inl rfl) (HV.as rfl) ?_
      refine AL.val rfl (.inl rfl) (HV.as rfl) ?_
      refine AL.nx ?_
      refine AW.ret ?_
      refine post_two rfl rfl rfl ?_ (.inr rfl)
      exact ⟨⟨_, _, by rw [if_pos hok], by rw [if_pos hok, hN2]; exact congrArg _ (by omega), hoL.okk (fun b hb _ => Nat.le_trans o40 hb)⟩, X53⟩

set_option maxRecDepth 100000 in
theorem implCb_ok {v : Value} {l : List (List Int)} {ok : Nat → Prop} (n : Int) (hr : RdK (kR kI) W H ok v l) : ACalls Try.prog W 32 #[.agg #[.int .i64 n, v]] H (fun r H' => (∃ v k, r = .tuple #[v, .int .i64 (if okI n l then 0 else 1)] ∧ k = (if okI n l then cbAll l (n + 1).toNat (2 ^ n.toNat) else []) ∧ OwnK kI 2 W H' (fun b => H.bd ≤ b) v k) ∧ Ext H H') := by
  refine ACalls.of (args := [.agg #[.int .i64 n, v]]) Try.func32 rfl rfl ?_
  have X0 := Ext.refl H
  have hm1 := hr.max
  refine AW.rs ?_
  refine AL.w rfl (.inl rfl) (WV.bx rfl rfl) ?_
  rintro _ H3 ⟨b2, rfl, hx4, hn5, hb6⟩
  have o7 := Nat.le_trans X0.bd hn5
  have X8 := Ext.trans X0 hx4
  have X9 := Ext.refl H3
  refine AL.val rfl (.inl rfl) (HV.as rfl) ?_
  refine AL.val rfl (.inl rfl) (HV.as rfl) ?_
  refine AL.nx ?_
  refine AW.seq ?_
  refine AW.rs ?_
  refine AL.val rfl (.inl rfl) (HV.lda (cs := [.int .i64 n, v]) rfl va42 (at_cells hb6 rfl)) ?_
  refine AL.w rfl (.inl rfl) (WV.call fn63 rfl (validFam_ok n (hr.ext X8))) ?_
  rintro _ H10 ⟨rfl, hx11⟩
  have X12 := Ext.trans X8 hx11
  have X13 := Ext.trans X9 hx11
  have hb14 := hb6.ext hx11
  refine AL.val rfl (.inl rfl) (HV.not rfl) ?_
  refine AL.nx ?_
  refine AW.ifn rfl (fun c15 => ?_) (fun c15 => ?_)
  · -- then
    refine AW.rs ?_
    refine AL.val rfl (.inl rfl) (HV.as rfl) ?_
    refine AL.val rfl (.inl rfl) (HV.as rfl) ?_
    refine AL.nx ?_
    refine AW.ret ?_
    refine ret_and ?_
    refine post_two rfl rfl rfl ?_ (.inr rfl)
    have hno : ¬ okI n l := (fun h => c15 ((ok_iff n l).1 h)); exact ⟨⟨_, [], by rw [if_neg hno], by rw [if_neg hno], OwnK.nil _⟩, X12⟩
  · -- else
    refine AW.skip ?_
    refine nrm_and ?_
    refine AW.rs ?_
    refine AL.val rfl (.inl rfl) (HV.fa fl42_0 rfl) ?_
    refine AL.val rfl (.inl rfl) (HV.ld rfl va2 (at_cell hb14 rfl)) ?_
    refine AL.val rfl (.inl rfl) (HV.add rfl rfl (by have := (by assumption : okC n l).1; omega)) ?_
    have X16 := Ext.refl H10
    have y17 := hb14.lt
    have o18 := X12.bd
    have o19 := X13.bd
    have o20 := X16.bd
    refine AL.w rfl (.inl rfl) (WV.mkK (K := kI) (0 : Int) (fun _ _ _ => rfl) sl25 rfl rfl rfl (by have := (by assumption : okC n l).1; omega) (by have := (by assumption : okC n l).1; omega) (by have := (by assumption : okC n l).1; omega)) ?_
    rintro v21 H22 ⟨hx23, ho24⟩
    have X25 := Ext.trans X12 hx23
    have X26 := Ext.trans X13 hx23
    have X27 := Ext.trans X16 hx23
    have hb28 := hb14.ext hx23
    refine AL.val rfl (.inl rfl) (HV.as rfl) ?_
    refine AL.nx ?_
    refine AW.seq ?_
    refine AW.rs ?_
    refine AL.val rfl (.inl rfl) (HV.as rfl) ?_
    refine AL.nx ?_
    refine AW.block ?_
    have hokC : okC n l := (by assumption)
    have hok := (ok_iff n l).2 hokC
    have hn := hok.1
    obtain ⟨N, hN, hN2, hN1⟩ := shl7 hn
    refine AW.loop (σ := Nat) (fun i => [(1, .pointer (some ⟨b2, 0, none⟩)), (2, (.slice none 0 0)), (3, .int .i64 0), (4, v21), (4, v21), (5, .int .u64 (i : Int))]) (fun i H' => Ext H H' ∧ Ext H3 H' ∧ Ext H10 H' ∧ At W H' b2 ⟨42, [.int .i64 n, v], 2⟩ ∧ i ≤ N ∧ OwnK kI 2 W H' (fun b => H10.bd ≤ b) v21 (cbAll l (n + 1).toNat i) ∧ True) (fun i => N - i) 0 ⟨X25, X26, X27, hb28, Nat.zero_le _, ho24, trivial⟩ ⟨rfl, rfl, rfl, rfl, rfl, rfl, trivial⟩ ?_
    rintro i H30 ⟨X31, X32, X33, hb34, hi, hoL, _⟩
    refine AW.seq ?_
    refine AW.rs ?_
    refine AL.val rfl (.inl rfl) (HV.mv rfl) ?_
    refine AL.val rfl (.inl rfl) (HV.fa fl42_0 rfl) ?_
    refine AL.val rfl (.inl rfl) (HV.ld rfl va2 (at_cell hb34 rfl)) ?_
    refine AL.w rfl (.inl rfl) (WV.call fn65 rfl (everybody_ok (W := W) hn)) ?_
    rintro _ H35 ⟨rfl, hx36⟩
    have X37 := Ext.trans X31 hx36
    have X38 := Ext.trans X32 hx36
    have X39 := Ext.trans X33 hx36
    have ho40 := hoL.ext hx36
    have hb41 := hb34.ext hx36
    refine AL.val rfl (.inl rfl) (HV.lei rfl rfl) ?_
    refine AL.nx ?_
    refine AW.ifd rfl (fun c42 => ?_) (fun c42 => ?_)
    · -- then
      refine AW.skip ?_
      refine nrm_and ?_
      refine AW.seq ?_
      refine AW.block ?_
      refine AW.rs ?_
      refine AL.val rfl (.inl rfl) (HV.lda (cs := [.int .i64 n, v]) rfl va42 (at_cells hb41 rfl)) ?_
      refine AL.val rfl (.inl rfl) (HV.mv rfl) ?_
      refine AL.w rfl (.inl rfl) (WV.call fn64 rfl (opens_ok n (hr.ext X37) (i : Int) (okC_low hokC))) ?_
      rintro _ H43 ⟨rfl, hx44⟩
      have X45 := Ext.trans X37 hx44
      have X46 := Ext.trans X38 hx44
      have X47 := Ext.trans X39 hx44
      have ho48 := ho40.ext hx44
      have hb49 := hb41.ext hx44
      refine AL.nx ?_
      refine AW.ifd rfl (fun c50 => ?_) (fun c50 => ?_)
      · -- then
        refine AW.reg ?_
        refine AL.val rfl (.inl rfl) (HV.mv rfl) ?_
        refine AL.val rfl (.inl rfl) (HV.mv rfl) ?_
        refine AL.w rfl (.inl rfl) (WV.call fn70 rfl (size_ok (W := W) (i : Int))) ?_
        rintro _ H51 ⟨rfl, hx52⟩
        have X53 := Ext.trans X45 hx52
        have X54 := Ext.trans X46 hx52
        have X55 := Ext.trans X47 hx52
        have ho56 := ho48.ext hx52
        have hb57 := hb49.ext hx52
        obtain ⟨g58, z59, cs60, hz61, hK62, hC63, hg64, hP65⟩ := OwnK.ix (q := ones (i : Int)) ho56 sl25 (by rw [ones_eq (show i < 128 by omega)]; omega) (by rw [cbAll_length, ones_eq (show i < 128 by omega)]; have := pcnt_le hn (show i < 2 ^ n.toNat by omega); omega)
        have X66 := Ext.refl H51
        obtain rfl : cs60 = [.int .i64 z59] := hK62
        refine AL.val rfl (.inl rfl) (hP65 rfl rfl) ?_
        refine AL.val rfl (.inl rfl) (HV.ld rfl va2 (cells_first hC63 rfl)) ?_
        refine AL.val rfl (.inl rfl) (HV.add rfl rfl (by have := cbAll_in l (n + 1).toNat i _ (List.mem_of_getElem? hz61); omega)) ?_
        obtain ⟨g67, z68, cs69, hz70, hK71, hC72, hg73, hP74⟩ := OwnK.ix (q := ones (i : Int)) ho56 sl25 (by rw [ones_eq (show i < 128 by omega)]; omega) (by rw [cbAll_length, ones_eq (show i < 128 by omega)]; have := pcnt_le hn (show i < 2 ^ n.toNat by omega); omega)
        obtain rfl : cs69 = [.int .i64 z68] := hK71
        refine AL.val rfl (.inl rfl) (hP74 rfl rfl) ?_
        refine AL.w0 (.inl rfl) (WV.stK (okx := fun _ => False) (x' := z59 + 1) ho56 hg73 rfl rfl va2 (by rw [cbAll_length, ones_eq (show i < 128 by omega)]; have := pcnt_le hn (show i < 2 ^ n.toNat by omega); omega) rfl (fun _ h => h.elim)) ?_
        rintro _ H75 ⟨hx76, ho77⟩
        have X78 := Ext.thru X53 hx76 (fun b hb => Nat.le_trans o18 (ho56.blk b hb).1)
        have X79 := Ext.thru X54 hx76 (fun b hb => Nat.le_trans o19 (ho56.blk b hb).1)
        have X80 := Ext.thru X55 hx76 (fun b hb => Nat.le_trans o20 (ho56.blk b hb).1)
        have hb82 := hb57.but hx76 (fun e => by have q : H10.bd ≤ _ := (ho56.blk _ e).1; omega)
        have ho83 := ho77.okk (ok' := fun b => H10.bd ≤ b) (fun b hb _ => hb.elim id False.elim)
        refine AL.nil ?_
        refine nrm_blk (nrm_and ?_)
        refine AW.reg ?_
        refine AL.val rfl (.inl rfl) (HV.mv rfl) ?_
        refine AL.val rfl (.inl rfl) (HV.addu rfl rfl (by omega)) ?_
        refine AL.val rfl (.inl rfl) (HV.as rfl) ?_
        refine AL.nil ?_
        refine nrm_and ?_
        exact ⟨i + 1, ⟨X78, X79, X80, hb82, by omega, by rw [cb_yes hz61 (ones_eq (show i < 128 by omega)) ((opN hokC (show i < 2 ^ n.toNat by omega)).2 (by assumption))]; exact ho83, trivial⟩, by first | omega | (dsimp only; omega), ⟨rfl, rfl, rfl, rfl, rfl, rfl, trivial⟩⟩
      · -- else
        refine AW.skip ?_
        refine nrm_blk (nrm_and ?_)
        refine AW.reg ?_
        refine AL.val rfl (.inl rfl) (HV.mv rfl) ?_
        refine AL.val rfl (.inl rfl) (HV.addu rfl rfl (by omega)) ?_
        refine AL.val rfl (.inl rfl) (HV.as rfl) ?_
        refine AL.nil ?_
        refine nrm_and ?_
        exact ⟨i + 1, ⟨X45, X46, X47, hb49, by omega, by rw [cb_no (fun h => absurd ((opN hokC (show i < 2 ^ n.toNat by omega)).1 h) (by assumption))]; exact ho48, trivial⟩, by first | omega | (dsimp only; omega), ⟨rfl, rfl, rfl, rfl, rfl, rfl, trivial⟩⟩
    · -- else
      refine AW.exit ?_
      refine ex_and (ex_and (ex_blk ?_))
      refine nrm_and ?_
      refine AW.rs ?_
      refine AL.val rfl (.inl rfl) (HV.mv rfl) ?_
      refine AL.val rfl (.inl rfl) (HV.as rfl) ?_
      refine AL.val rfl (.inl rfl) (HV.as rfl) ?_
      refine AL.nx ?_
      refine AW.ret ?_
      refine post_two rfl rfl rfl ?_ (.inr rfl)
      exact ⟨⟨_, _, by rw [if_pos hok], by rw [if_pos hok, hN2]; exact congrArg _ (by omega), ho40.okk (fun b hb _ => Nat.le_trans o18 hb)⟩, X37⟩

set_option maxRecDepth 100000 in
theorem law_CountBySize {v : Value} {l : List (List Int)} {ok : Nat → Prop} (n : Int) (hr : RdK (kR kI) W H ok v l) : ACalls Try.prog W 7 #[.agg #[.int .i64 n, v]] H (fun r H' => r = .bool true ∧ Ext H H') := by
  refine ACalls.of (args := [.agg #[.int .i64 n, v]]) Try.func7 rfl rfl ?_
  have X0 := Ext.refl H
  have hm1 := hr.max
  refine AW.rs ?_
  refine AL.w rfl (.inl rfl) (WV.bx rfl rfl) ?_
  rintro _ H3 ⟨b2, rfl, hx4, hn5, hb6⟩
  have o7 := Nat.le_trans X0.bd hn5
  have X8 := Ext.trans X0 hx4
  have X9 := Ext.refl H3
  refine AL.val rfl (.inl rfl) (HV.as rfl) ?_
  refine AL.nx ?_
  refine AW.rs ?_
  refine AL.val rfl (.inl rfl) (HV.as rfl) ?_
  refine AL.nx ?_
  refine AW.rs ?_
  refine AL.val rfl (.inl rfl) (HV.lda (cs := [.int .i64 n, v]) rfl va39 (at_cells hb6 rfl)) ?_
  refine AL.val rfl (.inl rfl) (HV.mv rfl) ?_
  refine AL.w rfl (.inl rfl) (WV.call fn19 rfl (szFamily_ok n (hr.ext X8) 1048576 (by omega))) ?_
  rintro _ H10 ⟨⟨q12, rfl, ha13, hb14, he15⟩, hx11⟩
  have X16 := Ext.trans X8 hx11
  have X17 := Ext.trans X9 hx11
  have hb18 := hb6.ext hx11
  refine AL.val rfl (.inl rfl) (HV.as rfl) ?_
  refine AL.nx ?_
  refine AW.seq ?_
  refine AW.rs ?_
  refine AL.val rfl (.inl rfl) (HV.mv rfl) ?_
  refine AL.val rfl (.inl rfl) (HV.lti rfl rfl) ?_
  refine AL.nx ?_
  refine AW.ifd rfl (fun c19 => ?_) (fun c19 => ?_)
  · -- then
    refine AW.rs ?_
    refine AL.val rfl (.inl rfl) (HV.as rfl) ?_
    refine AL.nx ?_
    refine AW.ret ?_
    refine ret_and ?_
    refine post_one rfl rfl ?_ (.inr rfl)
    exact ⟨rfl, X16⟩
  · -- else
    refine AW.skip ?_
    refine nrm_and ?_
    refine AW.rs ?_
    refine AL.val rfl (.inl rfl) (HV.lda (cs := [.int .i64 n, v]) rfl va39 (at_cells hb18 rfl)) ?_
    refine AL.w rfl (.inl rfl) (WV.call fn21 rfl (toFamily_ok n (hr.ext X16) (he15 (by omega)))) ?_
    rintro _ H21 ⟨⟨v20, rfl, ho23⟩, hx22⟩
    have X25 := Ext.trans X16 hx22
    have X26 := Ext.trans X17 hx22
    have hb27 := hb18.ext hx22
    have X28 := Ext.refl H21
    have hr24 := rd_ofO ho23.rd
    have y29 := hb27.lt
    have o30 := X25.bd
    have o31 := X26.bd
    have o32 := X28.bd
    refine AL.w rfl (.inl rfl) (WV.call fn31 rfl (specCb_ok n hr24)) ?_
    rintro _ H36 ⟨⟨v33, k34, rfl, hk35, ho38⟩, hx37⟩
    have X40 := Ext.trans X25 hx37
    have X41 := Ext.trans X26 hx37
    have X42 := Ext.trans X28 hx37
    have hb43 := hb27.ext hx37
    have X44 := Ext.refl H36
    have hr39 := ho38.rd
    refine AL.val rfl (.inl rfl) (HV.mv rfl) ?_
    refine AL.val rfl (.inl rfl) (HV.ex rfl rfl) ?_
    refine AL.val rfl (.inl rfl) (HV.ex rfl rfl) ?_
    refine AL.val rfl (.inl rfl) (HV.as rfl) ?_
    refine AL.val rfl (.inl rfl) (HV.as rfl) ?_
    refine AL.nx ?_
    refine AW.rs ?_
    refine AL.val rfl (.inl rfl) (HV.lda (cs := [.int .i64 n, v]) rfl va39 (at_cells hb43 rfl)) ?_
    have y45 := hb43.lt
    have o46 := X40.bd
    have o47 := X41.bd
    have o48 := X42.bd
    have o49 := X44.bd
    refine AL.w rfl (.inl rfl) (WV.call fn21 rfl (toFamily_ok n (hr.ext X40) (he15 (by omega)))) ?_
    rintro _ H51 ⟨⟨u50, rfl, ho53⟩, hx52⟩
    have X55 := Ext.trans X40 hx52
    have X56 := Ext.trans X41 hx52
    have X57 := Ext.trans X42 hx52
    have X58 := Ext.trans X44 hx52
    have hb59 := hb43.ext hx52
    have X60 := Ext.refl H51
    have ho54 := ho53.lo
    refine AL.w rfl (.inl rfl) (WV.al ze42 rfl) ?_
    rintro _ H63 ⟨b62, rfl, hx64, hn65, hb66⟩
    have o67 := Nat.le_trans X55.bd hn65
    have o68 := Nat.le_trans X56.bd hn65
    have o69 := Nat.le_trans X57.bd hn65
    have o70 := Nat.le_trans X58.bd hn65
    have o71 := Nat.le_trans X60.bd hn65
    have ne72 : b2 ≠ b62 := by have := hb59.lt; omega
    have X73 := Ext.trans X55 hx64
    have X74 := Ext.trans X56 hx64
    have X75 := Ext.trans X57 hx64
    have X76 := Ext.trans X58 hx64
    have X77 := Ext.trans X60 hx64
    have ho78 := ho54.ext hx64
    have hb79 := hb59.ext hx64
    have X80 := Ext.refl H63
    refine AL.w0 (.inl rfl) (WV.st rfl rfl va42 rfl hb66 (Nat.le_of_ble_eq_true rfl) (one_cons rfl (one_cons (sl_one1 (rd_ofO ho78.rd).isSl) one_nil))) ?_
    rintro _ H81 ⟨hx82, hb83⟩
    have X84 := Ext.thru X73 hx82 (fun z_ hz_ => by rw [hz_]; exact o67)
    have X85 := Ext.thru X74 hx82 (fun z_ hz_ => by rw [hz_]; exact o68)
    have X86 := Ext.thru X75 hx82 (fun z_ hz_ => by rw [hz_]; exact o69)
    have X87 := Ext.thru X76 hx82 (fun z_ hz_ => by rw [hz_]; exact o70)
    have X88 := Ext.thru X77 hx82 (fun z_ hz_ => by rw [hz_]; exact o71)
    have ho90 := ho78.but hx82 (fun b hb _ e => by have hb' : H36.bd ≤ b ∧ b < H51.bd := hb; have e' : b = b62 := e; omega) (fun z_ hz_ => by rw [hz_]; exact hb66.w)
    have hb91 := hb79.but hx82 ne72
    have hb92 : At W H81 b62 ⟨42, [.int .i64 n, u50], 2⟩ := hb83
    refine AL.nx ?_
    refine AW.rs ?_
    refine AL.val rfl (.inl rfl) (HV.lda (cs := [.int .i64 n, u50]) rfl va42 (at_cells hb92 rfl)) ?_
    have X93 := Ext.refl H81
    have y94 := hb91.lt
    have y95 := hb92.lt
    have o96 := X84.bd
    have o97 := X85.bd
    have o98 := X86.bd
    have o99 := X87.bd
    have o100 := X88.bd
    have o101 := X93.bd
    have a102 := ho90.ltb
    have s103 := ho90.lo
    refine AL.w rfl (.inl rfl) (WV.call fn32 rfl (implCb_ok n (rd_ofO ho90.rd))) ?_
    rintro _ H107 ⟨⟨v104, k105, rfl, hk106, ho109⟩, hx108⟩
    have X111 := Ext.trans X84 hx108
    have X112 := Ext.trans X85 hx108
    have X113 := Ext.trans X86 hx108
    have X114 := Ext.trans X87 hx108
    have X115 := Ext.trans X88 hx108
    have X116 := Ext.trans X93 hx108
    have s118 := s103.ext hx108
    have ho117 := ho90.ext hx108
    have hb119 := hb91.ext hx108
    have hb120 := hb92.ext hx108
    have X121 := Ext.refl H107
    have := cb_len hk106
    refine AL.val rfl (.inl rfl) (HV.mv rfl) ?_
    refine AL.val rfl (.inl rfl) (HV.ex rfl rfl) ?_
    refine AL.val rfl (.inl rfl) (HV.ex rfl rfl) ?_
    refine AL.val rfl (.inl rfl) (HV.as rfl) ?_
    refine AL.val rfl (.inl rfl) (HV.as rfl) ?_
    refine AL.nx ?_
    refine AW.seq ?_
    refine AW.rs ?_
    refine AL.val rfl (.inl rfl) (HV.mv rfl) ?_
    refine AL.val rfl (.inl rfl) (HV.mv rfl) ?_
    refine AL.w rfl (.inl rfl) (WV.call fn18 rfl (eqS_ok ho109.rd (hr39.ext X114))) ?_
    rintro _ H123 ⟨rfl, hx124⟩
    have X125 := Ext.trans X111 hx124
    have X126 := Ext.trans X112 hx124
    have X127 := Ext.trans X113 hx124
    have X128 := Ext.trans X114 hx124
    have X129 := Ext.trans X115 hx124
    have X130 := Ext.trans X116 hx124
    have X131 := Ext.trans X121 hx124
    have s133 := s118.ext hx124
    have ho132 := ho117.ext hx124
    have ho134 := ho109.ext hx124
    have hb135 := hb119.ext hx124
    have hb136 := hb120.ext hx124
    refine AL.val rfl (.inl rfl) (HV.not rfl) ?_
    refine AL.val rfl (.inl rfl) (HV.mv rfl) ?_
    by_cases c137 : k105 = k34
    · -- false
      have c137_ : (!decide (k105 = k34)) = false := by rw [decide_eq_true c137]; rfl
      rw [c137_]
      refine AL.val rfl (.inr ⟨_, _, _, rfl, rfl, rfl⟩) (HV.mv rfl) ?_
      refine AL.val rfl (.inr ⟨_, _, _, rfl, rfl, rfl⟩) (HV.mv rfl) ?_
      refine AL.val rfl (.inr ⟨_, _, _, rfl, rfl, rfl⟩) (HV.nei rfl rfl) ?_
      refine AL.val rfl (.inl rfl) (HV.pickF rfl rfl) ?_
      refine AL.nx ?_
      refine AW.ifd rfl (fun c138 => ?_) (fun c138 => ?_)
      · -- then
        refine AW.rs ?_
        refine AL.val rfl (.inl rfl) (HV.as rfl) ?_
        refine AL.nx ?_
        refine AW.ret ?_
        refine ret_and ?_
        refine post_one rfl rfl ?_ (.inr rfl)
        exfalso; first | omega | exact absurd (hk106.trans hk35.symm) c138 | (simp at c138; done) | exact absurd c138 (by simp)
      · -- else
        refine AW.skip ?_
        refine nrm_and ?_
        refine AW.seq ?_
        refine AW.seq ?_
        refine AW.draw' [0, 0, 2, 7, 15] mixed (by rfl) ?_
        refine Dr.read 0 _ 41 _ rfl rfl rfl rfl rfl (RV.of (by intro _ _ h; cases h) (.inl rfl) (fun _ xd => HV.lda (cs := [.int .i64 n, u50]) rfl va42 (fun j u hu => rdc_ext xd ((at_cells hb136 rfl) j u hu)))) ?_
        refine Dr.read 1 _ 42 _ rfl rfl rfl rfl rfl (RV.of (by intro _ _ h; cases h) (.inl rfl) (fun _ xd => HV.lda (cs := [.int .i64 n, v]) rfl va39 (fun j u hu => rdc_ext xd ((at_cells hb135 rfl) j u hu)))) ?_
        refine Dr.eff 2 _ _ rfl (by intro d h; cases h; exact ⟨rfl, rfl⟩) rfl rfl rfl (EC.of (by intro _ _ h; cases h) (.inl rfl) (WV.call fn21 rfl (toFamily_ok n (hr.ext X125) (he15 (by omega))))) (fun v H' h => .inl (h.2)) ?_
        rintro _ H140 ⟨⟨v139, rfl, ho142⟩, hx141⟩
        have X144 := Ext.trans X125 hx141
        have X145 := Ext.trans X126 hx141
        have X146 := Ext.trans X127 hx141
        have X147 := Ext.trans X128 hx141
        have X148 := Ext.trans X129 hx141
        have X149 := Ext.trans X130 hx141
        have X150 := Ext.trans X131 hx141
        have s152 := s133.ext hx141
        have ho151 := ho132.ext hx141
        have ho153 := ho134.ext hx141
        have hb154 := hb135.ext hx141
        have hb155 := hb136.ext hx141
        have X156 := Ext.refl H140
        have hr143 := rd_ofO ho142.rd
        refine Dr.eff 3 _ _ rfl (by intro d h; cases h; exact ⟨rfl, rfl⟩) rfl rfl rfl (EC.of (by intro _ _ h; cases h) (.inl rfl) (WV.call fn23 rfl (eqFam_ok n n (rd_ofO ho151.rd) hr143))) (fun v H' h => .inl (h.2)) ?_
        rintro _ H157 ⟨rfl, hx158⟩
        have X159 := Ext.trans X144 hx158
        have X160 := Ext.trans X145 hx158
        have X161 := Ext.trans X146 hx158
        have X162 := Ext.trans X147 hx158
        have X163 := Ext.trans X148 hx158
        have X164 := Ext.trans X149 hx158
        have X165 := Ext.trans X150 hx158
        have X166 := Ext.trans X156 hx158
        have s168 := s152.ext hx158
        have ho167 := ho151.ext hx158
        have ho169 := ho153.ext hx158
        have hb170 := hb154.ext hx158
        have hb171 := hb155.ext hx158
        refine Dr.read 4 _ 45 _ rfl rfl rfl rfl rfl (RV.of (by intro _ _ h; cases h) (.inl rfl) (fun _ xd => HV.not rfl)) ?_
        refine Dr.fin rfl ?_
        refine nrm_and ?_
        refine AW.ifn rfl (fun c172 => ?_) (fun c172 => ?_)
        · -- then
          refine AW.rs ?_
          refine AL.val rfl (.inl rfl) (HV.as rfl) ?_
          refine AL.nx ?_
          refine AW.ret ?_
          refine ret_and ?_
          refine post_one rfl rfl ?_ (.inr rfl)
          exfalso; first | omega | exact absurd (hk106.trans hk35.symm) c172 | (simp at c172; done) | exact absurd c172 (by simp)
        · -- else
          refine AW.skip ?_
          refine nrm_and ?_
          refine AW.rs ?_
          refine AL.val rfl (.inl rfl) (HV.as rfl) ?_
          refine AL.nx ?_
          refine AW.rs ?_
          refine AL.val rfl (.inl rfl) (HV.lda (cs := [.int .i64 n, u50]) rfl va42 (at_cells hb171 rfl)) ?_
          refine AL.val rfl (.inl rfl) (HV.mv rfl) ?_
          refine AL.w rfl (.inl rfl) (WV.call fn26 rfl (markFam_ok n ho167 (he15 (by omega)) 1 (by omega))) ?_
          rintro _ H173 ⟨⟨q174, rfl, ha175⟩, hx176⟩
          have X177 := Ext.thru X159 hx176 (fun b hb => Nat.le_trans o46 hb.1)
          have X178 := Ext.thru X160 hx176 (fun b hb => Nat.le_trans o47 hb.1)
          have X179 := Ext.thru X161 hx176 (fun b hb => Nat.le_trans o48 hb.1)
          have X180 := Ext.thru X162 hx176 (fun b hb => Nat.le_trans o49 hb.1)
          have ho185 := ho169.but hx176 (fun b hb _ e => by have h1 : H81.bd ≤ b := hb; have h2 : H36.bd ≤ b ∧ b < H51.bd := e; omega) (fun b hb => by have h2 : H36.bd ≤ b ∧ b < H51.bd := hb; have := hb170.w; omega)
          have hb186 := hb170.but hx176 (fun e => by have q : H36.bd ≤ b2 ∧ b2 < H51.bd := e; omega)
          refine AL.val rfl (.inl rfl) (HV.as rfl) ?_
          refine AL.nx ?_
          refine AW.seq ?_
          refine AW.rs ?_
          refine AL.val rfl (.inl rfl) (HV.mv rfl) ?_
          refine AL.val rfl (.inl rfl) (HV.lti rfl rfl) ?_
          refine AL.val rfl (.inl rfl) (HV.mv rfl) ?_
          by_cases c188 : q174 < 0
          · -- true
            have c188_ : decide (q174 < 0) = true := decide_eq_true c188
            rw [c188_]
            refine AL.off rfl rfl (by decide) rfl ?_
            refine AL.off rfl rfl (by decide) rfl ?_
            refine AL.off rfl rfl (by decide) rfl ?_
            refine AL.off rfl rfl (by decide) rfl ?_
            refine AL.val rfl (.inl rfl) (HV.pickT rfl rfl) ?_
            refine AL.val rfl (.inl rfl) (HV.mv rfl) ?_
            refine AL.off rfl rfl (by decide) rfl ?_
            refine AL.off rfl rfl (by decide) rfl ?_
            refine AL.off rfl rfl (by decide) rfl ?_
            refine AL.val rfl (.inl rfl) (HV.pickT rfl rfl) ?_
            refine AL.nx ?_
            refine AW.cond rfl (fun _ => ?_) (fun h => by cases h)
            refine AW.rs ?_
            refine AL.val rfl (.inl rfl) (HV.as rfl) ?_
            refine AL.nx ?_
            refine AW.ret ?_
            refine ret_and ?_
            refine post_one rfl rfl ?_ (.inr rfl)
            exfalso; first | omega | exact absurd (hk106.trans hk35.symm) c188 | (simp at c188; done) | exact absurd c188 (by simp)
          · -- false
            have c188_ : decide (q174 < 0) = false := decide_eq_false c188
            rw [c188_]
            refine AL.val rfl (.inr ⟨_, _, _, rfl, rfl, rfl⟩) (HV.mv rfl) ?_
            refine AL.val rfl (.inr ⟨_, _, _, rfl, rfl, rfl⟩) (HV.mv rfl) ?_
            refine AL.w rfl (.inr ⟨_, _, _, rfl, rfl, rfl⟩) (WV.call fn18 rfl (eqS_ok ho185.rd (hr39.ext X180))) ?_
            rintro _ H190 ⟨rfl, hx191⟩
            have X192 := Ext.trans X177 hx191
            have X193 := Ext.trans X178 hx191
            have X194 := Ext.trans X179 hx191
            have X195 := Ext.trans X180 hx191
            have ho196 := ho185.ext hx191
            have hb197 := hb186.ext hx191
            refine AL.val rfl (.inr ⟨_, _, _, rfl, rfl, rfl⟩) (HV.not rfl) ?_
            refine AL.val rfl (.inl rfl) (HV.pickF rfl rfl) ?_
            refine AL.val rfl (.inl rfl) (HV.mv rfl) ?_
            by_cases c198 : k105 = k34
            · -- false
              have c198_ : (!decide (k105 = k34)) = false := by rw [decide_eq_true c198]; rfl
              rw [c198_]
              refine AL.val rfl (.inr ⟨_, _, _, rfl, rfl, rfl⟩) (HV.mv rfl) ?_
              refine AL.val rfl (.inr ⟨_, _, _, rfl, rfl, rfl⟩) (HV.mv rfl) ?_
              refine AL.val rfl (.inr ⟨_, _, _, rfl, rfl, rfl⟩) (HV.nei rfl rfl) ?_
              refine AL.val rfl (.inl rfl) (HV.pickF rfl rfl) ?_
              refine AL.nx ?_
              refine AW.ifd rfl (fun c199 => ?_) (fun c199 => ?_)
              · -- then
                refine AW.rs ?_
                refine AL.val rfl (.inl rfl) (HV.as rfl) ?_
                refine AL.nx ?_
                refine AW.ret ?_
                refine ret_and ?_
                refine post_one rfl rfl ?_ (.inr rfl)
                exfalso; first | omega | exact absurd (hk106.trans hk35.symm) c199 | (simp at c199; done) | exact absurd c199 (by simp)
              · -- else
                refine AW.skip ?_
                refine nrm_and ?_
                refine AW.rs ?_
                refine AL.val rfl (.inl rfl) (HV.as rfl) ?_
                refine AL.nx ?_
                refine AW.rs ?_
                refine AL.val rfl (.inl rfl) (HV.mv rfl) ?_
                refine AL.val rfl (.inl rfl) (HV.mv rfl) ?_
                refine AL.w rfl (.inl rfl) (WV.call fn27 rfl (markS_ok 1 ho196 (by omega))) ?_
                rintro _ H200 ⟨k201, rfl, hk202, hh203, hx204, ho205⟩
                have X206 := Ext.thru X192 hx204 (fun b hb => Nat.le_trans o96 (ho196.blk b hb).1)
                have X207 := Ext.thru X193 hx204 (fun b hb => Nat.le_trans o97 (ho196.blk b hb).1)
                have X208 := Ext.thru X194 hx204 (fun b hb => Nat.le_trans o98 (ho196.blk b hb).1)
                have X209 := Ext.thru X195 hx204 (fun b hb => Nat.le_trans o99 (ho196.blk b hb).1)
                have hb210 := hb197.but hx204 (fun e => by have q : H81.bd ≤ _ := (ho196.blk _ e).1; omega)
                refine AL.val rfl (.inl rfl) (HV.as rfl) ?_
                refine AL.nx ?_
                refine AW.rs ?_
                refine AL.val rfl (.inl rfl) (HV.as rfl) ?_
                refine AL.nx ?_
                refine AW.rs ?_
                refine AL.val rfl (.inl rfl) (HV.mv rfl) ?_
                refine AL.val rfl (.inl rfl) (HV.mv rfl) ?_
                refine AL.w rfl (.inl rfl) (WV.call fn28 rfl (heldS_ok 1 ho205.rd (by omega) hh203)) ?_
                rintro _ H211 ⟨rfl, hx212⟩
                have X213 := Ext.trans X206 hx212
                have X214 := Ext.trans X207 hx212
                have X215 := Ext.trans X208 hx212
                have X216 := Ext.trans X209 hx212
                have ho217 := ho205.ext hx212
                have hb218 := hb210.ext hx212
                refine AL.val rfl (.inl rfl) (HV.as rfl) ?_
                refine AL.nx ?_
                refine AW.seq ?_
                refine AW.rs ?_
                refine AL.val rfl (.inl rfl) (HV.mv rfl) ?_
                refine AL.val rfl (.inl rfl) (HV.lti rfl rfl) ?_
                refine AL.nx ?_
                refine AW.ifd rfl (fun c219 => ?_) (fun c219 => ?_)
                · -- then
                  refine AW.rs ?_
                  refine AL.val rfl (.inl rfl) (HV.as rfl) ?_
                  refine AL.nx ?_
                  refine AW.ret ?_
                  refine ret_and ?_
                  refine post_one rfl rfl ?_ (.inr rfl)
                  exfalso; first | omega | exact absurd (hk106.trans hk35.symm) c219 | (simp at c219; done) | exact absurd c219 (by simp)
                · -- else
                  refine AW.skip ?_
                  refine nrm_and ?_
                  refine AW.seq ?_
                  refine AW.rs ?_
                  refine AL.val rfl (.inl rfl) (HV.mv rfl) ?_
                  refine AL.val rfl (.inl rfl) (HV.mv rfl) ?_
                  refine AL.val rfl (.inl rfl) (HV.nei rfl rfl) ?_
                  refine AL.nx ?_
                  refine AW.ifd rfl (fun c220 => ?_) (fun c220 => ?_)
                  · -- then
                    refine AW.rs ?_
                    refine AL.val rfl (.inl rfl) (HV.as rfl) ?_
                    refine AL.nx ?_
                    refine AW.ret ?_
                    refine ret_and ?_
                    refine post_one rfl rfl ?_ (.inr rfl)
                    exfalso; first | omega | exact absurd (hk106.trans hk35.symm) c220 | (simp at c220; done) | exact absurd c220 (by simp)
                  · -- else
                    refine AW.skip ?_
                    refine nrm_and ?_
                    refine AW.rs ?_
                    refine AL.val rfl (.inl rfl) (HV.lda (cs := [.int .i64 n, v]) rfl va39 (at_cells hb218 rfl)) ?_
                    refine AL.w rfl (.inl rfl) (WV.call fn21 rfl (toFamily_ok n (hr.ext X213) (he15 (by omega)))) ?_
                    rintro _ H222 ⟨⟨v221, rfl, ho224⟩, hx223⟩
                    have X226 := Ext.trans X213 hx223
                    have X227 := Ext.trans X214 hx223
                    have X228 := Ext.trans X215 hx223
                    have X229 := Ext.trans X216 hx223
                    have ho230 := ho217.ext hx223
                    have hb231 := hb218.ext hx223
                    have X232 := Ext.refl H222
                    have hr225 := rd_ofO ho224.rd
                    have y233 := hb231.lt
                    have o234 := X226.bd
                    have o235 := X227.bd
                    have o236 := X228.bd
                    have o237 := X229.bd
                    have o238 := X232.bd
                    have a239 := ho230.ltb
                    refine AL.w rfl (.inl rfl) (WV.call fn32 rfl (implCb_ok n hr225)) ?_
                    rintro _ H243 ⟨⟨v240, k241, rfl, hk242, ho245⟩, hx244⟩
                    have X247 := Ext.trans X226 hx244
                    have X248 := Ext.trans X227 hx244
                    have X249 := Ext.trans X228 hx244
                    have X250 := Ext.trans X229 hx244
                    have X251 := Ext.trans X232 hx244
                    have ho252 := ho230.ext hx244
                    have hb253 := hb231.ext hx244
                    have X254 := Ext.refl H243
                    have hr246 := ho245.rd
                    refine AL.val rfl (.inl rfl) (HV.mv rfl) ?_
                    refine AL.val rfl (.inl rfl) (HV.ex rfl rfl) ?_
                    refine AL.val rfl (.inl rfl) (HV.ex rfl rfl) ?_
                    refine AL.val rfl (.inl rfl) (HV.as rfl) ?_
                    refine AL.val rfl (.inl rfl) (HV.as rfl) ?_
                    refine AL.nx ?_
                    refine AW.seq ?_
                    refine AW.rs ?_
                    refine AL.val rfl (.inl rfl) (HV.mv rfl) ?_
                    refine AL.val rfl (.inl rfl) (HV.mv rfl) ?_
                    refine AL.w rfl (.inl rfl) (WV.call fn18 rfl (eqS_ok hr246 (hr39.ext X250))) ?_
                    rintro _ H255 ⟨rfl, hx256⟩
                    have X257 := Ext.trans X247 hx256
                    have X258 := Ext.trans X248 hx256
                    have X259 := Ext.trans X249 hx256
                    have X260 := Ext.trans X250 hx256
                    have X261 := Ext.trans X251 hx256
                    have X262 := Ext.trans X254 hx256
                    have ho263 := ho252.ext hx256
                    have hb264 := hb253.ext hx256
                    refine AL.val rfl (.inl rfl) (HV.not rfl) ?_
                    refine AL.val rfl (.inl rfl) (HV.mv rfl) ?_
                    by_cases c265 : k241 = k34
                    · -- false
                      have c265_ : (!decide (k241 = k34)) = false := by rw [decide_eq_true c265]; rfl
                      rw [c265_]
                      refine AL.val rfl (.inr ⟨_, _, _, rfl, rfl, rfl⟩) (HV.mv rfl) ?_
                      refine AL.val rfl (.inr ⟨_, _, _, rfl, rfl, rfl⟩) (HV.mv rfl) ?_
                      refine AL.val rfl (.inr ⟨_, _, _, rfl, rfl, rfl⟩) (HV.nei rfl rfl) ?_
                      refine AL.val rfl (.inl rfl) (HV.pickF rfl rfl) ?_
                      refine AL.nx ?_
                      refine AW.ifd rfl (fun c266 => ?_) (fun c266 => ?_)
                      · -- then
                        refine AW.rs ?_
                        refine AL.val rfl (.inl rfl) (HV.as rfl) ?_
                        refine AL.nx ?_
                        refine AW.ret ?_
                        refine ret_and ?_
                        refine post_one rfl rfl ?_ (.inr rfl)
                        exfalso; first | omega | exact absurd (hk106.trans hk35.symm) c266 | exact absurd (hk242.trans hk35.symm) c266 | (simp at c266; done) | exact absurd c266 (by simp)
                      · -- else
                        refine AW.skip ?_
                        refine nrm_and ?_
                        refine AW.rs ?_
                        refine AL.val rfl (.inl rfl) (HV.as rfl) ?_
                        refine AL.nx ?_
                        refine AW.rs ?_
                        refine AL.val rfl (.inl rfl) (HV.mv rfl) ?_
                        refine AL.val rfl (.inl rfl) (HV.mv rfl) ?_
                        refine AL.w rfl (.inl rfl) (WV.call fn28 rfl (heldS_ok 1 ho263.rd (by omega) hh203)) ?_
                        rintro _ H267 ⟨rfl, hx268⟩
                        have X269 := Ext.trans X257 hx268
                        have X270 := Ext.trans X258 hx268
                        have X271 := Ext.trans X259 hx268
                        have X272 := Ext.trans X260 hx268
                        have X273 := Ext.trans X261 hx268
                        have X274 := Ext.trans X262 hx268
                        have ho275 := ho263.ext hx268
                        have hb276 := hb264.ext hx268
                        refine AL.val rfl (.inl rfl) (HV.as rfl) ?_
                        refine AL.nx ?_
                        refine AW.seq ?_
                        refine AW.rs ?_
                        refine AL.val rfl (.inl rfl) (HV.mv rfl) ?_
                        refine AL.val rfl (.inl rfl) (HV.lti rfl rfl) ?_
                        refine AL.nx ?_
                        refine AW.ifd rfl (fun c277 => ?_) (fun c277 => ?_)
                        · -- then
                          refine AW.rs ?_
                          refine AL.val rfl (.inl rfl) (HV.as rfl) ?_
                          refine AL.nx ?_
                          refine AW.ret ?_
                          refine ret_and ?_
                          refine post_one rfl rfl ?_ (.inr rfl)
                          exfalso; first | omega | exact absurd (hk106.trans hk35.symm) c277 | exact absurd (hk242.trans hk35.symm) c277 | (simp at c277; done) | exact absurd c277 (by simp)
                        · -- else
                          refine AW.skip ?_
                          refine nrm_and ?_
                          refine AW.seq ?_
                          refine AW.rs ?_
                          refine AL.val rfl (.inl rfl) (HV.mv rfl) ?_
                          refine AL.val rfl (.inl rfl) (HV.mv rfl) ?_
                          refine AL.val rfl (.inl rfl) (HV.nei rfl rfl) ?_
                          refine AL.nx ?_
                          refine AW.ifd rfl (fun c278 => ?_) (fun c278 => ?_)
                          · -- then
                            refine AW.rs ?_
                            refine AL.val rfl (.inl rfl) (HV.as rfl) ?_
                            refine AL.nx ?_
                            refine AW.ret ?_
                            refine ret_and ?_
                            refine post_one rfl rfl ?_ (.inr rfl)
                            exfalso; first | omega | exact absurd (hk106.trans hk35.symm) c278 | exact absurd (hk242.trans hk35.symm) c278 | (simp at c278; done) | exact absurd c278 (by simp)
                          · -- else
                            refine AW.skip ?_
                            refine nrm_and ?_
                            refine AW.rs ?_
                            refine AL.val rfl (.inl rfl) (HV.as rfl) ?_
                            refine AL.nx ?_
                            refine AW.ret ?_
                            refine post_one rfl rfl ?_ (.inr rfl)
                            exact ⟨rfl, X269⟩
                    · -- true
                      have c265_ : (!decide (k241 = k34)) = true := by rw [decide_eq_false c265]; rfl
                      rw [c265_]
                      refine AL.off rfl rfl (by decide) rfl ?_
                      refine AL.off rfl rfl (by decide) rfl ?_
                      refine AL.off rfl rfl (by decide) rfl ?_
                      refine AL.val rfl (.inl rfl) (HV.pickT rfl rfl) ?_
                      refine AL.nx ?_
                      refine AW.cond rfl (fun _ => ?_) (fun h => by cases h)
                      refine AW.rs ?_
                      refine AL.val rfl (.inl rfl) (HV.as rfl) ?_
                      refine AL.nx ?_
                      refine AW.ret ?_
                      refine ret_and ?_
                      refine post_one rfl rfl ?_ (.inr rfl)
                      exfalso; first | omega | exact absurd (hk106.trans hk35.symm) c265 | exact absurd (hk242.trans hk35.symm) c265 | (simp at c265; done) | exact absurd c265 (by simp)
            · -- true
              have c198_ : (!decide (k105 = k34)) = true := by rw [decide_eq_false c198]; rfl
              rw [c198_]
              refine AL.off rfl rfl (by decide) rfl ?_
              refine AL.off rfl rfl (by decide) rfl ?_
              refine AL.off rfl rfl (by decide) rfl ?_
              refine AL.val rfl (.inl rfl) (HV.pickT rfl rfl) ?_
              refine AL.nx ?_
              refine AW.cond rfl (fun _ => ?_) (fun h => by cases h)
              refine AW.rs ?_
              refine AL.val rfl (.inl rfl) (HV.as rfl) ?_
              refine AL.nx ?_
              refine AW.ret ?_
              refine ret_and ?_
              refine post_one rfl rfl ?_ (.inr rfl)
              exfalso; first | omega | exact absurd (hk106.trans hk35.symm) c198 | exact absurd (hk242.trans hk35.symm) c198 | (simp at c198; done) | exact absurd c198 (by simp)
    · -- true
      have c137_ : (!decide (k105 = k34)) = true := by rw [decide_eq_false c137]; rfl
      rw [c137_]
      refine AL.off rfl rfl (by decide) rfl ?_
      refine AL.off rfl rfl (by decide) rfl ?_
      refine AL.off rfl rfl (by decide) rfl ?_
      refine AL.val rfl (.inl rfl) (HV.pickT rfl rfl) ?_
      refine AL.nx ?_
      refine AW.cond rfl (fun _ => ?_) (fun h => by cases h)
      refine AW.rs ?_
      refine AL.val rfl (.inl rfl) (HV.as rfl) ?_
      refine AL.nx ?_
      refine AW.ret ?_
      refine ret_and ?_
      refine post_one rfl rfl ?_ (.inr rfl)
      exfalso; first | omega | exact absurd (hk106.trans hk35.symm) c137 | exact absurd (hk242.trans hk35.symm) c137 | (simp at c137; done) | exact absurd c137 (by simp)
end Go.Proofs.Ytbjcgcililpfdaa.VC
