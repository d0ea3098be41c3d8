/- Walks. -/
import Derived.Test.YticobjbjejpomaaVF9
set_option linter.unusedVariables false
set_option linter.unusedSimpArgs false
namespace Go.Proofs.Yticobjbjejpomaa.VC
open Go Go.RowKit
/-- Rows by their places. -/
def mapR (f : Nat → List Int) (n : Nat) : List (List Int) := (List.range n).map f
theorem mapR_succ (f : Nat → List Int) (n : Nat) : mapR f (n + 1) = mapR f n ++ [f n] := by
  unfold mapR
  rw [List.range_succ, List.map_append]; rfl
theorem mapR_len (f : Nat → List Int) (n : Nat) : (mapR f n).length = n := by simp [mapR]
theorem mapR_at {f : Nat → List Int} {n i : Nat} {z : List Int} (hz : (mapR f n)[(i : Int).toNat]? = some z) : z = f i := by
  rw [Int.toNat_natCast] at hz
  simp only [mapR, List.getElem?_map] at hz
  cases h : (List.range n)[i]? with
  | none => rw [h] at hz; cases hz
  | some j =>
    rw [h] at hz
    rw [List.getElem?_range] at h
    · cases h; cases hz; rfl
    · have := (List.getElem?_eq_some_iff.1 h).1
      simpa using this
def hdA (l : List (List Int)) (i : Nat) : List Int := [0, (l.getD i []).getD 0 0]
def hdB (p : Int) (l : List (List Int)) (i : Nat) : List Int := [(l.getD i []).getD 0 0, (p - (l.getD i []).getD 0 0) % p]
def joA (k2 : Int) (l : List (List Int)) (i : Nat) : List Int := (hdA l i ++ (l.getD i []).drop 1) ++ List.replicate (k2 - 1).toNat 0
def joB (p k : Int) (l : List (List Int)) (i : Nat) : List Int := (hdB p l i ++ List.replicate (k - 1).toNat 0) ++ (l.getD i []).drop 1
def joL (p k k2 : Int) (l l2 : List (List Int)) : List (List Int) := mapR (joA k2 l) l.length ++ mapR (joB p k l2) l2.length
theorem joL_len (p k k2 : Int) (l l2 : List (List Int)) : (joL p k k2 l l2).length = l.length + l2.length := by unfold joL; rw [List.length_append, mapR_len, mapR_len]
noncomputable def prC (n : Int) (o : List Int) (p k : Int) (l : List (List Int)) (n2 : Int) (o2 : List Int) (p2 k2 : Int) (l2 : List (List Int)) : Int := if okSc n o p k l ∧ okSc n2 o2 p2 k2 l2 then if n = n2 ∧ p = p2 then 0 else 2 else 1
noncomputable def bsC (n : Int) (o : List Int) (p k : Int) (l : List (List Int)) (n2 : Int) (o2 : List Int) (p2 k2 : Int) (l2 : List (List Int)) : Int := if prC n o p k l n2 o2 p2 k2 l2 = 0 then if okSc n (o ++ o2) p (k + k2) (joL p k k2 l l2) then 0 else 3 else prC n o p k l n2 o2 p2 k2 l2
section
variable {n : Int} {o : List Int} {p k : Int} {l : List (List Int)} {n2 : Int} {o2 : List Int} {p2 k2 : Int} {l2 : List (List Int)}
theorem prC_0 (h : okSc n o p k l) (h2 : okSc n2 o2 p2 k2 l2) (h3 : n = n2 ∧ p = p2) : prC n o p k l n2 o2 p2 k2 l2 = 0 := by unfold prC; rw [if_pos ⟨h, h2⟩, if_pos h3]
theorem prC_2 (h : okSc n o p k l) (h2 : okSc n2 o2 p2 k2 l2) (h3 : ¬ (n = n2 ∧ p = p2)) : prC n o p k l n2 o2 p2 k2 l2 = 2 := by unfold prC; rw [if_pos ⟨h, h2⟩, if_neg h3]
theorem prC_1 (h : ¬ (okSc n o p k l ∧ okSc n2 o2 p2 k2 l2)) : prC n o p k l n2 o2 p2 k2 l2 = 1 := if_neg h
theorem prC_z (h : prC n o p k l n2 o2 p2 k2 l2 = 0) : okSc n o p k l ∧ okSc n2 o2 p2 k2 l2 ∧ n = n2 ∧ p = p2 := by
  unfold prC at h
  split at h
  · split at h
    · exact ⟨by rename_i q _; exact q.1, by rename_i q _; exact q.2, by assumption⟩
    · omega
  · omega
theorem bsC_p (h : ¬ prC n o p k l n2 o2 p2 k2 l2 = 0) : bsC n o p k l n2 o2 p2 k2 l2 = prC n o p k l n2 o2 p2 k2 l2 := if_neg h
theorem bsC_0 (h : prC n o p k l n2 o2 p2 k2 l2 = 0) (h2 : okSc n (o ++ o2) p (k + k2) (joL p k k2 l l2)) : bsC n o p k l n2 o2 p2 k2 l2 = 0 := by unfold bsC; rw [if_pos h, if_pos h2]
theorem bsC_3 (h : prC n o p k l n2 o2 p2 k2 l2 = 0) (h2 : ¬ okSc n (o ++ o2) p (k + k2) (joL p k k2 l l2)) : bsC n o p k l n2 o2 p2 k2 l2 = 3 := by unfold bsC; rw [if_pos h, if_neg h2]
end
def zI (c x : Int) : Int := if c = 0 then x else 0
def zL {α : Type} (c : Int) (l : List α) : List α := if c = 0 then l else []
theorem zI_no {c x : Int} (h : c ≠ 0) : zI c x = 0 := if_neg h
theorem zI_yes {c x : Int} (h : c = 0) : zI c x = x := if_pos h
theorem zL_no {α : Type} {c : Int} {l : List α} (h : c ≠ 0) : zL c l = [] := if_neg h
theorem zL_yes {α : Type} {c : Int} {l : List α} (h : c = 0) : zL c l = l := if_pos h
theorem bs_len {n : Int} {o : List Int} {p k : Int} {l : List (List Int)} {n2 : Int} {o2 : List Int} {p2 k2 : Int} {l2 : List (List Int)} : (zL (bsC n o p k l n2 o2 p2 k2 l2) (o ++ o2)).length ≤ 1048576 ∧ (zL (bsC n o p k l n2 o2 p2 k2 l2) (joL p k k2 l l2)).length ≤ 1048576 ∧ ∀ x ∈ zL (bsC n o p k l n2 o2 p2 k2 l2) (joL p k k2 l l2), x.length ≤ 1048576 := by
  by_cases h : bsC n o p k l n2 o2 p2 k2 l2 = 0
  · rw [zL_yes h, zL_yes h]
    have h1 : okSc n (o ++ o2) p (k + k2) (joL p k k2 l l2) := by
      unfold bsC at h
      split at h
      · split at h
        · assumption
        · omega
      · omega
    have hF := okSc_f h1
    have a1 := hF.R
    have a2 := hF.ol
    have a3 := hF.k1
    refine ⟨by omega, by omega, fun x hx => ?_⟩
    obtain ⟨i, hi, rfl⟩ := List.getElem_of_mem hx
    have := (hF.r i hi).1
    have e : (joL p k k2 l l2).getD i [] = (joL p k k2 l l2)[i] := by simp [hi]
    rw [e] at this
    omega
  · rw [zL_no h, zL_no h]
    exact ⟨Nat.zero_le _, Nat.zero_le _, fun x hx => by cases hx⟩
variable {W : World} {H : Hp}

theorem bd31_ : Try.prog.built 31 [] = some #[.int .i64 0, .slice none 0 0, .int .i64 0, .int .i64 0, .slice none 0 0] := by kernel_rfl
theorem bd31_0_1 (x0 : Int) {x1 : Value} {n1 : Nat} (h1 : IsSl x1 n1) : Try.prog.built 31 [(0, .int .i64 x0), (1, x1)] = some #[.int .i64 x0, x1, .int .i64 0, .int .i64 0, .slice none 0 0] := by obtain ⟨A1, c1, rfl⟩ := h1; kernel_rfl

set_option maxRecDepth 100000 in
theorem l04Pair_ok {ad : Addr} {vo v : Value} {o : List Int} {l : List (List Int)} {oko ok : Nat → Prop} (n p k : Int) (ho : RdK kI W H oko vo o) (hr : RdK (kR kI) W H ok v l) (hc : Cells W H ad [.int .i64 n, vo, .int .i64 p, .int .i64 k, v]) {ad2 : Addr} {vo2 v2 : Value} {o2 : List Int} {l2 : List (List Int)} {oko2 ok2 : Nat → Prop} (n2 p2 k2 : Int) (ho2 : RdK kI W H oko2 vo2 o2) (hr2 : RdK (kR kI) W H ok2 v2 l2) (hc2 : Cells W H ad2 [.int .i64 n2, vo2, .int .i64 p2, .int .i64 k2, v2]) : ACalls Try.prog W 59 #[.pointer (some ad), .pointer (some ad2)] H (fun r H' => r = .int .i64 (prC n o p k l n2 o2 p2 k2 l2) ∧ Ext H H') := by
  refine ACalls.of (args := [.pointer (some ad), .pointer (some ad2)]) Try.func59 rfl rfl ?_
  have X0 := Ext.refl H
  refine AW.rs ?_
  refine AL.val rfl (.inl rfl) (HV.as rfl) ?_
  refine AL.nx ?_
  refine AW.seq ?_
  refine AW.rs ?_
  refine AL.val rfl (.inl rfl) (HV.mv rfl) ?_
  refine AL.w rfl (.inl rfl) (WV.call fn90 rfl (l04Ok_ok n p k ho hr hc)) ?_
  rintro _ H1 ⟨rfl, hx2⟩
  have X3 := Ext.trans X0 hx2
  refine AL.val rfl (.inl rfl) (HV.not rfl) ?_
  refine AL.val rfl (.inl rfl) (HV.mv rfl) ?_
  by_cases c4 : okSc n o p k l
  · -- false
    have c4_ : (!decide (okSc n o p k l)) = false := by rw [decide_eq_true c4]; rfl
    rw [c4_]
    refine AL.val rfl (.inr ⟨_, _, _, rfl, rfl, rfl⟩) (HV.mv rfl) ?_
    refine AL.w rfl (.inr ⟨_, _, _, rfl, rfl, rfl⟩) (WV.call fn90 rfl (l04Ok_ok n2 p2 k2 (ho2.ext X3) (hr2.ext X3) (hc2.ext X3))) ?_
    rintro _ H5 ⟨rfl, hx6⟩
    have X7 := Ext.trans X3 hx6
    refine AL.val rfl (.inr ⟨_, _, _, rfl, rfl, rfl⟩) (HV.not rfl) ?_
    refine AL.val rfl (.inl rfl) (HV.pickF rfl rfl) ?_
    refine AL.nx ?_
    refine AW.ifn rfl (fun c8 => ?_) (fun c8 => ?_)
    · -- then
      refine AW.rs ?_
      refine AL.val rfl (.inl rfl) (HV.as rfl) ?_
      refine AL.nx ?_
      refine AW.ret ?_
      refine ret_and ?_
      refine post_one rfl rfl ?_ (.inr rfl)
      exact ⟨congrArg (Value.int .i64) (prC_1 (fun q => by first | exact absurd q.1 (by assumption) | exact absurd q.2 (by assumption))).symm, X7⟩
    · -- else
      refine AW.skip ?_
      refine nrm_and ?_
      refine AW.seq ?_
      refine AW.seq ?_
      refine AW.draw' [0, 1, 3, 7, 0, 16, 48, 112, 255, 511, 1023, 2047, 4095, 8191, 16383, 1023, 33791, 99327, 230399, 492543, 1048575, 2097151] mixed (by rfl) ?_
      refine Dr.read 0 _ 13 _ rfl rfl rfl rfl rfl (RV.of (by intro _ _ h; cases h) (.inl rfl) (fun _ xd => HV.mv rfl)) ?_
      refine Dr.read 1 _ 14 _ rfl rfl rfl rfl rfl (RV.of (by intro _ _ h; cases h) (.inl rfl) (fun _ xd => HV.nc rfl)) ?_
      refine Dr.read 2 _ 15 _ rfl rfl rfl rfl rfl (RV.of (by intro _ _ h; cases h) (.inl rfl) (fun _ xd => HV.fa fl31_0 rfl)) ?_
      refine Dr.read 3 _ 16 _ rfl rfl rfl rfl rfl (RV.of (by intro _ _ h; cases h) (.inl rfl) (fun _ xd => HV.ld rfl va2 (rdc_ext xd (cells_first (hc.ext X7) rfl)))) ?_
      refine Dr.read 4 _ 17 _ rfl rfl rfl rfl rfl (RV.of (by intro _ _ h; cases h) (.inl rfl) (fun _ xd => HV.mv rfl)) ?_
      refine Dr.read 5 _ 18 _ rfl rfl rfl rfl rfl (RV.of (by intro _ _ h; cases h) (.inl rfl) (fun _ xd => HV.nc rfl)) ?_
      refine Dr.read 6 _ 19 _ rfl rfl rfl rfl rfl (RV.of (by intro _ _ h; cases h) (.inl rfl) (fun _ xd => HV.fa fl31_0 rfl)) ?_
      refine Dr.read 7 _ 20 _ rfl rfl rfl rfl rfl (RV.of (by intro _ _ h; cases h) (.inl rfl) (fun _ xd => HV.ld rfl va2 (rdc_ext xd (cells_first (hc2.ext X7) rfl)))) ?_
      refine Dr.read 8 _ 21 _ rfl rfl rfl rfl rfl (RV.of (by intro _ _ h; cases h) (.inl rfl) (fun _ xd => HV.nei rfl rfl)) ?_
      refine Dr.read 9 _ 22 _ rfl rfl rfl rfl rfl (RV.of (by intro _ _ h; cases h) (.inl rfl) (fun _ xd => HV.mv rfl)) ?_
      by_cases c9 : n ≠ n2
      · -- true
        have c9_ : decide (n ≠ n2) = true := decide_eq_true c9
        rw [c9_]
        refine Dr.read 10 _ 23 _ rfl rfl rfl rfl rfl (RV.off (by intro _ _ h; cases h) rfl rfl (by decide)) ?_
        refine Dr.read 11 _ 24 _ rfl rfl rfl rfl rfl (RV.off (by intro _ _ h; cases h) rfl rfl (by decide)) ?_
        refine Dr.read 12 _ 25 _ rfl rfl rfl rfl rfl (RV.off (by intro _ _ h; cases h) rfl rfl (by decide)) ?_
        refine Dr.read 13 _ 26 _ rfl rfl rfl rfl rfl (RV.off (by intro _ _ h; cases h) rfl rfl (by decide)) ?_
        refine Dr.read 14 _ 27 _ rfl rfl rfl rfl rfl (RV.off (by intro _ _ h; cases h) rfl rfl (by decide)) ?_
        refine Dr.read 15 _ 28 _ rfl rfl rfl rfl rfl (RV.off (by intro _ _ h; cases h) rfl rfl (by decide)) ?_
        refine Dr.read 16 _ 29 _ rfl rfl rfl rfl rfl (RV.off (by intro _ _ h; cases h) rfl rfl (by decide)) ?_
        refine Dr.read 17 _ 30 _ rfl rfl rfl rfl rfl (RV.off (by intro _ _ h; cases h) rfl rfl (by decide)) ?_
        refine Dr.read 18 _ 31 _ rfl rfl rfl rfl rfl (RV.off (by intro _ _ h; cases h) rfl rfl (by decide)) ?_
        refine Dr.read 19 _ 32 _ rfl rfl rfl rfl rfl (RV.off (by intro _ _ h; cases h) rfl rfl (by decide)) ?_
        refine Dr.read 20 _ 33 _ rfl rfl rfl rfl rfl (RV.off (by intro _ _ h; cases h) rfl rfl (by decide)) ?_
        refine Dr.read 21 _ 34 _ rfl rfl rfl rfl rfl (RV.of (by intro _ _ h; cases h) (.inl rfl) (fun _ xd => HV.pickT rfl rfl)) ?_
        refine Dr.fin rfl ?_
        refine nrm_and ?_
        refine AW.cond rfl (fun _ => ?_) (fun h => by cases h)
        refine AW.rs ?_
        refine AL.val rfl (.inl rfl) (HV.as rfl) ?_
        refine AL.nx ?_
        refine AW.ret ?_
        refine ret_and ?_
        refine post_one rfl rfl ?_ (.inr rfl)
        exact ⟨congrArg (Value.int .i64) (prC_2 (by assumption) (by assumption) (fun q => by omega)).symm, X7⟩
      · -- false
        have c9_ : decide (n ≠ n2) = false := decide_eq_false c9
        rw [c9_]
        refine Dr.read 10 _ 23 _ rfl rfl rfl rfl rfl (RV.of (by intro _ _ h; cases h) (.inr ⟨_, _, _, rfl, rfl, rfl⟩) (fun _ xd => HV.mv rfl)) ?_
        refine Dr.read 11 _ 24 _ rfl rfl rfl rfl rfl (RV.of (by intro _ _ h; cases h) (.inr ⟨_, _, _, rfl, rfl, rfl⟩) (fun _ xd => HV.nc rfl)) ?_
        refine Dr.read 12 _ 25 _ rfl rfl rfl rfl rfl (RV.of (by intro _ _ h; cases h) (.inr ⟨_, _, _, rfl, rfl, rfl⟩) (fun _ xd => HV.fa fl31_2 rfl)) ?_
        refine Dr.read 13 _ 26 _ rfl rfl rfl rfl rfl (RV.of (by intro _ _ h; cases h) (.inr ⟨_, _, _, rfl, rfl, rfl⟩) (fun _ xd => HV.fa fl29_0 rfl)) ?_
        refine Dr.read 14 _ 27 _ rfl rfl rfl rfl rfl (RV.of (by intro _ _ h; cases h) (.inr ⟨_, _, _, rfl, rfl, rfl⟩) (fun _ xd => HV.ld rfl va2 (rdc_ext xd (cells_first ((Cells.part (i := 2) (vs := [.int .i64 p, .int .i64 k, v]) hc rfl).ext X7) rfl)))) ?_
        refine Dr.read 15 _ 28 _ rfl rfl rfl rfl rfl (RV.of (by intro _ _ h; cases h) (.inr ⟨_, _, _, rfl, rfl, rfl⟩) (fun _ xd => HV.mv rfl)) ?_
        refine Dr.read 16 _ 29 _ rfl rfl rfl rfl rfl (RV.of (by intro _ _ h; cases h) (.inr ⟨_, _, _, rfl, rfl, rfl⟩) (fun _ xd => HV.nc rfl)) ?_
        refine Dr.read 17 _ 30 _ rfl rfl rfl rfl rfl (RV.of (by intro _ _ h; cases h) (.inr ⟨_, _, _, rfl, rfl, rfl⟩) (fun _ xd => HV.fa fl31_2 rfl)) ?_
        refine Dr.read 18 _ 31 _ rfl rfl rfl rfl rfl (RV.of (by intro _ _ h; cases h) (.inr ⟨_, _, _, rfl, rfl, rfl⟩) (fun _ xd => HV.fa fl29_0 rfl)) ?_
        refine Dr.read 19 _ 32 _ rfl rfl rfl rfl rfl (RV.of (by intro _ _ h; cases h) (.inr ⟨_, _, _, rfl, rfl, rfl⟩) (fun _ xd => HV.ld rfl va2 (rdc_ext xd (cells_first ((Cells.part (i := 2) (vs := [.int .i64 p2, .int .i64 k2, v2]) hc2 rfl).ext X7) rfl)))) ?_
        refine Dr.read 20 _ 33 _ rfl rfl rfl rfl rfl (RV.of (by intro _ _ h; cases h) (.inr ⟨_, _, _, rfl, rfl, rfl⟩) (fun _ xd => HV.nei rfl rfl)) ?_
        refine Dr.read 21 _ 34 _ rfl rfl rfl rfl rfl (RV.of (by intro _ _ h; cases h) (.inl rfl) (fun _ xd => HV.pickF rfl rfl)) ?_
        refine Dr.fin rfl ?_
        refine nrm_and ?_
        refine AW.ifd rfl (fun c11 => ?_) (fun c11 => ?_)
        · -- then
          refine AW.rs ?_
          refine AL.val rfl (.inl rfl) (HV.as rfl) ?_
          refine AL.nx ?_
          refine AW.ret ?_
          refine ret_and ?_
          refine post_one rfl rfl ?_ (.inr rfl)
          exact ⟨congrArg (Value.int .i64) (prC_2 (by assumption) (by assumption) (fun q => by omega)).symm, X7⟩
        · -- else
          refine AW.skip ?_
          refine nrm_and ?_
          refine AW.rs ?_
          refine AL.val rfl (.inl rfl) (HV.as rfl) ?_
          refine AL.nx ?_
          refine AW.ret ?_
          refine post_one rfl rfl ?_ (.inr rfl)
          exact ⟨congrArg (Value.int .i64) (prC_0 (by assumption) (by assumption) ⟨by omega, by omega⟩).symm, X7⟩
  · -- true
    have c4_ : (!decide (okSc n o p k l)) = true := by rw [decide_eq_false c4]; rfl
    rw [c4_]
    refine AL.off rfl rfl (by decide) rfl ?_
    refine AL.off rfl rfl (by decide) rfl ?_
    refine AL.off rfl rfl (by decide) rfl ?_
    refine AL.val rfl (.inl rfl) (HV.pickT rfl rfl) ?_
    refine AL.nx ?_
    refine AW.cond rfl (fun _ => ?_) (fun h => by cases h)
    refine AW.rs ?_
    refine AL.val rfl (.inl rfl) (HV.as rfl) ?_
    refine AL.nx ?_
    refine AW.ret ?_
    refine ret_and ?_
    refine post_one rfl rfl ?_ (.inr rfl)
    exact ⟨congrArg (Value.int .i64) (prC_1 (fun q => by first | exact absurd q.1 (by assumption) | exact absurd q.2 (by assumption))).symm, X3⟩

set_option maxRecDepth 100000 in
theorem l04Told_ok {vo v : Value} {o : List Int} {l : List (List Int)} {oko ok : Nat → Prop} (n p k : Int) (ho : RdK kI W H oko vo o) (hr : RdK (kR kI) W H ok v l) : ACalls Try.prog W 61 #[.agg #[.int .i64 n, vo, .int .i64 p, .int .i64 k, v]] H (fun r H' => r = (if okSc n o p k l then .tuple #[.agg #[.int .i64 n, vo, .int .i64 p, .int .i64 k, v], .int .i64 0] else .tuple #[.agg #[.int .i64 0, .slice none 0 0, .int .i64 0, .int .i64 0, .slice none 0 0], .int .i64 3]) ∧ Ext H H') := by
  refine ACalls.of (args := [.agg #[.int .i64 n, vo, .int .i64 p, .int .i64 k, v]]) Try.func61 rfl rfl ?_
  have X0 := Ext.refl H
  have hm1 := ho.max
  have hm2 := hr.max
  refine AW.rs ?_
  refine AL.w rfl (.inl rfl) (WV.bx rfl rfl) ?_
  rintro _ H4 ⟨b3, rfl, hx5, hn6, hb7⟩
  have o8 := Nat.le_trans X0.bd hn6
  have X9 := Ext.trans X0 hx5
  have X10 := Ext.refl H4
  refine AL.w rfl (.inl rfl) (WV.al ze31 rfl) ?_
  rintro _ H12 ⟨b11, rfl, hx13, hn14, hb15⟩
  have o16 := Nat.le_trans X9.bd hn14
  have o17 := Nat.le_trans X10.bd hn14
  have ne18 : b3 ≠ b11 := by have := hb7.lt; omega
  have X19 := Ext.trans X9 hx13
  have X20 := Ext.trans X10 hx13
  have hb21 := hb7.ext hx13
  have X22 := Ext.refl H12
  refine AL.val rfl (.inl rfl) (HV.as rfl) ?_
  refine AL.nx ?_
  refine AW.seq ?_
  refine AW.rs ?_
  refine AL.w rfl (.inl rfl) (WV.call fn90 rfl (l04Ok_ok n p k (ho.ext X19) (hr.ext X19) (at_cells hb21 rfl))) ?_
  rintro _ H23 ⟨rfl, hx24⟩
  have X25 := Ext.trans X19 hx24
  have X26 := Ext.trans X20 hx24
  have X27 := Ext.trans X22 hx24
  have hb28 := hb21.ext hx24
  have hb29 := hb15.ext hx24
  refine AL.val rfl (.inl rfl) (HV.not rfl) ?_
  refine AL.nx ?_
  refine AW.ifn rfl (fun c30 => ?_) (fun c30 => ?_)
  · -- then
    refine AW.rs ?_
    refine AL.val rfl (.inl rfl) (HV.bd rfl (bd31_ )) ?_
    refine AL.w0 (.inl rfl) (WV.st rfl rfl va31 rfl hb29 (Nat.le_of_ble_eq_true rfl) (one_cons rfl (one_cons (sl_one1 ⟨none, 0, rfl⟩) (one_cons rfl (one_cons rfl (one_cons (sl_one1 ⟨none, 0, rfl⟩) one_nil)))))) ?_
    rintro _ H31 ⟨hx32, hb33⟩
    have X34 := Ext.thru X25 hx32 (fun z_ hz_ => by rw [hz_]; exact o16)
    have X35 := Ext.thru X26 hx32 (fun z_ hz_ => by rw [hz_]; exact o17)
    have hb37 := hb28.but hx32 ne18
    have hb38 : At W H31 b11 ⟨31, [.int .i64 0, (.slice none 0 0), .int .i64 0, .int .i64 0, (.slice none 0 0)], 5⟩ := hb33
    refine AL.val rfl (.inl rfl) (HV.as rfl) ?_
    refine AL.nx ?_
    refine AW.ret ?_
    refine ret_and ?_
    refine post_ct rfl rfl rfl va31 hb38 ?_ (.inr rfl)
    exact ⟨(if_neg c30).symm, X34⟩
  · -- else
    refine AW.skip ?_
    refine nrm_and ?_
    refine AW.rs ?_
    refine AL.val rfl (.inl rfl) (HV.lda (cs := [.int .i64 n, vo, .int .i64 p, .int .i64 k, v]) rfl va31 (at_cells hb28 rfl)) ?_
    refine AL.w0 (.inl rfl) (WV.st rfl rfl va31 rfl hb29 (Nat.le_of_ble_eq_true rfl) (one_cons rfl (one_cons (sl_one1 (ho.ext X25).isSl) (one_cons rfl (one_cons rfl (one_cons (sl_one1 (hr.ext X25).isSl) one_nil)))))) ?_
    rintro _ H39 ⟨hx40, hb41⟩
    have X42 := Ext.thru X25 hx40 (fun z_ hz_ => by rw [hz_]; exact o16)
    have X43 := Ext.thru X26 hx40 (fun z_ hz_ => by rw [hz_]; exact o17)
    have hb45 := hb28.but hx40 ne18
    have hb46 : At W H39 b11 ⟨31, [.int .i64 n, vo, .int .i64 p, .int .i64 k, v], 5⟩ := hb41
    refine AL.val rfl (.inl rfl) (HV.as rfl) ?_
    refine AL.nx ?_
    refine AW.ret ?_
    refine post_ct rfl rfl rfl va31 hb46 ?_ (.inr rfl)
    exact ⟨(if_pos c30).symm, X42⟩

set_option maxRecDepth 100000 in
theorem schLim_ok {vo v : Value} {o : List Int} {l : List (List Int)} {oko ok : Nat → Prop} (n p k : Int) (ho : RdK kI W H oko vo o) (hr : RdK (kR kI) W H ok v l) : ACalls Try.prog W 108 #[.agg #[.int .i64 n, vo, .int .i64 p, .int .i64 k, v]] H (fun r H' => r = (if okSc n o p k l then .tuple #[.agg #[.int .i64 n, vo, .int .i64 p, .int .i64 k, v], .int .i64 0] else .tuple #[.agg #[.int .i64 0, .slice none 0 0, .int .i64 0, .int .i64 0, .slice none 0 0], .int .i64 3]) ∧ Ext H H') := by
  refine ACalls.of (args := [.agg #[.int .i64 n, vo, .int .i64 p, .int .i64 k, v]]) Try.func108 rfl rfl ?_
  have X0 := Ext.refl H
  have hm1 := ho.max
  have hm2 := hr.max
  refine AW.rs ?_
  refine AL.w rfl (.inl rfl) (WV.bx rfl rfl) ?_
  rintro _ H4 ⟨b3, rfl, hx5, hn6, hb7⟩
  have o8 := Nat.le_trans X0.bd hn6
  have X9 := Ext.trans X0 hx5
  have X10 := Ext.refl H4
  refine AL.w rfl (.inl rfl) (WV.al ze31 rfl) ?_
  rintro _ H12 ⟨b11, rfl, hx13, hn14, hb15⟩
  have o16 := Nat.le_trans X9.bd hn14
  have o17 := Nat.le_trans X10.bd hn14
  have ne18 : b3 ≠ b11 := by have := hb7.lt; omega
  have X19 := Ext.trans X9 hx13
  have X20 := Ext.trans X10 hx13
  have hb21 := hb7.ext hx13
  have X22 := Ext.refl H12
  refine AL.val rfl (.inl rfl) (HV.as rfl) ?_
  refine AL.nx ?_
  refine AW.seq ?_
  refine AW.rs ?_
  refine AL.val rfl (.inl rfl) (HV.lda (cs := [.int .i64 n, vo, .int .i64 p, .int .i64 k, v]) rfl va31 (at_cells hb21 rfl)) ?_
  refine AL.w rfl (.inl rfl) (WV.call fn92 rfl (ValidS_ok n p k (ho.ext X19) (hr.ext X19))) ?_
  rintro _ H23 ⟨rfl, hx24⟩
  have X25 := Ext.trans X19 hx24
  have X26 := Ext.trans X20 hx24
  have X27 := Ext.trans X22 hx24
  have hb28 := hb21.ext hx24
  have hb29 := hb15.ext hx24
  refine AL.val rfl (.inl rfl) (HV.not rfl) ?_
  refine AL.nx ?_
  refine AW.ifn rfl (fun c30 => ?_) (fun c30 => ?_)
  · -- then
    refine AW.rs ?_
    refine AL.val rfl (.inl rfl) (HV.bd rfl (bd31_ )) ?_
    refine AL.w0 (.inl rfl) (WV.st rfl rfl va31 rfl hb29 (Nat.le_of_ble_eq_true rfl) (one_cons rfl (one_cons (sl_one1 ⟨none, 0, rfl⟩) (one_cons rfl (one_cons rfl (one_cons (sl_one1 ⟨none, 0, rfl⟩) one_nil)))))) ?_
    rintro _ H31 ⟨hx32, hb33⟩
    have X34 := Ext.thru X25 hx32 (fun z_ hz_ => by rw [hz_]; exact o16)
    have X35 := Ext.thru X26 hx32 (fun z_ hz_ => by rw [hz_]; exact o17)
    have hb37 := hb28.but hx32 ne18
    have hb38 : At W H31 b11 ⟨31, [.int .i64 0, (.slice none 0 0), .int .i64 0, .int .i64 0, (.slice none 0 0)], 5⟩ := hb33
    refine AL.val rfl (.inl rfl) (HV.as rfl) ?_
    refine AL.nx ?_
    refine AW.ret ?_
    refine ret_and ?_
    refine post_ct rfl rfl rfl va31 hb38 ?_ (.inr rfl)
    exact ⟨(if_neg c30).symm, X34⟩
  · -- else
    refine AW.skip ?_
    refine nrm_and ?_
    refine AW.rs ?_
    refine AL.val rfl (.inl rfl) (HV.lda (cs := [.int .i64 n, vo, .int .i64 p, .int .i64 k, v]) rfl va31 (at_cells hb28 rfl)) ?_
    refine AL.w0 (.inl rfl) (WV.st rfl rfl va31 rfl hb29 (Nat.le_of_ble_eq_true rfl) (one_cons rfl (one_cons (sl_one1 (ho.ext X25).isSl) (one_cons rfl (one_cons rfl (one_cons (sl_one1 (hr.ext X25).isSl) one_nil)))))) ?_
    rintro _ H39 ⟨hx40, hb41⟩
    have X42 := Ext.thru X25 hx40 (fun z_ hz_ => by rw [hz_]; exact o16)
    have X43 := Ext.thru X26 hx40 (fun z_ hz_ => by rw [hz_]; exact o17)
    have hb45 := hb28.but hx40 ne18
    have hb46 : At W H39 b11 ⟨31, [.int .i64 n, vo, .int .i64 p, .int .i64 k, v], 5⟩ := hb41
    refine AL.val rfl (.inl rfl) (HV.as rfl) ?_
    refine AL.nx ?_
    refine AW.ret ?_
    refine post_ct rfl rfl rfl va31 hb46 ?_ (.inr rfl)
    exact ⟨(if_pos c30).symm, X42⟩

set_option maxRecDepth 100000 in
theorem one_ok (s : Int) : ACalls Try.prog W 64 #[.int .i64 s] H (fun r H' => Ext H H' ∧ OwnK kI 2 W H' (fun b => H.bd ≤ b) r [0, s]) := by
  refine ACalls.of (args := [.int .i64 s]) Try.func64 rfl rfl ?_
  have X0 := Ext.refl H
  refine AW.rs ?_
  refine AL.val rfl (.inl rfl) (HV.as rfl) ?_
  refine AL.nx ?_
  refine AW.rs ?_
  refine AL.val rfl (.inl rfl) (HV.mv rfl) ?_
  have o1 := X0.bd
  refine AL.w rfl (.inl rfl) (WV.bsK (K := kI) (l := ([0, s] : List Int)) (css := [[.int .i64 0], [.int .i64 s]]) sl22 rfl rfl (by first | rfl | (simp [Instr.fill, Value.cells, kI, kB, kU, kU8, kS, Kd.sc]; done) | (simp [Instr.fill, Value.cells, kI, kB, kU, kU8, kS, Kd.sc, rng1, rng2, rng3, rng4, kP])) rfl (segs_cons rfl (segs_cons rfl segs_nil))) ?_
  rintro v2 H3 ⟨hx4, ho5⟩
  have X6 := Ext.trans X0 hx4
  refine AL.val rfl (.inl rfl) (HV.as rfl) ?_
  refine AL.nx ?_
  refine AW.ret ?_
  refine post_one rfl rfl ?_ (.inr rfl)
  exact ⟨X6, ho5.okk (fun b hb _ => Nat.le_trans o1 hb)⟩

set_option maxRecDepth 100000 in
theorem two_ok {b : Nat} {p : Int} (s : Int) (hp : 2 ≤ p ∧ p ≤ 31) (hs : 0 ≤ s ∧ s ≤ p - 1) (hb : At W H b ⟨2, [.int .i64 p], 1⟩) : ACalls Try.prog W 65 #[.int .i64 s, .pointer (some ⟨b, 0, none⟩)] H (fun r H' => Ext H H' ∧ OwnK kI 2 W H' (fun b => H.bd ≤ b) r [s, (p - s) % p]) := by
  refine ACalls.of (args := [.int .i64 s, .pointer (some ⟨b, 0, none⟩)]) Try.func65 rfl rfl ?_
  have X0 := Ext.refl H
  refine AW.rs ?_
  refine AL.val rfl (.inl rfl) (HV.as rfl) ?_
  refine AL.nx ?_
  refine AW.rs ?_
  refine AL.val rfl (.inl rfl) (HV.mv rfl) ?_
  refine AL.val rfl (.inl rfl) (HV.ld rfl va2 (at_cell hb rfl)) ?_
  refine AL.val rfl (.inl rfl) (HV.mv rfl) ?_
  refine AL.val rfl (.inl rfl) (HV.sub rfl rfl (by omega)) ?_
  refine AL.val rfl (.inl rfl) (HV.ld rfl va2 (at_cell hb rfl)) ?_
  refine AL.val rfl (.inl rfl) (HV.rem rfl rfl (by omega)) ?_
  have y1 := hb.lt
  have o2 := X0.bd
  refine AL.w rfl (.inl rfl) (WV.bsK (K := kI) (l := ([s, (p - s) % p] : List Int)) (css := [[.int .i64 s], [.int .i64 ((p - s) % p)]]) sl22 rfl rfl (by first | rfl | (simp [Instr.fill, Value.cells, kI, kB, kU, kU8, kS, Kd.sc]; done) | (simp [Instr.fill, Value.cells, kI, kB, kU, kU8, kS, Kd.sc, rng1, rng2, rng3, rng4, kP])) rfl (segs_cons rfl (segs_cons rfl segs_nil))) ?_
  rintro v3 H4 ⟨hx5, ho6⟩
  have X7 := Ext.trans X0 hx5
  have hb8 := hb.ext hx5
  refine AL.val rfl (.inl rfl) (HV.as rfl) ?_
  refine AL.nx ?_
  refine AW.ret ?_
  refine post_one rfl rfl ?_ (.inr rfl)
  exact ⟨X7, ho6.okk (fun b hb _ => Nat.le_trans o2 hb)⟩

set_option maxRecDepth 100000 in
theorem l04Joined_ok {ad : Addr} {vo v : Value} {o : List Int} {l : List (List Int)} {oko ok : Nat → Prop} (n p k : Int) (ho : RdK kI W H oko vo o) (hr : RdK (kR kI) W H ok v l) (hc : Cells W H ad [.int .i64 n, vo, .int .i64 p, .int .i64 k, v]) {ad2 : Addr} {vo2 v2 : Value} {o2 : List Int} {l2 : List (List Int)} {oko2 ok2 : Nat → Prop} (n2 p2 k2 : Int) (ho2 : RdK kI W H oko2 vo2 o2) (hr2 : RdK (kR kI) W H ok2 v2 l2) (hc2 : Cells W H ad2 [.int .i64 n2, vo2, .int .i64 p2, .int .i64 k2, v2]) {vhd vtl : Value} {okh okt : Nat → Prop} (hrh : RdK (kR kI) W H okh vhd (mapR (hdA l) l.length)) (hrt : RdK (kR kI) W H okt vtl (mapR (hdB p l2) l2.length)) (hok : okSc n o p k l) (hok2 : okSc n2 o2 p2 k2 l2) : ACalls Try.prog W 60 #[.pointer (some ad), .pointer (some ad2), vhd, vtl] H (fun r H' => (∃ (u v : Value) (B : Nat), r = .tuple #[.agg #[.int .i64 n, u, .int .i64 p, .int .i64 0, v], .int .i64 ((k - 1) + (k2 - 1))] ∧ OwnK kI 2 W H' (fun b => H.bd ≤ b ∧ b < B) u (o ++ o2) ∧ OwnD (kO 2 kI) 22 W H' (fun b => H.bd ≤ b ∧ B ≤ b) v (joL p k k2 l l2)) ∧ Ext H H') := by
  refine ACalls.of (args := [.pointer (some ad), .pointer (some ad2), vhd, vtl]) Try.func60 rfl rfl ?_
  have X0 := Ext.refl H
  have hm1 := hrh.max
  have hm2 := hrt.max
  have hF := okSc_f hok
  have hG := okSc_f hok2
  have hp := hF.pb
  have hk1 := hF.k1
  have hk0 := hF.k0
  have hk2 := hG.k1
  have hk3 := hG.k0
  have hFR := hF.R
  have hGR := hG.R
  have hFo := hF.ol
  have hGo := hG.ol
  have hmx := hr.max
  have hmx2 := hr2.max
  have hm1 := mapR_len (hdA l) l.length
  have hm2 := mapR_len (hdB p l2) l2.length
  refine AW.rs ?_
  refine AL.w rfl (.inl rfl) (WV.al ze31 rfl) ?_
  rintro _ H4 ⟨b3, rfl, hx5, hn6, hb7⟩
  have o8 := Nat.le_trans X0.bd hn6
  have X9 := Ext.trans X0 hx5
  have X10 := Ext.refl H4
  refine AL.val rfl (.inl rfl) (HV.as rfl) ?_
  refine AL.nx ?_
  refine AW.rs ?_
  refine AL.val rfl (.inl rfl) (HV.mv rfl) ?_
  refine AL.val rfl (.inl rfl) (HV.nc rfl) ?_
  refine AL.val rfl (.inl rfl) (HV.fa fl31_2 rfl) ?_
  refine AL.val rfl (.inl rfl) (HV.fa fl29_1 rfl) ?_
  refine AL.val rfl (.inl rfl) (HV.ld rfl va2 (cells_at ((Cells.part (i := 2) (vs := [.int .i64 p, .int .i64 k, v]) hc rfl).ext X9) rfl)) ?_
  refine AL.val rfl (.inl rfl) (HV.sub rfl rfl (by omega)) ?_
  refine AL.val rfl (.inl rfl) (HV.as rfl) ?_
  refine AL.nx ?_
  refine AW.rs ?_
  refine AL.val rfl (.inl rfl) (HV.mv rfl) ?_
  refine AL.val rfl (.inl rfl) (HV.nc rfl) ?_
  refine AL.val rfl (.inl rfl) (HV.fa fl31_2 rfl) ?_
  refine AL.val rfl (.inl rfl) (HV.fa fl29_1 rfl) ?_
  refine AL.val rfl (.inl rfl) (HV.ld rfl va2 (cells_at ((Cells.part (i := 2) (vs := [.int .i64 p2, .int .i64 k2, v2]) hc2 rfl).ext X9) rfl)) ?_
  refine AL.val rfl (.inl rfl) (HV.sub rfl rfl (by omega)) ?_
  refine AL.val rfl (.inl rfl) (HV.as rfl) ?_
  refine AL.nx ?_
  refine AW.cut (fun E1_ H1_ => ∃ (u1 : Value) (b10 : Nat), Ext H4 H1_ ∧ H4.bd ≤ b10 ∧ At W H1_ b10 ⟨31, [.int .i64 n, u1, .int .i64 0, .int .i64 0, .slice none 0 0], 5⟩ ∧ OwnK kI 2 W H1_ (fun b => (H4.bd ≤ b ∧ b ≠ b10) ∧ b < H1_.bd) u1 (o ++ o2) ∧ sub [(0, .pointer (some ad)), (1, .pointer (some ad2)), (2, vhd), (3, vtl), (8, .pointer (some ⟨b3, 0, none⟩)), (9, .int .i64 0), (10, .int .i64 (k - 1)), (11, .int .i64 (k2 - 1)), (17, .pointer (some ad)), (18, .pointer (some ad)), (21, .int .i64 k), (22, .int .i64 (k - 1)), (23, .pointer (some ad2)), (24, .pointer (some ad2)), (27, .int .i64 k2), (28, .int .i64 (k2 - 1)), (12, .pointer (some ⟨b10, 0, none⟩))] E1_) ?_ ?_
  · -- the region
    refine AW.draw' [0, 1, 3, 7, 0, 16, 48, 112, 240, 0, 512, 1536, 3584, 8176, 16383, 0, 65535] mixed (by rfl) ?_
    refine Dr.read 0 _ 29 _ rfl rfl rfl rfl rfl (RV.of (by intro _ _ h; cases h) (.inl rfl) (fun _ xd => HV.mv rfl)) ?_
    refine Dr.read 1 _ 30 _ rfl rfl rfl rfl rfl (RV.of (by intro _ _ h; cases h) (.inl rfl) (fun _ xd => HV.nc rfl)) ?_
    refine Dr.read 2 _ 31 _ rfl rfl rfl rfl rfl (RV.of (by intro _ _ h; cases h) (.inl rfl) (fun _ xd => HV.fa fl31_0 rfl)) ?_
    refine Dr.read 3 _ 32 _ rfl rfl rfl rfl rfl (RV.of (by intro _ _ h; cases h) (.inl rfl) (fun _ xd => HV.ld rfl va2 (rdc_ext xd (cells_first (hc.ext X9) rfl)))) ?_
    refine Dr.read 4 _ 33 _ rfl rfl rfl rfl rfl (RV.of (by intro _ _ h; cases h) (.inl rfl) (fun _ xd => HV.mv rfl)) ?_
    refine Dr.read 5 _ 34 _ rfl rfl rfl rfl rfl (RV.of (by intro _ _ h; cases h) (.inl rfl) (fun _ xd => HV.nc rfl)) ?_
    refine Dr.read 6 _ 35 _ rfl rfl rfl rfl rfl (RV.of (by intro _ _ h; cases h) (.inl rfl) (fun _ xd => HV.fa fl31_1 rfl)) ?_
    refine Dr.read 7 _ 36 _ rfl rfl rfl rfl rfl (RV.of (by intro _ _ h; cases h) (.inl rfl) (fun _ xd => HV.ld rfl va22 (rdc_ext xd (cells_at (hc.ext X9) rfl)))) ?_
    refine Dr.read 9 _ 38 _ rfl rfl rfl rfl rfl (RV.of (by intro _ _ h; cases h) (.inl rfl) (fun _ xd => HV.mv rfl)) ?_
    refine Dr.read 10 _ 39 _ rfl rfl rfl rfl rfl (RV.of (by intro _ _ h; cases h) (.inl rfl) (fun _ xd => HV.nc rfl)) ?_
    refine Dr.read 11 _ 40 _ rfl rfl rfl rfl rfl (RV.of (by intro _ _ h; cases h) (.inl rfl) (fun _ xd => HV.fa fl31_1 rfl)) ?_
    refine Dr.read 12 _ 41 _ rfl rfl rfl rfl rfl (RV.of (by intro _ _ h; cases h) (.inl rfl) (fun _ xd => HV.ld rfl va22 (rdc_ext xd (cells_at (hc2.ext X9) rfl)))) ?_
    have y11 := hb7.lt
    have o12 := X9.bd
    have o13 := X10.bd
    refine Dr.eff2 8 15 _ _ _ _  rfl rfl  (by intro d h; cases h; exact ⟨rfl, rfl⟩) (by intro d h; cases h; exact ⟨rfl, rfl⟩) rfl rfl  rfl rfl rfl  (EC.of (by intro _ _ h; cases h) (.inl rfl) (WV.call fn85 rfl (l00Own_ok (ho.ext X9) (by omega)))) (EC.of (by intro _ _ h; cases h) (.inl rfl) (WV.al ze31 rfl)) (fun v H' h => .inl (h.1)) (fun v H' h => .inl (h.choose_spec.2.1)) ?_ ?_ 
    · -- 8 first
      have y24 := hb7.lt
      have o25 := X9.bd
      have o26 := X10.bd
      rintro v27 H28 ⟨hx29, ho30⟩
      have X32 := Ext.trans X9 hx29
      have X33 := Ext.trans X10 hx29
      have hb34 := hb7.ext hx29
      have ho31 := OwnK.narrow (ok' := fun b => H4.bd ≤ b ∧ some b = v27.ownBlock) kI_flat ho30 (fun b q => ⟨(ho30.blk b q).1, q⟩)
      have X36 := Ext.refl H28
      have a48 := ho31.ltb
      refine Dr.eff2 13 15 _ _ _ _  rfl rfl  (by intro d h; cases h; exact ⟨rfl, rfl⟩) (by intro d h; cases h; exact ⟨rfl, rfl⟩) rfl rfl  rfl rfl rfl  (EC.of (by intro _ _ h; cases h) (.inl rfl) (WV.apk sl22 rfl rfl ho31 (ho2.lo.ext X32) (by omega) (by omega) (fun b hb _ e => by have h1 : H4.bd ≤ b := (ho31.blk b e).1.1; have h2 : b < H.bd := hb; have h3 := o25; omega))) (EC.of (by intro _ _ h; cases h) (.inl rfl) (WV.al ze31 rfl)) ?_ (fun v H' h => .inl (h.choose_spec.2.1)) ?_ ?_ 
      · -- kept
        rintro v37 H38 ⟨hx39, ho40, hb41⟩
        have ho42 := ho40.narrow (ok' := fun b => H4.bd ≤ b ∧ some b = v37.ownBlock) kI_flat (fun b q => ⟨(hb41 b q).elim (fun e => (ho31.blk b e).1.1) (fun e => Nat.le_trans X33.bd e), q⟩)
        have X49 := Ext.thru X32 hx39 (fun b hb => Nat.le_trans o25 (ho31.blk b hb).1.1)
        have X50 := Ext.thru X33 hx39 (fun b hb => Nat.le_trans o26 (ho31.blk b hb).1.1)
        have hb51 := hb34.but hx39 (fun e => by have q : H4.bd ≤ _ := (ho31.blk _ e).1.1; omega)
        refine .inr (.inr ?_)
        exact (kept_cons (.inl rfl) (kept_cons (.inl rfl) (kept_cons (.inl rfl) (kept_cons (.inl rfl) (kept_cons (.inl rfl) (kept_cons (.inl rfl) (kept_cons (.inl rfl) (kept_cons (.inl rfl) (kept_cons (.inr ⟨_, _, _, rfl, rfl, rfl, (RV.of (by intro _ _ h; cases h) (.inl rfl) (fun _ xd => HV.ld rfl va2 (rdc_ext xd (cells_first (hc.ext X49) rfl))))⟩) (kept_cons (.inr ⟨_, _, _, rfl, rfl, rfl, (RV.of (by intro _ _ h; cases h) (.inl rfl) (fun _ xd => HV.fa fl31_0 rfl))⟩) (kept_cons (.inr ⟨_, _, _, rfl, rfl, rfl, (RV.of (by intro _ _ h; cases h) (.inl rfl) (fun _ xd => HV.nc rfl))⟩) (kept_cons (.inr ⟨_, _, _, rfl, rfl, rfl, (RV.of (by intro _ _ h; cases h) (.inl rfl) (fun _ xd => HV.mv rfl))⟩) kept_nil))))))))))))
      · -- 13 first
        have X52 := Ext.refl H28
        rintro v53 H54 ⟨hx55, ho56, hb57⟩
        have ho58 := ho56.narrow (ok' := fun b => H4.bd ≤ b ∧ some b = v53.ownBlock) kI_flat (fun b q => ⟨(hb57 b q).elim (fun e => (ho31.blk b e).1.1) (fun e => Nat.le_trans X33.bd e), q⟩)
        have X59 := Ext.thru X32 hx55 (fun b hb => Nat.le_trans o25 (ho31.blk b hb).1.1)
        have X60 := Ext.thru X33 hx55 (fun b hb => Nat.le_trans o26 (ho31.blk b hb).1.1)
        have q62 := Nat.le_trans X52.bd hx55.bd
        have hb63 := hb34.but hx55 (fun e => by have q : H4.bd ≤ _ := (ho31.blk _ e).1.1; omega)
        refine Dr.read 14 _ 43 _ rfl rfl rfl rfl rfl (RV.of (by intro _ _ h; cases h) (.inl rfl) (fun _ xd => HV.bd rfl (bd31_0_1 n ho58.rd.isSl))) ?_
        have a69 := ho58.ltb
        refine Dr.eff 15 _ _ rfl (by intro d h; cases h; exact ⟨rfl, rfl⟩) rfl rfl rfl (EC.of (by intro _ _ h; cases h) (.inl rfl) (WV.al ze31 rfl)) (fun v H' h => .inl (h.choose_spec.2.1)) ?_
        rintro _ H65 ⟨b64, rfl, hx66, hn67, hb68⟩
        have o70 := Nat.le_trans X59.bd hn67
        have o71 := Nat.le_trans X60.bd hn67
        have o72 := Nat.le_trans q62 hn67
        have a73 : ∀ b', some b' = v53.ownBlock → b' = b64 → False := fun b' h1 h2 => by have x1 := a69 b' h1; have x2 := hn67; omega
        have ne74 : b3 ≠ b64 := by have := hb63.lt; omega
        have q75 := Nat.le_trans q62 hx66.bd
        have X76 := Ext.trans X59 hx66
        have X77 := Ext.trans X60 hx66
        have ho78 := ho58.ext hx66
        have hb79 := hb63.ext hx66
        have X80 := Ext.refl H65
        refine Dr.eff 16 _ _ rfl (by intro d h; cases h) rfl rfl rfl (EC.of (by intro _ _ h; cases h) (.inl rfl) (WV.st rfl rfl va31 rfl hb68 (Nat.le_of_ble_eq_true rfl) (one_cons rfl (one_cons (sl_one1 ho78.rd.isSl) (one_cons rfl (one_cons rfl (one_cons (sl_one1 ⟨none, 0, rfl⟩) one_nil))))))) (fun v H' h => .inr (.inl rfl)) ?_
        rintro _ H81 ⟨hx82, hb83⟩
        have q84 := Nat.le_trans q75 hx82.bd
        have X85 := Ext.thru X76 hx82 (fun z_ hz_ => by rw [hz_]; exact o70)
        have X86 := Ext.thru X77 hx82 (fun z_ hz_ => by rw [hz_]; exact o71)
        have q88 := Nat.le_trans X80.bd hx82.bd
        have ho89 := ho78.but hx82 (fun b hb _ e => a73 b hb.2 e) (fun z_ hz_ => by rw [hz_]; exact hb68.w)
        have hb90 := hb79.but hx82 ne74
        have hb91 : At W H81 b64 ⟨31, [.int .i64 n, v53, .int .i64 0, .int .i64 0, (.slice none 0 0)], 5⟩ := hb83
        refine Dr.fin rfl ?_
        exact nrm_and ⟨v53, b64, X86, o71, hb91, (OwnK.narrow kI_flat ho89 (fun b q => ⟨⟨Nat.le_trans o26 (ho89.blk b q).1.1, fun e => a73 b q e⟩, ho89.ltb b q⟩)), rfl, rfl, rfl, rfl, rfl, rfl, rfl, rfl, rfl, rfl, rfl, rfl, rfl, rfl, rfl, rfl, rfl, trivial⟩
      · -- 15 first
        have a97 := ho31.ltb
        rintro _ H93 ⟨b92, rfl, hx94, hn95, hb96⟩
        have o98 := Nat.le_trans X32.bd hn95
        have o99 := Nat.le_trans X33.bd hn95
        have a100 : ∀ b', some b' = v27.ownBlock → b' = b92 → False := fun b' h1 h2 => by have x1 := a97 b' h1; have x2 := hn95; omega
        have ne101 : b3 ≠ b92 := by have := hb34.lt; omega
        have X102 := Ext.trans X32 hx94
        have X103 := Ext.trans X33 hx94
        have ho104 := ho31.ext hx94
        have hb105 := hb34.ext hx94
        have X106 := Ext.refl H93
        refine Dr.eff 13 _ _ rfl (by intro d h; cases h; exact ⟨rfl, rfl⟩) rfl rfl rfl (EC.of (by intro _ _ h; cases h) (.inl rfl) (WV.apk sl22 rfl rfl ho104 (ho2.lo.ext X102) (by omega) (by omega) (fun b hb _ e => by have h1 : H4.bd ≤ b := (ho104.blk b e).1.1; have h2 : b < H.bd := hb; have h3 := o25; omega))) ?_ ?_
        · -- kept
          rintro v107 H108 ⟨hx109, ho110, hb111⟩
          have ho112 := ho110.narrow (ok' := fun b => H4.bd ≤ b ∧ some b = v107.ownBlock) kI_flat (fun b q => ⟨(hb111 b q).elim (fun e => (ho104.blk b e).1.1) (fun e => Nat.le_trans X103.bd e), q⟩)
          have a113 : ∀ b', some b' = v107.ownBlock → b' = b92 → False := fun b' h1 h2 => (hb111 b' h1).elim (fun e => a100 b' e h2) (fun e => by have := hb96.lt; omega)
          have X114 := Ext.thru X102 hx109 (fun b hb => Nat.le_trans o25 (ho104.blk b hb).1.1)
          have X115 := Ext.thru X103 hx109 (fun b hb => Nat.le_trans o26 (ho104.blk b hb).1.1)
          have q117 := Nat.le_trans X106.bd hx109.bd
          have hb118 := hb105.but hx109 (fun e => by have q : H4.bd ≤ _ := (ho104.blk _ e).1.1; omega)
          have hb119 := hb96.but hx109 (fun e => a100 _ e rfl)
          refine .inr (.inr ?_)
          exact (kept_cons (.inl rfl) (kept_cons (.inl rfl) (kept_cons (.inl rfl) (kept_cons (.inl rfl) (kept_cons (.inl rfl) (kept_cons (.inl rfl) (kept_cons (.inl rfl) (kept_cons (.inl rfl) (kept_cons (.inr ⟨_, _, _, rfl, rfl, rfl, (RV.of (by intro _ _ h; cases h) (.inl rfl) (fun _ xd => HV.ld rfl va2 (rdc_ext xd (cells_first (hc.ext X114) rfl))))⟩) (kept_cons (.inr ⟨_, _, _, rfl, rfl, rfl, (RV.of (by intro _ _ h; cases h) (.inl rfl) (fun _ xd => HV.fa fl31_0 rfl))⟩) (kept_cons (.inr ⟨_, _, _, rfl, rfl, rfl, (RV.of (by intro _ _ h; cases h) (.inl rfl) (fun _ xd => HV.nc rfl))⟩) (kept_cons (.inr ⟨_, _, _, rfl, rfl, rfl, (RV.of (by intro _ _ h; cases h) (.inl rfl) (fun _ xd => HV.mv rfl))⟩) kept_nil))))))))))))
        rintro v107 H108 ⟨hx109, ho110, hb111⟩
        have ho112 := ho110.narrow (ok' := fun b => H4.bd ≤ b ∧ some b = v107.ownBlock) kI_flat (fun b q => ⟨(hb111 b q).elim (fun e => (ho104.blk b e).1.1) (fun e => Nat.le_trans X103.bd e), q⟩)
        have a120 : ∀ b', some b' = v107.ownBlock → b' = b92 → False := fun b' h1 h2 => (hb111 b' h1).elim (fun e => a100 b' e h2) (fun e => by have := hb96.lt; omega)
        have X121 := Ext.thru X102 hx109 (fun b hb => Nat.le_trans o25 (ho104.blk b hb).1.1)
        have X122 := Ext.thru X103 hx109 (fun b hb => Nat.le_trans o26 (ho104.blk b hb).1.1)
        have q124 := Nat.le_trans X106.bd hx109.bd
        have hb125 := hb105.but hx109 (fun e => by have q : H4.bd ≤ _ := (ho104.blk _ e).1.1; omega)
        have hb126 := hb96.but hx109 (fun e => a100 _ e rfl)
        refine Dr.read 14 _ 43 _ rfl rfl rfl rfl rfl (RV.of (by intro _ _ h; cases h) (.inl rfl) (fun _ xd => HV.bd rfl (bd31_0_1 n ho112.rd.isSl))) ?_
        refine Dr.eff 16 _ _ rfl (by intro d h; cases h) rfl rfl rfl (EC.of (by intro _ _ h; cases h) (.inl rfl) (WV.st rfl rfl va31 rfl hb126 (Nat.le_of_ble_eq_true rfl) (one_cons rfl (one_cons (sl_one1 ho112.rd.isSl) (one_cons rfl (one_cons rfl (one_cons (sl_one1 ⟨none, 0, rfl⟩) one_nil))))))) (fun v H' h => .inr (.inl rfl)) ?_
        rintro _ H127 ⟨hx128, hb129⟩
        have q130 := Nat.le_trans q124 hx128.bd
        have X131 := Ext.thru X121 hx128 (fun z_ hz_ => by rw [hz_]; exact o98)
        have X132 := Ext.thru X122 hx128 (fun z_ hz_ => by rw [hz_]; exact o99)
        have ho133 := ho112.but hx128 (fun b hb _ e => a120 b hb.2 e) (fun z_ hz_ => by rw [hz_]; exact hb126.w)
        have hb134 := hb125.but hx128 ne101
        have hb135 : At W H127 b92 ⟨31, [.int .i64 n, v107, .int .i64 0, .int .i64 0, (.slice none 0 0)], 5⟩ := hb129
        refine Dr.fin rfl ?_
        exact nrm_and ⟨v107, b92, X132, o99, hb135, (OwnK.narrow kI_flat ho133 (fun b q => ⟨⟨Nat.le_trans o26 (ho133.blk b q).1.1, fun e => a120 b q e⟩, ho133.ltb b q⟩)), rfl, rfl, rfl, rfl, rfl, rfl, rfl, rfl, rfl, rfl, rfl, rfl, rfl, rfl, rfl, rfl, rfl, trivial⟩
    · -- 15 first
      rintro _ H137 ⟨b136, rfl, hx138, hn139, hb140⟩
      have o141 := Nat.le_trans X9.bd hn139
      have o142 := Nat.le_trans X10.bd hn139
      have ne143 : b3 ≠ b136 := by have := hb7.lt; omega
      have X144 := Ext.trans X9 hx138
      have X145 := Ext.trans X10 hx138
      have hb146 := hb7.ext hx138
      have X147 := Ext.refl H137
      have y148 := hb146.lt
      have y149 := hb140.lt
      have o150 := X144.bd
      have o151 := X145.bd
      have o152 := X147.bd
      refine Dr.eff 8 _ _ rfl (by intro d h; cases h; exact ⟨rfl, rfl⟩) rfl rfl rfl (EC.of (by intro _ _ h; cases h) (.inl rfl) (WV.call fn85 rfl (l00Own_ok (ho.ext X144) (by omega)))) (fun v H' h => .inl (h.1)) ?_
      rintro v153 H154 ⟨hx155, ho156⟩
      have X158 := Ext.trans X144 hx155
      have X159 := Ext.trans X145 hx155
      have X160 := Ext.trans X147 hx155
      have hb161 := hb146.ext hx155
      have hb162 := hb140.ext hx155
      have ho157 := OwnK.narrow (ok' := fun b => H137.bd ≤ b ∧ some b = v153.ownBlock) kI_flat ho156 (fun b q => ⟨(ho156.blk b q).1, q⟩)
      have X164 := Ext.refl H154
      refine Dr.eff 13 _ _ rfl (by intro d h; cases h; exact ⟨rfl, rfl⟩) rfl rfl rfl (EC.of (by intro _ _ h; cases h) (.inl rfl) (WV.apk sl22 rfl rfl ho157 (ho2.lo.ext X158) (by omega) (by omega) (fun b hb _ e => by have h1 : H137.bd ≤ b := (ho157.blk b e).1.1; have h2 : b < H.bd := hb; have h3 := o150; omega))) ?_ ?_
      · -- kept
        rintro v165 H166 ⟨hx167, ho168, hb169⟩
        have ho170 := ho168.narrow (ok' := fun b => H137.bd ≤ b ∧ some b = v165.ownBlock) kI_flat (fun b q => ⟨(hb169 b q).elim (fun e => (ho157.blk b e).1.1) (fun e => Nat.le_trans X160.bd e), q⟩)
        have X171 := Ext.thru X158 hx167 (fun b hb => Nat.le_trans o150 (ho157.blk b hb).1.1)
        have X172 := Ext.thru X159 hx167 (fun b hb => Nat.le_trans o151 (ho157.blk b hb).1.1)
        have X173 := Ext.thru X160 hx167 (fun b hb => Nat.le_trans o152 (ho157.blk b hb).1.1)
        have q175 := Nat.le_trans X164.bd hx167.bd
        have hb176 := hb161.but hx167 (fun e => by have q : H137.bd ≤ _ := (ho157.blk _ e).1.1; omega)
        have hb177 := hb162.but hx167 (fun e => by have q : H137.bd ≤ _ := (ho157.blk _ e).1.1; omega)
        refine .inr (.inr ?_)
        exact (kept_cons (.inl rfl) (kept_cons (.inl rfl) (kept_cons (.inl rfl) (kept_cons (.inl rfl) (kept_cons (.inl rfl) (kept_cons (.inl rfl) (kept_cons (.inl rfl) (kept_cons (.inl rfl) (kept_cons (.inr ⟨_, _, _, rfl, rfl, rfl, (RV.of (by intro _ _ h; cases h) (.inl rfl) (fun _ xd => HV.ld rfl va2 (rdc_ext xd (cells_first (hc.ext X171) rfl))))⟩) (kept_cons (.inr ⟨_, _, _, rfl, rfl, rfl, (RV.of (by intro _ _ h; cases h) (.inl rfl) (fun _ xd => HV.fa fl31_0 rfl))⟩) (kept_cons (.inr ⟨_, _, _, rfl, rfl, rfl, (RV.of (by intro _ _ h; cases h) (.inl rfl) (fun _ xd => HV.nc rfl))⟩) (kept_cons (.inr ⟨_, _, _, rfl, rfl, rfl, (RV.of (by intro _ _ h; cases h) (.inl rfl) (fun _ xd => HV.mv rfl))⟩) kept_nil))))))))))))
      rintro v165 H166 ⟨hx167, ho168, hb169⟩
      have ho170 := ho168.narrow (ok' := fun b => H137.bd ≤ b ∧ some b = v165.ownBlock) kI_flat (fun b q => ⟨(hb169 b q).elim (fun e => (ho157.blk b e).1.1) (fun e => Nat.le_trans X160.bd e), q⟩)
      have X178 := Ext.thru X158 hx167 (fun b hb => Nat.le_trans o150 (ho157.blk b hb).1.1)
      have X179 := Ext.thru X159 hx167 (fun b hb => Nat.le_trans o151 (ho157.blk b hb).1.1)
      have X180 := Ext.thru X160 hx167 (fun b hb => Nat.le_trans o152 (ho157.blk b hb).1.1)
      have q182 := Nat.le_trans X164.bd hx167.bd
      have hb183 := hb161.but hx167 (fun e => by have q : H137.bd ≤ _ := (ho157.blk _ e).1.1; omega)
      have hb184 := hb162.but hx167 (fun e => by have q : H137.bd ≤ _ := (ho157.blk _ e).1.1; omega)
      refine Dr.read 14 _ 43 _ rfl rfl rfl rfl rfl (RV.of (by intro _ _ h; cases h) (.inl rfl) (fun _ xd => HV.bd rfl (bd31_0_1 n ho170.rd.isSl))) ?_
      refine Dr.eff 16 _ _ rfl (by intro d h; cases h) rfl rfl rfl (EC.of (by intro _ _ h; cases h) (.inl rfl) (WV.st rfl rfl va31 rfl hb184 (Nat.le_of_ble_eq_true rfl) (one_cons rfl (one_cons (sl_one1 ho170.rd.isSl) (one_cons rfl (one_cons rfl (one_cons (sl_one1 ⟨none, 0, rfl⟩) one_nil))))))) (fun v H' h => .inr (.inl rfl)) ?_
      rintro _ H185 ⟨hx186, hb187⟩
      have q188 := Nat.le_trans q182 hx186.bd
      have X189 := Ext.thru X178 hx186 (fun z_ hz_ => by rw [hz_]; exact o141)
      have X190 := Ext.thru X179 hx186 (fun z_ hz_ => by rw [hz_]; exact o142)
      have q192 := Nat.le_trans X180.bd hx186.bd
      have ho193 := ho170.but hx186 (fun b hb _ e => by have hb' : H137.bd ≤ b := hb.1; have e' : b = b136 := e; omega) (fun z_ hz_ => by rw [hz_]; exact hb184.w)
      have hb194 := hb183.but hx186 ne143
      have hb195 : At W H185 b136 ⟨31, [.int .i64 n, v165, .int .i64 0, .int .i64 0, (.slice none 0 0)], 5⟩ := hb187
      refine Dr.fin rfl ?_
      exact nrm_and ⟨v165, b136, X190, o142, hb195, (OwnK.narrow kI_flat ho193 (fun b q => ⟨⟨Nat.le_trans o151 (ho193.blk b q).1.1, fun e => (show ∀ b', some b' = v165.ownBlock → b' = b136 → False from fun b' h1 e => by have a1 : H137.bd ≤ b' := (ho193.blk b' h1).1.1; omega) b q e⟩, ho193.ltb b q⟩)), rfl, rfl, rfl, rfl, rfl, rfl, rfl, rfl, rfl, rfl, rfl, rfl, rfl, rfl, rfl, rfl, rfl, trivial⟩
  · -- behind it
    rintro E1_ H1_ ⟨u1, b10, hXi, hib10, hb10, hu1, hsub⟩
    refine AW.le (E := [(0, .pointer (some ad)), (1, .pointer (some ad2)), (2, vhd), (3, vtl), (8, .pointer (some ⟨b3, 0, none⟩)), (9, .int .i64 0), (10, .int .i64 (k - 1)), (11, .int .i64 (k2 - 1)), (17, .pointer (some ad)), (18, .pointer (some ad)), (21, .int .i64 k), (22, .int .i64 (k - 1)), (23, .pointer (some ad2)), (24, .pointer (some ad2)), (27, .int .i64 k2), (28, .int .i64 (k2 - 1)), (12, .pointer (some ⟨b10, 0, none⟩))]) (H := H1_) ?_ hsub (Ext.refl _)
    have o196 := X9.bd
    have o197 := X10.bd
    have y198 := hb7.lt
    have X199 := Ext.trans X9 hXi
    have X200 := Ext.trans X10 hXi
    have hb201 := hb7.ext hXi
    have X202 := Ext.refl H1_
    have ne203 : b3 ≠ b10 := by omega
    refine AW.rs ?_
    refine AL.val rfl (.inl rfl) (HV.mv rfl) ?_
    refine AL.val rfl (.inl rfl) (HV.nc rfl) ?_
    refine AL.val rfl (.inl rfl) (HV.fa fl31_2 rfl) ?_
    refine AL.val rfl (.inl rfl) (HV.fa fl29_0 rfl) ?_
    refine AL.val rfl (.inl rfl) (HV.ld rfl va2 (cells_first ((Cells.part (i := 2) (vs := [.int .i64 p, .int .i64 k, v]) hc rfl).ext X199) rfl)) ?_
    refine AL.val rfl (.inl rfl) (HV.fa fl31_2 rfl) ?_
    refine AL.val rfl (.inl rfl) (HV.fa fl29_0 rfl) ?_
    refine AL.w0 (.inl rfl) (WV.st rfl rfl va2 rfl hb10 (Nat.le_of_ble_eq_true rfl) (one_cons rfl one_nil)) ?_
    rintro _ H204 ⟨hx205, hb206⟩
    have X207 := Ext.thru X199 hx205 (fun z_ hz_ => by rw [hz_]; exact (Nat.le_trans o196 hib10))
    have X208 := Ext.thru X200 hx205 (fun z_ hz_ => by rw [hz_]; exact (Nat.le_trans o197 hib10))
    have q210 := Nat.le_trans X202.bd hx205.bd
    have ho211 := hu1.but hx205 (fun b hb _ e => by have hb' : (H4.bd ≤ b ∧ b ≠ b10) ∧ b < H1_.bd := hb; have e' : b = b10 := e; omega) (fun z_ hz_ => by rw [hz_]; exact hb10.w)
    have hb212 := hb201.but hx205 ne203
    have hb213 : At W H204 b10 ⟨31, [.int .i64 n, u1, .int .i64 p, .int .i64 0, (.slice none 0 0)], 5⟩ := hb206
    refine AL.nx ?_
    refine AW.seq ?_
    refine AW.rs ?_
    refine AL.val rfl (.inl rfl) (HV.as rfl) ?_
    refine AL.nx ?_
    refine AW.block ?_
    have X214 := Ext.refl H204
    have y215 := hb212.lt
    have y216 := hb213.lt
    have o217 := X207.bd
    have o218 := X208.bd
    have o219 := X214.bd
    have a220 := ho211.ltb
    have ho221 : OwnD (kO 2 kI) 22 W H204 (fun b => H204.bd ≤ b) (.slice none 0 0) (mapR (joA k2 l) 0) := OwnD.nil _
    refine AW.loop (σ := Nat × Value) (fun ⟨i, vv⟩ => [(0, .pointer (some ad)), (1, .pointer (some ad2)), (2, vhd), (3, vtl), (8, .pointer (some ⟨b3, 0, none⟩)), (9, .int .i64 0), (10, .int .i64 (k - 1)), (11, .int .i64 (k2 - 1)), (12, .pointer (some ⟨b10, 0, none⟩)), (13, .int .i64 (i : Int))]) (fun ⟨i, vv⟩ H' => Ext H H' ∧ Ext H4 H' ∧ At W H' b3 ⟨31, [.int .i64 0, (.slice none 0 0), .int .i64 0, .int .i64 0, (.slice none 0 0)], 5⟩ ∧ H204.bd ≤ H'.bd ∧ H1_.bd ≤ H'.bd ∧ i ≤ l.length ∧ At W H' b10 ⟨31, [.int .i64 n, u1, .int .i64 p, .int .i64 0, vv], 5⟩ ∧ OwnD (kO 2 kI) 22 W H' (fun b => H204.bd ≤ b) vv (mapR (joA k2 l) i) ∧ OwnK kI 2 W H' (fun b => (H4.bd ≤ b ∧ b ≠ b10) ∧ b < H1_.bd) u1 (o ++ o2) ∧ True) (fun ⟨i, vv⟩ => l.length - i) (0, (.slice none 0 0)) ⟨X207, X208, hb212, X214.bd, q210, Nat.zero_le _, hb213, ho221, ho211, trivial⟩ ⟨rfl, rfl, rfl, rfl, rfl, rfl, rfl, rfl, rfl, rfl, trivial⟩ ?_
    rintro ⟨i, vv⟩ H223 ⟨X224, X225, hb226, q227, q228, hi, hbBi, hoLi, hoUi, _⟩
    refine AW.seq ?_
    refine AW.rs ?_
    refine AL.val rfl (.inl rfl) (HV.mv rfl) ?_
    refine AL.val rfl (.inl rfl) (HV.mv rfl) ?_
    refine AL.val rfl (.inl rfl) (HV.len Try.underlying23 rfl hrh.isSl) ?_
    refine AL.val rfl (.inl rfl) (HV.lti rfl rfl) ?_
    refine AL.nx ?_
    refine AW.ifd rfl (fun c229 => ?_) (fun c229 => ?_)
    · -- then
      refine AW.skip ?_
      refine nrm_and ?_
      refine AW.seq ?_
      refine AW.block ?_
      refine AW.seq ?_
      refine AW.draw' [0, 0, 3, 7, 15, 0, 32, 96, 224, 480, 0, 2016, 4064, 8160, 16383, 32767] mixed (by rfl) ?_
      refine Dr.read 0 _ 57 _ rfl rfl rfl rfl rfl (RV.of (by intro _ _ h; cases h) (.inl rfl) (fun _ xd => HV.mv rfl)) ?_
      refine Dr.read 1 _ 58 _ rfl rfl rfl rfl rfl (RV.of (by intro _ _ h; cases h) (.inl rfl) (fun _ xd => HV.mv rfl)) ?_
      obtain ⟨p230, z231, cs232, hz233, hK234, hC235, hP236⟩ := RdK.ix (q := (i : Int)) hrh sl23 (by omega) (by omega)
      obtain ⟨v237, rfl, hr238⟩ := hK234
      have hm239 := hr238.max
      refine Dr.read 2 _ 59 _ rfl rfl rfl rfl rfl (RV.of (by intro _ _ h; cases h) (.inl rfl) (fun _ xd => hP236 rfl rfl)) ?_
      refine Dr.read 3 _ 60 _ rfl rfl rfl rfl rfl (RV.of (by intro _ _ h; cases h) (.inl rfl) (fun _ xd => HV.ld rfl va22 (rdc_ext xd (cells_first (hC235.ext X224) rfl)))) ?_
      refine Dr.read 5 _ 62 _ rfl rfl rfl rfl rfl (RV.of (by intro _ _ h; cases h) (.inl rfl) (fun _ xd => HV.mv rfl)) ?_
      refine Dr.read 6 _ 63 _ rfl rfl rfl rfl rfl (RV.of (by intro _ _ h; cases h) (.inl rfl) (fun _ xd => HV.nc rfl)) ?_
      refine Dr.read 7 _ 64 _ rfl rfl rfl rfl rfl (RV.of (by intro _ _ h; cases h) (.inl rfl) (fun _ xd => HV.fa fl31_2 rfl)) ?_
      refine Dr.read 8 _ 65 _ rfl rfl rfl rfl rfl (RV.of (by intro _ _ h; cases h) (.inl rfl) (fun _ xd => HV.fa fl29_2 rfl)) ?_
      refine Dr.read 9 _ 66 _ rfl rfl rfl rfl rfl (RV.of (by intro _ _ h; cases h) (.inl rfl) (fun _ xd => HV.ld rfl va23 (rdc_ext xd (cells_at ((Cells.part (i := 2) (vs := [.int .i64 p, .int .i64 k, v]) hc rfl).ext X224) rfl)))) ?_
      refine Dr.read 10 _ 67 _ rfl rfl rfl rfl rfl (RV.of (by intro _ _ h; cases h) (.inl rfl) (fun _ xd => HV.mv rfl)) ?_
      obtain ⟨p240, z241, cs242, hz243, hK244, hC245, hP246⟩ := RdK.ix (q := (i : Int)) hr sl23 (by omega) (by omega)
      obtain ⟨v247, rfl, hr248⟩ := hK244
      have hm249 := hr248.max
      refine Dr.read 11 _ 68 _ rfl rfl rfl rfl rfl (RV.of (by intro _ _ h; cases h) (.inl rfl) (fun _ xd => hP246 rfl rfl)) ?_
      refine Dr.read 12 _ 69 _ rfl rfl rfl rfl rfl (RV.of (by intro _ _ h; cases h) (.inl rfl) (fun _ xd => HV.ld rfl va22 (rdc_ext xd (cells_first (hC245.ext X224) rfl)))) ?_
      have q1 := rect_at hF.r hz243
      have q2 := q1.1
      have q3 : l.getD i [] = z241 := gd hz243 rfl
      have q4 := mapR_at hz233
      have q5 : z231.length = 2 := by rw [q4]; rfl
      have X253 := Ext.refl H223
      obtain ⟨v250, hr251, hP252⟩ := RdK.cutL (q := 1) hr248 sl22 (by decide) (by omega)
      refine Dr.read 13 _ 70 _ rfl rfl rfl rfl rfl (RV.of (by intro _ _ h; cases h) (.inl rfl) (fun _ xd => hP252 rfl rfl)) ?_
      have y254 := hb226.lt
      have y255 := hbBi.lt
      have o256 := X224.bd
      have o257 := X225.bd
      have o258 := X253.bd
      have a259 := hoLi.ltb
      have ho260 := hoLi.okk (ok' := fun b => H204.bd ≤ b ∧ b < H223.bd) (fun b hb hlt => ⟨hb, hlt⟩)
      have a261 := hoUi.ltb
      refine Dr.eff 4 _ _ rfl (by intro d h; cases h; exact ⟨rfl, rfl⟩) rfl rfl rfl (EC.of (by intro _ _ h; cases h) (.inl rfl) (WV.call fn85 rfl (l00Own_ok (hr238.ext X224) (by omega)))) (fun v H' h => .inl (h.1)) ?_
      rintro v262 H263 ⟨hx264, ho265⟩
      have q266 := Nat.le_trans q227 hx264.bd
      have q267 := Nat.le_trans q228 hx264.bd
      have X268 := Ext.trans X224 hx264
      have X269 := Ext.trans X225 hx264
      have X270 := Ext.trans X253 hx264
      have ho271 := ho260.ext hx264
      have ho272 := hoUi.ext hx264
      have hb273 := hb226.ext hx264
      have hb274 := hbBi.ext hx264
      have X276 := Ext.refl H263
      refine Dr.eff 14 _ _ rfl (by intro d h; cases h; exact ⟨rfl, rfl⟩) rfl rfl rfl (EC.of (by intro _ _ h; cases h) (.inl rfl) (WV.apk sl22 rfl rfl ho265 (hr251.lo.ext X268) (by simp; omega) (by simp; omega) (fun b hb _ e => by have h1 : H223.bd ≤ b := (ho265.blk b e).1; have h2 : b < H.bd := hb; have h3 := o256; omega))) (fun v H' h => .inr (.inl rfl)) ?_
      rintro v277 H278 ⟨hx279, ho280, hb281⟩
      have ho282 := ho280.narrow (ok' := fun b => H223.bd ≤ b) kI_flat (fun b q => (hb281 b q).elim (fun e => (ho265.blk b e).1) (fun e => Nat.le_trans X270.bd e))
      have q283 := Nat.le_trans q266 hx279.bd
      have q284 := Nat.le_trans q267 hx279.bd
      have X285 := Ext.thru X268 hx279 (fun b hb => Nat.le_trans o256 (ho265.blk b hb).1)
      have X286 := Ext.thru X269 hx279 (fun b hb => Nat.le_trans o257 (ho265.blk b hb).1)
      have X287 := Ext.thru X270 hx279 (fun b hb => Nat.le_trans o258 (ho265.blk b hb).1)
      have q289 := Nat.le_trans X276.bd hx279.bd
      have ho290 := ho271.but hx279 (fun b hb _ e => by have h1 : H204.bd ≤ b ∧ b < H223.bd := hb; have h2 : H223.bd ≤ b := (ho265.blk b e).1; omega) (fun b hb => (ho265.blk b hb).2.2)
      have ho291 := ho272.but hx279 (fun b hb _ e => by have h1 : (H4.bd ≤ b ∧ b ≠ b10) ∧ b < H1_.bd := hb; have h2 : H223.bd ≤ b := (ho265.blk b e).1; omega) (fun b hb => (ho265.blk b hb).2.2)
      have hb292 := hb273.but hx279 (fun e => by have q : H223.bd ≤ _ := (ho265.blk _ e).1; omega)
      have hb293 := hb274.but hx279 (fun e => by have q : H223.bd ≤ _ := (ho265.blk _ e).1; omega)
      refine Dr.read 15 _ 14 _ rfl rfl rfl rfl rfl (RV.of (by intro _ _ h; cases h) (.inl rfl) (fun _ xd => HV.as rfl)) ?_
      refine Dr.fin rfl ?_
      refine nrm_and ?_
      refine AW.draw' [0, 1, 3, 0, 0, 24, 56, 127, 255, 511, 1023] mixed (by rfl) ?_
      refine Dr.read 0 _ 72 _ rfl rfl rfl rfl rfl (RV.of (by intro _ _ h; cases h) (.inl rfl) (fun _ xd => HV.fa fl31_2 rfl)) ?_
      refine Dr.read 1 _ 73 _ rfl rfl rfl rfl rfl (RV.of (by intro _ _ h; cases h) (.inl rfl) (fun _ xd => HV.fa fl29_2 rfl)) ?_
      refine Dr.read 2 _ 74 _ rfl rfl rfl rfl rfl (RV.of (by intro _ _ h; cases h) (.inl rfl) (fun _ xd => HV.ld rfl va23 (rdc_ext xd (at_cell_add (j := 4) hb293 rfl)))) ?_
      refine Dr.read 3 _ 75 _ rfl rfl rfl rfl rfl (RV.of (by intro _ _ h; cases h) (.inl rfl) (fun _ xd => HV.mv rfl)) ?_
      refine Dr.read 4 _ 76 _ rfl rfl rfl rfl rfl (RV.of (by intro _ _ h; cases h) (.inl rfl) (fun _ xd => HV.mv rfl)) ?_
      have X294 := Ext.refl H278
      refine Dr.eff 5 _ _ rfl (by intro d h; cases h; exact ⟨rfl, rfl⟩) rfl rfl rfl (EC.of (by intro _ _ h; cases h) (.inl rfl) (WV.apzK sl22 Try.underlying2 rfl rfl ho282 (by omega) (by simp; omega))) ?_ ?_
      · -- kept
        rintro v295 H296 ⟨hx297, ho298, hb299⟩
        have ho300 := ho298.narrow (ok' := fun b => H223.bd ≤ b) kI_flat (fun b q => (hb299 b q).elim (fun e => (ho282.blk b e).1) (fun e => Nat.le_trans X287.bd e))
        have q301 := Nat.le_trans q283 hx297.bd
        have q302 := Nat.le_trans q284 hx297.bd
        have q303 := Nat.le_trans q289 hx297.bd
        have X304 := Ext.thru X285 hx297 (fun b hb => Nat.le_trans o256 (ho282.blk b hb).1)
        have X305 := Ext.thru X286 hx297 (fun b hb => Nat.le_trans o257 (ho282.blk b hb).1)
        have X306 := Ext.thru X287 hx297 (fun b hb => Nat.le_trans o258 (ho282.blk b hb).1)
        have q308 := Nat.le_trans X294.bd hx297.bd
        have ho309 := ho290.but hx297 (fun b hb _ e => by have h1 : H204.bd ≤ b ∧ b < H223.bd := hb; have h2 : H223.bd ≤ b := (ho282.blk b e).1; omega) (fun b hb => (ho282.blk b hb).2.2)
        have ho310 := ho291.but hx297 (fun b hb _ e => by have h1 : (H4.bd ≤ b ∧ b ≠ b10) ∧ b < H1_.bd := hb; have h2 : H223.bd ≤ b := (ho282.blk b e).1; omega) (fun b hb => (ho282.blk b hb).2.2)
        have hb311 := hb292.but hx297 (fun e => by have q : H223.bd ≤ _ := (ho282.blk _ e).1; omega)
        have hb312 := hb293.but hx297 (fun e => by have q : H223.bd ≤ _ := (ho282.blk _ e).1; omega)
        refine .inr (.inr ?_)
        exact (kept_cons (.inl rfl) (kept_cons (.inl rfl) (kept_cons (.inr ⟨_, _, _, rfl, rfl, rfl, (RV.of (by intro _ _ h; cases h) (.inl rfl) (fun _ xd => HV.ld rfl va23 (rdc_ext xd (at_cell_add (j := 4) hb312 rfl))))⟩) (kept_cons (.inr ⟨_, _, _, rfl, rfl, rfl, (RV.of (by intro _ _ h; cases h) (.inl rfl) (fun _ xd => HV.fa fl29_2 rfl))⟩) (kept_cons (.inr ⟨_, _, _, rfl, rfl, rfl, (RV.of (by intro _ _ h; cases h) (.inl rfl) (fun _ xd => HV.fa fl31_2 rfl))⟩) kept_nil)))))
      rintro v295 H296 ⟨hx297, ho298, hb299⟩
      have ho300 := ho298.narrow (ok' := fun b => H223.bd ≤ b) kI_flat (fun b q => (hb299 b q).elim (fun e => (ho282.blk b e).1) (fun e => Nat.le_trans X287.bd e))
      have q313 := Nat.le_trans q283 hx297.bd
      have q314 := Nat.le_trans q284 hx297.bd
      have q315 := Nat.le_trans q289 hx297.bd
      have X316 := Ext.thru X285 hx297 (fun b hb => Nat.le_trans o256 (ho282.blk b hb).1)
      have X317 := Ext.thru X286 hx297 (fun b hb => Nat.le_trans o257 (ho282.blk b hb).1)
      have X318 := Ext.thru X287 hx297 (fun b hb => Nat.le_trans o258 (ho282.blk b hb).1)
      have q320 := Nat.le_trans X294.bd hx297.bd
      have ho321 := ho290.but hx297 (fun b hb _ e => by have h1 : H204.bd ≤ b ∧ b < H223.bd := hb; have h2 : H223.bd ≤ b := (ho282.blk b e).1; omega) (fun b hb => (ho282.blk b hb).2.2)
      have ho322 := ho291.but hx297 (fun b hb _ e => by have h1 : (H4.bd ≤ b ∧ b ≠ b10) ∧ b < H1_.bd := hb; have h2 : H223.bd ≤ b := (ho282.blk b e).1; omega) (fun b hb => (ho282.blk b hb).2.2)
      have hb323 := hb292.but hx297 (fun e => by have q : H223.bd ≤ _ := (ho282.blk _ e).1; omega)
      have hb324 := hb293.but hx297 (fun e => by have q : H223.bd ≤ _ := (ho282.blk _ e).1; omega)
      have X325 := Ext.refl H296
      have y326 := hb323.lt
      have y327 := hb324.lt
      have o328 := X316.bd
      have o329 := X317.bd
      have o330 := X318.bd
      have o331 := X325.bd
      have a332 := ho321.ltb
      have a333 := ho322.ltb
      have a334 := ho300.ltb
      have hc339 : v295.cells = #[v295] := by obtain ⟨A, c, e⟩ := ho300.isSl; rw [e]; rfl
      refine Dr.eff 6 _ _ rfl (by intro d h; cases h; exact ⟨rfl, rfl⟩) rfl rfl rfl (EC.of (by intro _ _ h; cases h) (.inl rfl) (WV.bsO (okx := fun b => H223.bd ≤ b) (K := (kO 2 kI)) (l := ([((z231 ++ (z241.drop (1 : Int).toNat)) ++ (List.replicate (k2 - 1 : Int).toNat 0))] : List (List Int))) (css := [[v295]]) sl23 rfl rfl (by simp [Instr.fill, hc339, kO, rng1]) rfl (segs_cons ⟨_, rfl, ho300⟩ segs_nil))) (fun v H' h => .inl (h.1)) ?_
      rintro v335 H336 ⟨hx337, ho338⟩
      have q341 := Nat.le_trans q313 hx337.bd
      have q342 := Nat.le_trans q314 hx337.bd
      have q343 := Nat.le_trans q315 hx337.bd
      have q344 := Nat.le_trans q320 hx337.bd
      have X345 := Ext.trans X316 hx337
      have X346 := Ext.trans X317 hx337
      have X347 := Ext.trans X318 hx337
      have X348 := Ext.trans X325 hx337
      have ho349 := ho321.ext hx337
      have ho350 := ho322.ext hx337
      have ho351 := ho300.ext hx337
      have hb352 := hb323.ext hx337
      have hb353 := hb324.ext hx337
      have ho340 := ho338.okk (ok' := fun b => H223.bd ≤ b) (fun b hb _ => hb.elim id (fun e => Nat.le_trans X318.bd e))
      have X355 := Ext.refl H336
      refine Dr.eff 7 _ _ rfl (by intro d h; cases h; exact ⟨rfl, rfl⟩) rfl rfl rfl (EC.of (by intro _ _ h; cases h) (.inl rfl) (WV.apD (ok := fun b => H204.bd ≤ b) (B := H223.bd) sl23 rfl rfl ho349 ho340.rd X347.bd (by first | (rw [mapR_len]; omega) | (rw [List.length_append, mapR_len, mapR_len]; omega)) (by first | (rw [mapR_len]; omega) | (rw [List.length_append, mapR_len, mapR_len]; omega)))) (fun v H' h => .inr (.inl rfl)) ?_
      rintro v356 H357 ⟨hx358, ho359, hb360⟩
      have ho361 := ho359.okk (ok' := fun b => H204.bd ≤ b) (fun b hb _ => hb.elim id (fun e => Nat.le_trans q227 e))
      have q362 := Nat.le_trans q341 hx358.bd
      have q363 := Nat.le_trans q342 hx358.bd
      have q364 := Nat.le_trans q343 hx358.bd
      have q365 := Nat.le_trans q344 hx358.bd
      have X366 := Ext.thru X345 hx358 (fun b hb => Nat.le_trans o217 (ho349.blk b hb).1.1)
      have X367 := Ext.thru X346 hx358 (fun b hb => Nat.le_trans o218 (ho349.blk b hb).1.1)
      have q369 := Nat.le_trans X347.bd hx358.bd
      have q371 := Nat.le_trans X348.bd hx358.bd
      have q373 := Nat.le_trans X355.bd hx358.bd
      have ho374 := ho350.but hx358 (fun b hb _ e => by have h1 : (H4.bd ≤ b ∧ b ≠ b10) ∧ b < H1_.bd := hb; have h2 : H204.bd ≤ b := (ho349.blk b e).1.1; omega) (fun b hb => (ho349.blk b hb).2.2)
      have hb375 := hb352.but hx358 (fun e => by have q : H204.bd ≤ _ := (ho349.blk _ e).1.1; omega)
      have hb376 := hb353.but hx358 (fun e => by have q : H204.bd ≤ _ := (ho349.blk _ e).1.1; omega)
      refine Dr.read 8 _ 80 _ rfl rfl rfl rfl rfl (RV.of (by intro _ _ h; cases h) (.inl rfl) (fun _ xd => HV.fa fl31_2 rfl)) ?_
      refine Dr.read 9 _ 81 _ rfl rfl rfl rfl rfl (RV.of (by intro _ _ h; cases h) (.inl rfl) (fun _ xd => HV.fa fl29_2 rfl)) ?_
      refine Dr.eff 10 _ _ rfl (by intro d h; cases h) rfl rfl rfl (EC.of (by intro _ _ h; cases h) (.inl rfl) (WV.st rfl rfl va23 (sl_size (rd_ofO ho361.rd).isSl) hb376 (Nat.le_of_ble_eq_true rfl) (sl_one (rd_ofO ho361.rd).isSl))) (fun v H' h => .inr (.inl rfl)) ?_
      rintro _ H377 ⟨hx378, hb379⟩
      rw [sl_cells (rd_ofO ho361.rd).isSl] at hb379
      have q380 := Nat.le_trans q362 hx378.bd
      have q381 := Nat.le_trans q363 hx378.bd
      have q382 := Nat.le_trans q364 hx378.bd
      have q383 := Nat.le_trans q365 hx378.bd
      have q384 := Nat.le_trans q369 hx378.bd
      have q385 := Nat.le_trans q371 hx378.bd
      have q386 := Nat.le_trans q373 hx378.bd
      have X387 := Ext.thru X366 hx378 (fun z_ hz_ => by rw [hz_]; exact (Nat.le_trans o196 hib10))
      have X388 := Ext.thru X367 hx378 (fun z_ hz_ => by rw [hz_]; exact (Nat.le_trans o197 hib10))
      have ho389 := ho361.but hx378 (fun b hb _ e => by have hb' : H204.bd ≤ b := hb; have e' : b = b10 := e; omega) (fun z_ hz_ => by rw [hz_]; exact hb376.w)
      have ho390 := ho374.but hx378 (fun b hb _ e => by have hb' : (H4.bd ≤ b ∧ b ≠ b10) ∧ b < H1_.bd := hb; have e' : b = b10 := e; omega) (fun z_ hz_ => by rw [hz_]; exact hb376.w)
      have hb391 := hb375.but hx378 ne203
      have hb392 : At W H377 b10 ⟨31, [.int .i64 n, u1, .int .i64 p, .int .i64 0, v356], 5⟩ := hb379
      refine Dr.fin rfl ?_
      refine nrm_blk (nrm_and ?_)
      refine AW.reg ?_
      refine AL.val rfl (.inl rfl) (HV.mv rfl) ?_
      refine AL.val rfl (.inl rfl) (HV.add rfl rfl (by omega)) ?_
      refine AL.val rfl (.inl rfl) (HV.as rfl) ?_
      refine AL.nil ?_
      refine nrm_and ?_
      exact ⟨(i + 1, v356), ⟨X387, X388, hb391, q380, q381, by omega, hb392, by rw [mapR_succ, show joA k2 l i = (z231 ++ z241.drop 1) ++ List.replicate (k2 - 1).toNat 0 by unfold joA; rw [(gd hz243 rfl : l.getD i [] = z241), ← mapR_at hz233]]; exact ho389, ho390, trivial⟩, by first | omega | (dsimp only; omega), ⟨rfl, rfl, rfl, rfl, rfl, rfl, rfl, rfl, rfl, rfl, trivial⟩⟩
    · -- else
      refine AW.exit ?_
      refine ex_and (ex_and (ex_blk ?_))
      refine nrm_and ?_
      refine AW.seq ?_
      refine AW.rs ?_
      refine AL.val rfl (.inl rfl) (HV.as rfl) ?_
      refine AL.nx ?_
      refine AW.block ?_
      refine AW.loop (σ := Nat × Value) (fun ⟨j, ww⟩ => [(1, .pointer (some ad2)), (3, vtl), (8, .pointer (some ⟨b3, 0, none⟩)), (9, .int .i64 0), (10, .int .i64 (k - 1)), (11, .int .i64 (k2 - 1)), (12, .pointer (some ⟨b10, 0, none⟩)), (15, .int .i64 (j : Int))]) (fun ⟨j, ww⟩ H' => Ext H H' ∧ Ext H4 H' ∧ At W H' b3 ⟨31, [.int .i64 0, (.slice none 0 0), .int .i64 0, .int .i64 0, (.slice none 0 0)], 5⟩ ∧ H204.bd ≤ H'.bd ∧ H1_.bd ≤ H'.bd ∧ j ≤ l2.length ∧ At W H' b10 ⟨31, [.int .i64 n, u1, .int .i64 p, .int .i64 0, ww], 5⟩ ∧ OwnD (kO 2 kI) 22 W H' (fun b => H204.bd ≤ b) ww (mapR (joA k2 l) l.length ++ mapR (joB p k l2) j) ∧ OwnK kI 2 W H' (fun b => (H4.bd ≤ b ∧ b ≠ b10) ∧ b < H1_.bd) u1 (o ++ o2) ∧ True) (fun ⟨j, ww⟩ => l2.length - j) (0, vv) ⟨X224, X225, hb226, q227, q228, Nat.zero_le _, hbBi, by rw [show mapR (joB p k l2) 0 = [] from rfl, List.append_nil, show l.length = i by omega]; exact hoLi, hoUi, trivial⟩ ⟨rfl, rfl, rfl, rfl, rfl, rfl, rfl, rfl, trivial⟩ ?_
      rintro ⟨j, ww⟩ H393 ⟨X394, X395, hb396, q397, q398, hj, hbBj, hoLj, hoUj, _⟩
      refine AW.seq ?_
      refine AW.rs ?_
      refine AL.val rfl (.inl rfl) (HV.mv rfl) ?_
      refine AL.val rfl (.inl rfl) (HV.mv rfl) ?_
      refine AL.val rfl (.inl rfl) (HV.len Try.underlying23 rfl hrt.isSl) ?_
      refine AL.val rfl (.inl rfl) (HV.lti rfl rfl) ?_
      refine AL.nx ?_
      refine AW.ifd rfl (fun c399 => ?_) (fun c399 => ?_)
      · -- then
        refine AW.skip ?_
        refine nrm_and ?_
        refine AW.seq ?_
        refine AW.block ?_
        refine AW.rs ?_
        refine AL.val rfl (.inl rfl) (HV.mv rfl) ?_
        refine AL.val rfl (.inl rfl) (HV.mv rfl) ?_
        obtain ⟨p400, z401, cs402, hz403, hK404, hC405, hP406⟩ := RdK.ix (q := (j : Int)) hrt sl23 (by omega) (by omega)
        obtain ⟨v407, rfl, hr408⟩ := hK404
        have hm409 := hr408.max
        refine AL.val rfl (.inl rfl) (hP406 rfl rfl) ?_
        refine AL.val rfl (.inl rfl) (HV.ld rfl va22 (cells_first (hC405.ext X394) rfl)) ?_
        have q4 := mapR_at hz403
        have q5 : z401.length = 2 := by rw [q4]; rfl
        have X410 := Ext.refl H393
        have y411 := hb396.lt
        have y412 := hbBj.lt
        have o413 := X394.bd
        have o414 := X395.bd
        have o415 := X410.bd
        have a416 := hoLj.ltb
        have ho417 := hoLj.okk (ok' := fun b => H204.bd ≤ b ∧ b < H393.bd) (fun b hb hlt => ⟨hb, hlt⟩)
        have a418 := hoUj.ltb
        refine AL.w rfl (.inl rfl) (WV.call fn85 rfl (l00Own_ok (hr408.ext X394) (by omega))) ?_
        rintro v419 H420 ⟨hx421, ho422⟩
        have q423 := Nat.le_trans q397 hx421.bd
        have q424 := Nat.le_trans q398 hx421.bd
        have X425 := Ext.trans X394 hx421
        have X426 := Ext.trans X395 hx421
        have X427 := Ext.trans X410 hx421
        have ho428 := ho417.ext hx421
        have ho429 := hoUj.ext hx421
        have hb430 := hb396.ext hx421
        have hb431 := hbBj.ext hx421
        refine AL.val rfl (.inl rfl) (HV.mv rfl) ?_
        have X433 := Ext.refl H420
        refine AL.w rfl (.inl rfl) (WV.apzK sl22 Try.underlying2 rfl rfl ho422 (by omega) (by omega)) ?_
        rintro v434 H435 ⟨hx436, ho437, hb438⟩
        have ho439 := ho437.narrow (ok' := fun b => H393.bd ≤ b) kI_flat (fun b q => (hb438 b q).elim (fun e => (ho422.blk b e).1) (fun e => Nat.le_trans X427.bd e))
        have q440 := Nat.le_trans q423 hx436.bd
        have q441 := Nat.le_trans q424 hx436.bd
        have X442 := Ext.thru X425 hx436 (fun b hb => Nat.le_trans o413 (ho422.blk b hb).1)
        have X443 := Ext.thru X426 hx436 (fun b hb => Nat.le_trans o414 (ho422.blk b hb).1)
        have X444 := Ext.thru X427 hx436 (fun b hb => Nat.le_trans o415 (ho422.blk b hb).1)
        have q446 := Nat.le_trans X433.bd hx436.bd
        have ho447 := ho428.but hx436 (fun b hb _ e => by have h1 : H204.bd ≤ b ∧ b < H393.bd := hb; have h2 : H393.bd ≤ b := (ho422.blk b e).1; omega) (fun b hb => (ho422.blk b hb).2.2)
        have ho448 := ho429.but hx436 (fun b hb _ e => by have h1 : (H4.bd ≤ b ∧ b ≠ b10) ∧ b < H1_.bd := hb; have h2 : H393.bd ≤ b := (ho422.blk b e).1; omega) (fun b hb => (ho422.blk b hb).2.2)
        have hb449 := hb430.but hx436 (fun e => by have q : H393.bd ≤ _ := (ho422.blk _ e).1; omega)
        have hb450 := hb431.but hx436 (fun e => by have q : H393.bd ≤ _ := (ho422.blk _ e).1; omega)
        refine AL.val rfl (.inl rfl) (HV.as rfl) ?_
        refine AL.nx ?_
        refine AW.draw' [0, 1, 3, 0, 0, 16, 48, 112, 240, 0, 1008, 2032, 4080, 8184, 16376, 32767, 65535, 131071, 262143] mixed (by rfl) ?_
        refine Dr.read 0 _ 95 _ rfl rfl rfl rfl rfl (RV.of (by intro _ _ h; cases h) (.inl rfl) (fun _ xd => HV.fa fl31_2 rfl)) ?_
        refine Dr.read 1 _ 96 _ rfl rfl rfl rfl rfl (RV.of (by intro _ _ h; cases h) (.inl rfl) (fun _ xd => HV.fa fl29_2 rfl)) ?_
        refine Dr.read 2 _ 97 _ rfl rfl rfl rfl rfl (RV.of (by intro _ _ h; cases h) (.inl rfl) (fun _ xd => HV.ld rfl va23 (rdc_ext xd (at_cell_add (j := 4) hb450 rfl)))) ?_
        refine Dr.read 3 _ 98 _ rfl rfl rfl rfl rfl (RV.of (by intro _ _ h; cases h) (.inl rfl) (fun _ xd => HV.mv rfl)) ?_
        refine Dr.read 4 _ 99 _ rfl rfl rfl rfl rfl (RV.of (by intro _ _ h; cases h) (.inl rfl) (fun _ xd => HV.mv rfl)) ?_
        refine Dr.read 5 _ 100 _ rfl rfl rfl rfl rfl (RV.of (by intro _ _ h; cases h) (.inl rfl) (fun _ xd => HV.nc rfl)) ?_
        refine Dr.read 6 _ 101 _ rfl rfl rfl rfl rfl (RV.of (by intro _ _ h; cases h) (.inl rfl) (fun _ xd => HV.fa fl31_2 rfl)) ?_
        refine Dr.read 7 _ 102 _ rfl rfl rfl rfl rfl (RV.of (by intro _ _ h; cases h) (.inl rfl) (fun _ xd => HV.fa fl29_2 rfl)) ?_
        refine Dr.read 8 _ 103 _ rfl rfl rfl rfl rfl (RV.of (by intro _ _ h; cases h) (.inl rfl) (fun _ xd => HV.ld rfl va23 (rdc_ext xd (cells_at ((Cells.part (i := 2) (vs := [.int .i64 p2, .int .i64 k2, v2]) hc2 rfl).ext X442) rfl)))) ?_
        refine Dr.read 9 _ 104 _ rfl rfl rfl rfl rfl (RV.of (by intro _ _ h; cases h) (.inl rfl) (fun _ xd => HV.mv rfl)) ?_
        obtain ⟨p451, z452, cs453, hz454, hK455, hC456, hP457⟩ := RdK.ix (q := (j : Int)) hr2 sl23 (by omega) (by omega)
        obtain ⟨v458, rfl, hr459⟩ := hK455
        have hm460 := hr459.max
        refine Dr.read 10 _ 105 _ rfl rfl rfl rfl rfl (RV.of (by intro _ _ h; cases h) (.inl rfl) (fun _ xd => hP457 rfl rfl)) ?_
        refine Dr.read 11 _ 106 _ rfl rfl rfl rfl rfl (RV.of (by intro _ _ h; cases h) (.inl rfl) (fun _ xd => HV.ld rfl va22 (rdc_ext xd (cells_first (hC456.ext X442) rfl)))) ?_
        have q1 := rect_at hG.r hz454
        have q2 := q1.1
        have q3 : l2.getD j [] = z452 := gd hz454 rfl
        have X464 := Ext.refl H435
        obtain ⟨v461, hr462, hP463⟩ := RdK.cutL (q := 1) hr459 sl22 (by decide) (by omega)
        refine Dr.read 12 _ 107 _ rfl rfl rfl rfl rfl (RV.of (by intro _ _ h; cases h) (.inl rfl) (fun _ xd => hP463 rfl rfl)) ?_
        refine Dr.eff 13 _ _ rfl (by intro d h; cases h; exact ⟨rfl, rfl⟩) rfl rfl rfl (EC.of (by intro _ _ h; cases h) (.inl rfl) (WV.apk sl22 rfl rfl ho439 (hr462.lo.ext X442) (by simp; omega) (by simp; omega) (fun b hb _ e => by have h1 : H393.bd ≤ b := (ho439.blk b e).1; have h2 : b < H.bd := hb; have h3 := o413; omega))) ?_ ?_
        · -- kept
          rintro v465 H466 ⟨hx467, ho468, hb469⟩
          have ho470 := ho468.narrow (ok' := fun b => H393.bd ≤ b) kI_flat (fun b q => (hb469 b q).elim (fun e => (ho439.blk b e).1) (fun e => Nat.le_trans X444.bd e))
          have q471 := Nat.le_trans q440 hx467.bd
          have q472 := Nat.le_trans q441 hx467.bd
          have q473 := Nat.le_trans q446 hx467.bd
          have X474 := Ext.thru X442 hx467 (fun b hb => Nat.le_trans o413 (ho439.blk b hb).1)
          have X475 := Ext.thru X443 hx467 (fun b hb => Nat.le_trans o414 (ho439.blk b hb).1)
          have X476 := Ext.thru X444 hx467 (fun b hb => Nat.le_trans o415 (ho439.blk b hb).1)
          have q478 := Nat.le_trans X464.bd hx467.bd
          have ho479 := ho447.but hx467 (fun b hb _ e => by have h1 : H204.bd ≤ b ∧ b < H393.bd := hb; have h2 : H393.bd ≤ b := (ho439.blk b e).1; omega) (fun b hb => (ho439.blk b hb).2.2)
          have ho480 := ho448.but hx467 (fun b hb _ e => by have h1 : (H4.bd ≤ b ∧ b ≠ b10) ∧ b < H1_.bd := hb; have h2 : H393.bd ≤ b := (ho439.blk b e).1; omega) (fun b hb => (ho439.blk b hb).2.2)
          have hb481 := hb449.but hx467 (fun e => by have q : H393.bd ≤ _ := (ho439.blk _ e).1; omega)
          have hb482 := hb450.but hx467 (fun e => by have q : H393.bd ≤ _ := (ho439.blk _ e).1; omega)
          refine .inr (.inr ?_)
          exact (kept_cons (.inl rfl) (kept_cons (.inl rfl) (kept_cons (.inl rfl) (kept_cons (.inl rfl) (kept_cons (.inl rfl) (kept_cons (.inl rfl) (kept_cons (.inl rfl) (kept_cons (.inl rfl) (kept_cons (.inl rfl) (kept_cons (.inl rfl) (kept_cons (.inr ⟨_, _, _, rfl, rfl, rfl, (RV.of (by intro _ _ h; cases h) (.inl rfl) (fun _ xd => HV.ld rfl va23 (rdc_ext xd (at_cell_add (j := 4) hb482 rfl))))⟩) (kept_cons (.inr ⟨_, _, _, rfl, rfl, rfl, (RV.of (by intro _ _ h; cases h) (.inl rfl) (fun _ xd => HV.fa fl29_2 rfl))⟩) (kept_cons (.inr ⟨_, _, _, rfl, rfl, rfl, (RV.of (by intro _ _ h; cases h) (.inl rfl) (fun _ xd => HV.fa fl31_2 rfl))⟩) kept_nil)))))))))))))
        rintro v465 H466 ⟨hx467, ho468, hb469⟩
        have ho470 := ho468.narrow (ok' := fun b => H393.bd ≤ b) kI_flat (fun b q => (hb469 b q).elim (fun e => (ho439.blk b e).1) (fun e => Nat.le_trans X444.bd e))
        have q483 := Nat.le_trans q440 hx467.bd
        have q484 := Nat.le_trans q441 hx467.bd
        have q485 := Nat.le_trans q446 hx467.bd
        have X486 := Ext.thru X442 hx467 (fun b hb => Nat.le_trans o413 (ho439.blk b hb).1)
        have X487 := Ext.thru X443 hx467 (fun b hb => Nat.le_trans o414 (ho439.blk b hb).1)
        have X488 := Ext.thru X444 hx467 (fun b hb => Nat.le_trans o415 (ho439.blk b hb).1)
        have q490 := Nat.le_trans X464.bd hx467.bd
        have ho491 := ho447.but hx467 (fun b hb _ e => by have h1 : H204.bd ≤ b ∧ b < H393.bd := hb; have h2 : H393.bd ≤ b := (ho439.blk b e).1; omega) (fun b hb => (ho439.blk b hb).2.2)
        have ho492 := ho448.but hx467 (fun b hb _ e => by have h1 : (H4.bd ≤ b ∧ b ≠ b10) ∧ b < H1_.bd := hb; have h2 : H393.bd ≤ b := (ho439.blk b e).1; omega) (fun b hb => (ho439.blk b hb).2.2)
        have hb493 := hb449.but hx467 (fun e => by have q : H393.bd ≤ _ := (ho439.blk _ e).1; omega)
        have hb494 := hb450.but hx467 (fun e => by have q : H393.bd ≤ _ := (ho439.blk _ e).1; omega)
        have X495 := Ext.refl H466
        have y496 := hb493.lt
        have y497 := hb494.lt
        have o498 := X486.bd
        have o499 := X487.bd
        have o500 := X488.bd
        have o501 := X495.bd
        have a502 := ho491.ltb
        have a503 := ho492.ltb
        have a504 := ho470.ltb
        have hc509 : v465.cells = #[v465] := by obtain ⟨A, c, e⟩ := ho470.isSl; rw [e]; rfl
        refine Dr.eff 14 _ _ rfl (by intro d h; cases h; exact ⟨rfl, rfl⟩) rfl rfl rfl (EC.of (by intro _ _ h; cases h) (.inl rfl) (WV.bsO (okx := fun b => H393.bd ≤ b) (K := (kO 2 kI)) (l := ([((z401 ++ (List.replicate (k - 1 : Int).toNat 0)) ++ (z452.drop (1 : Int).toNat))] : List (List Int))) (css := [[v465]]) sl23 rfl rfl (by simp [Instr.fill, hc509, kO, rng1]) rfl (segs_cons ⟨_, rfl, ho470⟩ segs_nil))) (fun v H' h => .inl (h.1)) ?_
        rintro v505 H506 ⟨hx507, ho508⟩
        have q511 := Nat.le_trans q483 hx507.bd
        have q512 := Nat.le_trans q484 hx507.bd
        have q513 := Nat.le_trans q485 hx507.bd
        have q514 := Nat.le_trans q490 hx507.bd
        have X515 := Ext.trans X486 hx507
        have X516 := Ext.trans X487 hx507
        have X517 := Ext.trans X488 hx507
        have X518 := Ext.trans X495 hx507
        have ho519 := ho491.ext hx507
        have ho520 := ho492.ext hx507
        have ho521 := ho470.ext hx507
        have hb522 := hb493.ext hx507
        have hb523 := hb494.ext hx507
        have ho510 := ho508.okk (ok' := fun b => H393.bd ≤ b) (fun b hb _ => hb.elim id (fun e => Nat.le_trans X488.bd e))
        have X525 := Ext.refl H506
        refine Dr.eff 15 _ _ rfl (by intro d h; cases h; exact ⟨rfl, rfl⟩) rfl rfl rfl (EC.of (by intro _ _ h; cases h) (.inl rfl) (WV.apD (ok := fun b => H204.bd ≤ b) (B := H393.bd) sl23 rfl rfl ho519 ho510.rd X517.bd (by first | (rw [mapR_len]; omega) | (rw [List.length_append, mapR_len, mapR_len]; omega)) (by first | (rw [mapR_len]; omega) | (rw [List.length_append, mapR_len, mapR_len]; omega)))) (fun v H' h => .inr (.inl rfl)) ?_
        rintro v526 H527 ⟨hx528, ho529, hb530⟩
        have ho531 := ho529.okk (ok' := fun b => H204.bd ≤ b) (fun b hb _ => hb.elim id (fun e => Nat.le_trans q397 e))
        have q532 := Nat.le_trans q511 hx528.bd
        have q533 := Nat.le_trans q512 hx528.bd
        have q534 := Nat.le_trans q513 hx528.bd
        have q535 := Nat.le_trans q514 hx528.bd
        have X536 := Ext.thru X515 hx528 (fun b hb => Nat.le_trans o217 (ho519.blk b hb).1.1)
        have X537 := Ext.thru X516 hx528 (fun b hb => Nat.le_trans o218 (ho519.blk b hb).1.1)
        have q539 := Nat.le_trans X517.bd hx528.bd
        have q541 := Nat.le_trans X518.bd hx528.bd
        have q543 := Nat.le_trans X525.bd hx528.bd
        have ho544 := ho520.but hx528 (fun b hb _ e => by have h1 : (H4.bd ≤ b ∧ b ≠ b10) ∧ b < H1_.bd := hb; have h2 : H204.bd ≤ b := (ho519.blk b e).1.1; omega) (fun b hb => (ho519.blk b hb).2.2)
        have hb545 := hb522.but hx528 (fun e => by have q : H204.bd ≤ _ := (ho519.blk _ e).1.1; omega)
        have hb546 := hb523.but hx528 (fun e => by have q : H204.bd ≤ _ := (ho519.blk _ e).1.1; omega)
        refine Dr.read 16 _ 111 _ rfl rfl rfl rfl rfl (RV.of (by intro _ _ h; cases h) (.inl rfl) (fun _ xd => HV.fa fl31_2 rfl)) ?_
        refine Dr.read 17 _ 112 _ rfl rfl rfl rfl rfl (RV.of (by intro _ _ h; cases h) (.inl rfl) (fun _ xd => HV.fa fl29_2 rfl)) ?_
        refine Dr.eff 18 _ _ rfl (by intro d h; cases h) rfl rfl rfl (EC.of (by intro _ _ h; cases h) (.inl rfl) (WV.st rfl rfl va23 (sl_size (rd_ofO ho531.rd).isSl) hb546 (Nat.le_of_ble_eq_true rfl) (sl_one (rd_ofO ho531.rd).isSl))) (fun v H' h => .inr (.inl rfl)) ?_
        rintro _ H547 ⟨hx548, hb549⟩
        rw [sl_cells (rd_ofO ho531.rd).isSl] at hb549
        have q550 := Nat.le_trans q532 hx548.bd
        have q551 := Nat.le_trans q533 hx548.bd
        have q552 := Nat.le_trans q534 hx548.bd
        have q553 := Nat.le_trans q535 hx548.bd
        have q554 := Nat.le_trans q539 hx548.bd
        have q555 := Nat.le_trans q541 hx548.bd
        have q556 := Nat.le_trans q543 hx548.bd
        have X557 := Ext.thru X536 hx548 (fun z_ hz_ => by rw [hz_]; exact (Nat.le_trans o196 hib10))
        have X558 := Ext.thru X537 hx548 (fun z_ hz_ => by rw [hz_]; exact (Nat.le_trans o197 hib10))
        have ho559 := ho531.but hx548 (fun b hb _ e => by have hb' : H204.bd ≤ b := hb; have e' : b = b10 := e; omega) (fun z_ hz_ => by rw [hz_]; exact hb546.w)
        have ho560 := ho544.but hx548 (fun b hb _ e => by have hb' : (H4.bd ≤ b ∧ b ≠ b10) ∧ b < H1_.bd := hb; have e' : b = b10 := e; omega) (fun z_ hz_ => by rw [hz_]; exact hb546.w)
        have hb561 := hb545.but hx548 ne203
        have hb562 : At W H547 b10 ⟨31, [.int .i64 n, u1, .int .i64 p, .int .i64 0, v526], 5⟩ := hb549
        refine Dr.fin rfl ?_
        refine nrm_blk (nrm_and ?_)
        refine AW.reg ?_
        refine AL.val rfl (.inl rfl) (HV.mv rfl) ?_
        refine AL.val rfl (.inl rfl) (HV.add rfl rfl (by omega)) ?_
        refine AL.val rfl (.inl rfl) (HV.as rfl) ?_
        refine AL.nil ?_
        refine nrm_and ?_
        exact ⟨(j + 1, v526), ⟨X557, X558, hb561, q550, q551, by omega, hb562, by rw [mapR_succ, ← List.append_assoc, show joB p k l2 j = (z401 ++ List.replicate (k - 1).toNat 0) ++ z452.drop 1 by unfold joB; rw [(gd hz454 rfl : l2.getD j [] = z452), ← mapR_at hz403]]; exact ho559, ho560, trivial⟩, by first | omega | (dsimp only; omega), ⟨rfl, rfl, rfl, rfl, rfl, rfl, rfl, rfl, trivial⟩⟩
      · -- else
        refine AW.exit ?_
        refine ex_and (ex_and (ex_blk ?_))
        refine nrm_and ?_
        refine AW.rs ?_
        refine AL.val rfl (.inl rfl) (HV.lda (cs := [.int .i64 n, u1, .int .i64 p, .int .i64 0, ww]) rfl va31 (at_cells hbBj rfl)) ?_
        refine AL.val rfl (.inl rfl) (HV.mv rfl) ?_
        refine AL.val rfl (.inl rfl) (HV.mv rfl) ?_
        refine AL.val rfl (.inl rfl) (HV.add rfl rfl (by omega)) ?_
        refine AL.w0 (.inl rfl) (WV.st rfl rfl va31 rfl hb396 (Nat.le_of_ble_eq_true rfl) (one_cons rfl (one_cons (sl_one1 hoUj.rd.isSl) (one_cons rfl (one_cons rfl (one_cons (sl_one1 (rd_ofO hoLj.rd).isSl) one_nil)))))) ?_
        rintro _ H563 ⟨hx564, hb565⟩
        have q566 := Nat.le_trans q397 hx564.bd
        have q567 := Nat.le_trans q398 hx564.bd
        have X568 := Ext.thru X394 hx564 (fun z_ hz_ => by rw [hz_]; exact o8)
        have q570 := Nat.le_trans X395.bd hx564.bd
        have ho571 := hoLj.but hx564 (fun b hb _ e => by have hb' : H204.bd ≤ b := hb; have e' : b = b3 := e; omega) (fun z_ hz_ => by rw [hz_]; exact hb396.w)
        have ho572 := hoUj.but hx564 (fun b hb _ e => by have hb' : (H4.bd ≤ b ∧ b ≠ b10) ∧ b < H1_.bd := hb; have e' : b = b3 := e; omega) (fun z_ hz_ => by rw [hz_]; exact hb396.w)
        have hb573 := hbBj.but hx564 (fun e => ne203 e.symm)
        have hb574 : At W H563 b3 ⟨31, [.int .i64 n, u1, .int .i64 p, .int .i64 0, ww], 5⟩ := hb565
        refine AL.val rfl (.inl rfl) (HV.as rfl) ?_
        refine AL.nx ?_
        refine AW.ret ?_
        refine post_ct rfl rfl rfl va31 hb574 ?_ (.inr rfl)
        exact ⟨⟨_, _, H1_.bd, rfl, ho572.okk (fun b hb _ => ⟨Nat.le_trans o196 hb.1.1, hb.2⟩), by unfold joL; rw [show l2.length = j by omega]; exact ho571.okk (fun b hb _ => by have h1 : H204.bd ≤ b := hb; have h2 := o217; exact ⟨by omega, by omega⟩)⟩, X568⟩
end Go.Proofs.Yticobjbjejpomaa.VC
