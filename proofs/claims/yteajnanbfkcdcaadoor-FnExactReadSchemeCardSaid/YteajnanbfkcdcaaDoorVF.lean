/- Walks. -/
import Derived.Test.YteajnanbfkcdcaaDoorVFP
set_option linter.unusedVariables false
set_option linter.unusedSimpArgs false
namespace Go.Proofs.YteajnanbfkcdcaaDoor.VC
open Go Go.RowKit
variable {W : World} {H : Hp}

set_option maxRecDepth 100000 in
theorem within_ok (a b c : Int) : ACalls Tryd.prog W 43 #[.int .i64 a, .int .i64 b, .int .i64 c] H (fun r H' => r = .bool (decide (b ≤ a ∧ a ≤ c)) ∧ Ext H H') := by
  refine ACalls.of (args := [.int .i64 a, .int .i64 b, .int .i64 c]) Tryd.func43 rfl rfl ?_
  have X0 := Ext.refl H
  refine AW.rs ?_
  refine AL.val rfl (.inl rfl) (HV.as rfl) ?_
  refine AL.nx ?_
  refine AW.rs ?_
  refine AL.val rfl (.inl rfl) (HV.mv rfl) ?_
  refine AL.val rfl (.inl rfl) (HV.mv rfl) ?_
  refine AL.val rfl (.inl rfl) (HV.gei rfl rfl) ?_
  refine AL.val rfl (.inl rfl) (HV.mv rfl) ?_
  by_cases c1 : a ≥ b
  · -- true
    have c1_ : decide (a ≥ b) = true := decide_eq_true c1
    rw [c1_]
    refine AL.val rfl (.inr ⟨_, _, _, rfl, rfl, rfl⟩) (HV.mv rfl) ?_
    refine AL.val rfl (.inr ⟨_, _, _, rfl, rfl, rfl⟩) (HV.mv rfl) ?_
    refine AL.val rfl (.inr ⟨_, _, _, rfl, rfl, rfl⟩) (HV.lei rfl rfl) ?_
    refine AL.val rfl (.inl rfl) (HV.pickT rfl rfl) ?_
    refine AL.val rfl (.inl rfl) (HV.as rfl) ?_
    refine AL.nx ?_
    refine AW.ret ?_
    refine post_one rfl rfl ?_ (.inr rfl)
    exact ⟨congrArg Value.bool (by rw [Bool.eq_iff_iff]; simp; omega), X0⟩
  · -- false
    have c1_ : decide (a ≥ b) = false := decide_eq_false c1
    rw [c1_]
    refine AL.off rfl rfl (by decide) rfl ?_
    refine AL.off rfl rfl (by decide) rfl ?_
    refine AL.off rfl rfl (by decide) rfl ?_
    refine AL.val rfl (.inl rfl) (HV.pickF rfl rfl) ?_
    refine AL.val rfl (.inl rfl) (HV.as rfl) ?_
    refine AL.nx ?_
    refine AW.ret ?_
    refine post_one rfl rfl ?_ (.inr rfl)
    exact ⟨congrArg Value.bool (by rw [Bool.eq_iff_iff]; simp; omega), X0⟩

set_option maxRecDepth 100000 in
theorem l00In_ok (a b c : Int) : ACalls Tryd.prog W 24 #[.int .i64 a, .int .i64 b, .int .i64 c] H (fun r H' => r = .bool (decide (b ≤ a ∧ a ≤ c)) ∧ Ext H H') := by
  refine ACalls.of (args := [.int .i64 a, .int .i64 b, .int .i64 c]) Tryd.func24 rfl rfl ?_
  have X0 := Ext.refl H
  refine AW.rs ?_
  refine AL.val rfl (.inl rfl) (HV.as rfl) ?_
  refine AL.nx ?_
  refine AW.rs ?_
  refine AL.val rfl (.inl rfl) (HV.mv rfl) ?_
  refine AL.val rfl (.inl rfl) (HV.mv rfl) ?_
  refine AL.val rfl (.inl rfl) (HV.gei rfl rfl) ?_
  refine AL.val rfl (.inl rfl) (HV.mv rfl) ?_
  by_cases c1 : a ≥ b
  · -- true
    have c1_ : decide (a ≥ b) = true := decide_eq_true c1
    rw [c1_]
    refine AL.val rfl (.inr ⟨_, _, _, rfl, rfl, rfl⟩) (HV.mv rfl) ?_
    refine AL.val rfl (.inr ⟨_, _, _, rfl, rfl, rfl⟩) (HV.mv rfl) ?_
    refine AL.val rfl (.inr ⟨_, _, _, rfl, rfl, rfl⟩) (HV.lei rfl rfl) ?_
    refine AL.val rfl (.inl rfl) (HV.pickT rfl rfl) ?_
    refine AL.val rfl (.inl rfl) (HV.as rfl) ?_
    refine AL.nx ?_
    refine AW.ret ?_
    refine post_one rfl rfl ?_ (.inr rfl)
    exact ⟨congrArg Value.bool (by rw [Bool.eq_iff_iff]; simp; omega), X0⟩
  · -- false
    have c1_ : decide (a ≥ b) = false := decide_eq_false c1
    rw [c1_]
    refine AL.off rfl rfl (by decide) rfl ?_
    refine AL.off rfl rfl (by decide) rfl ?_
    refine AL.off rfl rfl (by decide) rfl ?_
    refine AL.val rfl (.inl rfl) (HV.pickF rfl rfl) ?_
    refine AL.val rfl (.inl rfl) (HV.as rfl) ?_
    refine AL.nx ?_
    refine AW.ret ?_
    refine post_one rfl rfl ?_ (.inr rfl)
    exact ⟨congrArg Value.bool (by rw [Bool.eq_iff_iff]; simp; omega), X0⟩

set_option maxRecDepth 100000 in
theorem l00Rises_ok {v : Value} {l : List Int} {ok : Nat → Prop} (a b : Int) (hr : RdK kI W H ok v l) : ACalls Tryd.prog W 34 #[v, .int .i64 a, .int .i64 b] H (fun r H' => r = .bool (decide (Ris a b l)) ∧ Ext H H') := by
  refine ACalls.of (args := [v, .int .i64 a, .int .i64 b]) Tryd.func34 rfl rfl ?_
  have X0 := Ext.refl H
  have hm1 := hr.max
  refine AW.rs ?_
  refine AL.val rfl (.inl rfl) (HV.as rfl) ?_
  refine AL.nx ?_
  refine AW.seq ?_
  refine AW.rs ?_
  refine AL.val rfl (.inl rfl) (HV.as rfl) ?_
  refine AL.nx ?_
  refine AW.block ?_
  refine AW.loop (σ := Nat) (fun i => [(0, v), (1, .int .i64 a), (2, .int .i64 b), (7, .int .i64 (i : Int))]) (fun i H' => Ext H H' ∧ i ≤ l.length ∧ (∀ j, j < i → RisAt a b l j) ∧ True) (fun i => l.length - i) 0 ⟨X0, Nat.zero_le _, fun j hj => absurd hj (Nat.not_lt_zero _), trivial⟩ ⟨rfl, rfl, rfl, rfl, trivial⟩ ?_
  rintro i H2 ⟨X3, hi, hi2, _⟩
  refine AW.seq ?_
  refine AW.rs ?_
  refine AL.val rfl (.inl rfl) (HV.mv rfl) ?_
  refine AL.val rfl (.inl rfl) (HV.mv rfl) ?_
  refine AL.val rfl (.inl rfl) (HV.len Tryd.underlying22 rfl hr.isSl) ?_
  refine AL.val rfl (.inl rfl) (HV.lti rfl rfl) ?_
  refine AL.nx ?_
  refine AW.ifd rfl (fun c4 => ?_) (fun c4 => ?_)
  · -- then
    refine AW.skip ?_
    refine nrm_and ?_
    refine AW.seq ?_
    refine AW.block ?_
    refine AW.seq ?_
    refine AW.draw' [0, 0, 3, 7, 0, 0, 63, 127, 255, 511, 1023, 2047, 4095, 4095, 12287, 32767, 65535, 4095, 4095, 397311, 921599, 2097151, 4194303, 8388607] mixed (by rfl) ?_
    refine Dr.read 0 _ 14 _ rfl rfl rfl rfl rfl (RV.of (by intro _ _ h; cases h) (.inl rfl) (fun _ xd => HV.mv rfl)) ?_
    refine Dr.read 1 _ 15 _ rfl rfl rfl rfl rfl (RV.of (by intro _ _ h; cases h) (.inl rfl) (fun _ xd => HV.mv rfl)) ?_
    obtain ⟨p5, z6, cs7, hz8, hK9, hC10, hP11⟩ := RdK.ix (q := (i : Int)) hr sl22 (by omega) (by omega)
    obtain rfl : cs7 = [.int .i64 z6] := hK9
    refine Dr.read 2 _ 16 _ rfl rfl rfl rfl rfl (RV.of (by intro _ _ h; cases h) (.inl rfl) (fun _ xd => hP11 rfl rfl)) ?_
    refine Dr.read 3 _ 17 _ rfl rfl rfl rfl rfl (RV.of (by intro _ _ h; cases h) (.inl rfl) (fun _ xd => HV.ld rfl va2 (rdc_ext xd (cells_first (hC10.ext X3) rfl)))) ?_
    refine Dr.read 4 _ 18 _ rfl rfl rfl rfl rfl (RV.of (by intro _ _ h; cases h) (.inl rfl) (fun _ xd => HV.mv rfl)) ?_
    refine Dr.read 5 _ 19 _ rfl rfl rfl rfl rfl (RV.of (by intro _ _ h; cases h) (.inl rfl) (fun _ xd => HV.mv rfl)) ?_
    refine Dr.eff 6 _ _ rfl (by intro d h; cases h; exact ⟨rfl, rfl⟩) rfl rfl rfl (EC.of (by intro _ _ h; cases h) (.inl rfl) (WV.call fn24 rfl (l00In_ok (W := W) z6 a b))) (fun v H' h => .inl (h.2)) ?_
    rintro _ H12 ⟨rfl, hx13⟩
    have X14 := Ext.trans X3 hx13
    refine Dr.read 7 _ 21 _ rfl rfl rfl rfl rfl (RV.of (by intro _ _ h; cases h) (.inl rfl) (fun _ xd => HV.not rfl)) ?_
    refine Dr.read 8 _ 22 _ rfl rfl rfl rfl rfl (RV.of (by intro _ _ h; cases h) (.inl rfl) (fun _ xd => HV.mv rfl)) ?_
    by_cases c15 : a ≤ z6 ∧ z6 ≤ b
    · -- false
      have c15_ : (!decide (a ≤ z6 ∧ z6 ≤ b)) = false := by rw [decide_eq_true c15]; rfl
      rw [c15_]
      refine Dr.read 9 _ 23 _ rfl rfl rfl rfl rfl (RV.of (by intro _ _ h; cases h) (.inr ⟨_, _, _, rfl, rfl, rfl⟩) (fun _ xd => HV.mv rfl)) ?_
      refine Dr.read 10 _ 24 _ rfl rfl rfl rfl rfl (RV.of (by intro _ _ h; cases h) (.inr ⟨_, _, _, rfl, rfl, rfl⟩) (fun _ xd => HV.gti rfl rfl)) ?_
      refine Dr.read 11 _ 25 _ rfl rfl rfl rfl rfl (RV.of (by intro _ _ h; cases h) (.inr ⟨_, _, _, rfl, rfl, rfl⟩) (fun _ xd => HV.mv rfl)) ?_
      by_cases c16 : (i : Int) > 0
      · -- true
        have c16_ : decide ((i : Int) > 0) = true := decide_eq_true c16
        rw [c16_]
        refine Dr.read 12 _ 26 _ rfl rfl rfl rfl rfl (RV.of (by intro _ _ h; cases h) (.inr ⟨_, _, _, rfl, rfl, rfl⟩) (fun _ xd => HV.mv rfl)) ?_
        refine Dr.read 13 _ 27 _ rfl rfl rfl rfl rfl (RV.of (by intro _ _ h; cases h) (.inr ⟨_, _, _, rfl, rfl, rfl⟩) (fun _ xd => HV.mv rfl)) ?_
        refine Dr.read 14 _ 28 _ rfl rfl rfl rfl rfl (RV.of (by intro _ _ h; cases h) (.inr ⟨_, _, _, rfl, rfl, rfl⟩) (fun _ xd => HV.sub rfl rfl (by omega))) ?_
        obtain ⟨p17, z18, cs19, hz20, hK21, hC22, hP23⟩ := RdK.ix (q := (i : Int) - 1) hr sl22 (by omega) (by omega)
        obtain rfl : cs19 = [.int .i64 z18] := hK21
        refine Dr.read 15 _ 29 _ rfl rfl rfl rfl rfl (RV.of (by intro _ _ h; cases h) (.inr ⟨_, _, _, rfl, rfl, rfl⟩) (fun _ xd => hP23 rfl rfl)) ?_
        refine Dr.read 16 _ 30 _ rfl rfl rfl rfl rfl (RV.of (by intro _ _ h; cases h) (.inr ⟨_, _, _, rfl, rfl, rfl⟩) (fun _ xd => HV.ld rfl va2 (rdc_ext xd (cells_first (hC22.ext X14) rfl)))) ?_
        refine Dr.read 17 _ 31 _ rfl rfl rfl rfl rfl (RV.of (by intro _ _ h; cases h) (.inr ⟨_, _, _, rfl, rfl, rfl⟩) (fun _ xd => HV.mv rfl)) ?_
        refine Dr.read 18 _ 32 _ rfl rfl rfl rfl rfl (RV.of (by intro _ _ h; cases h) (.inr ⟨_, _, _, rfl, rfl, rfl⟩) (fun _ xd => HV.mv rfl)) ?_
        obtain ⟨p24, z25, cs26, hz27, hK28, hC29, hP30⟩ := RdK.ix (q := (i : Int)) hr sl22 (by omega) (by omega)
        obtain rfl : cs26 = [.int .i64 z25] := hK28
        refine Dr.read 19 _ 33 _ rfl rfl rfl rfl rfl (RV.of (by intro _ _ h; cases h) (.inr ⟨_, _, _, rfl, rfl, rfl⟩) (fun _ xd => hP30 rfl rfl)) ?_
        refine Dr.read 20 _ 34 _ rfl rfl rfl rfl rfl (RV.of (by intro _ _ h; cases h) (.inr ⟨_, _, _, rfl, rfl, rfl⟩) (fun _ xd => HV.ld rfl va2 (rdc_ext xd (cells_first (hC29.ext X14) rfl)))) ?_
        refine Dr.read 21 _ 35 _ rfl rfl rfl rfl rfl (RV.of (by intro _ _ h; cases h) (.inr ⟨_, _, _, rfl, rfl, rfl⟩) (fun _ xd => HV.gei rfl rfl)) ?_
        refine Dr.read 22 _ 36 _ rfl rfl rfl rfl rfl (RV.of (by intro _ _ h; cases h) (.inr ⟨_, _, _, rfl, rfl, rfl⟩) (fun _ xd => HV.pickT rfl rfl)) ?_
        refine Dr.read 23 _ 37 _ rfl rfl rfl rfl rfl (RV.of (by intro _ _ h; cases h) (.inl rfl) (fun _ xd => HV.pickF rfl rfl)) ?_
        refine Dr.fin rfl ?_
        refine nrm_and ?_
        refine AW.ifd rfl (fun c31 => ?_) (fun c31 => ?_)
        · -- then
          refine AW.rs ?_
          refine AL.val rfl (.inl rfl) (HV.as rfl) ?_
          refine AL.nx ?_
          refine AW.ret ?_
          refine ret_blk (ret_and (ret_and (ret_blk (ret_and ?_))))
          refine post_one rfl rfl ?_ (.inr rfl)
          exact ⟨dec_f fun hR => by have q := hR i (by omega); unfold RisAt at q; have g17 : l.getD i 0 = z6 := gd hz8 (by omega); have g30 : l.getD (i - 1) 0 = z18 := gd hz20 (by omega); have g34 : l.getD i 0 = z25 := gd hz27 (by omega); omega, X14⟩
        · -- else
          refine AW.skip ?_
          refine nrm_blk (nrm_and ?_)
          refine AW.reg ?_
          refine AL.val rfl (.inl rfl) (HV.mv rfl) ?_
          refine AL.val rfl (.inl rfl) (HV.add rfl rfl (by omega)) ?_
          refine AL.val rfl (.inl rfl) (HV.as rfl) ?_
          refine AL.nil ?_
          refine nrm_and ?_
          exact ⟨i + 1, ⟨X14, by omega, fun j hj => by
      rcases Nat.lt_or_ge j i with h1 | h1
      · exact hi2 j h1
      · obtain rfl : j = i := by omega
        unfold RisAt; have g17 : l.getD j 0 = z6 := gd hz8 (by omega); have g30 : l.getD (j - 1) 0 = z18 := gd hz20 (by omega); have g34 : l.getD j 0 = z25 := gd hz27 (by omega); exact ⟨by omega, by omega, fun h0 => by omega⟩, trivial⟩, by first | omega | (dsimp only; omega), ⟨rfl, rfl, rfl, rfl, trivial⟩⟩
      · -- false
        have c16_ : decide ((i : Int) > 0) = false := decide_eq_false c16
        rw [c16_]
        refine Dr.read 12 _ 26 _ rfl rfl rfl rfl rfl (RV.off (by intro _ _ h; cases h) rfl rfl (by decide)) ?_
        refine Dr.read 13 _ 27 _ rfl rfl rfl rfl rfl (RV.off (by intro _ _ h; cases h) rfl rfl (by decide)) ?_
        refine Dr.read 14 _ 28 _ rfl rfl rfl rfl rfl (RV.off (by intro _ _ h; cases h) rfl rfl (by decide)) ?_
        refine Dr.read 15 _ 29 _ rfl rfl rfl rfl rfl (RV.off (by intro _ _ h; cases h) rfl rfl (by decide)) ?_
        refine Dr.read 16 _ 30 _ rfl rfl rfl rfl rfl (RV.off (by intro _ _ h; cases h) rfl rfl (by decide)) ?_
        refine Dr.read 17 _ 31 _ rfl rfl rfl rfl rfl (RV.off (by intro _ _ h; cases h) rfl rfl (by decide)) ?_
        refine Dr.read 18 _ 32 _ rfl rfl rfl rfl rfl (RV.off (by intro _ _ h; cases h) rfl rfl (by decide)) ?_
        refine Dr.read 19 _ 33 _ rfl rfl rfl rfl rfl (RV.off (by intro _ _ h; cases h) rfl rfl (by decide)) ?_
        refine Dr.read 20 _ 34 _ rfl rfl rfl rfl rfl (RV.off (by intro _ _ h; cases h) rfl rfl (by decide)) ?_
        refine Dr.read 21 _ 35 _ rfl rfl rfl rfl rfl (RV.off (by intro _ _ h; cases h) rfl rfl (by decide)) ?_
        refine Dr.read 22 _ 36 _ rfl rfl rfl rfl rfl (RV.of (by intro _ _ h; cases h) (.inr ⟨_, _, _, rfl, rfl, rfl⟩) (fun _ xd => HV.pickF rfl rfl)) ?_
        refine Dr.read 23 _ 37 _ rfl rfl rfl rfl rfl (RV.of (by intro _ _ h; cases h) (.inl rfl) (fun _ xd => HV.pickF rfl rfl)) ?_
        refine Dr.fin rfl ?_
        refine nrm_and ?_
        refine AW.cond rfl (fun h => by cases h) (fun _ => ?_)
        refine AW.skip ?_
        refine nrm_blk (nrm_and ?_)
        refine AW.reg ?_
        refine AL.val rfl (.inl rfl) (HV.mv rfl) ?_
        refine AL.val rfl (.inl rfl) (HV.add rfl rfl (by omega)) ?_
        refine AL.val rfl (.inl rfl) (HV.as rfl) ?_
        refine AL.nil ?_
        refine nrm_and ?_
        exact ⟨i + 1, ⟨X14, by omega, fun j hj => by
      rcases Nat.lt_or_ge j i with h1 | h1
      · exact hi2 j h1
      · obtain rfl : j = i := by omega
        unfold RisAt; have g17 : l.getD j 0 = z6 := gd hz8 (by omega); exact ⟨by omega, by omega, fun h0 => by omega⟩, trivial⟩, by first | omega | (dsimp only; omega), ⟨rfl, rfl, rfl, rfl, trivial⟩⟩
    · -- true
      have c15_ : (!decide (a ≤ z6 ∧ z6 ≤ b)) = true := by rw [decide_eq_false c15]; rfl
      rw [c15_]
      refine Dr.read 9 _ 23 _ rfl rfl rfl rfl rfl (RV.off (by intro _ _ h; cases h) rfl rfl (by decide)) ?_
      refine Dr.read 10 _ 24 _ rfl rfl rfl rfl rfl (RV.off (by intro _ _ h; cases h) rfl rfl (by decide)) ?_
      refine Dr.read 11 _ 25 _ rfl rfl rfl rfl rfl (RV.off (by intro _ _ h; cases h) rfl rfl (by decide)) ?_
      refine Dr.read 12 _ 26 _ rfl rfl rfl rfl rfl (RV.offu (by intro _ _ h; cases h) rfl rfl) ?_
      refine Dr.read 13 _ 27 _ rfl rfl rfl rfl rfl (RV.offu (by intro _ _ h; cases h) rfl rfl) ?_
      refine Dr.read 14 _ 28 _ rfl rfl rfl rfl rfl (RV.offu (by intro _ _ h; cases h) rfl rfl) ?_
      refine Dr.read 15 _ 29 _ rfl rfl rfl rfl rfl (RV.offu (by intro _ _ h; cases h) rfl rfl) ?_
      refine Dr.read 16 _ 30 _ rfl rfl rfl rfl rfl (RV.offu (by intro _ _ h; cases h) rfl rfl) ?_
      refine Dr.read 17 _ 31 _ rfl rfl rfl rfl rfl (RV.offu (by intro _ _ h; cases h) rfl rfl) ?_
      refine Dr.read 18 _ 32 _ rfl rfl rfl rfl rfl (RV.offu (by intro _ _ h; cases h) rfl rfl) ?_
      refine Dr.read 19 _ 33 _ rfl rfl rfl rfl rfl (RV.offu (by intro _ _ h; cases h) rfl rfl) ?_
      refine Dr.read 20 _ 34 _ rfl rfl rfl rfl rfl (RV.offu (by intro _ _ h; cases h) rfl rfl) ?_
      refine Dr.read 21 _ 35 _ rfl rfl rfl rfl rfl (RV.offu (by intro _ _ h; cases h) rfl rfl) ?_
      refine Dr.read 22 _ 36 _ rfl rfl rfl rfl rfl (RV.off (by intro _ _ h; cases h) rfl rfl (by decide)) ?_
      refine Dr.read 23 _ 37 _ rfl rfl rfl rfl rfl (RV.of (by intro _ _ h; cases h) (.inl rfl) (fun _ xd => HV.pickT rfl rfl)) ?_
      refine Dr.fin rfl ?_
      refine nrm_and ?_
      refine AW.cond rfl (fun _ => ?_) (fun h => by cases h)
      refine AW.rs ?_
      refine AL.val rfl (.inl rfl) (HV.as rfl) ?_
      refine AL.nx ?_
      refine AW.ret ?_
      refine ret_blk (ret_and (ret_and (ret_blk (ret_and ?_))))
      refine post_one rfl rfl ?_ (.inr rfl)
      exact ⟨dec_f fun hR => by have q := hR i (by omega); unfold RisAt at q; have g17 : l.getD i 0 = z6 := gd hz8 (by omega); omega, X14⟩
  · -- else
    refine AW.exit ?_
    refine ex_and (ex_and (ex_blk ?_))
    refine nrm_and ?_
    refine AW.rs ?_
    refine AL.val rfl (.inl rfl) (HV.as rfl) ?_
    refine AL.nx ?_
    refine AW.ret ?_
    refine post_one rfl rfl ?_ (.inr rfl)
    exact ⟨dec_t fun j hj => hi2 j (by omega), X3⟩

set_option maxRecDepth 100000 in
theorem l01Group_ok {v : Value} {l : List Int} {ok : Nat → Prop} (h : Int) (hr : RdK kI W H ok v l) (hh : -1000000000 ≤ h ∧ h ≤ 1000000000) : ACalls Tryd.prog W 23 #[.int .i64 h, v] H (fun r H' => r = .bool (decide (Ris 0 (h - 1) l)) ∧ Ext H H') := by
  refine ACalls.of (args := [.int .i64 h, v]) Tryd.func23 rfl rfl ?_
  have X0 := Ext.refl H
  have hm1 := hr.max
  refine AW.rs ?_
  refine AL.val rfl (.inl rfl) (HV.as rfl) ?_
  refine AL.nx ?_
  refine AW.rs ?_
  refine AL.val rfl (.inl rfl) (HV.mv rfl) ?_
  refine AL.val rfl (.inl rfl) (HV.mv rfl) ?_
  refine AL.val rfl (.inl rfl) (HV.sub rfl rfl (by omega)) ?_
  refine AL.w rfl (.inl rfl) (WV.call fn34 rfl (l00Rises_ok 0 (h - 1) hr)) ?_
  rintro _ H2 ⟨rfl, hx3⟩
  have X4 := Ext.trans X0 hx3
  refine AL.val rfl (.inl rfl) (HV.as rfl) ?_
  refine AL.nx ?_
  refine AW.ret ?_
  refine post_one rfl rfl ?_ (.inr rfl)
  exact ⟨rfl, X4⟩

set_option maxRecDepth 100000 in
theorem eqS_ok {v v2 : Value} {l m : List Int} {ok ok2 : Nat → Prop} (hr : RdK kI W H ok v l) (hr2 : RdK kI W H ok2 v2 m) : ACalls Tryd.prog W 16 #[v, v2] H (fun r H' => r = .bool (decide (l = m)) ∧ Ext H H') := by
  refine ACalls.of (args := [v, v2]) Tryd.func16 rfl rfl ?_
  have X0 := Ext.refl H
  have hm1 := hr.max
  have hm2 := hr2.max
  refine AW.rs ?_
  refine AL.val rfl (.inl rfl) (HV.as rfl) ?_
  refine AL.nx ?_
  refine AW.seq ?_
  refine AW.rs ?_
  refine AL.val rfl (.inl rfl) (HV.mv rfl) ?_
  refine AL.val rfl (.inl rfl) (HV.len Tryd.underlying22 rfl hr.isSl) ?_
  refine AL.val rfl (.inl rfl) (HV.mv rfl) ?_
  refine AL.val rfl (.inl rfl) (HV.len Tryd.underlying22 rfl hr2.isSl) ?_
  refine AL.val rfl (.inl rfl) (HV.nei rfl rfl) ?_
  refine AL.nx ?_
  refine AW.ifd rfl (fun c3 => ?_) (fun c3 => ?_)
  · -- then
    refine AW.rs ?_
    refine AL.val rfl (.inl rfl) (HV.as rfl) ?_
    refine AL.nx ?_
    refine AW.ret ?_
    refine ret_and ?_
    refine post_one rfl rfl ?_ (.inr rfl)
    exact ⟨dec_f (fun e => by subst e; omega), X0⟩
  · -- else
    refine AW.skip ?_
    refine nrm_and ?_
    refine AW.seq ?_
    refine AW.rs ?_
    refine AL.val rfl (.inl rfl) (HV.as rfl) ?_
    refine AL.nx ?_
    refine AW.block ?_
    refine AW.loop (σ := Nat) (fun i => [(0, v), (1, v2), (5, .int .i64 (i : Int))]) (fun i H' => Ext H H' ∧ i ≤ l.length ∧ (∀ j, j < i → l.getD j 0 = m.getD j 0) ∧ True) (fun i => l.length - i) 0 ⟨X0, Nat.zero_le _, fun j hj => absurd hj (Nat.not_lt_zero _), trivial⟩ ⟨rfl, rfl, rfl, trivial⟩ ?_
    rintro i H4 ⟨X5, hi, he, _⟩
    refine AW.seq ?_
    refine AW.rs ?_
    refine AL.val rfl (.inl rfl) (HV.mv rfl) ?_
    refine AL.val rfl (.inl rfl) (HV.mv rfl) ?_
    refine AL.val rfl (.inl rfl) (HV.len Tryd.underlying22 rfl hr.isSl) ?_
    refine AL.val rfl (.inl rfl) (HV.lti rfl rfl) ?_
    refine AL.nx ?_
    refine AW.ifd rfl (fun c6 => ?_) (fun c6 => ?_)
    · -- then
      refine AW.skip ?_
      refine nrm_and ?_
      refine AW.seq ?_
      refine AW.block ?_
      refine AW.seq ?_
      refine AW.draw' [0, 0, 3, 7, 0, 0, 48, 112, 255] mixed (by rfl) ?_
      refine Dr.read 0 _ 17 _ rfl rfl rfl rfl rfl (RV.of (by intro _ _ h; cases h) (.inl rfl) (fun _ xd => HV.mv rfl)) ?_
      refine Dr.read 1 _ 18 _ rfl rfl rfl rfl rfl (RV.of (by intro _ _ h; cases h) (.inl rfl) (fun _ xd => HV.mv rfl)) ?_
      obtain ⟨p7, z8, cs9, hz10, hK11, hC12, hP13⟩ := RdK.ix (q := (i : Int)) hr sl22 (by omega) (by omega)
      obtain rfl : cs9 = [.int .i64 z8] := hK11
      refine Dr.read 2 _ 19 _ rfl rfl rfl rfl rfl (RV.of (by intro _ _ h; cases h) (.inl rfl) (fun _ xd => hP13 rfl rfl)) ?_
      refine Dr.read 3 _ 20 _ rfl rfl rfl rfl rfl (RV.of (by intro _ _ h; cases h) (.inl rfl) (fun _ xd => HV.ld rfl va2 (rdc_ext xd (cells_first (hC12.ext X5) rfl)))) ?_
      refine Dr.read 4 _ 21 _ rfl rfl rfl rfl rfl (RV.of (by intro _ _ h; cases h) (.inl rfl) (fun _ xd => HV.mv rfl)) ?_
      refine Dr.read 5 _ 22 _ rfl rfl rfl rfl rfl (RV.of (by intro _ _ h; cases h) (.inl rfl) (fun _ xd => HV.mv rfl)) ?_
      obtain ⟨p14, z15, cs16, hz17, hK18, hC19, hP20⟩ := RdK.ix (q := (i : Int)) hr2 sl22 (by omega) (by omega)
      obtain rfl : cs16 = [.int .i64 z15] := hK18
      refine Dr.read 6 _ 23 _ rfl rfl rfl rfl rfl (RV.of (by intro _ _ h; cases h) (.inl rfl) (fun _ xd => hP20 rfl rfl)) ?_
      refine Dr.read 7 _ 24 _ rfl rfl rfl rfl rfl (RV.of (by intro _ _ h; cases h) (.inl rfl) (fun _ xd => HV.ld rfl va2 (rdc_ext xd (cells_first (hC19.ext X5) rfl)))) ?_
      refine Dr.read 8 _ 25 _ rfl rfl rfl rfl rfl (RV.of (by intro _ _ h; cases h) (.inl rfl) (fun _ xd => HV.nei rfl rfl)) ?_
      refine Dr.fin rfl ?_
      refine nrm_and ?_
      refine AW.ifd rfl (fun c21 => ?_) (fun c21 => ?_)
      · -- then
        refine AW.rs ?_
        refine AL.val rfl (.inl rfl) (HV.as rfl) ?_
        refine AL.nx ?_
        refine AW.ret ?_
        refine ret_blk (ret_and (ret_and (ret_blk (ret_and ?_))))
        refine post_one rfl rfl ?_ (.inr rfl)
        exact ⟨dec_f (fun e => by subst e; have g20 : l.getD i 0 = z8 := gd hz10 (by omega); have g24 : l.getD i 0 = z15 := gd hz17 (by omega); omega), X5⟩
      · -- else
        refine AW.skip ?_
        refine nrm_blk (nrm_and ?_)
        refine AW.reg ?_
        refine AL.val rfl (.inl rfl) (HV.mv rfl) ?_
        refine AL.val rfl (.inl rfl) (HV.add rfl rfl (by omega)) ?_
        refine AL.val rfl (.inl rfl) (HV.as rfl) ?_
        refine AL.nil ?_
        refine nrm_and ?_
        exact ⟨i + 1, ⟨X5, by omega, fun j hj => by
      rcases Nat.lt_or_ge j i with h1 | h1
      · exact he j h1
      · obtain rfl : j = i := by omega
        have g20 : l.getD j 0 = z8 := gd hz10 (by omega); have g24 : m.getD j 0 = z15 := gd hz17 (by omega); omega, trivial⟩, by first | omega | (dsimp only; omega), ⟨rfl, rfl, rfl, trivial⟩⟩
    · -- else
      refine AW.exit ?_
      refine ex_and (ex_and (ex_blk ?_))
      refine nrm_and ?_
      refine AW.rs ?_
      refine AL.val rfl (.inl rfl) (HV.as rfl) ?_
      refine AL.nx ?_
      refine AW.ret ?_
      refine post_one rfl rfl ?_ (.inr rfl)
      exact ⟨dec_t (list_eq (by omega) (fun j hj => he j (by omega))), X5⟩

set_option maxRecDepth 100000 in
theorem eqSS_ok {v v2 : Value} {l m : List (List Int)} {ok ok2 : Nat → Prop} (hr : RdK (kR kI) W H ok v l) (hr2 : RdK (kR kI) W H ok2 v2 m) : ACalls Tryd.prog W 31 #[v, v2] H (fun r H' => r = .bool (decide (l = m)) ∧ Ext H H') := by
  refine ACalls.of (args := [v, v2]) Tryd.func31 rfl rfl ?_
  have X0 := Ext.refl H
  have hm1 := hr.max
  have hm2 := hr2.max
  refine AW.rs ?_
  refine AL.val rfl (.inl rfl) (HV.as rfl) ?_
  refine AL.nx ?_
  refine AW.seq ?_
  refine AW.rs ?_
  refine AL.val rfl (.inl rfl) (HV.mv rfl) ?_
  refine AL.val rfl (.inl rfl) (HV.len Tryd.underlying23 rfl hr.isSl) ?_
  refine AL.val rfl (.inl rfl) (HV.mv rfl) ?_
  refine AL.val rfl (.inl rfl) (HV.len Tryd.underlying23 rfl hr2.isSl) ?_
  refine AL.val rfl (.inl rfl) (HV.nei rfl rfl) ?_
  refine AL.nx ?_
  refine AW.ifd rfl (fun c3 => ?_) (fun c3 => ?_)
  · -- then
    refine AW.rs ?_
    refine AL.val rfl (.inl rfl) (HV.as rfl) ?_
    refine AL.nx ?_
    refine AW.ret ?_
    refine ret_and ?_
    refine post_one rfl rfl ?_ (.inr rfl)
    exact ⟨dec_f (fun e => by subst e; omega), X0⟩
  · -- else
    refine AW.skip ?_
    refine nrm_and ?_
    refine AW.seq ?_
    refine AW.rs ?_
    refine AL.val rfl (.inl rfl) (HV.as rfl) ?_
    refine AL.nx ?_
    refine AW.block ?_
    refine AW.loop (σ := Nat) (fun i => [(0, v), (1, v2), (5, .int .i64 (i : Int))]) (fun i H' => Ext H H' ∧ i ≤ l.length ∧ (∀ j, j < i → l.getD j [] = m.getD j []) ∧ True) (fun i => l.length - i) 0 ⟨X0, Nat.zero_le _, fun j hj => absurd hj (Nat.not_lt_zero _), trivial⟩ ⟨rfl, rfl, rfl, trivial⟩ ?_
    rintro i H4 ⟨X5, hi, he, _⟩
    refine AW.seq ?_
    refine AW.rs ?_
    refine AL.val rfl (.inl rfl) (HV.mv rfl) ?_
    refine AL.val rfl (.inl rfl) (HV.mv rfl) ?_
    refine AL.val rfl (.inl rfl) (HV.len Tryd.underlying23 rfl hr.isSl) ?_
    refine AL.val rfl (.inl rfl) (HV.lti rfl rfl) ?_
    refine AL.nx ?_
    refine AW.ifd rfl (fun c6 => ?_) (fun c6 => ?_)
    · -- then
      refine AW.skip ?_
      refine nrm_and ?_
      refine AW.seq ?_
      refine AW.block ?_
      refine AW.seq ?_
      refine AW.draw' [0, 0, 3, 7, 0, 0, 48, 112, 255, 511] mixed (by rfl) ?_
      refine Dr.read 0 _ 17 _ rfl rfl rfl rfl rfl (RV.of (by intro _ _ h; cases h) (.inl rfl) (fun _ xd => HV.mv rfl)) ?_
      refine Dr.read 1 _ 18 _ rfl rfl rfl rfl rfl (RV.of (by intro _ _ h; cases h) (.inl rfl) (fun _ xd => HV.mv rfl)) ?_
      obtain ⟨p7, z8, cs9, hz10, hK11, hC12, hP13⟩ := RdK.ix (q := (i : Int)) hr sl23 (by omega) (by omega)
      obtain ⟨v14, rfl, hr15⟩ := hK11
      have hm16 := hr15.max
      refine Dr.read 2 _ 19 _ rfl rfl rfl rfl rfl (RV.of (by intro _ _ h; cases h) (.inl rfl) (fun _ xd => hP13 rfl rfl)) ?_
      refine Dr.read 3 _ 20 _ rfl rfl rfl rfl rfl (RV.of (by intro _ _ h; cases h) (.inl rfl) (fun _ xd => HV.ld rfl va22 (rdc_ext xd (cells_first (hC12.ext X5) rfl)))) ?_
      refine Dr.read 4 _ 21 _ rfl rfl rfl rfl rfl (RV.of (by intro _ _ h; cases h) (.inl rfl) (fun _ xd => HV.mv rfl)) ?_
      refine Dr.read 5 _ 22 _ rfl rfl rfl rfl rfl (RV.of (by intro _ _ h; cases h) (.inl rfl) (fun _ xd => HV.mv rfl)) ?_
      obtain ⟨p17, z18, cs19, hz20, hK21, hC22, hP23⟩ := RdK.ix (q := (i : Int)) hr2 sl23 (by omega) (by omega)
      obtain ⟨v24, rfl, hr25⟩ := hK21
      have hm26 := hr25.max
      refine Dr.read 6 _ 23 _ rfl rfl rfl rfl rfl (RV.of (by intro _ _ h; cases h) (.inl rfl) (fun _ xd => hP23 rfl rfl)) ?_
      refine Dr.read 7 _ 24 _ rfl rfl rfl rfl rfl (RV.of (by intro _ _ h; cases h) (.inl rfl) (fun _ xd => HV.ld rfl va22 (rdc_ext xd (cells_first (hC22.ext X5) rfl)))) ?_
      refine Dr.eff 8 _ _ rfl (by intro d h; cases h; exact ⟨rfl, rfl⟩) rfl rfl rfl (EC.of (by intro _ _ h; cases h) (.inl rfl) (WV.call fn16 rfl (eqS_ok (hr15.ext X5) (hr25.ext X5)))) (fun v H' h => .inl (h.2)) ?_
      rintro _ H27 ⟨rfl, hx28⟩
      have X29 := Ext.trans X5 hx28
      refine Dr.read 9 _ 26 _ rfl rfl rfl rfl rfl (RV.of (by intro _ _ h; cases h) (.inl rfl) (fun _ xd => HV.not rfl)) ?_
      refine Dr.fin rfl ?_
      refine nrm_and ?_
      refine AW.ifn rfl (fun c30 => ?_) (fun c30 => ?_)
      · -- then
        refine AW.rs ?_
        refine AL.val rfl (.inl rfl) (HV.as rfl) ?_
        refine AL.nx ?_
        refine AW.ret ?_
        refine ret_blk (ret_and (ret_and (ret_blk (ret_and ?_))))
        refine post_one rfl rfl ?_ (.inr rfl)
        exact ⟨dec_f (fun e => by subst e; have g20 : l.getD i [] = z8 := gd hz10 (by omega); have g24 : l.getD i [] = z18 := gd hz20 (by omega); exact c30 (g20.symm.trans g24)), X29⟩
      · -- else
        refine AW.skip ?_
        refine nrm_blk (nrm_and ?_)
        refine AW.reg ?_
        refine AL.val rfl (.inl rfl) (HV.mv rfl) ?_
        refine AL.val rfl (.inl rfl) (HV.add rfl rfl (by omega)) ?_
        refine AL.val rfl (.inl rfl) (HV.as rfl) ?_
        refine AL.nil ?_
        refine nrm_and ?_
        exact ⟨i + 1, ⟨X29, by omega, fun j hj => by
      rcases Nat.lt_or_ge j i with h1 | h1
      · exact he j h1
      · obtain rfl : j = i := by omega
        have g20 : l.getD j [] = z8 := gd hz10 (by omega); have g24 : m.getD j [] = z18 := gd hz20 (by omega); rw [g20, g24]; exact c30, trivial⟩, by first | omega | (dsimp only; omega), ⟨rfl, rfl, rfl, trivial⟩⟩
    · -- else
      refine AW.exit ?_
      refine ex_and (ex_and (ex_blk ?_))
      refine nrm_and ?_
      refine AW.rs ?_
      refine AL.val rfl (.inl rfl) (HV.as rfl) ?_
      refine AL.nx ?_
      refine AW.ret ?_
      refine post_one rfl rfl ?_ (.inr rfl)
      exact ⟨dec_t (list_eq (by omega) (fun j hj => he j (by omega))), X5⟩

set_option maxRecDepth 100000 in
theorem markS_ok {v : Value} {l : List Int} {ok : Nat → Prop} (q : Int) (ho : OwnK kI 2 W H ok v l) (hq : 0 ≤ q ∧ q + l.length ≤ 1000000000000000) : ACalls Tryd.prog W 18 #[v, .int .i64 q] H (fun r H' => ∃ k, r = .int .i64 (q + (l.length : Int)) ∧ k.length = l.length ∧ (∀ j : Nat, j < k.length → k.getD j 0 = q + (j : Int)) ∧ But (fun b => some b = v.ownBlock) H H' ∧ OwnK kI 2 W H' ok v k) := by
  refine ACalls.of (args := [v, .int .i64 q]) Tryd.func18 rfl rfl ?_
  have X0 := Ext.refl H
  have B0 := But.refl (fun b => some b = v.ownBlock) H
  have hmL := ho.rd.max
  refine AW.rs ?_
  refine AL.val rfl (.inl rfl) (HV.as rfl) ?_
  refine AL.nx ?_
  refine AW.seq ?_
  refine AW.rs ?_
  refine AL.val rfl (.inl rfl) (HV.as rfl) ?_
  refine AL.nx ?_
  refine AW.block ?_
  refine AW.loop (σ := Nat × Int × List Int) (fun ⟨i, p, k⟩ => [(0, v), (4, .int .i64 0), (0, v), (1, .int .i64 p), (5, .int .i64 (i : Int))]) (fun ⟨i, p, k⟩ H' => i ≤ l.length ∧ p = q + i ∧ k.length = l.length ∧ (∀ j : Nat, j < i → k.getD j 0 = q + (j : Int)) ∧ OwnK kI 2 W H' ok v k ∧ But (fun b => some b = v.ownBlock) H H' ∧ True) (fun ⟨i, p, k⟩ => l.length - i) (0, q, l) ⟨Nat.zero_le _, by omega, rfl, fun j hj => absurd hj (Nat.not_lt_zero _), ho, B0, trivial⟩ ⟨rfl, rfl, rfl, rfl, rfl, trivial⟩ ?_
  rintro ⟨i, p, k⟩ H1 ⟨hi, hp, hk, he, hoL, hB, _⟩
  refine AW.seq ?_
  refine AW.rs ?_
  refine AL.val rfl (.inl rfl) (HV.mv rfl) ?_
  refine AL.val rfl (.inl rfl) (HV.mv rfl) ?_
  refine AL.val rfl (.inl rfl) (HV.len Tryd.underlying22 rfl hoL.rd.isSl) ?_
  refine AL.val rfl (.inl rfl) (HV.lti rfl rfl) ?_
  refine AL.nx ?_
  refine AW.ifd rfl (fun c2 => ?_) (fun c2 => ?_)
  · -- then
    refine AW.skip ?_
    refine nrm_and ?_
    refine AW.seq ?_
    refine AW.block ?_
    refine AW.rs ?_
    refine AL.val rfl (.inl rfl) (HV.mv rfl) ?_
    refine AL.val rfl (.inl rfl) (HV.mv rfl) ?_
    refine AL.val rfl (.inl rfl) (HV.mv rfl) ?_
    obtain ⟨g3, z4, cs5, hz6, hK7, hC8, hg9, hP10⟩ := OwnK.ix (q := (i : Int)) hoL sl22 (by omega) (by omega)
    have X11 := Ext.refl H1
    obtain rfl : cs5 = [.int .i64 z4] := hK7
    refine AL.val rfl (.inl rfl) (hP10 rfl rfl) ?_
    refine AL.w0 (.inl rfl) (WV.stK (okx := fun _ => False) (x' := p) hoL hg9 rfl rfl va2 (by omega) rfl (fun _ h => h.elim)) ?_
    rintro _ H12 ⟨hx13, ho14⟩
    have B16 := But.trans hB hx13
    have ho17 := ho14.okk (ok' := ok) (fun b hb _ => hb.elim id False.elim)
    refine AL.nx ?_
    refine AW.reg ?_
    refine AL.val rfl (.inl rfl) (HV.mv rfl) ?_
    refine AL.val rfl (.inl rfl) (HV.add rfl rfl (by omega)) ?_
    refine AL.val rfl (.inl rfl) (HV.as rfl) ?_
    refine AL.nil ?_
    refine nrm_blk (nrm_and ?_)
    refine AW.reg ?_
    refine AL.val rfl (.inl rfl) (HV.mv rfl) ?_
    refine AL.val rfl (.inl rfl) (HV.add rfl rfl (by omega)) ?_
    refine AL.val rfl (.inl rfl) (HV.as rfl) ?_
    refine AL.nil ?_
    refine nrm_and ?_
    exact ⟨(i + 1, p + 1, (k.set ((i : Int) : Int).toNat p)), ⟨by omega, by omega, by simp [hk], mark_step he (by omega) hp, ho17, B16, trivial⟩, by first | omega | (dsimp only; omega), ⟨rfl, rfl, rfl, rfl, rfl, trivial⟩⟩
  · -- else
    refine AW.exit ?_
    refine ex_and (ex_and (ex_blk ?_))
    refine nrm_and ?_
    refine AW.rs ?_
    refine AL.val rfl (.inl rfl) (HV.mv rfl) ?_
    refine AL.val rfl (.inl rfl) (HV.as rfl) ?_
    refine AL.nx ?_
    refine AW.ret ?_
    refine post_one rfl rfl ?_ (.inr rfl)
    exact ⟨k, congrArg (Value.int .i64) (by omega), hk, fun j hj => he j (by omega), hB, hoL⟩

set_option maxRecDepth 100000 in
theorem heldS_ok {v : Value} {l : List Int} {ok : Nat → Prop} (q : Int) (hr : RdK kI W H ok v l) (hq : 0 ≤ q ∧ q + l.length ≤ 1000000000000000) (hl : (∀ j : Nat, j < l.length → l.getD j 0 = q + (j : Int))) : ACalls Tryd.prog W 20 #[v, .int .i64 q] H (fun r H' => r = .int .i64 (q + (l.length : Int)) ∧ Ext H H') := by
  refine ACalls.of (args := [v, .int .i64 q]) Tryd.func20 rfl rfl ?_
  have X0 := Ext.refl H
  have hm1 := hr.max
  refine AW.rs ?_
  refine AL.val rfl (.inl rfl) (HV.as rfl) ?_
  refine AL.nx ?_
  refine AW.seq ?_
  refine AW.rs ?_
  refine AL.val rfl (.inl rfl) (HV.as rfl) ?_
  refine AL.nx ?_
  refine AW.block ?_
  refine AW.loop (σ := Nat × Int) (fun ⟨i, p⟩ => [(0, v), (1, .int .i64 p), (5, .int .i64 (i : Int))]) (fun ⟨i, p⟩ H' => Ext H H' ∧ i ≤ l.length ∧ p = q + i ∧ True) (fun ⟨i, p⟩ => l.length - i) (0, q) ⟨X0, Nat.zero_le _, by omega, trivial⟩ ⟨rfl, rfl, rfl, trivial⟩ ?_
  rintro ⟨i, p⟩ H2 ⟨X3, hi, hp, _⟩
  refine AW.seq ?_
  refine AW.rs ?_
  refine AL.val rfl (.inl rfl) (HV.mv rfl) ?_
  refine AL.val rfl (.inl rfl) (HV.mv rfl) ?_
  refine AL.val rfl (.inl rfl) (HV.len Tryd.underlying22 rfl hr.isSl) ?_
  refine AL.val rfl (.inl rfl) (HV.lti rfl rfl) ?_
  refine AL.nx ?_
  refine AW.ifd rfl (fun c4 => ?_) (fun c4 => ?_)
  · -- then
    refine AW.skip ?_
    refine nrm_and ?_
    refine AW.seq ?_
    refine AW.block ?_
    refine AW.seq ?_
    refine AW.rs ?_
    refine AL.val rfl (.inl rfl) (HV.mv rfl) ?_
    refine AL.val rfl (.inl rfl) (HV.mv rfl) ?_
    obtain ⟨p5, z6, cs7, hz8, hK9, hC10, hP11⟩ := RdK.ix (q := (i : Int)) hr sl22 (by omega) (by omega)
    obtain rfl : cs7 = [.int .i64 z6] := hK9
    refine AL.val rfl (.inl rfl) (hP11 rfl rfl) ?_
    refine AL.val rfl (.inl rfl) (HV.ld rfl va2 (cells_first (hC10.ext X3) rfl)) ?_
    refine AL.val rfl (.inl rfl) (HV.mv rfl) ?_
    refine AL.val rfl (.inl rfl) (HV.nei rfl rfl) ?_
    refine AL.nx ?_
    refine AW.ifd rfl (fun c12 => ?_) (fun c12 => ?_)
    · -- then
      refine AW.rs ?_
      refine AL.val rfl (.inl rfl) (HV.as rfl) ?_
      refine AL.nx ?_
      refine AW.ret ?_
      refine ret_and (ret_blk (ret_and (ret_and (ret_blk (ret_and ?_)))))
      refine post_one rfl rfl ?_ (.inr rfl)
      exact absurd (by have := hl i (by omega); rw [gd hz8 rfl] at this; omega) c12
    · -- else
      refine AW.skip ?_
      refine nrm_and ?_
      refine AW.reg ?_
      refine AL.val rfl (.inl rfl) (HV.mv rfl) ?_
      refine AL.val rfl (.inl rfl) (HV.add rfl rfl (by omega)) ?_
      refine AL.val rfl (.inl rfl) (HV.as rfl) ?_
      refine AL.nil ?_
      refine nrm_blk (nrm_and ?_)
      refine AW.reg ?_
      refine AL.val rfl (.inl rfl) (HV.mv rfl) ?_
      refine AL.val rfl (.inl rfl) (HV.add rfl rfl (by omega)) ?_
      refine AL.val rfl (.inl rfl) (HV.as rfl) ?_
      refine AL.nil ?_
      refine nrm_and ?_
      exact ⟨(i + 1, p + 1), ⟨X3, by omega, by omega, trivial⟩, by first | omega | (dsimp only; omega), ⟨rfl, rfl, rfl, trivial⟩⟩
  · -- else
    refine AW.exit ?_
    refine ex_and (ex_and (ex_blk ?_))
    refine nrm_and ?_
    refine AW.rs ?_
    refine AL.val rfl (.inl rfl) (HV.mv rfl) ?_
    refine AL.val rfl (.inl rfl) (HV.as rfl) ?_
    refine AL.nx ?_
    refine AW.ret ?_
    refine post_one rfl rfl ?_ (.inr rfl)
    exact ⟨congrArg (Value.int .i64) (by omega), X3⟩

set_option maxRecDepth 100000 in
theorem markSS2_ok {v : Value} {l : List (List Int)} {ok : Nat → Prop} (ho : OwnD (kO 2 kI) 22 W H ok v l) (hl : (l.length ≤ 1048576 ∧ ∀ x ∈ l, x.length ≤ 1048576)) (q : Int) (hq : 0 ≤ q ∧ q ≤ 4194304) : ACalls Tryd.prog W 32 #[v, .int .i64 q] H (fun r H' => (∃ k, r = .int .i64 (q + offs l l.length) ∧ sameLen k l ∧ heldL q l k l.length ∧ OwnD (kO 2 kI) 22 W H' ok v k) ∧ But ok H H') := by
  refine ACalls.of (args := [v, .int .i64 q]) Tryd.func32 rfl rfl ?_
  have X0 := Ext.refl H
  have B0 := But.refl ok H
  have hmL := ho.rd.max
  refine AW.rs ?_
  refine AL.val rfl (.inl rfl) (HV.as rfl) ?_
  refine AL.nx ?_
  refine AW.seq ?_
  refine AW.rs ?_
  refine AL.val rfl (.inl rfl) (HV.as rfl) ?_
  refine AL.nx ?_
  refine AW.block ?_
  refine AW.loop (σ := Nat × Int × List (List Int)) (fun ⟨i, p, k⟩ => [(0, v), (4, .int .i64 0), (0, v), (1, .int .i64 p), (5, .int .i64 (i : Int))]) (fun ⟨i, p, k⟩ H' => i ≤ l.length ∧ p = q + offs l i ∧ sameLen k l ∧ heldL q l k i ∧ OwnD (kO 2 kI) 22 W H' ok v k ∧ But ok H H' ∧ True) (fun ⟨i, p, k⟩ => l.length - i) (0, q, l) ⟨Nat.zero_le _, by simp [offs], sameLen.refl l, fun i hi => absurd hi (Nat.not_lt_zero _), ho, B0, trivial⟩ ⟨rfl, rfl, rfl, rfl, rfl, trivial⟩ ?_
  rintro ⟨i, p, k⟩ H1 ⟨hi, hp, hk, hh, hoL, hB, _⟩
  have hkl : k.length = l.length := hk.1
  have hof := offs_le (B := 1048576) hl.2 i (by omega)
  refine AW.seq ?_
  refine AW.rs ?_
  refine AL.val rfl (.inl rfl) (HV.mv rfl) ?_
  refine AL.val rfl (.inl rfl) (HV.mv rfl) ?_
  refine AL.val rfl (.inl rfl) (HV.len Tryd.underlying23 rfl (rd_ofO hoL.rd).isSl) ?_
  refine AL.val rfl (.inl rfl) (HV.lti rfl rfl) ?_
  refine AL.nx ?_
  refine AW.ifd rfl (fun c2 => ?_) (fun c2 => ?_)
  · -- then
    refine AW.skip ?_
    refine nrm_and ?_
    refine AW.seq ?_
    refine AW.block ?_
    refine AW.reg ?_
    refine AL.val rfl (.inl rfl) (HV.mv rfl) ?_
    refine AL.val rfl (.inl rfl) (HV.mv rfl) ?_
    obtain ⟨g3, z4, cs5, hz6, hK7, hC8, hg9, hP10⟩ := OwnK.ix (q := (i : Int)) hoL.own sl23 (by omega) (by omega)
    have X11 := Ext.refl H1
    obtain ⟨v12, rfl, hr13⟩ := hK7
    have hO14 := hr13
    replace hr13 := hr13.rd
    have hm15 := hr13.max
    refine AL.val rfl (.inl rfl) (hP10 rfl rfl) ?_
    refine AL.val rfl (.inl rfl) (HV.ld rfl va22 (cells_first hC8 rfl)) ?_
    refine AL.val rfl (.inl rfl) (HV.mv rfl) ?_
    refine AL.w rfl (.inl rfl) (WV.call fn18 rfl (markS_ok p hO14 (by have q1 := hl.2 (l.getD i []) (by have e : l.getD i [] = l[i]'(by omega) := (by simp [show i < l.length by omega]); rw [e]; exact List.getElem_mem _); rw [← hk.2 i, (gd hz6 rfl : k.getD i [] = z4)] at q1; omega))) ?_
    rintro _ H16 ⟨k17, rfl, hk18, hh19, hx20, ho21⟩
    have hd22 := OwnD.mark (i := ((i : Int) : Int).toNat) kI_flat hoL hg9 (Cells.one hC8) (by omega) hx20 ho21
    have B24 := But.trans hB (But.mono hx20 hd22.2)
    have ho25 := hd22.1
    refine AL.val rfl (.inl rfl) (HV.as rfl) ?_
    refine AL.nil ?_
    refine nrm_blk (nrm_and ?_)
    refine AW.reg ?_
    refine AL.val rfl (.inl rfl) (HV.mv rfl) ?_
    refine AL.val rfl (.inl rfl) (HV.add rfl rfl (by omega)) ?_
    refine AL.val rfl (.inl rfl) (HV.as rfl) ?_
    refine AL.nil ?_
    refine nrm_and ?_
    exact ⟨(i + 1, (p + (z4.length : Int)), (k.set ((i : Int) : Int).toNat k17)), ⟨by omega, by rw [offs_succ (by omega), ← hk.2 i, (gd hz6 rfl : k.getD i [] = z4)]; omega, sameLen.set hk hz6 hk18, heldL.step hh hz6 hp hh19, ho25, B24, trivial⟩, by first | omega | (dsimp only; omega), ⟨rfl, rfl, rfl, rfl, rfl, trivial⟩⟩
  · -- else
    refine AW.exit ?_
    refine ex_and (ex_and (ex_blk ?_))
    refine nrm_and ?_
    refine AW.rs ?_
    refine AL.val rfl (.inl rfl) (HV.mv rfl) ?_
    refine AL.val rfl (.inl rfl) (HV.as rfl) ?_
    refine AL.nx ?_
    refine AW.ret ?_
    refine post_one rfl rfl ?_ (.inr rfl)
    exact ⟨⟨k, by obtain rfl : i = l.length := (by omega); exact congrArg (Value.int .i64) hp, hk, by obtain rfl : i = l.length := (by omega); exact hh, hoL⟩, hB⟩

set_option maxRecDepth 100000 in
theorem heldSS_ok {v : Value} {k l : List (List Int)} {ok : Nat → Prop} (q : Int) (hr : RdK (kR kI) W H ok v k) (hq : 0 ≤ q ∧ q ≤ 4194304) (hl : (l.length ≤ 1048576 ∧ ∀ x ∈ l, x.length ≤ 1048576)) (hk : sameLen k l) (hh : heldL q l k l.length) : ACalls Tryd.prog W 33 #[v, .int .i64 q] H (fun r H' => r = .int .i64 (q + offs l l.length) ∧ Ext H H') := by
  refine ACalls.of (args := [v, .int .i64 q]) Tryd.func33 rfl rfl ?_
  have X0 := Ext.refl H
  have hm1 := hr.max
  have hkl : k.length = l.length := hk.1
  refine AW.rs ?_
  refine AL.val rfl (.inl rfl) (HV.as rfl) ?_
  refine AL.nx ?_
  refine AW.seq ?_
  refine AW.rs ?_
  refine AL.val rfl (.inl rfl) (HV.as rfl) ?_
  refine AL.nx ?_
  refine AW.block ?_
  refine AW.loop (σ := Nat × Int) (fun ⟨i, p⟩ => [(0, v), (1, .int .i64 p), (5, .int .i64 (i : Int))]) (fun ⟨i, p⟩ H' => Ext H H' ∧ i ≤ l.length ∧ p = q + offs l i ∧ True) (fun ⟨i, p⟩ => l.length - i) (0, q) ⟨X0, Nat.zero_le _, by simp [offs], trivial⟩ ⟨rfl, rfl, rfl, trivial⟩ ?_
  rintro ⟨i, p⟩ H2 ⟨X3, hi, hp, _⟩
  have hof := offs_le (B := 1048576) hl.2 i (by omega)
  refine AW.seq ?_
  refine AW.rs ?_
  refine AL.val rfl (.inl rfl) (HV.mv rfl) ?_
  refine AL.val rfl (.inl rfl) (HV.mv rfl) ?_
  refine AL.val rfl (.inl rfl) (HV.len Tryd.underlying23 rfl hr.isSl) ?_
  refine AL.val rfl (.inl rfl) (HV.lti rfl rfl) ?_
  refine AL.nx ?_
  refine AW.ifd rfl (fun c4 => ?_) (fun c4 => ?_)
  · -- then
    refine AW.skip ?_
    refine nrm_and ?_
    refine AW.seq ?_
    refine AW.block ?_
    refine AW.rs ?_
    refine AL.val rfl (.inl rfl) (HV.mv rfl) ?_
    refine AL.val rfl (.inl rfl) (HV.mv rfl) ?_
    obtain ⟨p5, z6, cs7, hz8, hK9, hC10, hP11⟩ := RdK.ix (q := (i : Int)) hr sl23 (by omega) (by omega)
    obtain ⟨v12, rfl, hr13⟩ := hK9
    have hm14 := hr13.max
    refine AL.val rfl (.inl rfl) (hP11 rfl rfl) ?_
    refine AL.val rfl (.inl rfl) (HV.ld rfl va22 (cells_first (hC10.ext X3) rfl)) ?_
    refine AL.val rfl (.inl rfl) (HV.mv rfl) ?_
    refine AL.w rfl (.inl rfl) (WV.call fn20 rfl (heldS_ok p (hr13.ext X3) (by have q1 := hl.2 (l.getD i []) (by have e : l.getD i [] = l[i]'(by omega) := (by simp [show i < l.length by omega]); rw [e]; exact List.getElem_mem _); rw [← hk.2 i, (gd hz8 rfl : k.getD i [] = z6)] at q1; omega) (by have q1 := hh i (by omega); rw [(gd hz8 rfl : k.getD i [] = z6), ← hp] at q1; exact q1))) ?_
    rintro _ H15 ⟨rfl, hx16⟩
    have X17 := Ext.trans X3 hx16
    refine AL.val rfl (.inl rfl) (HV.as rfl) ?_
    refine AL.nx ?_
    refine AW.rs ?_
    refine AL.val rfl (.inl rfl) (HV.mv rfl) ?_
    refine AL.val rfl (.inl rfl) (HV.lti rfl rfl) ?_
    refine AL.nx ?_
    refine AW.ifd rfl (fun c18 => ?_) (fun c18 => ?_)
    · -- then
      refine AW.rs ?_
      refine AL.val rfl (.inl rfl) (HV.as rfl) ?_
      refine AL.nx ?_
      refine AW.ret ?_
      refine ret_blk (ret_and (ret_and (ret_blk (ret_and ?_))))
      refine post_one rfl rfl ?_ (.inr rfl)
      exfalso; omega
    · -- else
      refine AW.skip ?_
      refine nrm_blk (nrm_and ?_)
      refine AW.reg ?_
      refine AL.val rfl (.inl rfl) (HV.mv rfl) ?_
      refine AL.val rfl (.inl rfl) (HV.add rfl rfl (by omega)) ?_
      refine AL.val rfl (.inl rfl) (HV.as rfl) ?_
      refine AL.nil ?_
      refine nrm_and ?_
      exact ⟨(i + 1, (p + (z6.length : Int))), ⟨X17, by omega, by rw [offs_succ (by omega), ← hk.2 i, (gd hz8 rfl : k.getD i [] = z6)]; omega, trivial⟩, by first | omega | (dsimp only; omega), ⟨rfl, rfl, rfl, trivial⟩⟩
  · -- else
    refine AW.exit ?_
    refine ex_and (ex_and (ex_blk ?_))
    refine nrm_and ?_
    refine AW.rs ?_
    refine AL.val rfl (.inl rfl) (HV.mv rfl) ?_
    refine AL.val rfl (.inl rfl) (HV.as rfl) ?_
    refine AL.nx ?_
    refine AW.ret ?_
    refine post_one rfl rfl ?_ (.inr rfl)
    exact ⟨by obtain rfl : i = l.length := (by omega); exact congrArg (Value.int .i64) hp, X3⟩

set_option maxRecDepth 100000 in
theorem isPrime_ok (p : Int) : ACalls Tryd.prog W 57 #[.int .i64 p] H (fun r H' => r = .bool (decide (primeI p)) ∧ Ext H H') := by
  refine ACalls.of (args := [.int .i64 p]) Tryd.func57 rfl rfl ?_
  have X0 := Ext.refl H
  refine AW.rs ?_
  refine AL.val rfl (.inl rfl) (HV.as rfl) ?_
  refine AL.nx ?_
  refine AW.seq ?_
  refine AW.rs ?_
  refine AL.val rfl (.inl rfl) (HV.as rfl) ?_
  refine AL.nx ?_
  refine AW.block ?_
  refine AW.loop (σ := Int) (fun d => [(0, .int .i64 p), (3, .int .i64 d)]) (fun d H' => Ext H H' ∧ 2 ≤ d ∧ d ≤ 6 ∧ (∀ e : Int, 2 ≤ e → e < d → p % e ≠ 0) ∧ True) (fun d => (7 - d).toNat) 2 ⟨X0, by decide, by decide, fun e h1 h2 => by omega, trivial⟩ ⟨rfl, rfl, trivial⟩ ?_
  rintro d H1 ⟨X2, hd, hd6, he, _⟩
  refine AW.seq ?_
  refine AW.rs ?_
  refine AL.val rfl (.inl rfl) (HV.mv rfl) ?_
  refine AL.val rfl (.inl rfl) (HV.mv rfl) ?_
  refine AL.val rfl (.inl rfl) (HV.mul rfl rfl (by have := sq6 hd hd6; omega)) ?_
  refine AL.val rfl (.inl rfl) (HV.mv rfl) ?_
  refine AL.val rfl (.inl rfl) (HV.lei rfl rfl) ?_
  refine AL.val rfl (.inl rfl) (HV.mv rfl) ?_
  by_cases c3 : (d * d) ≤ p
  · -- true
    have c3_ : decide ((d * d) ≤ p) = true := decide_eq_true c3
    rw [c3_]
    refine AL.val rfl (.inr ⟨_, _, _, rfl, rfl, rfl⟩) (HV.mv rfl) ?_
    refine AL.val rfl (.inr ⟨_, _, _, rfl, rfl, rfl⟩) (HV.lei rfl rfl) ?_
    refine AL.val rfl (.inl rfl) (HV.pickT rfl rfl) ?_
    refine AL.nx ?_
    refine AW.ifd rfl (fun c4 => ?_) (fun c4 => ?_)
    · -- then
      refine AW.skip ?_
      refine nrm_and ?_
      refine AW.seq ?_
      refine AW.block ?_
      refine AW.rs ?_
      refine AL.val rfl (.inl rfl) (HV.mv rfl) ?_
      refine AL.val rfl (.inl rfl) (HV.mv rfl) ?_
      refine AL.val rfl (.inl rfl) (HV.rem rfl rfl (by have := sq6 hd hd6; omega)) ?_
      refine AL.val rfl (.inl rfl) (HV.eqi rfl rfl) ?_
      refine AL.nx ?_
      refine AW.ifd rfl (fun c5 => ?_) (fun c5 => ?_)
      · -- then
        refine AW.rs ?_
        refine AL.val rfl (.inl rfl) (HV.as rfl) ?_
        refine AL.nx ?_
        refine AW.ret ?_
        refine ret_blk (ret_and (ret_and (ret_blk (ret_and ?_))))
        refine post_one rfl rfl ?_ (.inr rfl)
        exact ⟨dec_f (fun h => h.2 d hd (by omega) c5), X2⟩
      · -- else
        refine AW.skip ?_
        refine nrm_blk (nrm_and ?_)
        refine AW.reg ?_
        refine AL.val rfl (.inl rfl) (HV.mv rfl) ?_
        refine AL.val rfl (.inl rfl) (HV.add rfl rfl (by have := sq6 hd hd6; omega)) ?_
        refine AL.val rfl (.inl rfl) (HV.as rfl) ?_
        refine AL.nil ?_
        refine nrm_and ?_
        exact ⟨d + 1, ⟨X2, by omega, by have := sq6 hd hd6; omega, fun e h1 h2 => by by_cases e' : e = d; (subst e'; exact c5); (exact he e h1 (by omega)), trivial⟩, by first | omega | (dsimp only; omega), ⟨rfl, rfl, trivial⟩⟩
    · -- else
      refine AW.exit ?_
      refine ex_and (ex_and (ex_blk ?_))
      refine nrm_and ?_
      refine AW.rs ?_
      refine AL.val rfl (.inl rfl) (HV.mv rfl) ?_
      refine AL.w rfl (.inl rfl) (WV.call fn43 rfl (within_ok (W := W) p 2 31)) ?_
      rintro _ H6 ⟨rfl, hx7⟩
      have X8 := Ext.trans X2 hx7
      refine AL.val rfl (.inl rfl) (HV.as rfl) ?_
      refine AL.nx ?_
      refine AW.ret ?_
      refine post_one rfl rfl ?_ (.inr rfl)
      exact ⟨congrArg Value.bool (decide_eq_decide.2 ⟨fun h => ⟨h, by omega⟩, fun h => h.1⟩), X8⟩
  · -- false
    have c3_ : decide ((d * d) ≤ p) = false := decide_eq_false c3
    rw [c3_]
    refine AL.off rfl rfl (by decide) rfl ?_
    refine AL.off rfl rfl (by decide) rfl ?_
    refine AL.val rfl (.inl rfl) (HV.pickF rfl rfl) ?_
    refine AL.nx ?_
    refine AW.cond rfl (fun h => by cases h) (fun _ => ?_)
    refine AW.exit ?_
    refine ex_and (ex_and (ex_blk ?_))
    refine nrm_and ?_
    refine AW.rs ?_
    refine AL.val rfl (.inl rfl) (HV.mv rfl) ?_
    refine AL.w rfl (.inl rfl) (WV.call fn43 rfl (within_ok (W := W) p 2 31)) ?_
    rintro _ H10 ⟨rfl, hx11⟩
    have X12 := Ext.trans X2 hx11
    refine AL.val rfl (.inl rfl) (HV.as rfl) ?_
    refine AL.nx ?_
    refine AW.ret ?_
    refine post_one rfl rfl ?_ (.inr rfl)
    exact ⟨congrArg Value.bool (decide_eq_decide.2 ⟨fun h => ⟨h, fun e h1 h2 => he e h1 (sq_lt (by omega) (by omega) (by omega))⟩, fun h => h.1⟩), X12⟩

set_option maxRecDepth 100000 in
theorem el1_ok {b : Nat} {p : Int} (a : Int) (hp : 2 ≤ p ∧ p ≤ 31) (hb : At W H b ⟨2, [.int .i64 p], 1⟩) : ACalls Tryd.prog W 74 #[.int .i64 a, .pointer (some ⟨b, 0, none⟩)] H (fun r H' => r = .bool (!decide (0 ≤ a ∧ a ≤ p - 1)) ∧ Ext H H') := by
  refine ACalls.of (args := [.int .i64 a, .pointer (some ⟨b, 0, none⟩)]) Tryd.func74 rfl rfl ?_
  have X0 := Ext.refl H
  refine AW.rs ?_
  refine AL.val rfl (.inl rfl) (HV.as rfl) ?_
  refine AL.nx ?_
  refine AW.rs ?_
  refine AL.val rfl (.inl rfl) (HV.mv rfl) ?_
  refine AL.val rfl (.inl rfl) (HV.ld rfl va2 (at_cell hb rfl)) ?_
  refine AL.val rfl (.inl rfl) (HV.sub rfl rfl (by omega)) ?_
  refine AL.w rfl (.inl rfl) (WV.call fn43 rfl (within_ok (W := W) a 0 (p - 1))) ?_
  rintro _ H1 ⟨rfl, hx2⟩
  have X3 := Ext.trans X0 hx2
  have hb4 := hb.ext hx2
  refine AL.val rfl (.inl rfl) (HV.not rfl) ?_
  refine AL.val rfl (.inl rfl) (HV.as rfl) ?_
  refine AL.nx ?_
  refine AW.ret ?_
  refine post_one rfl rfl ?_ (.inr rfl)
  exact ⟨rfl, X3⟩

set_option maxRecDepth 100000 in
theorem ixEl_ok {v : Value} {l : List Int} {ok : Nat → Prop} {b : Nat} {p : Int} (hr : RdK kI W H ok v l) (hp : 2 ≤ p ∧ p ≤ 31) (hb : At W H b ⟨2, [.int .i64 p], 1⟩) : ACalls Tryd.prog W 61 #[v, (.func (.func 74) #[] #[.pointer (some ⟨b, 0, none⟩)])] H (fun r H' => (∃ i : Int, r = .int .i64 i ∧ (0 ≤ i ↔ ¬ elems p l)) ∧ Ext H H') := by
  refine ACalls.of (args := [v, (.func (.func 74) #[] #[.pointer (some ⟨b, 0, none⟩)])]) Tryd.func61 rfl rfl ?_
  have X0 := Ext.refl H
  have hm1 := hr.max
  refine AW.rs ?_
  refine AL.val rfl (.inl rfl) (HV.as rfl) ?_
  refine AL.nx ?_
  refine AW.seq ?_
  refine AW.rs ?_
  refine AL.val rfl (.inl rfl) (HV.mv rfl) ?_
  refine AL.val rfl (.inl rfl) (HV.len Tryd.underlying22 rfl hr.isSl) ?_
  refine AL.val rfl (.inl rfl) (HV.mv rfl) ?_
  refine AL.nx ?_
  refine AW.block ?_
  refine AW.loop (σ := Nat) (fun i => [(0, v), (1, (.func (.func 74) #[] #[.pointer (some ⟨b, 0, none⟩)])), (7, .int .i64 (l.length : Int)), (8, .int .i64 (i : Int))]) (fun i H' => Ext H H' ∧ At W H' b ⟨2, [.int .i64 p], 1⟩ ∧ i ≤ l.length ∧ (∀ j, j < i → 0 ≤ l.getD j 0 ∧ l.getD j 0 ≤ p - 1) ∧ True) (fun i => l.length - i) 0 ⟨X0, hb, Nat.zero_le _, fun j hj => absurd hj (Nat.not_lt_zero _), trivial⟩ ⟨rfl, rfl, rfl, rfl, trivial⟩ ?_
  rintro i H2 ⟨X3, hb4, hi, he, _⟩
  refine AW.rs ?_
  refine AL.val rfl (.inl rfl) (HV.lti rfl rfl) ?_
  refine AL.nx ?_
  refine AW.seq ?_
  refine AW.ifd rfl (fun c5 => ?_) (fun c5 => ?_)
  · -- then
    refine AW.skip ?_
    refine nrm_and ?_
    refine AW.seq ?_
    refine AW.block ?_
    refine AW.rs ?_
    refine AL.val rfl (.inl rfl) (HV.mv rfl) ?_
    refine AL.val rfl (.inl rfl) (HV.as rfl) ?_
    refine AL.nx ?_
    refine AW.rs ?_
    refine AL.val rfl (.inl rfl) (HV.mv rfl) ?_
    refine AL.val rfl (.inl rfl) (HV.mv rfl) ?_
    refine AL.val rfl (.inl rfl) (HV.mv rfl) ?_
    obtain ⟨p6, z7, cs8, hz9, hK10, hC11, hP12⟩ := RdK.ix (q := (i : Int)) hr sl22 (by omega) (by omega)
    obtain rfl : cs8 = [.int .i64 z7] := hK10
    refine AL.val rfl (.inl rfl) (hP12 rfl rfl) ?_
    refine AL.val rfl (.inl rfl) (HV.ld rfl va2 (cells_first (hC11.ext X3) rfl)) ?_
    refine AL.w rfl (.inl rfl) (WV.callv fn74 rfl rfl (el1_ok z7 hp hb4)) ?_
    rintro _ H13 ⟨rfl, hx14⟩
    have X15 := Ext.trans X3 hx14
    have hb16 := hb4.ext hx14
    refine AL.nx ?_
    refine AW.ifn rfl (fun c17 => ?_) (fun c17 => ?_)
    · -- then
      refine AW.rs ?_
      refine AL.val rfl (.inl rfl) (HV.mv rfl) ?_
      refine AL.val rfl (.inl rfl) (HV.as rfl) ?_
      refine AL.nx ?_
      refine AW.ret ?_
      refine ret_blk (ret_and (ret_and (ret_blk (ret_and ?_))))
      refine post_one rfl rfl ?_ (.inr rfl)
      exact ⟨⟨_, rfl, fun _ h => by have q := h i (by omega); have g15 : l.getD i 0 = z7 := gd hz9 (by omega); rw [g15] at q; exact c17 q, fun _ => by omega⟩, X15⟩
    · -- else
      refine AW.skip ?_
      refine nrm_blk (nrm_and ?_)
      refine AW.reg ?_
      refine AL.val rfl (.inl rfl) (HV.add rfl rfl (by omega)) ?_
      refine AL.val rfl (.inl rfl) (HV.mv rfl) ?_
      refine AL.nil ?_
      refine nrm_and ?_
      exact ⟨i + 1, ⟨X15, hb16, by omega, fun j hj => by
      rcases Nat.lt_or_ge j i with h1 | h1
      · exact he j h1
      · obtain rfl : j = i := by omega
        have g15 : l.getD j 0 = z7 := gd hz9 (by omega); rw [g15]; exact c17, trivial⟩, by first | omega | (dsimp only; omega), ⟨rfl, rfl, rfl, rfl, trivial⟩⟩
  · -- else
    refine AW.exit ?_
    refine ex_and (ex_and (ex_blk ?_))
    refine nrm_and ?_
    refine AW.rs ?_
    refine AL.val rfl (.inl rfl) (HV.as rfl) ?_
    refine AL.nx ?_
    refine AW.ret ?_
    refine post_one rfl rfl ?_ (.inr rfl)
    exact ⟨⟨_, rfl, fun h => absurd h (by decide), fun h => absurd (fun j hj => he j (by omega)) h⟩, X3⟩

set_option maxRecDepth 100000 in
theorem coEl_ok {v : Value} {l : List Int} {ok : Nat → Prop} {b : Nat} {p : Int} (hr : RdK kI W H ok v l) (hp : 2 ≤ p ∧ p ≤ 31) (hb : At W H b ⟨2, [.int .i64 p], 1⟩) : ACalls Tryd.prog W 45 #[v, (.func (.func 74) #[] #[.pointer (some ⟨b, 0, none⟩)])] H (fun r H' => r = .bool (decide (¬ elems p l)) ∧ Ext H H') := by
  refine ACalls.of (args := [v, (.func (.func 74) #[] #[.pointer (some ⟨b, 0, none⟩)])]) Tryd.func45 rfl rfl ?_
  have X0 := Ext.refl H
  have hm1 := hr.max
  refine AW.rs ?_
  refine AL.val rfl (.inl rfl) (HV.as rfl) ?_
  refine AL.nx ?_
  refine AW.rs ?_
  refine AL.val rfl (.inl rfl) (HV.mv rfl) ?_
  refine AL.val rfl (.inl rfl) (HV.mv rfl) ?_
  refine AL.w rfl (.inl rfl) (WV.call fn61 rfl (ixEl_ok hr hp hb)) ?_
  rintro _ H2 ⟨⟨q4, rfl, he5⟩, hx3⟩
  have X6 := Ext.trans X0 hx3
  have hb7 := hb.ext hx3
  refine AL.val rfl (.inl rfl) (HV.gei rfl rfl) ?_
  refine AL.val rfl (.inl rfl) (HV.as rfl) ?_
  refine AL.nx ?_
  refine AW.ret ?_
  refine post_one rfl rfl ?_ (.inr rfl)
  exact ⟨congrArg Value.bool (decide_eq_decide.2 he5), X6⟩

set_option maxRecDepth 100000 in
theorem areEl_ok {v : Value} {l : List Int} {ok : Nat → Prop} (p : Int) (hr : RdK kI W H ok v l) : ACalls Tryd.prog W 60 #[.int .i64 p, v] H (fun r H' => r = .bool (decide (primeI p ∧ elems p l)) ∧ Ext H H') := by
  refine ACalls.of (args := [.int .i64 p, v]) Tryd.func60 rfl rfl ?_
  have X0 := Ext.refl H
  have hm1 := hr.max
  refine AW.rs ?_
  refine AL.w rfl (.inl rfl) (WV.bx rfl rfl) ?_
  rintro _ H3 ⟨b2, rfl, hx4, hn5, hb6⟩
  have o7 := Nat.le_trans X0.bd hn5
  have X8 := Ext.trans X0 hx4
  have X9 := Ext.refl H3
  refine AL.val rfl (.inl rfl) (HV.as rfl) ?_
  refine AL.nx ?_
  refine AW.rs ?_
  refine AL.val rfl (.inl rfl) (HV.ld rfl va2 (at_cell hb6 rfl)) ?_
  refine AL.w rfl (.inl rfl) (WV.call fn57 rfl (isPrime_ok (W := W) p)) ?_
  rintro _ H10 ⟨rfl, hx11⟩
  have X12 := Ext.trans X8 hx11
  have X13 := Ext.trans X9 hx11
  have hb14 := hb6.ext hx11
  refine AL.val rfl (.inl rfl) (HV.mv rfl) ?_
  by_cases c15 : primeI p
  · -- true
    have c15_ : decide (primeI p) = true := decide_eq_true c15
    rw [c15_]
    refine AL.val rfl (.inr ⟨_, _, _, rfl, rfl, rfl⟩) (HV.mv rfl) ?_
    refine AL.val rfl (.inr ⟨_, _, _, rfl, rfl, rfl⟩) (HV.fn rfl rfl) ?_
    refine AL.w rfl (.inr ⟨_, _, _, rfl, rfl, rfl⟩) (WV.call fn45 rfl (coEl_ok (hr.ext X12) (by assumption : primeI p).1 hb14)) ?_
    rintro _ H16 ⟨rfl, hx17⟩
    have X18 := Ext.trans X12 hx17
    have X19 := Ext.trans X13 hx17
    have hb20 := hb14.ext hx17
    refine AL.val rfl (.inr ⟨_, _, _, rfl, rfl, rfl⟩) (HV.not rfl) ?_
    refine AL.val rfl (.inl rfl) (HV.pickT rfl rfl) ?_
    refine AL.val rfl (.inl rfl) (HV.as rfl) ?_
    refine AL.nx ?_
    refine AW.ret ?_
    refine post_one rfl rfl ?_ (.inr rfl)
    exact ⟨congrArg Value.bool (by by_cases hE : elems p l <;> simp [hE, (by assumption : primeI p)]), X18⟩
  · -- false
    have c15_ : decide (primeI p) = false := decide_eq_false c15
    rw [c15_]
    refine AL.off rfl rfl (by decide) rfl ?_
    refine AL.off rfl rfl (by decide) rfl ?_
    refine AL.off rfl rfl (by decide) rfl ?_
    refine AL.off rfl rfl (by decide) rfl ?_
    refine AL.val rfl (.inl rfl) (HV.pickF rfl rfl) ?_
    refine AL.val rfl (.inl rfl) (HV.as rfl) ?_
    refine AL.nx ?_
    refine AW.ret ?_
    refine post_one rfl rfl ?_ (.inr rfl)
    exact ⟨dec_f (fun h => c15 h.1), X12⟩

set_option maxRecDepth 100000 in
theorem eqM_ok {va vb : Value} {l m : List (List Int)} {ok ok2 : Nat → Prop} (p k p2 k2 : Int) (hr : RdK (kR kI) W H ok va l) (hr2 : RdK (kR kI) W H ok2 vb m) : ACalls Tryd.prog W 17 #[.agg #[.int .i64 p, .int .i64 k, va], .agg #[.int .i64 p2, .int .i64 k2, vb]] H (fun r H' => r = .bool (decide (p = p2 ∧ k = k2 ∧ l = m)) ∧ Ext H H') := by
  refine ACalls.of (args := [.agg #[.int .i64 p, .int .i64 k, va], .agg #[.int .i64 p2, .int .i64 k2, vb]]) Tryd.func17 rfl rfl ?_
  have X0 := Ext.refl H
  have hm1 := hr.max
  have hm2 := hr2.max
  refine AW.rs ?_
  refine AL.w rfl (.inl rfl) (WV.bx rfl rfl) ?_
  rintro _ H4 ⟨b3, rfl, hx5, hn6, hb7⟩
  have o8 := Nat.le_trans X0.bd hn6
  have X9 := Ext.trans X0 hx5
  have X10 := Ext.refl H4
  refine AL.w rfl (.inl rfl) (WV.bx rfl rfl) ?_
  rintro _ H12 ⟨b11, rfl, hx13, hn14, hb15⟩
  have o16 := Nat.le_trans X9.bd hn14
  have o17 := Nat.le_trans X10.bd hn14
  have ne18 : b3 ≠ b11 := by have := hb7.lt; omega
  have X19 := Ext.trans X9 hx13
  have X20 := Ext.trans X10 hx13
  have hb21 := hb7.ext hx13
  have X22 := Ext.refl H12
  refine AL.val rfl (.inl rfl) (HV.as rfl) ?_
  refine AL.nx ?_
  refine AW.seq ?_
  refine AW.rs ?_
  refine AL.val rfl (.inl rfl) (HV.fa fl25_0 rfl) ?_
  refine AL.val rfl (.inl rfl) (HV.ld rfl va2 (at_cell hb21 rfl)) ?_
  refine AL.val rfl (.inl rfl) (HV.fa fl25_0 rfl) ?_
  refine AL.val rfl (.inl rfl) (HV.ld rfl va2 (at_cell hb15 rfl)) ?_
  refine AL.val rfl (.inl rfl) (HV.nei rfl rfl) ?_
  refine AL.nx ?_
  refine AW.ifd rfl (fun c23 => ?_) (fun c23 => ?_)
  · -- then
    refine AW.rs ?_
    refine AL.val rfl (.inl rfl) (HV.as rfl) ?_
    refine AL.nx ?_
    refine AW.ret ?_
    refine ret_and ?_
    refine post_one rfl rfl ?_ (.inr rfl)
    exact ⟨dec_f (fun e => by first | omega | exact absurd e.2.2 c23 | exact absurd e.2.1 c23 | exact absurd e.1 c23), X19⟩
  · -- else
    refine AW.skip ?_
    refine nrm_and ?_
    refine AW.seq ?_
    refine AW.rs ?_
    refine AL.val rfl (.inl rfl) (HV.fa fl25_1 rfl) ?_
    refine AL.val rfl (.inl rfl) (HV.ld rfl va2 (at_cell_add (j := 1) hb21 rfl)) ?_
    refine AL.val rfl (.inl rfl) (HV.fa fl25_1 rfl) ?_
    refine AL.val rfl (.inl rfl) (HV.ld rfl va2 (at_cell_add (j := 1) hb15 rfl)) ?_
    refine AL.val rfl (.inl rfl) (HV.nei rfl rfl) ?_
    refine AL.nx ?_
    refine AW.ifd rfl (fun c24 => ?_) (fun c24 => ?_)
    · -- then
      refine AW.rs ?_
      refine AL.val rfl (.inl rfl) (HV.as rfl) ?_
      refine AL.nx ?_
      refine AW.ret ?_
      refine ret_and ?_
      refine post_one rfl rfl ?_ (.inr rfl)
      exact ⟨dec_f (fun e => by first | omega | exact absurd e.2.2 c24 | exact absurd e.2.1 c24 | exact absurd e.1 c24), X19⟩
    · -- else
      refine AW.skip ?_
      refine nrm_and ?_
      refine AW.seq ?_
      refine AW.rs ?_
      refine AL.val rfl (.inl rfl) (HV.fa fl25_2 rfl) ?_
      refine AL.val rfl (.inl rfl) (HV.ld rfl va23 (at_cell_add (j := 2) hb21 rfl)) ?_
      refine AL.val rfl (.inl rfl) (HV.fa fl25_2 rfl) ?_
      refine AL.val rfl (.inl rfl) (HV.ld rfl va23 (at_cell_add (j := 2) hb15 rfl)) ?_
      refine AL.w rfl (.inl rfl) (WV.call fn31 rfl (eqSS_ok (hr.ext X19) (hr2.ext X19))) ?_
      rintro _ H25 ⟨rfl, hx26⟩
      have X27 := Ext.trans X19 hx26
      have X28 := Ext.trans X20 hx26
      have X29 := Ext.trans X22 hx26
      have hb30 := hb21.ext hx26
      have hb31 := hb15.ext hx26
      refine AL.val rfl (.inl rfl) (HV.not rfl) ?_
      refine AL.nx ?_
      refine AW.ifn rfl (fun c32 => ?_) (fun c32 => ?_)
      · -- then
        refine AW.rs ?_
        refine AL.val rfl (.inl rfl) (HV.as rfl) ?_
        refine AL.nx ?_
        refine AW.ret ?_
        refine ret_and ?_
        refine post_one rfl rfl ?_ (.inr rfl)
        exact ⟨dec_f (fun e => by first | omega | exact absurd e.2.2 c32 | exact absurd e.2.1 c32 | exact absurd e.1 c32), X27⟩
      · -- else
        refine AW.skip ?_
        refine nrm_and ?_
        refine AW.rs ?_
        refine AL.val rfl (.inl rfl) (HV.as rfl) ?_
        refine AL.nx ?_
        refine AW.ret ?_
        refine post_one rfl rfl ?_ (.inr rfl)
        exact ⟨dec_t (by first | exact ⟨by omega, by omega, c32⟩ | exact ⟨by omega, by assumption, by assumption⟩), X27⟩

set_option maxRecDepth 100000 in
theorem eqSc_ok {vo v vo2 v2 : Value} {o o2 : List Int} {l l2 : List (List Int)} {oko ok oko2 ok2 : Nat → Prop} (n p k n2 p2 k2 : Int) (ho : RdK kI W H oko vo o) (hr : RdK (kR kI) W H ok v l) (ho2 : RdK kI W H oko2 vo2 o2) (hr2 : RdK (kR kI) W H ok2 v2 l2) : ACalls Tryd.prog W 6 #[.agg #[.int .i64 n, vo, .int .i64 p, .int .i64 k, v], .agg #[.int .i64 n2, vo2, .int .i64 p2, .int .i64 k2, v2]] H (fun r H' => r = .bool (decide (n = n2 ∧ o = o2 ∧ p = p2 ∧ k = k2 ∧ l = l2)) ∧ Ext H H') := by
  refine ACalls.of (args := [.agg #[.int .i64 n, vo, .int .i64 p, .int .i64 k, v], .agg #[.int .i64 n2, vo2, .int .i64 p2, .int .i64 k2, v2]]) Tryd.func6 rfl rfl ?_
  have X0 := Ext.refl H
  have hm1 := ho.max
  have hm2 := hr.max
  have hm3 := ho2.max
  have hm4 := hr2.max
  refine AW.rs ?_
  refine AL.w rfl (.inl rfl) (WV.bx rfl rfl) ?_
  rintro _ H6 ⟨b5, rfl, hx7, hn8, hb9⟩
  have o10 := Nat.le_trans X0.bd hn8
  have X11 := Ext.trans X0 hx7
  have X12 := Ext.refl H6
  refine AL.w rfl (.inl rfl) (WV.bx rfl rfl) ?_
  rintro _ H14 ⟨b13, rfl, hx15, hn16, hb17⟩
  have o18 := Nat.le_trans X11.bd hn16
  have o19 := Nat.le_trans X12.bd hn16
  have ne20 : b5 ≠ b13 := by have := hb9.lt; omega
  have X21 := Ext.trans X11 hx15
  have X22 := Ext.trans X12 hx15
  have hb23 := hb9.ext hx15
  have X24 := Ext.refl H14
  refine AL.val rfl (.inl rfl) (HV.as rfl) ?_
  refine AL.nx ?_
  refine AW.seq ?_
  refine AW.rs ?_
  refine AL.val rfl (.inl rfl) (HV.fa fl27_0 rfl) ?_
  refine AL.val rfl (.inl rfl) (HV.ld rfl va2 (at_cell hb23 rfl)) ?_
  refine AL.val rfl (.inl rfl) (HV.fa fl27_0 rfl) ?_
  refine AL.val rfl (.inl rfl) (HV.ld rfl va2 (at_cell hb17 rfl)) ?_
  refine AL.val rfl (.inl rfl) (HV.nei rfl rfl) ?_
  refine AL.nx ?_
  refine AW.ifd rfl (fun c25 => ?_) (fun c25 => ?_)
  · -- then
    refine AW.rs ?_
    refine AL.val rfl (.inl rfl) (HV.as rfl) ?_
    refine AL.nx ?_
    refine AW.ret ?_
    refine ret_and ?_
    refine post_one rfl rfl ?_ (.inr rfl)
    exact ⟨dec_f (fun e => by omega), X21⟩
  · -- else
    refine AW.skip ?_
    refine nrm_and ?_
    refine AW.seq ?_
    refine AW.rs ?_
    refine AL.val rfl (.inl rfl) (HV.fa fl27_1 rfl) ?_
    refine AL.val rfl (.inl rfl) (HV.ld rfl va22 (at_cell_add (j := 1) hb23 rfl)) ?_
    refine AL.val rfl (.inl rfl) (HV.fa fl27_1 rfl) ?_
    refine AL.val rfl (.inl rfl) (HV.ld rfl va22 (at_cell_add (j := 1) hb17 rfl)) ?_
    refine AL.w rfl (.inl rfl) (WV.call fn16 rfl (eqS_ok (ho.ext X21) (ho2.ext X21))) ?_
    rintro _ H26 ⟨rfl, hx27⟩
    have X28 := Ext.trans X21 hx27
    have X29 := Ext.trans X22 hx27
    have X30 := Ext.trans X24 hx27
    have hb31 := hb23.ext hx27
    have hb32 := hb17.ext hx27
    refine AL.val rfl (.inl rfl) (HV.not rfl) ?_
    refine AL.nx ?_
    refine AW.ifn rfl (fun c33 => ?_) (fun c33 => ?_)
    · -- then
      refine AW.rs ?_
      refine AL.val rfl (.inl rfl) (HV.as rfl) ?_
      refine AL.nx ?_
      refine AW.ret ?_
      refine ret_and ?_
      refine post_one rfl rfl ?_ (.inr rfl)
      exact ⟨dec_f (fun e => absurd e.2.1 c33), X28⟩
    · -- else
      refine AW.skip ?_
      refine nrm_and ?_
      refine AW.seq ?_
      refine AW.rs ?_
      refine AL.val rfl (.inl rfl) (HV.fa fl27_2 rfl) ?_
      refine AL.val rfl (.inl rfl) (HV.lda (cs := [.int .i64 p, .int .i64 k, v]) rfl va25 (at_cells hb31 rfl)) ?_
      refine AL.val rfl (.inl rfl) (HV.fa fl27_2 rfl) ?_
      refine AL.val rfl (.inl rfl) (HV.lda (cs := [.int .i64 p2, .int .i64 k2, v2]) rfl va25 (at_cells hb32 rfl)) ?_
      refine AL.w rfl (.inl rfl) (WV.call fn17 rfl (eqM_ok p k p2 k2 (hr.ext X28) (hr2.ext X28))) ?_
      rintro _ H34 ⟨rfl, hx35⟩
      have X36 := Ext.trans X28 hx35
      have X37 := Ext.trans X29 hx35
      have X38 := Ext.trans X30 hx35
      have hb39 := hb31.ext hx35
      have hb40 := hb32.ext hx35
      refine AL.val rfl (.inl rfl) (HV.not rfl) ?_
      refine AL.nx ?_
      refine AW.ifn rfl (fun c41 => ?_) (fun c41 => ?_)
      · -- then
        refine AW.rs ?_
        refine AL.val rfl (.inl rfl) (HV.as rfl) ?_
        refine AL.nx ?_
        refine AW.ret ?_
        refine ret_and ?_
        refine post_one rfl rfl ?_ (.inr rfl)
        exact ⟨dec_f (fun e => absurd e.2.2 c41), X36⟩
      · -- else
        refine AW.skip ?_
        refine nrm_and ?_
        refine AW.rs ?_
        refine AL.val rfl (.inl rfl) (HV.as rfl) ?_
        refine AL.nx ?_
        refine AW.ret ?_
        refine post_one rfl rfl ?_ (.inr rfl)
        exact ⟨dec_t ⟨by omega, by assumption, c41⟩, X36⟩

set_option maxRecDepth 100000 in
theorem specPrime_ok (p : Int) : ACalls Tryd.prog W 35 #[.int .i64 p] H (fun r H' => r = .bool (decide (primeI p)) ∧ Ext H H') := by
  refine ACalls.of (args := [.int .i64 p]) Tryd.func35 rfl rfl ?_
  have X0 := Ext.refl H
  refine AW.rs ?_
  refine AL.val rfl (.inl rfl) (HV.as rfl) ?_
  refine AL.nx ?_
  refine AW.seq ?_
  refine AW.rs ?_
  refine AL.val rfl (.inl rfl) (HV.mv rfl) ?_
  refine AL.w rfl (.inl rfl) (WV.call fn24 rfl (l00In_ok (W := W) p 2 31)) ?_
  rintro _ H1 ⟨rfl, hx2⟩
  have X3 := Ext.trans X0 hx2
  refine AL.val rfl (.inl rfl) (HV.not rfl) ?_
  refine AL.nx ?_
  refine AW.ifn rfl (fun c4 => ?_) (fun c4 => ?_)
  · -- then
    refine AW.rs ?_
    refine AL.val rfl (.inl rfl) (HV.as rfl) ?_
    refine AL.nx ?_
    refine AW.ret ?_
    refine ret_and ?_
    refine post_one rfl rfl ?_ (.inr rfl)
    exact ⟨dec_f (fun h => c4 h.1), X3⟩
  · -- else
    refine AW.skip ?_
    refine nrm_and ?_
    refine AW.seq ?_
    refine AW.rs ?_
    refine AL.val rfl (.inl rfl) (HV.as rfl) ?_
    refine AL.nx ?_
    refine AW.block ?_
    have X5 := Ext.refl H1
    refine AW.loop (σ := Int) (fun d => [(0, .int .i64 p), (3, .int .i64 d)]) (fun d H' => Ext H H' ∧ Ext H1 H' ∧ 2 ≤ d ∧ d ≤ p ∧ (∀ e : Int, 2 ≤ e → e < d → p % e ≠ 0) ∧ True) (fun d => (32 - d).toNat) 2 ⟨X3, X5, by decide, by omega, fun e h1 h2 => by omega, trivial⟩ ⟨rfl, rfl, trivial⟩ ?_
    rintro d H6 ⟨X7, X8, hd, hd6, he, _⟩
    refine AW.seq ?_
    refine AW.rs ?_
    refine AL.val rfl (.inl rfl) (HV.mv rfl) ?_
    refine AL.val rfl (.inl rfl) (HV.mv rfl) ?_
    refine AL.val rfl (.inl rfl) (HV.lti rfl rfl) ?_
    refine AL.nx ?_
    refine AW.ifd rfl (fun c9 => ?_) (fun c9 => ?_)
    · -- then
      refine AW.skip ?_
      refine nrm_and ?_
      refine AW.seq ?_
      refine AW.block ?_
      refine AW.rs ?_
      refine AL.val rfl (.inl rfl) (HV.mv rfl) ?_
      refine AL.val rfl (.inl rfl) (HV.mv rfl) ?_
      refine AL.val rfl (.inl rfl) (HV.rem rfl rfl (by omega)) ?_
      refine AL.val rfl (.inl rfl) (HV.eqi rfl rfl) ?_
      refine AL.nx ?_
      refine AW.ifd rfl (fun c10 => ?_) (fun c10 => ?_)
      · -- then
        refine AW.rs ?_
        refine AL.val rfl (.inl rfl) (HV.as rfl) ?_
        refine AL.nx ?_
        refine AW.ret ?_
        refine ret_blk (ret_and (ret_and (ret_blk (ret_and ?_))))
        refine post_one rfl rfl ?_ (.inr rfl)
        exact ⟨dec_f (fun h => (prime_all.1 h).2 d hd (by omega) c10), X7⟩
      · -- else
        refine AW.skip ?_
        refine nrm_blk (nrm_and ?_)
        refine AW.reg ?_
        refine AL.val rfl (.inl rfl) (HV.mv rfl) ?_
        refine AL.val rfl (.inl rfl) (HV.add rfl rfl (by omega)) ?_
        refine AL.val rfl (.inl rfl) (HV.as rfl) ?_
        refine AL.nil ?_
        refine nrm_and ?_
        exact ⟨d + 1, ⟨X7, X8, by omega, by omega, fun e h1 h2 => by by_cases e' : e = d; (subst e'; exact c10); (exact he e h1 (by omega)), trivial⟩, by first | omega | (dsimp only; omega), ⟨rfl, rfl, trivial⟩⟩
    · -- else
      refine AW.exit ?_
      refine ex_and (ex_and (ex_blk ?_))
      refine nrm_and ?_
      refine AW.rs ?_
      refine AL.val rfl (.inl rfl) (HV.as rfl) ?_
      refine AL.nx ?_
      refine AW.ret ?_
      refine post_one rfl rfl ?_ (.inr rfl)
      exact ⟨dec_t (prime_all.2 ⟨by assumption, fun e h1 h2 => he e h1 (by omega)⟩), X7⟩

set_option maxRecDepth 100000 in
theorem l03Row_ok {v : Value} {l : List Int} {ok : Nat → Prop} (p k : Int) (hr : RdK kI W H ok v l) (hp : 0 ≤ p ∧ p ≤ 31) : ACalls Tryd.prog W 36 #[.int .i64 p, .int .i64 k, v] H (fun r H' => r = .bool (decide (elems p l ∧ (l.length : Int) = k)) ∧ Ext H H') := by
  refine ACalls.of (args := [.int .i64 p, .int .i64 k, v]) Tryd.func36 rfl rfl ?_
  have X0 := Ext.refl H
  have hm1 := hr.max
  refine AW.rs ?_
  refine AL.val rfl (.inl rfl) (HV.as rfl) ?_
  refine AL.nx ?_
  refine AW.seq ?_
  refine AW.rs ?_
  refine AL.val rfl (.inl rfl) (HV.as rfl) ?_
  refine AL.nx ?_
  refine AW.block ?_
  refine AW.loop (σ := Nat) (fun i => [(0, .int .i64 p), (1, .int .i64 k), (2, v), (7, .int .i64 (i : Int))]) (fun i H' => Ext H H' ∧ i ≤ l.length ∧ (∀ j, j < i → 0 ≤ l.getD j 0 ∧ l.getD j 0 ≤ p - 1) ∧ True) (fun i => l.length - i) 0 ⟨X0, Nat.zero_le _, fun j hj => absurd hj (Nat.not_lt_zero _), trivial⟩ ⟨rfl, rfl, rfl, rfl, trivial⟩ ?_
  rintro i H2 ⟨X3, hi, he, _⟩
  refine AW.seq ?_
  refine AW.rs ?_
  refine AL.val rfl (.inl rfl) (HV.mv rfl) ?_
  refine AL.val rfl (.inl rfl) (HV.mv rfl) ?_
  refine AL.val rfl (.inl rfl) (HV.len Tryd.underlying22 rfl hr.isSl) ?_
  refine AL.val rfl (.inl rfl) (HV.lti rfl rfl) ?_
  refine AL.nx ?_
  refine AW.ifd rfl (fun c4 => ?_) (fun c4 => ?_)
  · -- then
    refine AW.skip ?_
    refine nrm_and ?_
    refine AW.seq ?_
    refine AW.block ?_
    refine AW.rs ?_
    refine AL.val rfl (.inl rfl) (HV.mv rfl) ?_
    refine AL.val rfl (.inl rfl) (HV.mv rfl) ?_
    obtain ⟨p5, z6, cs7, hz8, hK9, hC10, hP11⟩ := RdK.ix (q := (i : Int)) hr sl22 (by omega) (by omega)
    obtain rfl : cs7 = [.int .i64 z6] := hK9
    refine AL.val rfl (.inl rfl) (hP11 rfl rfl) ?_
    refine AL.val rfl (.inl rfl) (HV.ld rfl va2 (cells_first (hC10.ext X3) rfl)) ?_
    refine AL.val rfl (.inl rfl) (HV.mv rfl) ?_
    refine AL.val rfl (.inl rfl) (HV.sub rfl rfl (by omega)) ?_
    refine AL.w rfl (.inl rfl) (WV.call fn24 rfl (l00In_ok (W := W) z6 0 (p - 1))) ?_
    rintro _ H12 ⟨rfl, hx13⟩
    have X14 := Ext.trans X3 hx13
    refine AL.val rfl (.inl rfl) (HV.not rfl) ?_
    refine AL.nx ?_
    refine AW.ifn rfl (fun c15 => ?_) (fun c15 => ?_)
    · -- then
      refine AW.rs ?_
      refine AL.val rfl (.inl rfl) (HV.as rfl) ?_
      refine AL.nx ?_
      refine AW.ret ?_
      refine ret_blk (ret_and (ret_and (ret_blk (ret_and ?_))))
      refine post_one rfl rfl ?_ (.inr rfl)
      exact ⟨dec_f (fun h => by have q := h.1 i (by omega); have g17 : l.getD i 0 = z6 := gd hz8 (by omega); rw [g17] at q; exact c15 q), X14⟩
    · -- else
      refine AW.skip ?_
      refine nrm_blk (nrm_and ?_)
      refine AW.reg ?_
      refine AL.val rfl (.inl rfl) (HV.mv rfl) ?_
      refine AL.val rfl (.inl rfl) (HV.add rfl rfl (by omega)) ?_
      refine AL.val rfl (.inl rfl) (HV.as rfl) ?_
      refine AL.nil ?_
      refine nrm_and ?_
      exact ⟨i + 1, ⟨X14, by omega, fun j hj => by
      rcases Nat.lt_or_ge j i with h1 | h1
      · exact he j h1
      · obtain rfl : j = i := by omega
        have g17 : l.getD j 0 = z6 := gd hz8 (by omega); rw [g17]; exact c15, trivial⟩, by first | omega | (dsimp only; omega), ⟨rfl, rfl, rfl, rfl, trivial⟩⟩
  · -- else
    refine AW.exit ?_
    refine ex_and (ex_and (ex_blk ?_))
    refine nrm_and ?_
    refine AW.rs ?_
    refine AL.val rfl (.inl rfl) (HV.mv rfl) ?_
    refine AL.val rfl (.inl rfl) (HV.len Tryd.underlying22 rfl hr.isSl) ?_
    refine AL.val rfl (.inl rfl) (HV.mv rfl) ?_
    refine AL.val rfl (.inl rfl) (HV.eqi rfl rfl) ?_
    refine AL.val rfl (.inl rfl) (HV.as rfl) ?_
    refine AL.nx ?_
    refine AW.ret ?_
    refine post_one rfl rfl ?_ (.inr rfl)
    exact ⟨congrArg Value.bool (decide_eq_decide.2 ⟨fun h => ⟨fun j hj => he j (by omega), h⟩, fun h => h.2⟩), X3⟩

set_option maxRecDepth 100000 in
theorem l03Ok_ok {ad : Addr} {v : Value} {l : List (List Int)} {ok : Nat → Prop} (p k : Int) (hr : RdK (kR kI) W H ok v l) (hc : Cells W H ad [.int .i64 p, .int .i64 k, v]) : ACalls Tryd.prog W 25 #[.pointer (some ad)] H (fun r H' => r = .bool (decide (okMx p k l)) ∧ Ext H H') := by
  refine ACalls.of (args := [.pointer (some ad)]) Tryd.func25 rfl rfl ?_
  have X0 := Ext.refl H
  have hmx := hr.max
  refine AW.rs ?_
  refine AL.val rfl (.inl rfl) (HV.as rfl) ?_
  refine AL.nx ?_
  refine AW.seq ?_
  refine AW.rs ?_
  refine AL.val rfl (.inl rfl) (HV.mv rfl) ?_
  refine AL.val rfl (.inl rfl) (HV.nc rfl) ?_
  refine AL.val rfl (.inl rfl) (HV.fa fl25_0 rfl) ?_
  refine AL.val rfl (.inl rfl) (HV.ld rfl va2 (cells_first hc rfl)) ?_
  refine AL.w rfl (.inl rfl) (WV.call fn35 rfl (specPrime_ok (W := W) p)) ?_
  rintro _ H1 ⟨rfl, hx2⟩
  have X3 := Ext.trans X0 hx2
  refine AL.val rfl (.inl rfl) (HV.not rfl) ?_
  refine AL.val rfl (.inl rfl) (HV.mv rfl) ?_
  by_cases c4 : primeI p
  · -- false
    have c4_ : (!decide (primeI p)) = false := by rw [decide_eq_true c4]; rfl
    rw [c4_]
    refine AL.val rfl (.inr ⟨_, _, _, rfl, rfl, rfl⟩) (HV.mv rfl) ?_
    refine AL.val rfl (.inr ⟨_, _, _, rfl, rfl, rfl⟩) (HV.nc rfl) ?_
    refine AL.val rfl (.inr ⟨_, _, _, rfl, rfl, rfl⟩) (HV.fa fl25_1 rfl) ?_
    refine AL.val rfl (.inr ⟨_, _, _, rfl, rfl, rfl⟩) (HV.ld rfl va2 (cells_at (hc.ext X3) rfl)) ?_
    refine AL.w rfl (.inr ⟨_, _, _, rfl, rfl, rfl⟩) (WV.call fn24 rfl (l00In_ok (W := W) k 0 12)) ?_
    rintro _ H5 ⟨rfl, hx6⟩
    have X7 := Ext.trans X3 hx6
    refine AL.val rfl (.inr ⟨_, _, _, rfl, rfl, rfl⟩) (HV.not rfl) ?_
    refine AL.val rfl (.inl rfl) (HV.pickF rfl rfl) ?_
    refine AL.val rfl (.inl rfl) (HV.mv rfl) ?_
    by_cases c8 : 0 ≤ k ∧ k ≤ 12
    · -- false
      have c8_ : (!decide (0 ≤ k ∧ k ≤ 12)) = false := by rw [decide_eq_true c8]; rfl
      rw [c8_]
      refine AL.val rfl (.inr ⟨_, _, _, rfl, rfl, rfl⟩) (HV.mv rfl) ?_
      refine AL.val rfl (.inr ⟨_, _, _, rfl, rfl, rfl⟩) (HV.nc rfl) ?_
      refine AL.val rfl (.inr ⟨_, _, _, rfl, rfl, rfl⟩) (HV.fa fl25_2 rfl) ?_
      refine AL.val rfl (.inr ⟨_, _, _, rfl, rfl, rfl⟩) (HV.ld rfl va23 (cells_at (hc.ext X7) rfl)) ?_
      refine AL.val rfl (.inr ⟨_, _, _, rfl, rfl, rfl⟩) (HV.len Tryd.underlying23 rfl hr.isSl) ?_
      refine AL.val rfl (.inr ⟨_, _, _, rfl, rfl, rfl⟩) (HV.gti rfl rfl) ?_
      refine AL.val rfl (.inl rfl) (HV.pickF rfl rfl) ?_
      refine AL.nx ?_
      refine AW.ifd rfl (fun c9 => ?_) (fun c9 => ?_)
      · -- then
        refine AW.rs ?_
        refine AL.val rfl (.inl rfl) (HV.as rfl) ?_
        refine AL.nx ?_
        refine AW.ret ?_
        refine ret_and ?_
        refine post_one rfl rfl ?_ (.inr rfl)
        exact ⟨dec_f (fun h => by have h1 := h.1; have h2 := h.2.1; have h3 := h.2.2.1; first | omega | contradiction), X7⟩
      · -- else
        refine AW.skip ?_
        refine nrm_and ?_
        refine AW.seq ?_
        refine AW.rs ?_
        refine AL.val rfl (.inl rfl) (HV.as rfl) ?_
        refine AL.nx ?_
        refine AW.block ?_
        have X10 := Ext.refl H5
        refine AW.loop (σ := Nat) (fun i => [(0, .pointer (some ad)), (3, .int .i64 (i : Int))]) (fun i H' => Ext H H' ∧ Ext H5 H' ∧ i ≤ l.length ∧ (∀ j, j < i → elems p (l.getD j []) ∧ ((l.getD j []).length : Int) = k) ∧ True) (fun i => l.length - i) 0 ⟨X7, X10, Nat.zero_le _, fun j hj => absurd hj (Nat.not_lt_zero _), trivial⟩ ⟨rfl, rfl, trivial⟩ ?_
        rintro i H11 ⟨X12, X13, hi, he, _⟩
        have hpp : primeI p := (by assumption)
        have hp31 := hpp.1
        refine AW.seq ?_
        refine AW.rs ?_
        refine AL.val rfl (.inl rfl) (HV.mv rfl) ?_
        refine AL.val rfl (.inl rfl) (HV.mv rfl) ?_
        refine AL.val rfl (.inl rfl) (HV.nc rfl) ?_
        refine AL.val rfl (.inl rfl) (HV.fa fl25_2 rfl) ?_
        refine AL.val rfl (.inl rfl) (HV.ld rfl va23 (cells_at (hc.ext X12) rfl)) ?_
        refine AL.val rfl (.inl rfl) (HV.len Tryd.underlying23 rfl hr.isSl) ?_
        refine AL.val rfl (.inl rfl) (HV.lti rfl rfl) ?_
        refine AL.nx ?_
        refine AW.ifd rfl (fun c14 => ?_) (fun c14 => ?_)
        · -- then
          refine AW.skip ?_
          refine nrm_and ?_
          refine AW.seq ?_
          refine AW.block ?_
          refine AW.seq ?_
          refine AW.draw' [0, 1, 3, 7, 0, 16, 48, 112, 0, 256, 768, 1792, 0, 7936, 16128, 32767, 65535] mixed (by rfl) ?_
          refine Dr.read 0 _ 35 _ rfl rfl rfl rfl rfl (RV.of (by intro _ _ h; cases h) (.inl rfl) (fun _ xd => HV.mv rfl)) ?_
          refine Dr.read 1 _ 36 _ rfl rfl rfl rfl rfl (RV.of (by intro _ _ h; cases h) (.inl rfl) (fun _ xd => HV.nc rfl)) ?_
          refine Dr.read 2 _ 37 _ rfl rfl rfl rfl rfl (RV.of (by intro _ _ h; cases h) (.inl rfl) (fun _ xd => HV.fa fl25_0 rfl)) ?_
          refine Dr.read 3 _ 38 _ rfl rfl rfl rfl rfl (RV.of (by intro _ _ h; cases h) (.inl rfl) (fun _ xd => HV.ld rfl va2 (rdc_ext xd (cells_first (hc.ext X12) rfl)))) ?_
          refine Dr.read 4 _ 39 _ rfl rfl rfl rfl rfl (RV.of (by intro _ _ h; cases h) (.inl rfl) (fun _ xd => HV.mv rfl)) ?_
          refine Dr.read 5 _ 40 _ rfl rfl rfl rfl rfl (RV.of (by intro _ _ h; cases h) (.inl rfl) (fun _ xd => HV.nc rfl)) ?_
          refine Dr.read 6 _ 41 _ rfl rfl rfl rfl rfl (RV.of (by intro _ _ h; cases h) (.inl rfl) (fun _ xd => HV.fa fl25_1 rfl)) ?_
          refine Dr.read 7 _ 42 _ rfl rfl rfl rfl rfl (RV.of (by intro _ _ h; cases h) (.inl rfl) (fun _ xd => HV.ld rfl va2 (rdc_ext xd (cells_at (hc.ext X12) rfl)))) ?_
          refine Dr.read 8 _ 43 _ rfl rfl rfl rfl rfl (RV.of (by intro _ _ h; cases h) (.inl rfl) (fun _ xd => HV.mv rfl)) ?_
          refine Dr.read 9 _ 44 _ rfl rfl rfl rfl rfl (RV.of (by intro _ _ h; cases h) (.inl rfl) (fun _ xd => HV.nc rfl)) ?_
          refine Dr.read 10 _ 45 _ rfl rfl rfl rfl rfl (RV.of (by intro _ _ h; cases h) (.inl rfl) (fun _ xd => HV.fa fl25_2 rfl)) ?_
          refine Dr.read 11 _ 46 _ rfl rfl rfl rfl rfl (RV.of (by intro _ _ h; cases h) (.inl rfl) (fun _ xd => HV.ld rfl va23 (rdc_ext xd (cells_at (hc.ext X12) rfl)))) ?_
          refine Dr.read 12 _ 47 _ rfl rfl rfl rfl rfl (RV.of (by intro _ _ h; cases h) (.inl rfl) (fun _ xd => HV.mv rfl)) ?_
          obtain ⟨p15, z16, cs17, hz18, hK19, hC20, hP21⟩ := RdK.ix (q := (i : Int)) hr sl23 (by omega) (by omega)
          obtain ⟨v22, rfl, hr23⟩ := hK19
          have hm24 := hr23.max
          refine Dr.read 13 _ 48 _ rfl rfl rfl rfl rfl (RV.of (by intro _ _ h; cases h) (.inl rfl) (fun _ xd => hP21 rfl rfl)) ?_
          refine Dr.read 14 _ 49 _ rfl rfl rfl rfl rfl (RV.of (by intro _ _ h; cases h) (.inl rfl) (fun _ xd => HV.ld rfl va22 (rdc_ext xd (cells_first (hC20.ext X12) rfl)))) ?_
          refine Dr.eff 15 _ _ rfl (by intro d h; cases h; exact ⟨rfl, rfl⟩) rfl rfl rfl (EC.of (by intro _ _ h; cases h) (.inl rfl) (WV.call fn36 rfl (l03Row_ok p k (hr23.ext X12) (by omega)))) (fun v H' h => .inl (h.2)) ?_
          rintro _ H25 ⟨rfl, hx26⟩
          have X27 := Ext.trans X12 hx26
          have X28 := Ext.trans X13 hx26
          refine Dr.read 16 _ 51 _ rfl rfl rfl rfl rfl (RV.of (by intro _ _ h; cases h) (.inl rfl) (fun _ xd => HV.not rfl)) ?_
          refine Dr.fin rfl ?_
          refine nrm_and ?_
          refine AW.ifn rfl (fun c29 => ?_) (fun c29 => ?_)
          · -- then
            refine AW.rs ?_
            refine AL.val rfl (.inl rfl) (HV.as rfl) ?_
            refine AL.nx ?_
            refine AW.ret ?_
            refine ret_blk (ret_and (ret_and (ret_blk (ret_and ?_))))
            refine post_one rfl rfl ?_ (.inr rfl)
            exact ⟨dec_f (fun h => absurd (h.2.2.2 _ (List.mem_of_getElem? hz18)) c29), X27⟩
          · -- else
            refine AW.skip ?_
            refine nrm_blk (nrm_and ?_)
            refine AW.reg ?_
            refine AL.val rfl (.inl rfl) (HV.mv rfl) ?_
            refine AL.val rfl (.inl rfl) (HV.add rfl rfl (by omega)) ?_
            refine AL.val rfl (.inl rfl) (HV.as rfl) ?_
            refine AL.nil ?_
            refine nrm_and ?_
            exact ⟨i + 1, ⟨X27, X28, by omega, fun j hj => by
      rcases Nat.lt_or_ge j i with h1 | h1
      · exact he j h1
      · obtain rfl : j = i := by omega
        have g49 : l.getD j [] = z16 := gd hz18 (by omega); rw [g49]; exact c29, trivial⟩, by first | omega | (dsimp only; omega), ⟨rfl, rfl, trivial⟩⟩
        · -- else
          refine AW.exit ?_
          refine ex_and (ex_and (ex_blk ?_))
          refine nrm_and ?_
          refine AW.rs ?_
          refine AL.val rfl (.inl rfl) (HV.as rfl) ?_
          refine AL.nx ?_
          refine AW.ret ?_
          refine post_one rfl rfl ?_ (.inr rfl)
          exact ⟨dec_t ⟨by assumption, by omega, by omega, fun x hx => by obtain ⟨j, hj, rfl⟩ := mem_getD (d := []) hx; exact he j (by omega)⟩, X12⟩
    · -- true
      have c8_ : (!decide (0 ≤ k ∧ k ≤ 12)) = true := by rw [decide_eq_false c8]; rfl
      rw [c8_]
      refine AL.off rfl rfl (by decide) rfl ?_
      refine AL.off rfl rfl (by decide) rfl ?_
      refine AL.off rfl rfl (by decide) rfl ?_
      refine AL.off rfl rfl (by decide) rfl ?_
      refine AL.off rfl rfl (by decide) rfl ?_
      refine AL.off rfl rfl (by decide) rfl ?_
      refine AL.val rfl (.inl rfl) (HV.pickT rfl rfl) ?_
      refine AL.nx ?_
      refine AW.cond rfl (fun _ => ?_) (fun h => by cases h)
      refine AW.rs ?_
      refine AL.val rfl (.inl rfl) (HV.as rfl) ?_
      refine AL.nx ?_
      refine AW.ret ?_
      refine ret_and ?_
      refine post_one rfl rfl ?_ (.inr rfl)
      exact ⟨dec_f (fun h => by have h1 := h.1; have h2 := h.2.1; have h3 := h.2.2.1; first | omega | contradiction), X7⟩
  · -- true
    have c4_ : (!decide (primeI p)) = true := by rw [decide_eq_false c4]; rfl
    rw [c4_]
    refine AL.off rfl rfl (by decide) rfl ?_
    refine AL.off rfl rfl (by decide) rfl ?_
    refine AL.off rfl rfl (by decide) rfl ?_
    refine AL.off rfl rfl (by decide) rfl ?_
    refine AL.off rfl rfl (by decide) rfl ?_
    refine AL.off rfl rfl (by decide) rfl ?_
    refine AL.val rfl (.inl rfl) (HV.pickT rfl rfl) ?_
    refine AL.val rfl (.inl rfl) (HV.mv rfl) ?_
    refine AL.off rfl rfl (by decide) rfl ?_
    refine AL.off rfl rfl (by decide) rfl ?_
    refine AL.off rfl rfl (by decide) rfl ?_
    refine AL.off rfl rfl (by decide) rfl ?_
    refine AL.off rfl rfl (by decide) rfl ?_
    refine AL.off rfl rfl (by decide) rfl ?_
    refine AL.val rfl (.inl rfl) (HV.pickT rfl rfl) ?_
    refine AL.nx ?_
    refine AW.cond rfl (fun _ => ?_) (fun h => by cases h)
    refine AW.rs ?_
    refine AL.val rfl (.inl rfl) (HV.as rfl) ?_
    refine AL.nx ?_
    refine AW.ret ?_
    refine ret_and ?_
    refine post_one rfl rfl ?_ (.inr rfl)
    exact ⟨dec_f (fun h => by have h1 := h.1; have h2 := h.2.1; have h3 := h.2.2.1; first | omega | contradiction), X3⟩

set_option maxRecDepth 100000 in
theorem l04Ok_ok {ad : Addr} {vo v : Value} {o : List Int} {l : List (List Int)} {oko ok : Nat → Prop} (n p k : Int) (ho : RdK kI W H oko vo o) (hr : RdK (kR kI) W H ok v l) (hc : Cells W H ad [.int .i64 n, vo, .int .i64 p, .int .i64 k, v]) : ACalls Tryd.prog W 12 #[.pointer (some ad)] H (fun r H' => r = .bool (decide (okSc n o p k l)) ∧ Ext H H') := by
  refine ACalls.of (args := [.pointer (some ad)]) Tryd.func12 rfl rfl ?_
  have X0 := Ext.refl H
  have hmo := ho.max
  have hmx := hr.max
  refine AW.rs ?_
  refine AL.val rfl (.inl rfl) (HV.as rfl) ?_
  refine AL.nx ?_
  refine AW.seq ?_
  refine AW.seq ?_
  refine AW.draw' [0, 1, 3, 7, 15, 31, 63, 127, 255, 511, 1023, 2047, 4095, 8191, 16383, 32767, 65535, 131071, 262143, 524287, 1048575, 2097151, 4194303, 8388607, 16777215, 33554431, 67108863, 4194303, 138412031, 406847487, 943718399, 2017460223, 4164943871, 8589934591, 17179869183] mixed (by rfl) ?_
  refine Dr.read 0 _ 4 _ rfl rfl rfl rfl rfl (RV.of (by intro _ _ h; cases h) (.inl rfl) (fun _ xd => HV.mv rfl)) ?_
  refine Dr.read 1 _ 5 _ rfl rfl rfl rfl rfl (RV.of (by intro _ _ h; cases h) (.inl rfl) (fun _ xd => HV.nc rfl)) ?_
  refine Dr.read 2 _ 6 _ rfl rfl rfl rfl rfl (RV.of (by intro _ _ h; cases h) (.inl rfl) (fun _ xd => HV.fa fl27_0 rfl)) ?_
  refine Dr.read 3 _ 7 _ rfl rfl rfl rfl rfl (RV.of (by intro _ _ h; cases h) (.inl rfl) (fun _ xd => HV.ld rfl va2 (rdc_ext xd (cells_first hc rfl)))) ?_
  refine Dr.eff 4 _ _ rfl (by intro d h; cases h; exact ⟨rfl, rfl⟩) rfl rfl rfl (EC.of (by intro _ _ h; cases h) (.inl rfl) (WV.call fn24 rfl (l00In_ok (W := W) n 1 7))) (fun v H' h => .inl (h.2)) ?_
  rintro _ H1 ⟨rfl, hx2⟩
  have X3 := Ext.trans X0 hx2
  refine Dr.read 5 _ 9 _ rfl rfl rfl rfl rfl (RV.of (by intro _ _ h; cases h) (.inl rfl) (fun _ xd => HV.not rfl)) ?_
  refine Dr.read 6 _ 10 _ rfl rfl rfl rfl rfl (RV.of (by intro _ _ h; cases h) (.inl rfl) (fun _ xd => HV.mv rfl)) ?_
  by_cases c4 : 1 ≤ n ∧ n ≤ 7
  · -- false
    have c4_ : (!decide (1 ≤ n ∧ n ≤ 7)) = false := by rw [decide_eq_true c4]; rfl
    rw [c4_]
    refine Dr.read 7 _ 11 _ rfl rfl rfl rfl rfl (RV.of (by intro _ _ h; cases h) (.inr ⟨_, _, _, rfl, rfl, rfl⟩) (fun _ xd => HV.mv rfl)) ?_
    refine Dr.read 8 _ 12 _ rfl rfl rfl rfl rfl (RV.of (by intro _ _ h; cases h) (.inr ⟨_, _, _, rfl, rfl, rfl⟩) (fun _ xd => HV.nc rfl)) ?_
    refine Dr.read 9 _ 13 _ rfl rfl rfl rfl rfl (RV.of (by intro _ _ h; cases h) (.inr ⟨_, _, _, rfl, rfl, rfl⟩) (fun _ xd => HV.fa fl27_2 rfl)) ?_
    refine Dr.eff 10 _ _ rfl (by intro d h; cases h; exact ⟨rfl, rfl⟩) rfl rfl rfl (EC.of (by intro _ _ h; cases h) (.inr ⟨_, _, _, rfl, rfl, rfl⟩) (WV.call fn25 rfl (l03Ok_ok p k (hr.ext X3) (cells_part (hc.ext X3) rfl)))) (fun v H' h => .inl (h.2)) ?_
    rintro _ H5 ⟨rfl, hx6⟩
    have X7 := Ext.trans X3 hx6
    refine Dr.read 11 _ 15 _ rfl rfl rfl rfl rfl (RV.of (by intro _ _ h; cases h) (.inr ⟨_, _, _, rfl, rfl, rfl⟩) (fun _ xd => HV.not rfl)) ?_
    refine Dr.read 12 _ 16 _ rfl rfl rfl rfl rfl (RV.of (by intro _ _ h; cases h) (.inl rfl) (fun _ xd => HV.pickF rfl rfl)) ?_
    refine Dr.read 13 _ 17 _ rfl rfl rfl rfl rfl (RV.of (by intro _ _ h; cases h) (.inl rfl) (fun _ xd => HV.mv rfl)) ?_
    by_cases c8 : okMx p k l
    · -- false
      have c8_ : (!decide (okMx p k l)) = false := by rw [decide_eq_true c8]; rfl
      rw [c8_]
      refine Dr.read 14 _ 18 _ rfl rfl rfl rfl rfl (RV.of (by intro _ _ h; cases h) (.inr ⟨_, _, _, rfl, rfl, rfl⟩) (fun _ xd => HV.mv rfl)) ?_
      refine Dr.read 15 _ 19 _ rfl rfl rfl rfl rfl (RV.of (by intro _ _ h; cases h) (.inr ⟨_, _, _, rfl, rfl, rfl⟩) (fun _ xd => HV.nc rfl)) ?_
      refine Dr.read 16 _ 20 _ rfl rfl rfl rfl rfl (RV.of (by intro _ _ h; cases h) (.inr ⟨_, _, _, rfl, rfl, rfl⟩) (fun _ xd => HV.fa fl27_2 rfl)) ?_
      refine Dr.read 17 _ 21 _ rfl rfl rfl rfl rfl (RV.of (by intro _ _ h; cases h) (.inr ⟨_, _, _, rfl, rfl, rfl⟩) (fun _ xd => HV.fa fl25_1 rfl)) ?_
      refine Dr.read 18 _ 22 _ rfl rfl rfl rfl rfl (RV.of (by intro _ _ h; cases h) (.inr ⟨_, _, _, rfl, rfl, rfl⟩) (fun _ xd => HV.ld rfl va2 (rdc_ext xd (cells_at ((Cells.part (i := 2) (vs := [.int .i64 p, .int .i64 k, v]) hc rfl).ext X7) rfl)))) ?_
      refine Dr.read 19 _ 23 _ rfl rfl rfl rfl rfl (RV.of (by intro _ _ h; cases h) (.inr ⟨_, _, _, rfl, rfl, rfl⟩) (fun _ xd => HV.lti rfl rfl)) ?_
      refine Dr.read 20 _ 24 _ rfl rfl rfl rfl rfl (RV.of (by intro _ _ h; cases h) (.inl rfl) (fun _ xd => HV.pickF rfl rfl)) ?_
      refine Dr.read 21 _ 25 _ rfl rfl rfl rfl rfl (RV.of (by intro _ _ h; cases h) (.inl rfl) (fun _ xd => HV.mv rfl)) ?_
      by_cases c9 : k < 1
      · -- true
        have c9_ : decide (k < 1) = true := decide_eq_true c9
        rw [c9_]
        refine Dr.read 22 _ 26 _ rfl rfl rfl rfl rfl (RV.off (by intro _ _ h; cases h) rfl rfl (by decide)) ?_
        refine Dr.read 23 _ 27 _ rfl rfl rfl rfl rfl (RV.off (by intro _ _ h; cases h) rfl rfl (by decide)) ?_
        refine Dr.read 24 _ 28 _ rfl rfl rfl rfl rfl (RV.off (by intro _ _ h; cases h) rfl rfl (by decide)) ?_
        refine Dr.read 25 _ 29 _ rfl rfl rfl rfl rfl (RV.off (by intro _ _ h; cases h) rfl rfl (by decide)) ?_
        refine Dr.read 26 _ 30 _ rfl rfl rfl rfl rfl (RV.off (by intro _ _ h; cases h) rfl rfl (by decide)) ?_
        refine Dr.read 27 _ 31 _ rfl rfl rfl rfl rfl (RV.off (by intro _ _ h; cases h) rfl rfl (by decide)) ?_
        refine Dr.read 28 _ 32 _ rfl rfl rfl rfl rfl (RV.off (by intro _ _ h; cases h) rfl rfl (by decide)) ?_
        refine Dr.read 29 _ 33 _ rfl rfl rfl rfl rfl (RV.off (by intro _ _ h; cases h) rfl rfl (by decide)) ?_
        refine Dr.read 30 _ 34 _ rfl rfl rfl rfl rfl (RV.off (by intro _ _ h; cases h) rfl rfl (by decide)) ?_
        refine Dr.read 31 _ 35 _ rfl rfl rfl rfl rfl (RV.off (by intro _ _ h; cases h) rfl rfl (by decide)) ?_
        refine Dr.read 32 _ 36 _ rfl rfl rfl rfl rfl (RV.off (by intro _ _ h; cases h) rfl rfl (by decide)) ?_
        refine Dr.read 33 _ 37 _ rfl rfl rfl rfl rfl (RV.off (by intro _ _ h; cases h) rfl rfl (by decide)) ?_
        refine Dr.read 34 _ 38 _ rfl rfl rfl rfl rfl (RV.of (by intro _ _ h; cases h) (.inl rfl) (fun _ xd => HV.pickT rfl rfl)) ?_
        refine Dr.fin rfl ?_
        refine nrm_and ?_
        refine AW.cond rfl (fun _ => ?_) (fun h => by cases h)
        refine AW.rs ?_
        refine AL.val rfl (.inl rfl) (HV.as rfl) ?_
        refine AL.nx ?_
        refine AW.ret ?_
        refine ret_and ?_
        refine post_one rfl rfl ?_ (.inr rfl)
        exact ⟨dec_f (fun h => by have h1 := h.1; have h2 := h.2.1; have h3 := h.2.2.1; have h4 := h.2.2.2.1; first | omega | contradiction), X7⟩
      · -- false
        have c9_ : decide (k < 1) = false := decide_eq_false c9
        rw [c9_]
        refine Dr.read 22 _ 26 _ rfl rfl rfl rfl rfl (RV.of (by intro _ _ h; cases h) (.inr ⟨_, _, _, rfl, rfl, rfl⟩) (fun _ xd => HV.mv rfl)) ?_
        refine Dr.read 23 _ 27 _ rfl rfl rfl rfl rfl (RV.of (by intro _ _ h; cases h) (.inr ⟨_, _, _, rfl, rfl, rfl⟩) (fun _ xd => HV.nc rfl)) ?_
        refine Dr.read 24 _ 28 _ rfl rfl rfl rfl rfl (RV.of (by intro _ _ h; cases h) (.inr ⟨_, _, _, rfl, rfl, rfl⟩) (fun _ xd => HV.fa fl27_1 rfl)) ?_
        refine Dr.read 25 _ 29 _ rfl rfl rfl rfl rfl (RV.of (by intro _ _ h; cases h) (.inr ⟨_, _, _, rfl, rfl, rfl⟩) (fun _ xd => HV.ld rfl va22 (rdc_ext xd (cells_at (hc.ext X7) rfl)))) ?_
        refine Dr.read 26 _ 30 _ rfl rfl rfl rfl rfl (RV.of (by intro _ _ h; cases h) (.inr ⟨_, _, _, rfl, rfl, rfl⟩) (fun _ xd => HV.len Tryd.underlying22 rfl ho.isSl)) ?_
        refine Dr.read 27 _ 31 _ rfl rfl rfl rfl rfl (RV.of (by intro _ _ h; cases h) (.inr ⟨_, _, _, rfl, rfl, rfl⟩) (fun _ xd => HV.mv rfl)) ?_
        refine Dr.read 28 _ 32 _ rfl rfl rfl rfl rfl (RV.of (by intro _ _ h; cases h) (.inr ⟨_, _, _, rfl, rfl, rfl⟩) (fun _ xd => HV.nc rfl)) ?_
        refine Dr.read 29 _ 33 _ rfl rfl rfl rfl rfl (RV.of (by intro _ _ h; cases h) (.inr ⟨_, _, _, rfl, rfl, rfl⟩) (fun _ xd => HV.fa fl27_2 rfl)) ?_
        refine Dr.read 30 _ 34 _ rfl rfl rfl rfl rfl (RV.of (by intro _ _ h; cases h) (.inr ⟨_, _, _, rfl, rfl, rfl⟩) (fun _ xd => HV.fa fl25_2 rfl)) ?_
        refine Dr.read 31 _ 35 _ rfl rfl rfl rfl rfl (RV.of (by intro _ _ h; cases h) (.inr ⟨_, _, _, rfl, rfl, rfl⟩) (fun _ xd => HV.ld rfl va23 (rdc_ext xd (cells_at ((Cells.part (i := 2) (vs := [.int .i64 p, .int .i64 k, v]) hc rfl).ext X7) rfl)))) ?_
        refine Dr.read 32 _ 36 _ rfl rfl rfl rfl rfl (RV.of (by intro _ _ h; cases h) (.inr ⟨_, _, _, rfl, rfl, rfl⟩) (fun _ xd => HV.len Tryd.underlying23 rfl hr.isSl)) ?_
        refine Dr.read 33 _ 37 _ rfl rfl rfl rfl rfl (RV.of (by intro _ _ h; cases h) (.inr ⟨_, _, _, rfl, rfl, rfl⟩) (fun _ xd => HV.nei rfl rfl)) ?_
        refine Dr.read 34 _ 38 _ rfl rfl rfl rfl rfl (RV.of (by intro _ _ h; cases h) (.inl rfl) (fun _ xd => HV.pickF rfl rfl)) ?_
        refine Dr.fin rfl ?_
        refine nrm_and ?_
        refine AW.ifd rfl (fun c11 => ?_) (fun c11 => ?_)
        · -- then
          refine AW.rs ?_
          refine AL.val rfl (.inl rfl) (HV.as rfl) ?_
          refine AL.nx ?_
          refine AW.ret ?_
          refine ret_and ?_
          refine post_one rfl rfl ?_ (.inr rfl)
          exact ⟨dec_f (fun h => by have h1 := h.1; have h2 := h.2.1; have h3 := h.2.2.1; have h4 := h.2.2.2.1; first | omega | contradiction), X7⟩
        · -- else
          refine AW.skip ?_
          refine nrm_and ?_
          refine AW.seq ?_
          refine AW.rs ?_
          refine AL.val rfl (.inl rfl) (HV.as rfl) ?_
          refine AL.nx ?_
          refine AW.block ?_
          have X12 := Ext.refl H5
          refine AW.loop (σ := Nat) (fun i => [(0, .pointer (some ad)), (3, .int .i64 (i : Int))]) (fun i H' => Ext H H' ∧ Ext H5 H' ∧ i ≤ o.length ∧ (∀ j, j < i → 0 ≤ o.getD j 0 ∧ o.getD j 0 ≤ n - 1) ∧ True) (fun i => o.length - i) 0 ⟨X7, X12, Nat.zero_le _, fun j hj => absurd hj (Nat.not_lt_zero _), trivial⟩ ⟨rfl, rfl, trivial⟩ ?_
          rintro i H13 ⟨X14, X15, hi, he, _⟩
          refine AW.seq ?_
          refine AW.rs ?_
          refine AL.val rfl (.inl rfl) (HV.mv rfl) ?_
          refine AL.val rfl (.inl rfl) (HV.mv rfl) ?_
          refine AL.val rfl (.inl rfl) (HV.nc rfl) ?_
          refine AL.val rfl (.inl rfl) (HV.fa fl27_1 rfl) ?_
          refine AL.val rfl (.inl rfl) (HV.ld rfl va22 (cells_at (hc.ext X14) rfl)) ?_
          refine AL.val rfl (.inl rfl) (HV.len Tryd.underlying22 rfl ho.isSl) ?_
          refine AL.val rfl (.inl rfl) (HV.lti rfl rfl) ?_
          refine AL.nx ?_
          refine AW.ifd rfl (fun c16 => ?_) (fun c16 => ?_)
          · -- then
            refine AW.skip ?_
            refine nrm_and ?_
            refine AW.seq ?_
            refine AW.block ?_
            refine AW.seq ?_
            refine AW.draw' [0, 1, 3, 7, 0, 31, 63, 0, 128, 384, 896, 1920, 4095, 8191] mixed (by rfl) ?_
            refine Dr.read 0 _ 48 _ rfl rfl rfl rfl rfl (RV.of (by intro _ _ h; cases h) (.inl rfl) (fun _ xd => HV.mv rfl)) ?_
            refine Dr.read 1 _ 49 _ rfl rfl rfl rfl rfl (RV.of (by intro _ _ h; cases h) (.inl rfl) (fun _ xd => HV.nc rfl)) ?_
            refine Dr.read 2 _ 50 _ rfl rfl rfl rfl rfl (RV.of (by intro _ _ h; cases h) (.inl rfl) (fun _ xd => HV.fa fl27_1 rfl)) ?_
            refine Dr.read 3 _ 51 _ rfl rfl rfl rfl rfl (RV.of (by intro _ _ h; cases h) (.inl rfl) (fun _ xd => HV.ld rfl va22 (rdc_ext xd (cells_at (hc.ext X14) rfl)))) ?_
            refine Dr.read 4 _ 52 _ rfl rfl rfl rfl rfl (RV.of (by intro _ _ h; cases h) (.inl rfl) (fun _ xd => HV.mv rfl)) ?_
            obtain ⟨p17, z18, cs19, hz20, hK21, hC22, hP23⟩ := RdK.ix (q := (i : Int)) ho sl22 (by omega) (by omega)
            obtain rfl : cs19 = [.int .i64 z18] := hK21
            refine Dr.read 5 _ 53 _ rfl rfl rfl rfl rfl (RV.of (by intro _ _ h; cases h) (.inl rfl) (fun _ xd => hP23 rfl rfl)) ?_
            refine Dr.read 6 _ 54 _ rfl rfl rfl rfl rfl (RV.of (by intro _ _ h; cases h) (.inl rfl) (fun _ xd => HV.ld rfl va2 (rdc_ext xd (cells_first (hC22.ext X14) rfl)))) ?_
            refine Dr.read 7 _ 55 _ rfl rfl rfl rfl rfl (RV.of (by intro _ _ h; cases h) (.inl rfl) (fun _ xd => HV.mv rfl)) ?_
            refine Dr.read 8 _ 56 _ rfl rfl rfl rfl rfl (RV.of (by intro _ _ h; cases h) (.inl rfl) (fun _ xd => HV.nc rfl)) ?_
            refine Dr.read 9 _ 57 _ rfl rfl rfl rfl rfl (RV.of (by intro _ _ h; cases h) (.inl rfl) (fun _ xd => HV.fa fl27_0 rfl)) ?_
            refine Dr.read 10 _ 58 _ rfl rfl rfl rfl rfl (RV.of (by intro _ _ h; cases h) (.inl rfl) (fun _ xd => HV.ld rfl va2 (rdc_ext xd (cells_first (hc.ext X14) rfl)))) ?_
            refine Dr.read 11 _ 59 _ rfl rfl rfl rfl rfl (RV.of (by intro _ _ h; cases h) (.inl rfl) (fun _ xd => HV.sub rfl rfl (by omega))) ?_
            refine Dr.eff 12 _ _ rfl (by intro d h; cases h; exact ⟨rfl, rfl⟩) rfl rfl rfl (EC.of (by intro _ _ h; cases h) (.inl rfl) (WV.call fn24 rfl (l00In_ok (W := W) z18 0 (n - 1)))) (fun v H' h => .inl (h.2)) ?_
            rintro _ H24 ⟨rfl, hx25⟩
            have X26 := Ext.trans X14 hx25
            have X27 := Ext.trans X15 hx25
            refine Dr.read 13 _ 61 _ rfl rfl rfl rfl rfl (RV.of (by intro _ _ h; cases h) (.inl rfl) (fun _ xd => HV.not rfl)) ?_
            refine Dr.fin rfl ?_
            refine nrm_and ?_
            refine AW.ifn rfl (fun c28 => ?_) (fun c28 => ?_)
            · -- then
              refine AW.rs ?_
              refine AL.val rfl (.inl rfl) (HV.as rfl) ?_
              refine AL.nx ?_
              refine AW.ret ?_
              refine ret_blk (ret_and (ret_and (ret_blk (ret_and ?_))))
              refine post_one rfl rfl ?_ (.inr rfl)
              exact ⟨dec_f (fun h => absurd (h.2.2.2.2 _ (List.mem_of_getElem? hz20)) c28), X26⟩
            · -- else
              refine AW.skip ?_
              refine nrm_blk (nrm_and ?_)
              refine AW.reg ?_
              refine AL.val rfl (.inl rfl) (HV.mv rfl) ?_
              refine AL.val rfl (.inl rfl) (HV.add rfl rfl (by omega)) ?_
              refine AL.val rfl (.inl rfl) (HV.as rfl) ?_
              refine AL.nil ?_
              refine nrm_and ?_
              exact ⟨i + 1, ⟨X26, X27, by omega, fun j hj => by
      rcases Nat.lt_or_ge j i with h1 | h1
      · exact he j h1
      · obtain rfl : j = i := by omega
        have g54 : o.getD j 0 = z18 := gd hz20 (by omega); rw [g54]; exact c28, trivial⟩, by first | omega | (dsimp only; omega), ⟨rfl, rfl, trivial⟩⟩
          · -- else
            refine AW.exit ?_
            refine ex_and (ex_and (ex_blk ?_))
            refine nrm_and ?_
            refine AW.rs ?_
            refine AL.val rfl (.inl rfl) (HV.as rfl) ?_
            refine AL.nx ?_
            refine AW.ret ?_
            refine post_one rfl rfl ?_ (.inr rfl)
            exact ⟨dec_t ⟨by assumption, by assumption, by omega, by omega, fun x hx => by obtain ⟨j, hj, rfl⟩ := mem_getD (d := 0) hx; exact he j (by omega)⟩, X14⟩
    · -- true
      have c8_ : (!decide (okMx p k l)) = true := by rw [decide_eq_false c8]; rfl
      rw [c8_]
      refine Dr.read 14 _ 18 _ rfl rfl rfl rfl rfl (RV.off (by intro _ _ h; cases h) rfl rfl (by decide)) ?_
      refine Dr.read 15 _ 19 _ rfl rfl rfl rfl rfl (RV.off (by intro _ _ h; cases h) rfl rfl (by decide)) ?_
      refine Dr.read 16 _ 20 _ rfl rfl rfl rfl rfl (RV.off (by intro _ _ h; cases h) rfl rfl (by decide)) ?_
      refine Dr.read 17 _ 21 _ rfl rfl rfl rfl rfl (RV.off (by intro _ _ h; cases h) rfl rfl (by decide)) ?_
      refine Dr.read 18 _ 22 _ rfl rfl rfl rfl rfl (RV.off (by intro _ _ h; cases h) rfl rfl (by decide)) ?_
      refine Dr.read 19 _ 23 _ rfl rfl rfl rfl rfl (RV.off (by intro _ _ h; cases h) rfl rfl (by decide)) ?_
      refine Dr.read 20 _ 24 _ rfl rfl rfl rfl rfl (RV.of (by intro _ _ h; cases h) (.inl rfl) (fun _ xd => HV.pickT rfl rfl)) ?_
      refine Dr.read 21 _ 25 _ rfl rfl rfl rfl rfl (RV.of (by intro _ _ h; cases h) (.inl rfl) (fun _ xd => HV.mv rfl)) ?_
      refine Dr.read 22 _ 26 _ rfl rfl rfl rfl rfl (RV.off (by intro _ _ h; cases h) rfl rfl (by decide)) ?_
      refine Dr.read 23 _ 27 _ rfl rfl rfl rfl rfl (RV.off (by intro _ _ h; cases h) rfl rfl (by decide)) ?_
      refine Dr.read 24 _ 28 _ rfl rfl rfl rfl rfl (RV.off (by intro _ _ h; cases h) rfl rfl (by decide)) ?_
      refine Dr.read 25 _ 29 _ rfl rfl rfl rfl rfl (RV.off (by intro _ _ h; cases h) rfl rfl (by decide)) ?_
      refine Dr.read 26 _ 30 _ rfl rfl rfl rfl rfl (RV.off (by intro _ _ h; cases h) rfl rfl (by decide)) ?_
      refine Dr.read 27 _ 31 _ rfl rfl rfl rfl rfl (RV.off (by intro _ _ h; cases h) rfl rfl (by decide)) ?_
      refine Dr.read 28 _ 32 _ rfl rfl rfl rfl rfl (RV.off (by intro _ _ h; cases h) rfl rfl (by decide)) ?_
      refine Dr.read 29 _ 33 _ rfl rfl rfl rfl rfl (RV.off (by intro _ _ h; cases h) rfl rfl (by decide)) ?_
      refine Dr.read 30 _ 34 _ rfl rfl rfl rfl rfl (RV.off (by intro _ _ h; cases h) rfl rfl (by decide)) ?_
      refine Dr.read 31 _ 35 _ rfl rfl rfl rfl rfl (RV.off (by intro _ _ h; cases h) rfl rfl (by decide)) ?_
      refine Dr.read 32 _ 36 _ rfl rfl rfl rfl rfl (RV.off (by intro _ _ h; cases h) rfl rfl (by decide)) ?_
      refine Dr.read 33 _ 37 _ rfl rfl rfl rfl rfl (RV.off (by intro _ _ h; cases h) rfl rfl (by decide)) ?_
      refine Dr.read 34 _ 38 _ rfl rfl rfl rfl rfl (RV.of (by intro _ _ h; cases h) (.inl rfl) (fun _ xd => HV.pickT rfl rfl)) ?_
      refine Dr.fin rfl ?_
      refine nrm_and ?_
      refine AW.cond rfl (fun _ => ?_) (fun h => by cases h)
      refine AW.rs ?_
      refine AL.val rfl (.inl rfl) (HV.as rfl) ?_
      refine AL.nx ?_
      refine AW.ret ?_
      refine ret_and ?_
      refine post_one rfl rfl ?_ (.inr rfl)
      exact ⟨dec_f (fun h => by have h1 := h.1; have h2 := h.2.1; have h3 := h.2.2.1; have h4 := h.2.2.2.1; first | omega | contradiction), X7⟩
  · -- true
    have c4_ : (!decide (1 ≤ n ∧ n ≤ 7)) = true := by rw [decide_eq_false c4]; rfl
    rw [c4_]
    refine Dr.read 7 _ 11 _ rfl rfl rfl rfl rfl (RV.off (by intro _ _ h; cases h) rfl rfl (by decide)) ?_
    refine Dr.read 8 _ 12 _ rfl rfl rfl rfl rfl (RV.off (by intro _ _ h; cases h) rfl rfl (by decide)) ?_
    refine Dr.read 9 _ 13 _ rfl rfl rfl rfl rfl (RV.off (by intro _ _ h; cases h) rfl rfl (by decide)) ?_
    refine Dr.read 10 _ 14 _ rfl rfl rfl rfl rfl (RV.off (by intro _ _ h; cases h) rfl rfl (by decide)) ?_
    refine Dr.read 11 _ 15 _ rfl rfl rfl rfl rfl (RV.off (by intro _ _ h; cases h) rfl rfl (by decide)) ?_
    refine Dr.read 12 _ 16 _ rfl rfl rfl rfl rfl (RV.of (by intro _ _ h; cases h) (.inl rfl) (fun _ xd => HV.pickT rfl rfl)) ?_
    refine Dr.read 13 _ 17 _ rfl rfl rfl rfl rfl (RV.of (by intro _ _ h; cases h) (.inl rfl) (fun _ xd => HV.mv rfl)) ?_
    refine Dr.read 14 _ 18 _ rfl rfl rfl rfl rfl (RV.off (by intro _ _ h; cases h) rfl rfl (by decide)) ?_
    refine Dr.read 15 _ 19 _ rfl rfl rfl rfl rfl (RV.off (by intro _ _ h; cases h) rfl rfl (by decide)) ?_
    refine Dr.read 16 _ 20 _ rfl rfl rfl rfl rfl (RV.off (by intro _ _ h; cases h) rfl rfl (by decide)) ?_
    refine Dr.read 17 _ 21 _ rfl rfl rfl rfl rfl (RV.off (by intro _ _ h; cases h) rfl rfl (by decide)) ?_
    refine Dr.read 18 _ 22 _ rfl rfl rfl rfl rfl (RV.off (by intro _ _ h; cases h) rfl rfl (by decide)) ?_
    refine Dr.read 19 _ 23 _ rfl rfl rfl rfl rfl (RV.off (by intro _ _ h; cases h) rfl rfl (by decide)) ?_
    refine Dr.read 20 _ 24 _ rfl rfl rfl rfl rfl (RV.of (by intro _ _ h; cases h) (.inl rfl) (fun _ xd => HV.pickT rfl rfl)) ?_
    refine Dr.read 21 _ 25 _ rfl rfl rfl rfl rfl (RV.of (by intro _ _ h; cases h) (.inl rfl) (fun _ xd => HV.mv rfl)) ?_
    refine Dr.read 22 _ 26 _ rfl rfl rfl rfl rfl (RV.off (by intro _ _ h; cases h) rfl rfl (by decide)) ?_
    refine Dr.read 23 _ 27 _ rfl rfl rfl rfl rfl (RV.off (by intro _ _ h; cases h) rfl rfl (by decide)) ?_
    refine Dr.read 24 _ 28 _ rfl rfl rfl rfl rfl (RV.off (by intro _ _ h; cases h) rfl rfl (by decide)) ?_
    refine Dr.read 25 _ 29 _ rfl rfl rfl rfl rfl (RV.off (by intro _ _ h; cases h) rfl rfl (by decide)) ?_
    refine Dr.read 26 _ 30 _ rfl rfl rfl rfl rfl (RV.off (by intro _ _ h; cases h) rfl rfl (by decide)) ?_
    refine Dr.read 27 _ 31 _ rfl rfl rfl rfl rfl (RV.off (by intro _ _ h; cases h) rfl rfl (by decide)) ?_
    refine Dr.read 28 _ 32 _ rfl rfl rfl rfl rfl (RV.off (by intro _ _ h; cases h) rfl rfl (by decide)) ?_
    refine Dr.read 29 _ 33 _ rfl rfl rfl rfl rfl (RV.off (by intro _ _ h; cases h) rfl rfl (by decide)) ?_
    refine Dr.read 30 _ 34 _ rfl rfl rfl rfl rfl (RV.off (by intro _ _ h; cases h) rfl rfl (by decide)) ?_
    refine Dr.read 31 _ 35 _ rfl rfl rfl rfl rfl (RV.off (by intro _ _ h; cases h) rfl rfl (by decide)) ?_
    refine Dr.read 32 _ 36 _ rfl rfl rfl rfl rfl (RV.off (by intro _ _ h; cases h) rfl rfl (by decide)) ?_
    refine Dr.read 33 _ 37 _ rfl rfl rfl rfl rfl (RV.off (by intro _ _ h; cases h) rfl rfl (by decide)) ?_
    refine Dr.read 34 _ 38 _ rfl rfl rfl rfl rfl (RV.of (by intro _ _ h; cases h) (.inl rfl) (fun _ xd => HV.pickT rfl rfl)) ?_
    refine Dr.fin rfl ?_
    refine nrm_and ?_
    refine AW.cond rfl (fun _ => ?_) (fun h => by cases h)
    refine AW.rs ?_
    refine AL.val rfl (.inl rfl) (HV.as rfl) ?_
    refine AL.nx ?_
    refine AW.ret ?_
    refine ret_and ?_
    refine post_one rfl rfl ?_ (.inr rfl)
    exact ⟨dec_f (fun h => by have h1 := h.1; have h2 := h.2.1; have h3 := h.2.2.1; have h4 := h.2.2.2.1; first | omega | contradiction), X3⟩

set_option maxRecDepth 100000 in
theorem vm1_ok {b : Nat} {v : Value} {l : List (List Int)} {ok : Nat → Prop} {p k : Int} (hb : At W H b ⟨25, [.int .i64 p, .int .i64 k, v], 3⟩) (hr : RdK (kR kI) W H ok v l) (hpr : primeI p) {vx : Value} {x : List Int} {okx : Nat → Prop} (hx : RdK kI W H okx vx x) : ACalls Tryd.prog W 59 #[vx, .pointer (some ⟨b, 0, none⟩)] H (fun r H' => r = .bool (!decide (elems p x ∧ (x.length : Int) = k)) ∧ Ext H H') := by
  refine ACalls.of (args := [vx, .pointer (some ⟨b, 0, none⟩)]) Tryd.func59 rfl rfl ?_
  have X0 := Ext.refl H
  have hm1 := hx.max
  refine AW.rs ?_
  refine AL.val rfl (.inl rfl) (HV.as rfl) ?_
  refine AL.nx ?_
  refine AW.rs ?_
  refine AL.val rfl (.inl rfl) (HV.mv rfl) ?_
  refine AL.val rfl (.inl rfl) (HV.len Tryd.underlying22 rfl hx.isSl) ?_
  refine AL.val rfl (.inl rfl) (HV.fa fl25_1 rfl) ?_
  refine AL.val rfl (.inl rfl) (HV.ld rfl va2 (at_cell_add (j := 1) hb rfl)) ?_
  refine AL.val rfl (.inl rfl) (HV.nei rfl rfl) ?_
  refine AL.val rfl (.inl rfl) (HV.mv rfl) ?_
  by_cases c2 : (x.length : Int) ≠ k
  · -- true
    have c2_ : decide ((x.length : Int) ≠ k) = true := decide_eq_true c2
    rw [c2_]
    refine AL.off rfl rfl (by decide) rfl ?_
    refine AL.off rfl rfl (by decide) rfl ?_
    refine AL.off rfl rfl (by decide) rfl ?_
    refine AL.off rfl rfl (by decide) rfl ?_
    refine AL.off rfl rfl (by decide) rfl ?_
    refine AL.val rfl (.inl rfl) (HV.pickT rfl rfl) ?_
    refine AL.val rfl (.inl rfl) (HV.as rfl) ?_
    refine AL.nx ?_
    refine AW.ret ?_
    refine post_one rfl rfl ?_ (.inr rfl)
    exact ⟨by rw [decide_eq_false (fun h => c2 h.2)]; rfl, X0⟩
  · -- false
    have c2_ : decide ((x.length : Int) ≠ k) = false := decide_eq_false c2
    rw [c2_]
    refine AL.val rfl (.inr ⟨_, _, _, rfl, rfl, rfl⟩) (HV.fa fl25_0 rfl) ?_
    refine AL.val rfl (.inr ⟨_, _, _, rfl, rfl, rfl⟩) (HV.ld rfl va2 (at_cell hb rfl)) ?_
    refine AL.val rfl (.inr ⟨_, _, _, rfl, rfl, rfl⟩) (HV.mv rfl) ?_
    refine AL.w rfl (.inr ⟨_, _, _, rfl, rfl, rfl⟩) (WV.call fn60 rfl (areEl_ok p hx)) ?_
    rintro _ H3 ⟨rfl, hx4⟩
    have X5 := Ext.trans X0 hx4
    have hb6 := hb.ext hx4
    refine AL.val rfl (.inr ⟨_, _, _, rfl, rfl, rfl⟩) (HV.not rfl) ?_
    refine AL.val rfl (.inl rfl) (HV.pickF rfl rfl) ?_
    refine AL.val rfl (.inl rfl) (HV.as rfl) ?_
    refine AL.nx ?_
    refine AW.ret ?_
    refine post_one rfl rfl ?_ (.inr rfl)
    exact ⟨congrArg (fun z => Value.bool (!z)) (decide_eq_decide.2 ⟨fun h => ⟨h.2, by omega⟩, fun h => ⟨hpr, h.1⟩⟩), X5⟩

set_option maxRecDepth 100000 in
theorem vs1_ok {b : Nat} {vo v : Value} {o : List Int} {l : List (List Int)} {oko ok : Nat → Prop} {n p k : Int} (hb : At W H b ⟨27, [.int .i64 n, vo, .int .i64 p, .int .i64 k, v], 5⟩) (ho : RdK kI W H oko vo o) (hr : RdK (kR kI) W H ok v l) (hn : 1 ≤ n ∧ n ≤ 7) (x : Int) : ACalls Tryd.prog W 46 #[.int .i64 x, .pointer (some ⟨b, 0, none⟩)] H (fun r H' => r = .bool (!decide (0 ≤ x ∧ x ≤ n - 1)) ∧ Ext H H') := by
  refine ACalls.of (args := [.int .i64 x, .pointer (some ⟨b, 0, none⟩)]) Tryd.func46 rfl rfl ?_
  have X0 := Ext.refl H
  refine AW.rs ?_
  refine AL.val rfl (.inl rfl) (HV.as rfl) ?_
  refine AL.nx ?_
  refine AW.rs ?_
  refine AL.val rfl (.inl rfl) (HV.mv rfl) ?_
  refine AL.val rfl (.inl rfl) (HV.fa fl27_0 rfl) ?_
  refine AL.val rfl (.inl rfl) (HV.ld rfl va2 (at_cell hb rfl)) ?_
  refine AL.val rfl (.inl rfl) (HV.sub rfl rfl (by omega)) ?_
  refine AL.w rfl (.inl rfl) (WV.call fn43 rfl (within_ok (W := W) x 0 (n - 1))) ?_
  rintro _ H1 ⟨rfl, hx2⟩
  have X3 := Ext.trans X0 hx2
  have hb4 := hb.ext hx2
  refine AL.val rfl (.inl rfl) (HV.not rfl) ?_
  refine AL.val rfl (.inl rfl) (HV.as rfl) ?_
  refine AL.nx ?_
  refine AW.ret ?_
  refine post_one rfl rfl ?_ (.inr rfl)
  exact ⟨rfl, X3⟩

set_option maxRecDepth 100000 in
theorem ixM_ok {b : Nat} {v : Value} {l : List (List Int)} {ok : Nat → Prop} {p k : Int} (hb : At W H b ⟨25, [.int .i64 p, .int .i64 k, v], 3⟩) (hr : RdK (kR kI) W H ok v l) (hpr : primeI p) {vm : Value} {m : List (List Int)} {okm : Nat → Prop} (hm : RdK (kR kI) W H okm vm m) : ACalls Tryd.prog W 73 #[vm, (.func (.func 59) #[] #[.pointer (some ⟨b, 0, none⟩)])] H (fun r H' => (∃ i : Int, r = .int .i64 i ∧ (0 ≤ i ↔ ¬ ∀ x ∈ m, elems p x ∧ (x.length : Int) = k)) ∧ Ext H H') := by
  refine ACalls.of (args := [vm, (.func (.func 59) #[] #[.pointer (some ⟨b, 0, none⟩)])]) Tryd.func73 rfl rfl ?_
  have X0 := Ext.refl H
  have hm1 := hm.max
  refine AW.rs ?_
  refine AL.val rfl (.inl rfl) (HV.as rfl) ?_
  refine AL.nx ?_
  refine AW.seq ?_
  refine AW.rs ?_
  refine AL.val rfl (.inl rfl) (HV.mv rfl) ?_
  refine AL.val rfl (.inl rfl) (HV.len Tryd.underlying23 rfl hm.isSl) ?_
  refine AL.val rfl (.inl rfl) (HV.mv rfl) ?_
  refine AL.nx ?_
  refine AW.block ?_
  refine AW.loop (σ := Nat) (fun i => [(0, vm), (1, (.func (.func 59) #[] #[.pointer (some ⟨b, 0, none⟩)])), (7, .int .i64 (m.length : Int)), (8, .int .i64 (i : Int))]) (fun i H' => Ext H H' ∧ At W H' b ⟨25, [.int .i64 p, .int .i64 k, v], 3⟩ ∧ i ≤ m.length ∧ (∀ j, j < i → elems p (m.getD j []) ∧ ((m.getD j []).length : Int) = k) ∧ True) (fun i => m.length - i) 0 ⟨X0, hb, Nat.zero_le _, fun j hj => absurd hj (Nat.not_lt_zero _), trivial⟩ ⟨rfl, rfl, rfl, rfl, trivial⟩ ?_
  rintro i H2 ⟨X3, hb4, hi, he, _⟩
  refine AW.rs ?_
  refine AL.val rfl (.inl rfl) (HV.lti rfl rfl) ?_
  refine AL.nx ?_
  refine AW.seq ?_
  refine AW.ifd rfl (fun c5 => ?_) (fun c5 => ?_)
  · -- then
    refine AW.skip ?_
    refine nrm_and ?_
    refine AW.seq ?_
    refine AW.block ?_
    refine AW.rs ?_
    refine AL.val rfl (.inl rfl) (HV.mv rfl) ?_
    refine AL.val rfl (.inl rfl) (HV.as rfl) ?_
    refine AL.nx ?_
    refine AW.rs ?_
    refine AL.val rfl (.inl rfl) (HV.mv rfl) ?_
    refine AL.val rfl (.inl rfl) (HV.mv rfl) ?_
    refine AL.val rfl (.inl rfl) (HV.mv rfl) ?_
    obtain ⟨p6, z7, cs8, hz9, hK10, hC11, hP12⟩ := RdK.ix (q := (i : Int)) hm sl23 (by omega) (by omega)
    obtain ⟨v13, rfl, hr14⟩ := hK10
    have hm15 := hr14.max
    refine AL.val rfl (.inl rfl) (hP12 rfl rfl) ?_
    refine AL.val rfl (.inl rfl) (HV.ld rfl va22 (cells_first (hC11.ext X3) rfl)) ?_
    refine AL.w rfl (.inl rfl) (WV.callv fn59 rfl rfl (vm1_ok hb4 (hr.ext X3) hpr (hr14.ext X3))) ?_
    rintro _ H16 ⟨rfl, hx17⟩
    have X18 := Ext.trans X3 hx17
    have hb19 := hb4.ext hx17
    refine AL.nx ?_
    refine AW.ifn rfl (fun c20 => ?_) (fun c20 => ?_)
    · -- then
      refine AW.rs ?_
      refine AL.val rfl (.inl rfl) (HV.mv rfl) ?_
      refine AL.val rfl (.inl rfl) (HV.as rfl) ?_
      refine AL.nx ?_
      refine AW.ret ?_
      refine ret_blk (ret_and (ret_and (ret_blk (ret_and ?_))))
      refine post_one rfl rfl ?_ (.inr rfl)
      exact ⟨⟨_, rfl, fun _ q => c20 (q _ (List.mem_of_getElem? hz9)), fun _ => by omega⟩, X18⟩
    · -- else
      refine AW.skip ?_
      refine nrm_blk (nrm_and ?_)
      refine AW.reg ?_
      refine AL.val rfl (.inl rfl) (HV.add rfl rfl (by omega)) ?_
      refine AL.val rfl (.inl rfl) (HV.mv rfl) ?_
      refine AL.nil ?_
      refine nrm_and ?_
      exact ⟨i + 1, ⟨X18, hb19, by omega, fun j hj => by
      rcases Nat.lt_or_ge j i with h1 | h1
      · exact he j h1
      · obtain rfl : j = i := by omega
        have g15 : m.getD j [] = z7 := gd hz9 (by omega); rw [g15]; exact c20, trivial⟩, by first | omega | (dsimp only; omega), ⟨rfl, rfl, rfl, rfl, trivial⟩⟩
  · -- else
    refine AW.exit ?_
    refine ex_and (ex_and (ex_blk ?_))
    refine nrm_and ?_
    refine AW.rs ?_
    refine AL.val rfl (.inl rfl) (HV.as rfl) ?_
    refine AL.nx ?_
    refine AW.ret ?_
    refine post_one rfl rfl ?_ (.inr rfl)
    exact ⟨⟨_, rfl, fun q => absurd q (by decide), fun q => absurd (fun x hx => by obtain ⟨j, hj, rfl⟩ := mem_getD (d := []) hx; exact he j (by omega)) q⟩, X3⟩

set_option maxRecDepth 100000 in
theorem coM_ok {b : Nat} {v : Value} {l : List (List Int)} {ok : Nat → Prop} {p k : Int} (hb : At W H b ⟨25, [.int .i64 p, .int .i64 k, v], 3⟩) (hr : RdK (kR kI) W H ok v l) (hpr : primeI p) {vm : Value} {m : List (List Int)} {okm : Nat → Prop} (hm : RdK (kR kI) W H okm vm m) : ACalls Tryd.prog W 58 #[vm, (.func (.func 59) #[] #[.pointer (some ⟨b, 0, none⟩)])] H (fun r H' => r = .bool (decide (¬ ∀ x ∈ m, elems p x ∧ (x.length : Int) = k)) ∧ Ext H H') := by
  refine ACalls.of (args := [vm, (.func (.func 59) #[] #[.pointer (some ⟨b, 0, none⟩)])]) Tryd.func58 rfl rfl ?_
  have X0 := Ext.refl H
  have hm1 := hm.max
  refine AW.rs ?_
  refine AL.val rfl (.inl rfl) (HV.as rfl) ?_
  refine AL.nx ?_
  refine AW.rs ?_
  refine AL.val rfl (.inl rfl) (HV.mv rfl) ?_
  refine AL.val rfl (.inl rfl) (HV.mv rfl) ?_
  refine AL.w rfl (.inl rfl) (WV.call fn73 rfl (ixM_ok hb hr hpr hm)) ?_
  rintro _ H2 ⟨⟨q4, rfl, he5⟩, hx3⟩
  have X6 := Ext.trans X0 hx3
  have hb7 := hb.ext hx3
  refine AL.val rfl (.inl rfl) (HV.gei rfl rfl) ?_
  refine AL.val rfl (.inl rfl) (HV.as rfl) ?_
  refine AL.nx ?_
  refine AW.ret ?_
  refine post_one rfl rfl ?_ (.inr rfl)
  exact ⟨congrArg Value.bool (decide_eq_decide.2 he5), X6⟩

set_option maxRecDepth 100000 in
theorem ixO_ok {b : Nat} {vo v : Value} {o : List Int} {l : List (List Int)} {oko ok : Nat → Prop} {n p k : Int} (hb : At W H b ⟨27, [.int .i64 n, vo, .int .i64 p, .int .i64 k, v], 5⟩) (ho : RdK kI W H oko vo o) (hr : RdK (kR kI) W H ok v l) (hn : 1 ≤ n ∧ n ≤ 7) {vm : Value} {m : List Int} {okm : Nat → Prop} (hm : RdK kI W H okm vm m) : ACalls Tryd.prog W 61 #[vm, (.func (.func 46) #[] #[.pointer (some ⟨b, 0, none⟩)])] H (fun r H' => (∃ i : Int, r = .int .i64 i ∧ (0 ≤ i ↔ ¬ ∀ x ∈ m, 0 ≤ x ∧ x ≤ n - 1)) ∧ Ext H H') := by
  refine ACalls.of (args := [vm, (.func (.func 46) #[] #[.pointer (some ⟨b, 0, none⟩)])]) Tryd.func61 rfl rfl ?_
  have X0 := Ext.refl H
  have hm1 := hm.max
  refine AW.rs ?_
  refine AL.val rfl (.inl rfl) (HV.as rfl) ?_
  refine AL.nx ?_
  refine AW.seq ?_
  refine AW.rs ?_
  refine AL.val rfl (.inl rfl) (HV.mv rfl) ?_
  refine AL.val rfl (.inl rfl) (HV.len Tryd.underlying22 rfl hm.isSl) ?_
  refine AL.val rfl (.inl rfl) (HV.mv rfl) ?_
  refine AL.nx ?_
  refine AW.block ?_
  refine AW.loop (σ := Nat) (fun i => [(0, vm), (1, (.func (.func 46) #[] #[.pointer (some ⟨b, 0, none⟩)])), (7, .int .i64 (m.length : Int)), (8, .int .i64 (i : Int))]) (fun i H' => Ext H H' ∧ At W H' b ⟨27, [.int .i64 n, vo, .int .i64 p, .int .i64 k, v], 5⟩ ∧ i ≤ m.length ∧ (∀ j, j < i → 0 ≤ m.getD j 0 ∧ m.getD j 0 ≤ n - 1) ∧ True) (fun i => m.length - i) 0 ⟨X0, hb, Nat.zero_le _, fun j hj => absurd hj (Nat.not_lt_zero _), trivial⟩ ⟨rfl, rfl, rfl, rfl, trivial⟩ ?_
  rintro i H2 ⟨X3, hb4, hi, he, _⟩
  refine AW.rs ?_
  refine AL.val rfl (.inl rfl) (HV.lti rfl rfl) ?_
  refine AL.nx ?_
  refine AW.seq ?_
  refine AW.ifd rfl (fun c5 => ?_) (fun c5 => ?_)
  · -- then
    refine AW.skip ?_
    refine nrm_and ?_
    refine AW.seq ?_
    refine AW.block ?_
    refine AW.rs ?_
    refine AL.val rfl (.inl rfl) (HV.mv rfl) ?_
    refine AL.val rfl (.inl rfl) (HV.as rfl) ?_
    refine AL.nx ?_
    refine AW.rs ?_
    refine AL.val rfl (.inl rfl) (HV.mv rfl) ?_
    refine AL.val rfl (.inl rfl) (HV.mv rfl) ?_
    refine AL.val rfl (.inl rfl) (HV.mv rfl) ?_
    obtain ⟨p6, z7, cs8, hz9, hK10, hC11, hP12⟩ := RdK.ix (q := (i : Int)) hm sl22 (by omega) (by omega)
    obtain rfl : cs8 = [.int .i64 z7] := hK10
    refine AL.val rfl (.inl rfl) (hP12 rfl rfl) ?_
    refine AL.val rfl (.inl rfl) (HV.ld rfl va2 (cells_first (hC11.ext X3) rfl)) ?_
    refine AL.w rfl (.inl rfl) (WV.callv fn46 rfl rfl (vs1_ok hb4 (ho.ext X3) (hr.ext X3) hn z7)) ?_
    rintro _ H13 ⟨rfl, hx14⟩
    have X15 := Ext.trans X3 hx14
    have hb16 := hb4.ext hx14
    refine AL.nx ?_
    refine AW.ifn rfl (fun c17 => ?_) (fun c17 => ?_)
    · -- then
      refine AW.rs ?_
      refine AL.val rfl (.inl rfl) (HV.mv rfl) ?_
      refine AL.val rfl (.inl rfl) (HV.as rfl) ?_
      refine AL.nx ?_
      refine AW.ret ?_
      refine ret_blk (ret_and (ret_and (ret_blk (ret_and ?_))))
      refine post_one rfl rfl ?_ (.inr rfl)
      exact ⟨⟨_, rfl, fun _ q => c17 (q _ (List.mem_of_getElem? hz9)), fun _ => by omega⟩, X15⟩
    · -- else
      refine AW.skip ?_
      refine nrm_blk (nrm_and ?_)
      refine AW.reg ?_
      refine AL.val rfl (.inl rfl) (HV.add rfl rfl (by omega)) ?_
      refine AL.val rfl (.inl rfl) (HV.mv rfl) ?_
      refine AL.nil ?_
      refine nrm_and ?_
      exact ⟨i + 1, ⟨X15, hb16, by omega, fun j hj => by
      rcases Nat.lt_or_ge j i with h1 | h1
      · exact he j h1
      · obtain rfl : j = i := by omega
        have g15 : m.getD j 0 = z7 := gd hz9 (by omega); rw [g15]; exact c17, trivial⟩, by first | omega | (dsimp only; omega), ⟨rfl, rfl, rfl, rfl, trivial⟩⟩
  · -- else
    refine AW.exit ?_
    refine ex_and (ex_and (ex_blk ?_))
    refine nrm_and ?_
    refine AW.rs ?_
    refine AL.val rfl (.inl rfl) (HV.as rfl) ?_
    refine AL.nx ?_
    refine AW.ret ?_
    refine post_one rfl rfl ?_ (.inr rfl)
    exact ⟨⟨_, rfl, fun q => absurd q (by decide), fun q => absurd (fun x hx => by obtain ⟨j, hj, rfl⟩ := mem_getD (d := 0) hx; exact he j (by omega)) q⟩, X3⟩

set_option maxRecDepth 100000 in
theorem coO_ok {b : Nat} {vo v : Value} {o : List Int} {l : List (List Int)} {oko ok : Nat → Prop} {n p k : Int} (hb : At W H b ⟨27, [.int .i64 n, vo, .int .i64 p, .int .i64 k, v], 5⟩) (ho : RdK kI W H oko vo o) (hr : RdK (kR kI) W H ok v l) (hn : 1 ≤ n ∧ n ≤ 7) {vm : Value} {m : List Int} {okm : Nat → Prop} (hm : RdK kI W H okm vm m) : ACalls Tryd.prog W 45 #[vm, (.func (.func 46) #[] #[.pointer (some ⟨b, 0, none⟩)])] H (fun r H' => r = .bool (decide (¬ ∀ x ∈ m, 0 ≤ x ∧ x ≤ n - 1)) ∧ Ext H H') := by
  refine ACalls.of (args := [vm, (.func (.func 46) #[] #[.pointer (some ⟨b, 0, none⟩)])]) Tryd.func45 rfl rfl ?_
  have X0 := Ext.refl H
  have hm1 := hm.max
  refine AW.rs ?_
  refine AL.val rfl (.inl rfl) (HV.as rfl) ?_
  refine AL.nx ?_
  refine AW.rs ?_
  refine AL.val rfl (.inl rfl) (HV.mv rfl) ?_
  refine AL.val rfl (.inl rfl) (HV.mv rfl) ?_
  refine AL.w rfl (.inl rfl) (WV.call fn61 rfl (ixO_ok hb ho hr hn hm)) ?_
  rintro _ H2 ⟨⟨q4, rfl, he5⟩, hx3⟩
  have X6 := Ext.trans X0 hx3
  have hb7 := hb.ext hx3
  refine AL.val rfl (.inl rfl) (HV.gei rfl rfl) ?_
  refine AL.val rfl (.inl rfl) (HV.as rfl) ?_
  refine AL.nx ?_
  refine AW.ret ?_
  refine post_one rfl rfl ?_ (.inr rfl)
  exact ⟨congrArg Value.bool (decide_eq_decide.2 he5), X6⟩

set_option maxRecDepth 100000 in
theorem ValidM_ok {v : Value} {l : List (List Int)} {ok : Nat → Prop} (p k : Int) (hr : RdK (kR kI) W H ok v l) : ACalls Tryd.prog W 44 #[.agg #[.int .i64 p, .int .i64 k, v]] H (fun r H' => r = .bool (decide (okMx p k l)) ∧ Ext H H') := by
  refine ACalls.of (args := [.agg #[.int .i64 p, .int .i64 k, v]]) Tryd.func44 rfl rfl ?_
  have X0 := Ext.refl H
  have hm1 := hr.max
  refine AW.rs ?_
  refine AL.w rfl (.inl rfl) (WV.bx rfl rfl) ?_
  rintro _ H3 ⟨b2, rfl, hx4, hn5, hb6⟩
  have o7 := Nat.le_trans X0.bd hn5
  have X8 := Ext.trans X0 hx4
  have X9 := Ext.refl H3
  refine AL.val rfl (.inl rfl) (HV.as rfl) ?_
  refine AL.nx ?_
  refine AW.rs ?_
  refine AL.val rfl (.inl rfl) (HV.fa fl25_0 rfl) ?_
  refine AL.val rfl (.inl rfl) (HV.ld rfl va2 (at_cell hb6 rfl)) ?_
  refine AL.w rfl (.inl rfl) (WV.call fn57 rfl (isPrime_ok (W := W) p)) ?_
  rintro _ H10 ⟨rfl, hx11⟩
  have X12 := Ext.trans X8 hx11
  have X13 := Ext.trans X9 hx11
  have hb14 := hb6.ext hx11
  refine AL.val rfl (.inl rfl) (HV.mv rfl) ?_
  by_cases c15 : primeI p
  · -- true
    have c15_ : decide (primeI p) = true := decide_eq_true c15
    rw [c15_]
    refine AL.val rfl (.inr ⟨_, _, _, rfl, rfl, rfl⟩) (HV.fa fl25_1 rfl) ?_
    refine AL.val rfl (.inr ⟨_, _, _, rfl, rfl, rfl⟩) (HV.ld rfl va2 (at_cell_add (j := 1) hb14 rfl)) ?_
    refine AL.w rfl (.inr ⟨_, _, _, rfl, rfl, rfl⟩) (WV.call fn43 rfl (within_ok (W := W) k 0 12)) ?_
    rintro _ H16 ⟨rfl, hx17⟩
    have X18 := Ext.trans X12 hx17
    have X19 := Ext.trans X13 hx17
    have hb20 := hb14.ext hx17
    refine AL.val rfl (.inl rfl) (HV.pickT rfl rfl) ?_
    refine AL.val rfl (.inl rfl) (HV.mv rfl) ?_
    by_cases c21 : 0 ≤ k ∧ k ≤ 12
    · -- true
      have c21_ : decide (0 ≤ k ∧ k ≤ 12) = true := decide_eq_true c21
      rw [c21_]
      refine AL.val rfl (.inr ⟨_, _, _, rfl, rfl, rfl⟩) (HV.fa fl25_2 rfl) ?_
      refine AL.val rfl (.inr ⟨_, _, _, rfl, rfl, rfl⟩) (HV.ld rfl va23 (at_cell_add (j := 2) hb20 rfl)) ?_
      refine AL.val rfl (.inr ⟨_, _, _, rfl, rfl, rfl⟩) (HV.len Tryd.underlying23 rfl hr.isSl) ?_
      refine AL.val rfl (.inr ⟨_, _, _, rfl, rfl, rfl⟩) (HV.lei rfl rfl) ?_
      refine AL.val rfl (.inl rfl) (HV.pickT rfl rfl) ?_
      refine AL.val rfl (.inl rfl) (HV.mv rfl) ?_
      by_cases c22 : (l.length : Int) ≤ 20
      · -- true
        have c22_ : decide ((l.length : Int) ≤ 20) = true := decide_eq_true c22
        rw [c22_]
        refine AL.val rfl (.inr ⟨_, _, _, rfl, rfl, rfl⟩) (HV.fa fl25_2 rfl) ?_
        refine AL.val rfl (.inr ⟨_, _, _, rfl, rfl, rfl⟩) (HV.ld rfl va23 (at_cell_add (j := 2) hb20 rfl)) ?_
        refine AL.val rfl (.inr ⟨_, _, _, rfl, rfl, rfl⟩) (HV.fn rfl rfl) ?_
        refine AL.w rfl (.inr ⟨_, _, _, rfl, rfl, rfl⟩) (WV.call fn58 rfl (coM_ok hb20 (hr.ext X18) (by assumption) (hr.ext X18))) ?_
        rintro _ H23 ⟨rfl, hx24⟩
        have X25 := Ext.trans X18 hx24
        have X26 := Ext.trans X19 hx24
        have hb27 := hb20.ext hx24
        refine AL.val rfl (.inr ⟨_, _, _, rfl, rfl, rfl⟩) (HV.not rfl) ?_
        refine AL.val rfl (.inl rfl) (HV.pickT rfl rfl) ?_
        refine AL.val rfl (.inl rfl) (HV.as rfl) ?_
        refine AL.nx ?_
        refine AW.ret ?_
        refine post_one rfl rfl ?_ (.inr rfl)
        exact ⟨congrArg Value.bool (by rw [Bool.eq_iff_iff]; simp only [Bool.not_eq_true', decide_eq_false_iff_not, Classical.not_not, decide_eq_true_eq]; exact ⟨fun q => ⟨by assumption, by omega, by omega, q⟩, fun q => q.2.2.2⟩), X25⟩
      · -- false
        have c22_ : decide ((l.length : Int) ≤ 20) = false := decide_eq_false c22
        rw [c22_]
        refine AL.off rfl rfl (by decide) rfl ?_
        refine AL.off rfl rfl (by decide) rfl ?_
        refine AL.off rfl rfl (by decide) rfl ?_
        refine AL.off rfl rfl (by decide) rfl ?_
        refine AL.off rfl rfl (by decide) rfl ?_
        refine AL.val rfl (.inl rfl) (HV.pickF rfl rfl) ?_
        refine AL.val rfl (.inl rfl) (HV.as rfl) ?_
        refine AL.nx ?_
        refine AW.ret ?_
        refine post_one rfl rfl ?_ (.inr rfl)
        exact ⟨dec_f (fun h => by have h1 := h.1; have h2 := h.2.1; have h3 := h.2.2.1; first | omega | contradiction), X18⟩
    · -- false
      have c21_ : decide (0 ≤ k ∧ k ≤ 12) = false := decide_eq_false c21
      rw [c21_]
      refine AL.off rfl rfl (by decide) rfl ?_
      refine AL.off rfl rfl (by decide) rfl ?_
      refine AL.off rfl rfl (by decide) rfl ?_
      refine AL.off rfl rfl (by decide) rfl ?_
      refine AL.val rfl (.inl rfl) (HV.pickF rfl rfl) ?_
      refine AL.val rfl (.inl rfl) (HV.mv rfl) ?_
      refine AL.off rfl rfl (by decide) rfl ?_
      refine AL.off rfl rfl (by decide) rfl ?_
      refine AL.off rfl rfl (by decide) rfl ?_
      refine AL.off rfl rfl (by decide) rfl ?_
      refine AL.off rfl rfl (by decide) rfl ?_
      refine AL.val rfl (.inl rfl) (HV.pickF rfl rfl) ?_
      refine AL.val rfl (.inl rfl) (HV.as rfl) ?_
      refine AL.nx ?_
      refine AW.ret ?_
      refine post_one rfl rfl ?_ (.inr rfl)
      exact ⟨dec_f (fun h => by have h1 := h.1; have h2 := h.2.1; have h3 := h.2.2.1; first | omega | contradiction), X18⟩
  · -- false
    have c15_ : decide (primeI p) = false := decide_eq_false c15
    rw [c15_]
    refine AL.off rfl rfl (by decide) rfl ?_
    refine AL.off rfl rfl (by decide) rfl ?_
    refine AL.off rfl rfl (by decide) rfl ?_
    refine AL.val rfl (.inl rfl) (HV.pickF rfl rfl) ?_
    refine AL.val rfl (.inl rfl) (HV.mv rfl) ?_
    refine AL.off rfl rfl (by decide) rfl ?_
    refine AL.off rfl rfl (by decide) rfl ?_
    refine AL.off rfl rfl (by decide) rfl ?_
    refine AL.off rfl rfl (by decide) rfl ?_
    refine AL.val rfl (.inl rfl) (HV.pickF rfl rfl) ?_
    refine AL.val rfl (.inl rfl) (HV.mv rfl) ?_
    refine AL.off rfl rfl (by decide) rfl ?_
    refine AL.off rfl rfl (by decide) rfl ?_
    refine AL.off rfl rfl (by decide) rfl ?_
    refine AL.off rfl rfl (by decide) rfl ?_
    refine AL.off rfl rfl (by decide) rfl ?_
    refine AL.val rfl (.inl rfl) (HV.pickF rfl rfl) ?_
    refine AL.val rfl (.inl rfl) (HV.as rfl) ?_
    refine AL.nx ?_
    refine AW.ret ?_
    refine post_one rfl rfl ?_ (.inr rfl)
    exact ⟨dec_f (fun h => by have h1 := h.1; have h2 := h.2.1; have h3 := h.2.2.1; first | omega | contradiction), X12⟩

set_option maxRecDepth 100000 in
theorem ValidS_ok {vo v : Value} {o : List Int} {l : List (List Int)} {oko ok : Nat → Prop} (n p k : Int) (ho : RdK kI W H oko vo o) (hr : RdK (kR kI) W H ok v l) : ACalls Tryd.prog W 29 #[.agg #[.int .i64 n, vo, .int .i64 p, .int .i64 k, v]] H (fun r H' => r = .bool (decide (okSc n o p k l)) ∧ Ext H H') := by
  refine ACalls.of (args := [.agg #[.int .i64 n, vo, .int .i64 p, .int .i64 k, v]]) Tryd.func29 rfl rfl ?_
  have X0 := Ext.refl H
  have hm1 := ho.max
  have hm2 := hr.max
  refine AW.rs ?_
  refine AL.w rfl (.inl rfl) (WV.bx rfl rfl) ?_
  rintro _ H4 ⟨b3, rfl, hx5, hn6, hb7⟩
  have o8 := Nat.le_trans X0.bd hn6
  have X9 := Ext.trans X0 hx5
  have X10 := Ext.refl H4
  refine AL.val rfl (.inl rfl) (HV.as rfl) ?_
  refine AL.nx ?_
  refine AW.rs ?_
  refine AL.val rfl (.inl rfl) (HV.fa fl27_0 rfl) ?_
  refine AL.val rfl (.inl rfl) (HV.ld rfl va2 (at_cell hb7 rfl)) ?_
  refine AL.w rfl (.inl rfl) (WV.call fn43 rfl (within_ok (W := W) n 1 7)) ?_
  rintro _ H11 ⟨rfl, hx12⟩
  have X13 := Ext.trans X9 hx12
  have X14 := Ext.trans X10 hx12
  have hb15 := hb7.ext hx12
  refine AL.val rfl (.inl rfl) (HV.mv rfl) ?_
  by_cases c16 : 1 ≤ n ∧ n ≤ 7
  · -- true
    have c16_ : decide (1 ≤ n ∧ n ≤ 7) = true := decide_eq_true c16
    rw [c16_]
    refine AL.val rfl (.inr ⟨_, _, _, rfl, rfl, rfl⟩) (HV.fa fl27_2 rfl) ?_
    refine AL.val rfl (.inr ⟨_, _, _, rfl, rfl, rfl⟩) (HV.lda (cs := [.int .i64 p, .int .i64 k, v]) rfl va25 (at_cells hb15 rfl)) ?_
    refine AL.w rfl (.inr ⟨_, _, _, rfl, rfl, rfl⟩) (WV.call fn44 rfl (ValidM_ok p k (hr.ext X13))) ?_
    rintro _ H17 ⟨rfl, hx18⟩
    have X19 := Ext.trans X13 hx18
    have X20 := Ext.trans X14 hx18
    have hb21 := hb15.ext hx18
    refine AL.val rfl (.inl rfl) (HV.pickT rfl rfl) ?_
    refine AL.val rfl (.inl rfl) (HV.mv rfl) ?_
    by_cases c22 : okMx p k l
    · -- true
      have c22_ : decide (okMx p k l) = true := decide_eq_true c22
      rw [c22_]
      refine AL.val rfl (.inr ⟨_, _, _, rfl, rfl, rfl⟩) (HV.fa fl27_2 rfl) ?_
      refine AL.val rfl (.inr ⟨_, _, _, rfl, rfl, rfl⟩) (HV.fa fl25_1 rfl) ?_
      refine AL.val rfl (.inr ⟨_, _, _, rfl, rfl, rfl⟩) (HV.ld rfl va2 (at_cell_add (j := 3) hb21 rfl)) ?_
      refine AL.val rfl (.inr ⟨_, _, _, rfl, rfl, rfl⟩) (HV.gei rfl rfl) ?_
      refine AL.val rfl (.inl rfl) (HV.pickT rfl rfl) ?_
      refine AL.val rfl (.inl rfl) (HV.mv rfl) ?_
      by_cases c23 : k ≥ 1
      · -- true
        have c23_ : decide (k ≥ 1) = true := decide_eq_true c23
        rw [c23_]
        refine AL.val rfl (.inr ⟨_, _, _, rfl, rfl, rfl⟩) (HV.fa fl27_1 rfl) ?_
        refine AL.val rfl (.inr ⟨_, _, _, rfl, rfl, rfl⟩) (HV.ld rfl va22 (at_cell_add (j := 1) hb21 rfl)) ?_
        refine AL.val rfl (.inr ⟨_, _, _, rfl, rfl, rfl⟩) (HV.len Tryd.underlying22 rfl ho.isSl) ?_
        refine AL.val rfl (.inr ⟨_, _, _, rfl, rfl, rfl⟩) (HV.fa fl27_2 rfl) ?_
        refine AL.val rfl (.inr ⟨_, _, _, rfl, rfl, rfl⟩) (HV.fa fl25_2 rfl) ?_
        refine AL.val rfl (.inr ⟨_, _, _, rfl, rfl, rfl⟩) (HV.ld rfl va23 (at_cell_add (j := 4) hb21 rfl)) ?_
        refine AL.val rfl (.inr ⟨_, _, _, rfl, rfl, rfl⟩) (HV.len Tryd.underlying23 rfl hr.isSl) ?_
        refine AL.val rfl (.inr ⟨_, _, _, rfl, rfl, rfl⟩) (HV.eqi rfl rfl) ?_
        refine AL.val rfl (.inl rfl) (HV.pickT rfl rfl) ?_
        refine AL.val rfl (.inl rfl) (HV.mv rfl) ?_
        by_cases c24 : (o.length : Int) = (l.length : Int)
        · -- true
          have c24_ : decide ((o.length : Int) = (l.length : Int)) = true := decide_eq_true c24
          rw [c24_]
          refine AL.val rfl (.inr ⟨_, _, _, rfl, rfl, rfl⟩) (HV.fa fl27_1 rfl) ?_
          refine AL.val rfl (.inr ⟨_, _, _, rfl, rfl, rfl⟩) (HV.ld rfl va22 (at_cell_add (j := 1) hb21 rfl)) ?_
          refine AL.val rfl (.inr ⟨_, _, _, rfl, rfl, rfl⟩) (HV.fn rfl rfl) ?_
          refine AL.w rfl (.inr ⟨_, _, _, rfl, rfl, rfl⟩) (WV.call fn45 rfl (coO_ok hb21 (ho.ext X19) (hr.ext X19) (by omega) (ho.ext X19))) ?_
          rintro _ H25 ⟨rfl, hx26⟩
          have X27 := Ext.trans X19 hx26
          have X28 := Ext.trans X20 hx26
          have hb29 := hb21.ext hx26
          refine AL.val rfl (.inr ⟨_, _, _, rfl, rfl, rfl⟩) (HV.not rfl) ?_
          refine AL.val rfl (.inl rfl) (HV.pickT rfl rfl) ?_
          refine AL.val rfl (.inl rfl) (HV.as rfl) ?_
          refine AL.nx ?_
          refine AW.ret ?_
          refine post_one rfl rfl ?_ (.inr rfl)
          exact ⟨congrArg Value.bool (by rw [Bool.eq_iff_iff]; simp only [Bool.not_eq_true', decide_eq_false_iff_not, Classical.not_not, decide_eq_true_eq]; exact ⟨fun q => ⟨by omega, by assumption, by omega, by omega, q⟩, fun q => q.2.2.2.2⟩), X27⟩
        · -- false
          have c24_ : decide ((o.length : Int) = (l.length : Int)) = false := decide_eq_false c24
          rw [c24_]
          refine AL.off rfl rfl (by decide) rfl ?_
          refine AL.off rfl rfl (by decide) rfl ?_
          refine AL.off rfl rfl (by decide) rfl ?_
          refine AL.off rfl rfl (by decide) rfl ?_
          refine AL.off rfl rfl (by decide) rfl ?_
          refine AL.val rfl (.inl rfl) (HV.pickF rfl rfl) ?_
          refine AL.val rfl (.inl rfl) (HV.as rfl) ?_
          refine AL.nx ?_
          refine AW.ret ?_
          refine post_one rfl rfl ?_ (.inr rfl)
          exact ⟨dec_f (fun h => by have h1 := h.1; have h2 := h.2.1; have h3 := h.2.2.1; have h4 := h.2.2.2.1; first | omega | contradiction), X19⟩
      · -- false
        have c23_ : decide (k ≥ 1) = false := decide_eq_false c23
        rw [c23_]
        refine AL.off rfl rfl (by decide) rfl ?_
        refine AL.off rfl rfl (by decide) rfl ?_
        refine AL.off rfl rfl (by decide) rfl ?_
        refine AL.off rfl rfl (by decide) rfl ?_
        refine AL.off rfl rfl (by decide) rfl ?_
        refine AL.off rfl rfl (by decide) rfl ?_
        refine AL.off rfl rfl (by decide) rfl ?_
        refine AL.off rfl rfl (by decide) rfl ?_
        refine AL.val rfl (.inl rfl) (HV.pickF rfl rfl) ?_
        refine AL.val rfl (.inl rfl) (HV.mv rfl) ?_
        refine AL.off rfl rfl (by decide) rfl ?_
        refine AL.off rfl rfl (by decide) rfl ?_
        refine AL.off rfl rfl (by decide) rfl ?_
        refine AL.off rfl rfl (by decide) rfl ?_
        refine AL.off rfl rfl (by decide) rfl ?_
        refine AL.val rfl (.inl rfl) (HV.pickF rfl rfl) ?_
        refine AL.val rfl (.inl rfl) (HV.as rfl) ?_
        refine AL.nx ?_
        refine AW.ret ?_
        refine post_one rfl rfl ?_ (.inr rfl)
        exact ⟨dec_f (fun h => by have h1 := h.1; have h2 := h.2.1; have h3 := h.2.2.1; have h4 := h.2.2.2.1; first | omega | contradiction), X19⟩
    · -- false
      have c22_ : decide (okMx p k l) = false := decide_eq_false c22
      rw [c22_]
      refine AL.off rfl rfl (by decide) rfl ?_
      refine AL.off rfl rfl (by decide) rfl ?_
      refine AL.off rfl rfl (by decide) rfl ?_
      refine AL.off rfl rfl (by decide) rfl ?_
      refine AL.val rfl (.inl rfl) (HV.pickF rfl rfl) ?_
      refine AL.val rfl (.inl rfl) (HV.mv rfl) ?_
      refine AL.off rfl rfl (by decide) rfl ?_
      refine AL.off rfl rfl (by decide) rfl ?_
      refine AL.off rfl rfl (by decide) rfl ?_
      refine AL.off rfl rfl (by decide) rfl ?_
      refine AL.off rfl rfl (by decide) rfl ?_
      refine AL.off rfl rfl (by decide) rfl ?_
      refine AL.off rfl rfl (by decide) rfl ?_
      refine AL.off rfl rfl (by decide) rfl ?_
      refine AL.val rfl (.inl rfl) (HV.pickF rfl rfl) ?_
      refine AL.val rfl (.inl rfl) (HV.mv rfl) ?_
      refine AL.off rfl rfl (by decide) rfl ?_
      refine AL.off rfl rfl (by decide) rfl ?_
      refine AL.off rfl rfl (by decide) rfl ?_
      refine AL.off rfl rfl (by decide) rfl ?_
      refine AL.off rfl rfl (by decide) rfl ?_
      refine AL.val rfl (.inl rfl) (HV.pickF rfl rfl) ?_
      refine AL.val rfl (.inl rfl) (HV.as rfl) ?_
      refine AL.nx ?_
      refine AW.ret ?_
      refine post_one rfl rfl ?_ (.inr rfl)
      exact ⟨dec_f (fun h => by have h1 := h.1; have h2 := h.2.1; have h3 := h.2.2.1; have h4 := h.2.2.2.1; first | omega | contradiction), X19⟩
  · -- false
    have c16_ : decide (1 ≤ n ∧ n ≤ 7) = false := decide_eq_false c16
    rw [c16_]
    refine AL.off rfl rfl (by decide) rfl ?_
    refine AL.off rfl rfl (by decide) rfl ?_
    refine AL.off rfl rfl (by decide) rfl ?_
    refine AL.val rfl (.inl rfl) (HV.pickF rfl rfl) ?_
    refine AL.val rfl (.inl rfl) (HV.mv rfl) ?_
    refine AL.off rfl rfl (by decide) rfl ?_
    refine AL.off rfl rfl (by decide) rfl ?_
    refine AL.off rfl rfl (by decide) rfl ?_
    refine AL.off rfl rfl (by decide) rfl ?_
    refine AL.val rfl (.inl rfl) (HV.pickF rfl rfl) ?_
    refine AL.val rfl (.inl rfl) (HV.mv rfl) ?_
    refine AL.off rfl rfl (by decide) rfl ?_
    refine AL.off rfl rfl (by decide) rfl ?_
    refine AL.off rfl rfl (by decide) rfl ?_
    refine AL.off rfl rfl (by decide) rfl ?_
    refine AL.off rfl rfl (by decide) rfl ?_
    refine AL.off rfl rfl (by decide) rfl ?_
    refine AL.off rfl rfl (by decide) rfl ?_
    refine AL.off rfl rfl (by decide) rfl ?_
    refine AL.val rfl (.inl rfl) (HV.pickF rfl rfl) ?_
    refine AL.val rfl (.inl rfl) (HV.mv rfl) ?_
    refine AL.off rfl rfl (by decide) rfl ?_
    refine AL.off rfl rfl (by decide) rfl ?_
    refine AL.off rfl rfl (by decide) rfl ?_
    refine AL.off rfl rfl (by decide) rfl ?_
    refine AL.off rfl rfl (by decide) rfl ?_
    refine AL.val rfl (.inl rfl) (HV.pickF rfl rfl) ?_
    refine AL.val rfl (.inl rfl) (HV.as rfl) ?_
    refine AL.nx ?_
    refine AW.ret ?_
    refine post_one rfl rfl ?_ (.inr rfl)
    exact ⟨dec_f (fun h => by have h1 := h.1; have h2 := h.2.1; have h3 := h.2.2.1; have h4 := h.2.2.2.1; first | omega | contradiction), X13⟩
end Go.Proofs.YteajnanbfkcdcaaDoor.VC
