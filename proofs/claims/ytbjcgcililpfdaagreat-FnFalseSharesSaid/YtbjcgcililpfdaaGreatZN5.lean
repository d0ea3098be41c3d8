/- Walks. -/
import Derived.Test.YtbjcgcililpfdaaGreatZNQ
set_option linter.unusedVariables false
set_option linter.unusedSimpArgs false
namespace Go.Proofs.YtbjcgcililpfdaaGreat.VC
open Go Go.RowKit
variable {W : World} {H : Hp}

/-! ### The order of curves, and a list that is kept in order -/
def lessC (a b : List Int) : Prop := a.length < b.length ∨ (a.length = b.length ∧ lexI a b < 0)
noncomputable instance (a b : List Int) : Decidable (lessC a b) := Classical.propDecidable _
noncomputable def insC (c : List Int) : List (List Int) → List (List Int)
  | [] => [c]
  | x :: t => if lessC x c then x :: insC c t else if x = c then x :: t else c :: x :: t
theorem insC_at {c : List Int} : ∀ {out : List (List Int)} {i : Nat}, i ≤ out.length → (∀ j, j < i → lessC (out.getD j []) c) → (i < out.length → ¬ lessC (out.getD i []) c) → insC c out = if i < out.length ∧ out.getD i [] = c then out else out.take i ++ ([c] ++ out.drop i)
  | [], i, hi, _, _ => by
    have e : i = 0 := by simpa using hi
    subst e
    rw [if_neg (by simp)]; rfl
  | x :: t, 0, _, _, h2 => by
    have h := h2 (by simp)
    have e : (x :: t).getD 0 [] = x := rfl
    rw [e] at h
    unfold insC
    rw [if_neg h, e]
    by_cases hx : x = c
    · rw [if_pos hx, if_pos ⟨by simp, hx⟩]
    · rw [if_neg hx, if_neg (fun q => hx q.2)]; rfl
  | x :: t, i + 1, hi, h1, h2 => by
    have h0 := h1 0 (by omega)
    have e : (x :: t).getD 0 [] = x := rfl
    rw [e] at h0
    have g : ∀ j, (x :: t).getD (j + 1) [] = t.getD j [] := fun j => by simp
    have ih := insC_at (c := c) (out := t) (i := i) (by simpa using hi) (fun j hj => by have := h1 (j + 1) (by omega); rwa [g] at this) (fun hl => by have := h2 (by simpa using hl); rwa [g] at this)
    unfold insC
    rw [if_pos h0, ih, g]
    simp only [List.length_cons, Nat.add_lt_add_iff_right, List.take_succ_cons, List.drop_succ_cons]
    split <;> rfl
set_option maxRecDepth 100000 in
theorem less_ok {v v2 : Value} {l m : List Int} {ok ok2 : Nat → Prop} (hr : RdK kI W H ok v l) (hr2 : RdK kI W H ok2 v2 m) : ACalls Tryz.prog W 102 #[v, v2] H (fun r H' => r = .bool (decide (lessC l m)) ∧ Ext H H') := by
  refine ACalls.of (args := [v, v2]) Tryz.func102 rfl rfl ?_
  have X0 := Ext.refl H
  have hm1 := hr.max
  have hm2 := hr2.max
  refine AW.rs ?_
  refine AL.val rfl (.inl rfl) (HV.as rfl) ?_
  refine AL.nx ?_
  refine AW.seq ?_
  refine AW.rs ?_
  refine AL.val rfl (.inl rfl) (HV.mv rfl) ?_
  refine AL.val rfl (.inl rfl) (HV.len Tryz.underlying25 rfl hr.isSl) ?_
  refine AL.val rfl (.inl rfl) (HV.mv rfl) ?_
  refine AL.val rfl (.inl rfl) (HV.len Tryz.underlying25 rfl hr2.isSl) ?_
  refine AL.val rfl (.inl rfl) (HV.nei rfl rfl) ?_
  refine AL.nx ?_
  refine AW.ifd rfl (fun c3 => ?_) (fun c3 => ?_)
  · -- then
    refine AW.rs ?_
    refine AL.val rfl (.inl rfl) (HV.mv rfl) ?_
    refine AL.val rfl (.inl rfl) (HV.len Tryz.underlying25 rfl hr.isSl) ?_
    refine AL.val rfl (.inl rfl) (HV.mv rfl) ?_
    refine AL.val rfl (.inl rfl) (HV.len Tryz.underlying25 rfl hr2.isSl) ?_
    refine AL.val rfl (.inl rfl) (HV.lti rfl rfl) ?_
    refine AL.val rfl (.inl rfl) (HV.as rfl) ?_
    refine AL.nx ?_
    refine AW.ret ?_
    refine ret_and ?_
    refine post_one rfl rfl ?_ (.inr rfl)
    exact ⟨congrArg Value.bool (decide_eq_decide.2 ⟨fun h => .inl (by omega), fun h => h.elim (fun q => by omega) (fun q => absurd q.1 (by omega))⟩), X0⟩
  · -- else
    refine AW.skip ?_
    refine nrm_and ?_
    refine AW.seq ?_
    refine AW.rs ?_
    refine AL.val rfl (.inl rfl) (HV.as rfl) ?_
    refine AL.nx ?_
    refine AW.block ?_
    refine AW.loop (σ := Nat) (fun i => [(0, v), (1, v2), (5, .int .i64 (i : Int))]) (fun i H' => Ext H H' ∧ i ≤ l.length ∧ i ≤ m.length ∧ (∀ j, j < i → l.getD j 0 = m.getD j 0) ∧ True) (fun i => l.length - i) 0 ⟨X0, Nat.zero_le _, Nat.zero_le _, fun j hj => absurd hj (Nat.not_lt_zero _), trivial⟩ ⟨rfl, rfl, rfl, trivial⟩ ?_
    rintro i H4 ⟨X5, hi, hi2, he, _⟩
    refine AW.seq ?_
    refine AW.rs ?_
    refine AL.val rfl (.inl rfl) (HV.mv rfl) ?_
    refine AL.val rfl (.inl rfl) (HV.mv rfl) ?_
    refine AL.val rfl (.inl rfl) (HV.len Tryz.underlying25 rfl hr.isSl) ?_
    refine AL.val rfl (.inl rfl) (HV.lti rfl rfl) ?_
    refine AL.nx ?_
    refine AW.ifd rfl (fun c6 => ?_) (fun c6 => ?_)
    · -- then
      refine AW.skip ?_
      refine nrm_and ?_
      refine AW.seq ?_
      refine AW.block ?_
      refine AW.seq ?_
      refine AW.draw' [0, 0, 3, 7, 0, 0, 48, 112, 255] mixed (by rfl) ?_
      refine Dr.read 0 _ 22 _ rfl rfl rfl rfl rfl (RV.of (by intro _ _ h; cases h) (.inl rfl) (fun _ xd => HV.mv rfl)) ?_
      refine Dr.read 1 _ 23 _ rfl rfl rfl rfl rfl (RV.of (by intro _ _ h; cases h) (.inl rfl) (fun _ xd => HV.mv rfl)) ?_
      obtain ⟨p7, z8, cs9, hz10, hK11, hC12, hP13⟩ := RdK.ix (q := (i : Int)) hr sl25 (by omega) (by omega)
      obtain rfl : cs9 = [.int .i64 z8] := hK11
      refine Dr.read 2 _ 24 _ rfl rfl rfl rfl rfl (RV.of (by intro _ _ h; cases h) (.inl rfl) (fun _ xd => hP13 rfl rfl)) ?_
      refine Dr.read 3 _ 25 _ rfl rfl rfl rfl rfl (RV.of (by intro _ _ h; cases h) (.inl rfl) (fun _ xd => HV.ld rfl va2 (rdc_ext xd (cells_first (hC12.ext X5) rfl)))) ?_
      refine Dr.read 4 _ 26 _ rfl rfl rfl rfl rfl (RV.of (by intro _ _ h; cases h) (.inl rfl) (fun _ xd => HV.mv rfl)) ?_
      refine Dr.read 5 _ 27 _ rfl rfl rfl rfl rfl (RV.of (by intro _ _ h; cases h) (.inl rfl) (fun _ xd => HV.mv rfl)) ?_
      obtain ⟨p14, z15, cs16, hz17, hK18, hC19, hP20⟩ := RdK.ix (q := (i : Int)) hr2 sl25 (by omega) (by omega)
      obtain rfl : cs16 = [.int .i64 z15] := hK18
      refine Dr.read 6 _ 28 _ rfl rfl rfl rfl rfl (RV.of (by intro _ _ h; cases h) (.inl rfl) (fun _ xd => hP20 rfl rfl)) ?_
      refine Dr.read 7 _ 29 _ rfl rfl rfl rfl rfl (RV.of (by intro _ _ h; cases h) (.inl rfl) (fun _ xd => HV.ld rfl va2 (rdc_ext xd (cells_first (hC19.ext X5) rfl)))) ?_
      refine Dr.read 8 _ 30 _ rfl rfl rfl rfl rfl (RV.of (by intro _ _ h; cases h) (.inl rfl) (fun _ xd => HV.nei rfl rfl)) ?_
      refine Dr.fin rfl ?_
      refine nrm_and ?_
      refine AW.ifd rfl (fun c21 => ?_) (fun c21 => ?_)
      · -- then
        refine AW.seq ?_
        refine AW.draw' [0, 0, 3, 7, 0, 0, 48, 112, 255, 511] mixed (by rfl) ?_
        refine Dr.read 0 _ 31 _ rfl rfl rfl rfl rfl (RV.of (by intro _ _ h; cases h) (.inl rfl) (fun _ xd => HV.mv rfl)) ?_
        refine Dr.read 1 _ 32 _ rfl rfl rfl rfl rfl (RV.of (by intro _ _ h; cases h) (.inl rfl) (fun _ xd => HV.mv rfl)) ?_
        obtain ⟨p22, z23, cs24, hz25, hK26, hC27, hP28⟩ := RdK.ix (q := (i : Int)) hr sl25 (by omega) (by omega)
        obtain rfl : cs24 = [.int .i64 z23] := hK26
        refine Dr.read 2 _ 33 _ rfl rfl rfl rfl rfl (RV.of (by intro _ _ h; cases h) (.inl rfl) (fun _ xd => hP28 rfl rfl)) ?_
        refine Dr.read 3 _ 34 _ rfl rfl rfl rfl rfl (RV.of (by intro _ _ h; cases h) (.inl rfl) (fun _ xd => HV.ld rfl va2 (rdc_ext xd (cells_first (hC27.ext X5) rfl)))) ?_
        refine Dr.read 4 _ 35 _ rfl rfl rfl rfl rfl (RV.of (by intro _ _ h; cases h) (.inl rfl) (fun _ xd => HV.mv rfl)) ?_
        refine Dr.read 5 _ 36 _ rfl rfl rfl rfl rfl (RV.of (by intro _ _ h; cases h) (.inl rfl) (fun _ xd => HV.mv rfl)) ?_
        obtain ⟨p29, z30, cs31, hz32, hK33, hC34, hP35⟩ := RdK.ix (q := (i : Int)) hr2 sl25 (by omega) (by omega)
        obtain rfl : cs31 = [.int .i64 z30] := hK33
        refine Dr.read 6 _ 37 _ rfl rfl rfl rfl rfl (RV.of (by intro _ _ h; cases h) (.inl rfl) (fun _ xd => hP35 rfl rfl)) ?_
        refine Dr.read 7 _ 38 _ rfl rfl rfl rfl rfl (RV.of (by intro _ _ h; cases h) (.inl rfl) (fun _ xd => HV.ld rfl va2 (rdc_ext xd (cells_first (hC34.ext X5) rfl)))) ?_
        refine Dr.read 8 _ 39 _ rfl rfl rfl rfl rfl (RV.of (by intro _ _ h; cases h) (.inl rfl) (fun _ xd => HV.lti rfl rfl)) ?_
        refine Dr.read 9 _ 4 _ rfl rfl rfl rfl rfl (RV.of (by intro _ _ h; cases h) (.inl rfl) (fun _ xd => HV.as rfl)) ?_
        refine Dr.fin rfl ?_
        refine nrm_and ?_
        refine AW.ret ?_
        refine ret_blk (ret_and (ret_and (ret_blk (ret_and ?_))))
        refine post_one rfl rfl ?_ (.inr rfl)
        exact ⟨congrArg Value.bool (by have g25 : l.getD i 0 = z8 := gd hz10 (by omega); have g29 : m.getD i 0 = z15 := gd hz17 (by omega); rw [Bool.eq_iff_iff]; simp only [decide_eq_true_eq]; unfold lessC; rw [lexI_at he (by omega) (by omega) (by omega), g25, g29]; unfold cmpI; have e1 : z23 = z8 := Option.some.inj (hz25.symm.trans hz10); have e2 : z30 = z15 := Option.some.inj (hz32.symm.trans hz17); rw [e1, e2]; constructor; (intro h; refine .inr ⟨by omega, ?_⟩; rw [if_pos h]; decide); (rintro (h | ⟨_, h⟩); (omega); (split at h; (assumption); (split at h <;> omega)))), X5⟩
      · -- else
        refine AW.skip ?_
        refine nrm_blk (nrm_and ?_)
        refine AW.reg ?_
        refine AL.val rfl (.inl rfl) (HV.mv rfl) ?_
        refine AL.val rfl (.inl rfl) (HV.add rfl rfl (by omega)) ?_
        refine AL.val rfl (.inl rfl) (HV.as rfl) ?_
        refine AL.nil ?_
        refine nrm_and ?_
        exact ⟨i + 1, ⟨X5, by omega, by omega, fun j hj => by
      rcases Nat.lt_or_ge j i with h1 | h1
      · exact he j h1
      · obtain rfl : j = i := by omega
        have g25 : l.getD j 0 = z8 := gd hz10 (by omega); have g29 : m.getD j 0 = z15 := gd hz17 (by omega); omega, trivial⟩, by first | omega | (dsimp only; omega), ⟨rfl, rfl, rfl, trivial⟩⟩
    · -- else
      refine AW.exit ?_
      refine ex_and (ex_and (ex_blk ?_))
      refine nrm_and ?_
      refine AW.rs ?_
      refine AL.val rfl (.inl rfl) (HV.as rfl) ?_
      refine AL.nx ?_
      refine AW.ret ?_
      refine post_one rfl rfl ?_ (.inr rfl)
      exact ⟨dec_f (fun h => h.elim (fun q => by omega) (fun q => by have q2 := q.2; rw [lexI_end he (by omega) (by omega) (by omega)] at q2; rw [if_neg (by omega), if_neg (by omega)] at q2; omega)), X5⟩

set_option maxRecDepth 100000 in
theorem put5_ok {vc vo vs : Value} {c : List Int} {out : List (List Int)} {p dg ag : Int} {bx n : Nat} (isls : IsSl vs n) (hrc : RdK kI W H (fun y => y ≠ bx) vc c) (hro : RdK (kR kI) W H (fun y => y ≠ bx) vo out) (hbx : At W H bx ⟨79, [.int .i64 p, vs, .int .i64 dg, .int .i64 ag, vo], 5⟩) (hol : out.length ≤ 1000000) : ACalls Tryz.prog W 91 #[.pointer (some ⟨bx, 0, none⟩), vc] H (fun r H' => (∃ v', At W H' bx ⟨79, [.int .i64 p, vs, .int .i64 dg, .int .i64 ag, v'], 5⟩ ∧ RdK (kR kI) W H' (fun y => y ≠ bx) v' (insC c out)) ∧ But (fun x => x = bx) H H') := by
  refine ACalls.of (args := [.pointer (some ⟨bx, 0, none⟩), vc]) Tryz.func91 rfl rfl ?_
  have X0 := Ext.refl H
  have hm1 := hrc.max
  have hmx := hro.max
  refine AW.rs ?_
  refine AL.val rfl (.inl rfl) (HV.as rfl) ?_
  refine AL.nx ?_
  refine AW.seq ?_
  refine AW.block ?_
  refine AW.loop (σ := Nat) (fun i => [(0, .pointer (some ⟨bx, 0, none⟩)), (1, vc), (4, .int .i64 (i : Int))]) (fun i H' => Ext H H' ∧ At W H' bx ⟨79, [.int .i64 p, vs, .int .i64 dg, .int .i64 ag, vo], 5⟩ ∧ i ≤ out.length ∧ (∀ j, j < i → lessC (out.getD j []) c) ∧ True) (fun i => out.length - i) 0 ⟨X0, hbx, Nat.zero_le _, fun j hj => absurd hj (Nat.not_lt_zero _), trivial⟩ ⟨rfl, rfl, rfl, trivial⟩ ?_
  rintro i H2 ⟨X3, hb4, hi, hl1, _⟩
  refine AW.seq ?_
  refine AW.rs ?_
  refine AL.val rfl (.inl rfl) (HV.mv rfl) ?_
  refine AL.val rfl (.inl rfl) (HV.mv rfl) ?_
  refine AL.val rfl (.inl rfl) (HV.nc rfl) ?_
  refine AL.val rfl (.inl rfl) (HV.fa fl79_4 rfl) ?_
  refine AL.val rfl (.inl rfl) (HV.ld rfl va37 (at_cell_add (j := 4) hb4 rfl)) ?_
  refine AL.val rfl (.inl rfl) (HV.len Tryz.underlying37 rfl hro.isSl) ?_
  refine AL.val rfl (.inl rfl) (HV.lti rfl rfl) ?_
  refine AL.val rfl (.inl rfl) (HV.mv rfl) ?_
  by_cases c5 : (i : Int) < (out.length : Int)
  · -- true
    have c5_ : decide ((i : Int) < (out.length : Int)) = true := decide_eq_true c5
    rw [c5_]
    refine AL.val rfl (.inr ⟨_, _, _, rfl, rfl, rfl⟩) (HV.mv rfl) ?_
    refine AL.val rfl (.inr ⟨_, _, _, rfl, rfl, rfl⟩) (HV.nc rfl) ?_
    refine AL.val rfl (.inr ⟨_, _, _, rfl, rfl, rfl⟩) (HV.fa fl79_4 rfl) ?_
    refine AL.val rfl (.inr ⟨_, _, _, rfl, rfl, rfl⟩) (HV.ld rfl va37 (at_cell_add (j := 4) hb4 rfl)) ?_
    refine AL.val rfl (.inr ⟨_, _, _, rfl, rfl, rfl⟩) (HV.mv rfl) ?_
    obtain ⟨p6, z7, cs8, hz9, hK10, hC11, hP12⟩ := RdK.ix (q := (i : Int)) hro sl37 (by omega) (by omega)
    obtain ⟨v13, rfl, hr14⟩ := hK10
    have hm15 := hr14.max
    refine AL.val rfl (.inr ⟨_, _, _, rfl, rfl, rfl⟩) (hP12 rfl rfl) ?_
    refine AL.val rfl (.inr ⟨_, _, _, rfl, rfl, rfl⟩) (HV.ld rfl va25 (cells_first (hC11.ext X3) rfl)) ?_
    refine AL.val rfl (.inr ⟨_, _, _, rfl, rfl, rfl⟩) (HV.mv rfl) ?_
    refine AL.w rfl (.inr ⟨_, _, _, rfl, rfl, rfl⟩) (WV.call fn102 rfl (less_ok (hr14.ext X3) (hrc.ext X3))) ?_
    rintro _ H16 ⟨rfl, hx17⟩
    have X18 := Ext.trans X3 hx17
    have hb19 := hb4.ext hx17
    refine AL.val rfl (.inl rfl) (HV.pickT rfl rfl) ?_
    refine AL.nx ?_
    refine AW.ifd rfl (fun c20 => ?_) (fun c20 => ?_)
    · -- then
      refine AW.skip ?_
      refine nrm_and ?_
      refine AW.block ?_
      refine AW.reg ?_
      refine AL.val rfl (.inl rfl) (HV.mv rfl) ?_
      refine AL.val rfl (.inl rfl) (HV.add rfl rfl (by omega)) ?_
      refine AL.val rfl (.inl rfl) (HV.as rfl) ?_
      refine AL.nil ?_
      refine nrm_blk (nrm_and ?_)
      exact ⟨i + 1, ⟨X18, hb19, by omega, fun j hj => by
      rcases Nat.lt_or_ge j i with h1 | h1
      · exact hl1 j h1
      · obtain rfl : j = i := by omega
        rw [gd hz9 rfl]; assumption, trivial⟩, by first | omega | (dsimp only; omega), ⟨rfl, rfl, rfl, trivial⟩⟩
    · -- else
      refine AW.exit ?_
      refine ex_and (ex_and (ex_blk ?_))
      refine nrm_and ?_
      refine AW.seq ?_
      refine AW.rs ?_
      refine AL.val rfl (.inl rfl) (HV.mv rfl) ?_
      refine AL.val rfl (.inl rfl) (HV.mv rfl) ?_
      refine AL.val rfl (.inl rfl) (HV.nc rfl) ?_
      refine AL.val rfl (.inl rfl) (HV.fa fl79_4 rfl) ?_
      refine AL.val rfl (.inl rfl) (HV.ld rfl va37 (at_cell_add (j := 4) hb19 rfl)) ?_
      refine AL.val rfl (.inl rfl) (HV.len Tryz.underlying37 rfl hro.isSl) ?_
      refine AL.val rfl (.inl rfl) (HV.lti rfl rfl) ?_
      refine AL.val rfl (.inl rfl) (HV.mv rfl) ?_
      by_cases c21 : (i : Int) < (out.length : Int)
      · -- true
        have c21_ : decide ((i : Int) < (out.length : Int)) = true := decide_eq_true c21
        rw [c21_]
        refine AL.val rfl (.inr ⟨_, _, _, rfl, rfl, rfl⟩) (HV.mv rfl) ?_
        refine AL.val rfl (.inr ⟨_, _, _, rfl, rfl, rfl⟩) (HV.nc rfl) ?_
        refine AL.val rfl (.inr ⟨_, _, _, rfl, rfl, rfl⟩) (HV.fa fl79_4 rfl) ?_
        refine AL.val rfl (.inr ⟨_, _, _, rfl, rfl, rfl⟩) (HV.ld rfl va37 (at_cell_add (j := 4) hb19 rfl)) ?_
        refine AL.val rfl (.inr ⟨_, _, _, rfl, rfl, rfl⟩) (HV.mv rfl) ?_
        obtain ⟨p22, z23, cs24, hz25, hK26, hC27, hP28⟩ := RdK.ix (q := (i : Int)) hro sl37 (by omega) (by omega)
        obtain ⟨v29, rfl, hr30⟩ := hK26
        have hm31 := hr30.max
        refine AL.val rfl (.inr ⟨_, _, _, rfl, rfl, rfl⟩) (hP28 rfl rfl) ?_
        refine AL.val rfl (.inr ⟨_, _, _, rfl, rfl, rfl⟩) (HV.ld rfl va25 (cells_first (hC27.ext X18) rfl)) ?_
        refine AL.val rfl (.inr ⟨_, _, _, rfl, rfl, rfl⟩) (HV.mv rfl) ?_
        refine AL.w rfl (.inr ⟨_, _, _, rfl, rfl, rfl⟩) (WV.call fn103 rfl (same_ok (hr30.ext X18) (hrc.ext X18))) ?_
        rintro _ H32 ⟨rfl, hx33⟩
        have X34 := Ext.trans X18 hx33
        have hb35 := hb19.ext hx33
        refine AL.val rfl (.inl rfl) (HV.pickT rfl rfl) ?_
        refine AL.nx ?_
        refine AW.ifd rfl (fun c36 => ?_) (fun c36 => ?_)
        · -- then
          refine AW.ret ?_
          refine ret_and ?_
          refine post_none rfl ?_ (.inr rfl)
          have e_ := insC_at hi hl1 (fun hlt => by first | omega | (rw [gd (d := []) hz9 rfl]; assumption) | (rw [gd (d := []) hz25 rfl]; assumption)); rw [e_, if_pos ⟨by omega, by first | omega | (rw [gd (d := []) hz9 rfl]; assumption) | (rw [gd (d := []) hz25 rfl]; assumption)⟩]; exact ⟨⟨_, hb35, (hro.ext X34)⟩, Ext.but X34 _⟩
        · -- else
          refine AW.skip ?_
          refine nrm_and ?_
          refine AW.rs ?_
          refine AL.val rfl (.inl rfl) (HV.mv rfl) ?_
          have X37 := Ext.refl H32
          have y38 := hb35.lt
          have o39 := X34.bd
          have o40 := X37.bd
          refine AL.w rfl (.inl rfl) (WV.bsN (okx := (fun y => y ≠ bx)) (K := kR kI) (l := [c]) (css := [[vc]]) sl37 rfl rfl (by obtain ⟨A_, c_, e_⟩ := hrc.isSl; rw [e_]; simp [Instr.fill, Value.cells, kR, rng1]) rfl (segs_cons ⟨_, rfl, hrc.ext X34⟩ segs_nil)) ?_
          rintro v41 H42 ⟨hx43, ho44, vb45⟩
          have X46 := Ext.trans X34 hx43
          have X47 := Ext.trans X37 hx43
          have hb48 := hb35.ext hx43
          refine AL.val rfl (.inl rfl) (HV.mv rfl) ?_
          refine AL.val rfl (.inl rfl) (HV.nc rfl) ?_
          refine AL.val rfl (.inl rfl) (HV.fa fl79_4 rfl) ?_
          refine AL.val rfl (.inl rfl) (HV.ld rfl va37 (at_cell_add (j := 4) hb48 rfl)) ?_
          refine AL.val rfl (.inl rfl) (HV.mv rfl) ?_
          have X52 := Ext.refl H42
          obtain ⟨v49, hr50, hP51⟩ := RdK.cutL (q := (i : Int)) hro sl37 (by omega) (by omega)
          refine AL.val rfl (.inl rfl) (hP51 rfl rfl) ?_
          have lo60 := RdK.okk (ok' := fun y => y ≠ bx ∧ y < H.bd) hr50 (fun y hy hlt => ⟨hy, hlt⟩)
          have bl62 : bx < H.bd := hbx.lt
          have bd61 := X46.bd
          refine AL.w rfl (.inl rfl) (WV.apk sl37 rfl rfl ho44 (lo60.ext X46) (by simp; omega) (by simp; omega) (fun y hy _ e => by have h1 := vb45 y e; have h2 := hy.2; have h3 := o39; omega)) ?_
          rintro v53 H54 ⟨hx55, ho56, hb57⟩
          have vb59 : ∀ y, some y = v53.ownBlock → H32.bd ≤ y := fun y q => (hb57 y q).elim (fun e => vb45 y e) (fun e => Nat.le_trans X47.bd e)
          have X64 := Ext.thru X46 hx55 (fun b hb => Nat.le_trans o39 (vb45 b hb))
          have X65 := Ext.thru X47 hx55 (fun b hb => Nat.le_trans o40 (vb45 b hb))
          have q67 := Nat.le_trans X52.bd hx55.bd
          have hb68 := hb48.but hx55 (fun e => by have q := vb45 _ e; omega)
          have hr58 := ho56.okk (ok' := (fun y => y ≠ bx)) (fun y hy _ => hy.elim (fun h => h.elim id (fun (h : H32.bd ≤ y) (e : y = bx) => by have q := o39; have q2 := hbx.lt; omega)) (fun h => h.elim (fun h => h.1) (fun (h : H42.bd ≤ y) (e : y = bx) => by have q := bd61; have q2 := hbx.lt; omega)))
          refine AL.val rfl (.inl rfl) (HV.as rfl) ?_
          refine AL.nx ?_
          refine AW.reg ?_
          have hr69 := hr58.rd
          have X70 := Ext.refl H54
          refine AL.val rfl (.inl rfl) (HV.mv rfl) ?_
          have y71 := hb68.lt
          have o72 := X64.bd
          have o73 := X65.bd
          have o74 := X70.bd
          refine AL.w rfl (.inl rfl) (WV.bsN (okx := (fun y => y ≠ bx)) (K := kR kI) (l := ([] : List (List Int))) (css := []) sl37 rfl rfl (by simp [Instr.fill]) rfl segs_nil) ?_
          rintro v75 H76 ⟨hx77, ho78, vb79⟩
          have q80 := Nat.le_trans q67 hx77.bd
          have X81 := Ext.trans X64 hx77
          have X82 := Ext.trans X65 hx77
          have X83 := Ext.trans X70 hx77
          have hb84 := hb68.ext hx77
          refine AL.val rfl (.inl rfl) (HV.mv rfl) ?_
          refine AL.val rfl (.inl rfl) (HV.nc rfl) ?_
          refine AL.val rfl (.inl rfl) (HV.fa fl79_4 rfl) ?_
          refine AL.val rfl (.inl rfl) (HV.ld rfl va37 (at_cell_add (j := 4) hb84 rfl)) ?_
          refine AL.val rfl (.inl rfl) (HV.mv rfl) ?_
          have X88 := Ext.refl H76
          obtain ⟨v85, hr86, hP87⟩ := RdK.cutH (q := (i : Int)) hro sl37 (by omega) (by omega)
          refine AL.val rfl (.inl rfl) (hP87 rfl rfl) ?_
          have lo96 := RdK.okk (ok' := fun y => y ≠ bx ∧ y < H.bd) hr86 (fun y hy hlt => ⟨hy, hlt⟩)
          have bl98 : bx < H.bd := hbx.lt
          have bd97 := X81.bd
          refine AL.w rfl (.inl rfl) (WV.apk sl37 rfl rfl ho78 (lo96.ext X81) (by simp; omega) (by simp; omega) (fun y hy _ e => by have h1 := vb79 y e; have h2 := hy.2; have h3 := o72; omega)) ?_
          rintro v89 H90 ⟨hx91, ho92, hb93⟩
          have vb95 : ∀ y, some y = v89.ownBlock → H54.bd ≤ y := fun y q => (hb93 y q).elim (fun e => vb79 y e) (fun e => Nat.le_trans X83.bd e)
          have q100 := Nat.le_trans q80 hx91.bd
          have X101 := Ext.thru X81 hx91 (fun b hb => Nat.le_trans o72 (vb79 b hb))
          have X102 := Ext.thru X82 hx91 (fun b hb => Nat.le_trans o73 (vb79 b hb))
          have X103 := Ext.thru X83 hx91 (fun b hb => Nat.le_trans o74 (vb79 b hb))
          have q105 := Nat.le_trans X88.bd hx91.bd
          have hb106 := hb84.but hx91 (fun e => by have q := vb79 _ e; omega)
          have hr94 := ho92.okk (ok' := (fun y => y ≠ bx)) (fun y hy _ => hy.elim (fun h => h.elim id (fun (h : H54.bd ≤ y) (e : y = bx) => by have q := o72; have q2 := hbx.lt; omega)) (fun h => h.elim (fun h => h.1) (fun (h : H76.bd ≤ y) (e : y = bx) => by have q := bd97; have q2 := hbx.lt; omega)))
          refine AL.val rfl (.inl rfl) (HV.mv rfl) ?_
          have X114 := Ext.refl H90
          have lo115 := RdK.okk (ok' := fun y => y ≠ bx ∧ y < H54.bd) hr69 (fun y hy hlt => ⟨hy, hlt⟩)
          have bl117 : bx < H.bd := hbx.lt
          have bd116 := X101.bd
          refine AL.w rfl (.inl rfl) (WV.apk sl37 rfl rfl hr94 (lo115.ext X103) (by simp; omega) (by simp; omega) (fun y hy _ e => by have h1 := vb95 y e; have h2 := hy.2; have h3 := o74; omega)) ?_
          rintro v107 H108 ⟨hx109, ho110, hb111⟩
          have vb113 : ∀ y, some y = v107.ownBlock → H54.bd ≤ y := fun y q => (hb111 y q).elim (fun e => vb95 y e) (fun e => Nat.le_trans X103.bd e)
          have q119 := Nat.le_trans q100 hx109.bd
          have q120 := Nat.le_trans q105 hx109.bd
          have X121 := Ext.thru X101 hx109 (fun b hb => Nat.le_trans o72 (vb95 b hb))
          have X122 := Ext.thru X102 hx109 (fun b hb => Nat.le_trans o73 (vb95 b hb))
          have X123 := Ext.thru X103 hx109 (fun b hb => Nat.le_trans o74 (vb95 b hb))
          have q125 := Nat.le_trans X114.bd hx109.bd
          have hb126 := hb106.but hx109 (fun e => by have q := vb95 _ e; omega)
          have hr112 := ho110.okk (ok' := (fun y => y ≠ bx)) (fun y hy _ => hy.elim (fun h => h) (fun h => h.elim (fun h => h.1) (fun (h : H90.bd ≤ y) (e : y = bx) => by have q := bd116; have q2 := hbx.lt; omega)))
          refine AL.val rfl (.inl rfl) (HV.nc rfl) ?_
          refine AL.val rfl (.inl rfl) (HV.fa fl79_4 rfl) ?_
          refine AL.w0 (.inl rfl) (WV.st rfl rfl va37 (sl_size hr112.isSl) hb126 (Nat.le_of_ble_eq_true rfl) (sl_one hr112.isSl)) ?_
          rintro _ H127 ⟨hx128, ha129⟩
          rw [sl_cells hr112.isSl] at ha129
          have hb130 : At W H127 bx ⟨79, [.int .i64 p, vs, .int .i64 dg, .int .i64 ag, v107], 5⟩ := ha129
          refine AL.nil ?_
          refine post_none rfl ?_ (.inl rfl)
          have e_ := insC_at hi hl1 (fun hlt => by first | omega | (rw [gd (d := []) hz9 rfl]; assumption) | (rw [gd (d := []) hz25 rfl]; assumption)); rw [e_, if_neg (fun q => by first | omega | (have q2 := q.2; rw [gd (d := []) hz9 rfl] at q2; contradiction) | (have q2 := q.2; rw [gd (d := []) hz25 rfl] at q2; contradiction))]; exact ⟨⟨_, hb130, (hr112.rd.but hx128 (fun y hy _ e => hy e) (fun z_ hz_ => by rw [hz_]; exact hb130.w))⟩, (But.trans (Ext.but X121 _) hx128)⟩
      · -- false
        have c21_ : decide ((i : Int) < (out.length : Int)) = false := decide_eq_false c21
        rw [c21_]
        refine AL.off rfl rfl (by decide) rfl ?_
        refine AL.off rfl rfl (by decide) rfl ?_
        refine AL.off rfl rfl (by decide) rfl ?_
        refine AL.off rfl rfl (by decide) rfl ?_
        refine AL.off rfl rfl (by decide) rfl ?_
        refine AL.off rfl rfl (by decide) rfl ?_
        refine AL.off rfl rfl (by decide) rfl ?_
        refine AL.off rfl rfl (by decide) rfl ?_
        refine AL.off rfl rfl (by decide) rfl ?_
        refine AL.val rfl (.inl rfl) (HV.pickF rfl rfl) ?_
        refine AL.nx ?_
        refine AW.cond rfl (fun h => by cases h) (fun _ => ?_)
        refine AW.skip ?_
        refine nrm_and ?_
        refine AW.rs ?_
        refine AL.val rfl (.inl rfl) (HV.mv rfl) ?_
        have X132 := Ext.refl H16
        have y133 := hb19.lt
        have o134 := X18.bd
        have o135 := X132.bd
        refine AL.w rfl (.inl rfl) (WV.bsN (okx := (fun y => y ≠ bx)) (K := kR kI) (l := [c]) (css := [[vc]]) sl37 rfl rfl (by obtain ⟨A_, c_, e_⟩ := hrc.isSl; rw [e_]; simp [Instr.fill, Value.cells, kR, rng1]) rfl (segs_cons ⟨_, rfl, hrc.ext X18⟩ segs_nil)) ?_
        rintro v136 H137 ⟨hx138, ho139, vb140⟩
        have X141 := Ext.trans X18 hx138
        have X142 := Ext.trans X132 hx138
        have hb143 := hb19.ext hx138
        refine AL.val rfl (.inl rfl) (HV.mv rfl) ?_
        refine AL.val rfl (.inl rfl) (HV.nc rfl) ?_
        refine AL.val rfl (.inl rfl) (HV.fa fl79_4 rfl) ?_
        refine AL.val rfl (.inl rfl) (HV.ld rfl va37 (at_cell_add (j := 4) hb143 rfl)) ?_
        refine AL.val rfl (.inl rfl) (HV.mv rfl) ?_
        have X147 := Ext.refl H137
        obtain ⟨v144, hr145, hP146⟩ := RdK.cutL (q := (i : Int)) hro sl37 (by omega) (by omega)
        refine AL.val rfl (.inl rfl) (hP146 rfl rfl) ?_
        have lo155 := RdK.okk (ok' := fun y => y ≠ bx ∧ y < H.bd) hr145 (fun y hy hlt => ⟨hy, hlt⟩)
        have bl157 : bx < H.bd := hbx.lt
        have bd156 := X141.bd
        refine AL.w rfl (.inl rfl) (WV.apk sl37 rfl rfl ho139 (lo155.ext X141) (by simp; omega) (by simp; omega) (fun y hy _ e => by have h1 := vb140 y e; have h2 := hy.2; have h3 := o134; omega)) ?_
        rintro v148 H149 ⟨hx150, ho151, hb152⟩
        have vb154 : ∀ y, some y = v148.ownBlock → H16.bd ≤ y := fun y q => (hb152 y q).elim (fun e => vb140 y e) (fun e => Nat.le_trans X142.bd e)
        have X159 := Ext.thru X141 hx150 (fun b hb => Nat.le_trans o134 (vb140 b hb))
        have X160 := Ext.thru X142 hx150 (fun b hb => Nat.le_trans o135 (vb140 b hb))
        have q162 := Nat.le_trans X147.bd hx150.bd
        have hb163 := hb143.but hx150 (fun e => by have q := vb140 _ e; omega)
        have hr153 := ho151.okk (ok' := (fun y => y ≠ bx)) (fun y hy _ => hy.elim (fun h => h.elim id (fun (h : H16.bd ≤ y) (e : y = bx) => by have q := o134; have q2 := hbx.lt; omega)) (fun h => h.elim (fun h => h.1) (fun (h : H137.bd ≤ y) (e : y = bx) => by have q := bd156; have q2 := hbx.lt; omega)))
        refine AL.val rfl (.inl rfl) (HV.as rfl) ?_
        refine AL.nx ?_
        refine AW.reg ?_
        have hr164 := hr153.rd
        have X165 := Ext.refl H149
        refine AL.val rfl (.inl rfl) (HV.mv rfl) ?_
        have y166 := hb163.lt
        have o167 := X159.bd
        have o168 := X160.bd
        have o169 := X165.bd
        refine AL.w rfl (.inl rfl) (WV.bsN (okx := (fun y => y ≠ bx)) (K := kR kI) (l := ([] : List (List Int))) (css := []) sl37 rfl rfl (by simp [Instr.fill]) rfl segs_nil) ?_
        rintro v170 H171 ⟨hx172, ho173, vb174⟩
        have q175 := Nat.le_trans q162 hx172.bd
        have X176 := Ext.trans X159 hx172
        have X177 := Ext.trans X160 hx172
        have X178 := Ext.trans X165 hx172
        have hb179 := hb163.ext hx172
        refine AL.val rfl (.inl rfl) (HV.mv rfl) ?_
        refine AL.val rfl (.inl rfl) (HV.nc rfl) ?_
        refine AL.val rfl (.inl rfl) (HV.fa fl79_4 rfl) ?_
        refine AL.val rfl (.inl rfl) (HV.ld rfl va37 (at_cell_add (j := 4) hb179 rfl)) ?_
        refine AL.val rfl (.inl rfl) (HV.mv rfl) ?_
        have X183 := Ext.refl H171
        obtain ⟨v180, hr181, hP182⟩ := RdK.cutH (q := (i : Int)) hro sl37 (by omega) (by omega)
        refine AL.val rfl (.inl rfl) (hP182 rfl rfl) ?_
        have lo191 := RdK.okk (ok' := fun y => y ≠ bx ∧ y < H.bd) hr181 (fun y hy hlt => ⟨hy, hlt⟩)
        have bl193 : bx < H.bd := hbx.lt
        have bd192 := X176.bd
        refine AL.w rfl (.inl rfl) (WV.apk sl37 rfl rfl ho173 (lo191.ext X176) (by simp; omega) (by simp; omega) (fun y hy _ e => by have h1 := vb174 y e; have h2 := hy.2; have h3 := o167; omega)) ?_
        rintro v184 H185 ⟨hx186, ho187, hb188⟩
        have vb190 : ∀ y, some y = v184.ownBlock → H149.bd ≤ y := fun y q => (hb188 y q).elim (fun e => vb174 y e) (fun e => Nat.le_trans X178.bd e)
        have q195 := Nat.le_trans q175 hx186.bd
        have X196 := Ext.thru X176 hx186 (fun b hb => Nat.le_trans o167 (vb174 b hb))
        have X197 := Ext.thru X177 hx186 (fun b hb => Nat.le_trans o168 (vb174 b hb))
        have X198 := Ext.thru X178 hx186 (fun b hb => Nat.le_trans o169 (vb174 b hb))
        have q200 := Nat.le_trans X183.bd hx186.bd
        have hb201 := hb179.but hx186 (fun e => by have q := vb174 _ e; omega)
        have hr189 := ho187.okk (ok' := (fun y => y ≠ bx)) (fun y hy _ => hy.elim (fun h => h.elim id (fun (h : H149.bd ≤ y) (e : y = bx) => by have q := o167; have q2 := hbx.lt; omega)) (fun h => h.elim (fun h => h.1) (fun (h : H171.bd ≤ y) (e : y = bx) => by have q := bd192; have q2 := hbx.lt; omega)))
        refine AL.val rfl (.inl rfl) (HV.mv rfl) ?_
        have X209 := Ext.refl H185
        have lo210 := RdK.okk (ok' := fun y => y ≠ bx ∧ y < H149.bd) hr164 (fun y hy hlt => ⟨hy, hlt⟩)
        have bl212 : bx < H.bd := hbx.lt
        have bd211 := X196.bd
        refine AL.w rfl (.inl rfl) (WV.apk sl37 rfl rfl hr189 (lo210.ext X198) (by simp; omega) (by simp; omega) (fun y hy _ e => by have h1 := vb190 y e; have h2 := hy.2; have h3 := o169; omega)) ?_
        rintro v202 H203 ⟨hx204, ho205, hb206⟩
        have vb208 : ∀ y, some y = v202.ownBlock → H149.bd ≤ y := fun y q => (hb206 y q).elim (fun e => vb190 y e) (fun e => Nat.le_trans X198.bd e)
        have q214 := Nat.le_trans q195 hx204.bd
        have q215 := Nat.le_trans q200 hx204.bd
        have X216 := Ext.thru X196 hx204 (fun b hb => Nat.le_trans o167 (vb190 b hb))
        have X217 := Ext.thru X197 hx204 (fun b hb => Nat.le_trans o168 (vb190 b hb))
        have X218 := Ext.thru X198 hx204 (fun b hb => Nat.le_trans o169 (vb190 b hb))
        have q220 := Nat.le_trans X209.bd hx204.bd
        have hb221 := hb201.but hx204 (fun e => by have q := vb190 _ e; omega)
        have hr207 := ho205.okk (ok' := (fun y => y ≠ bx)) (fun y hy _ => hy.elim (fun h => h) (fun h => h.elim (fun h => h.1) (fun (h : H185.bd ≤ y) (e : y = bx) => by have q := bd211; have q2 := hbx.lt; omega)))
        refine AL.val rfl (.inl rfl) (HV.nc rfl) ?_
        refine AL.val rfl (.inl rfl) (HV.fa fl79_4 rfl) ?_
        refine AL.w0 (.inl rfl) (WV.st rfl rfl va37 (sl_size hr207.isSl) hb221 (Nat.le_of_ble_eq_true rfl) (sl_one hr207.isSl)) ?_
        rintro _ H222 ⟨hx223, ha224⟩
        rw [sl_cells hr207.isSl] at ha224
        have hb225 : At W H222 bx ⟨79, [.int .i64 p, vs, .int .i64 dg, .int .i64 ag, v202], 5⟩ := ha224
        refine AL.nil ?_
        refine post_none rfl ?_ (.inl rfl)
        have e_ := insC_at hi hl1 (fun hlt => by first | omega | (rw [gd (d := []) hz9 rfl]; assumption)); rw [e_, if_neg (fun q => by first | omega | (have q2 := q.2; rw [gd (d := []) hz9 rfl] at q2; contradiction))]; exact ⟨⟨_, hb225, (hr207.rd.but hx223 (fun y hy _ e => hy e) (fun z_ hz_ => by rw [hz_]; exact hb225.w))⟩, (But.trans (Ext.but X216 _) hx223)⟩
  · -- false
    have c5_ : decide ((i : Int) < (out.length : Int)) = false := decide_eq_false c5
    rw [c5_]
    refine AL.off rfl rfl (by decide) rfl ?_
    refine AL.off rfl rfl (by decide) rfl ?_
    refine AL.off rfl rfl (by decide) rfl ?_
    refine AL.off rfl rfl (by decide) rfl ?_
    refine AL.off rfl rfl (by decide) rfl ?_
    refine AL.off rfl rfl (by decide) rfl ?_
    refine AL.off rfl rfl (by decide) rfl ?_
    refine AL.off rfl rfl (by decide) rfl ?_
    refine AL.off rfl rfl (by decide) rfl ?_
    refine AL.val rfl (.inl rfl) (HV.pickF rfl rfl) ?_
    refine AL.nx ?_
    refine AW.cond rfl (fun h => by cases h) (fun _ => ?_)
    refine AW.exit ?_
    refine ex_and (ex_and (ex_blk ?_))
    refine nrm_and ?_
    refine AW.seq ?_
    refine AW.rs ?_
    refine AL.val rfl (.inl rfl) (HV.mv rfl) ?_
    refine AL.val rfl (.inl rfl) (HV.mv rfl) ?_
    refine AL.val rfl (.inl rfl) (HV.nc rfl) ?_
    refine AL.val rfl (.inl rfl) (HV.fa fl79_4 rfl) ?_
    refine AL.val rfl (.inl rfl) (HV.ld rfl va37 (at_cell_add (j := 4) hb4 rfl)) ?_
    refine AL.val rfl (.inl rfl) (HV.len Tryz.underlying37 rfl hro.isSl) ?_
    refine AL.val rfl (.inl rfl) (HV.lti rfl rfl) ?_
    refine AL.val rfl (.inl rfl) (HV.mv rfl) ?_
    by_cases c227 : (i : Int) < (out.length : Int)
    · -- true
      have c227_ : decide ((i : Int) < (out.length : Int)) = true := decide_eq_true c227
      rw [c227_]
      refine AL.val rfl (.inr ⟨_, _, _, rfl, rfl, rfl⟩) (HV.mv rfl) ?_
      refine AL.val rfl (.inr ⟨_, _, _, rfl, rfl, rfl⟩) (HV.nc rfl) ?_
      refine AL.val rfl (.inr ⟨_, _, _, rfl, rfl, rfl⟩) (HV.fa fl79_4 rfl) ?_
      refine AL.val rfl (.inr ⟨_, _, _, rfl, rfl, rfl⟩) (HV.ld rfl va37 (at_cell_add (j := 4) hb4 rfl)) ?_
      refine AL.val rfl (.inr ⟨_, _, _, rfl, rfl, rfl⟩) (HV.mv rfl) ?_
      obtain ⟨p228, z229, cs230, hz231, hK232, hC233, hP234⟩ := RdK.ix (q := (i : Int)) hro sl37 (by omega) (by omega)
      obtain ⟨v235, rfl, hr236⟩ := hK232
      have hm237 := hr236.max
      refine AL.val rfl (.inr ⟨_, _, _, rfl, rfl, rfl⟩) (hP234 rfl rfl) ?_
      refine AL.val rfl (.inr ⟨_, _, _, rfl, rfl, rfl⟩) (HV.ld rfl va25 (cells_first (hC233.ext X3) rfl)) ?_
      refine AL.val rfl (.inr ⟨_, _, _, rfl, rfl, rfl⟩) (HV.mv rfl) ?_
      refine AL.w rfl (.inr ⟨_, _, _, rfl, rfl, rfl⟩) (WV.call fn103 rfl (same_ok (hr236.ext X3) (hrc.ext X3))) ?_
      rintro _ H238 ⟨rfl, hx239⟩
      have X240 := Ext.trans X3 hx239
      have hb241 := hb4.ext hx239
      refine AL.val rfl (.inl rfl) (HV.pickT rfl rfl) ?_
      refine AL.nx ?_
      refine AW.ifd rfl (fun c242 => ?_) (fun c242 => ?_)
      · -- then
        refine AW.ret ?_
        refine ret_and ?_
        refine post_none rfl ?_ (.inr rfl)
        have e_ := insC_at hi hl1 (fun hlt => by first | omega | (rw [gd (d := []) hz231 rfl]; assumption)); rw [e_, if_pos ⟨by omega, by first | omega | (rw [gd (d := []) hz231 rfl]; assumption)⟩]; exact ⟨⟨_, hb241, (hro.ext X240)⟩, Ext.but X240 _⟩
      · -- else
        refine AW.skip ?_
        refine nrm_and ?_
        refine AW.rs ?_
        refine AL.val rfl (.inl rfl) (HV.mv rfl) ?_
        have X243 := Ext.refl H238
        have y244 := hb241.lt
        have o245 := X240.bd
        have o246 := X243.bd
        refine AL.w rfl (.inl rfl) (WV.bsN (okx := (fun y => y ≠ bx)) (K := kR kI) (l := [c]) (css := [[vc]]) sl37 rfl rfl (by obtain ⟨A_, c_, e_⟩ := hrc.isSl; rw [e_]; simp [Instr.fill, Value.cells, kR, rng1]) rfl (segs_cons ⟨_, rfl, hrc.ext X240⟩ segs_nil)) ?_
        rintro v247 H248 ⟨hx249, ho250, vb251⟩
        have X252 := Ext.trans X240 hx249
        have X253 := Ext.trans X243 hx249
        have hb254 := hb241.ext hx249
        refine AL.val rfl (.inl rfl) (HV.mv rfl) ?_
        refine AL.val rfl (.inl rfl) (HV.nc rfl) ?_
        refine AL.val rfl (.inl rfl) (HV.fa fl79_4 rfl) ?_
        refine AL.val rfl (.inl rfl) (HV.ld rfl va37 (at_cell_add (j := 4) hb254 rfl)) ?_
        refine AL.val rfl (.inl rfl) (HV.mv rfl) ?_
        have X258 := Ext.refl H248
        obtain ⟨v255, hr256, hP257⟩ := RdK.cutL (q := (i : Int)) hro sl37 (by omega) (by omega)
        refine AL.val rfl (.inl rfl) (hP257 rfl rfl) ?_
        have lo266 := RdK.okk (ok' := fun y => y ≠ bx ∧ y < H.bd) hr256 (fun y hy hlt => ⟨hy, hlt⟩)
        have bl268 : bx < H.bd := hbx.lt
        have bd267 := X252.bd
        refine AL.w rfl (.inl rfl) (WV.apk sl37 rfl rfl ho250 (lo266.ext X252) (by simp; omega) (by simp; omega) (fun y hy _ e => by have h1 := vb251 y e; have h2 := hy.2; have h3 := o245; omega)) ?_
        rintro v259 H260 ⟨hx261, ho262, hb263⟩
        have vb265 : ∀ y, some y = v259.ownBlock → H238.bd ≤ y := fun y q => (hb263 y q).elim (fun e => vb251 y e) (fun e => Nat.le_trans X253.bd e)
        have X270 := Ext.thru X252 hx261 (fun b hb => Nat.le_trans o245 (vb251 b hb))
        have X271 := Ext.thru X253 hx261 (fun b hb => Nat.le_trans o246 (vb251 b hb))
        have q273 := Nat.le_trans X258.bd hx261.bd
        have hb274 := hb254.but hx261 (fun e => by have q := vb251 _ e; omega)
        have hr264 := ho262.okk (ok' := (fun y => y ≠ bx)) (fun y hy _ => hy.elim (fun h => h.elim id (fun (h : H238.bd ≤ y) (e : y = bx) => by have q := o245; have q2 := hbx.lt; omega)) (fun h => h.elim (fun h => h.1) (fun (h : H248.bd ≤ y) (e : y = bx) => by have q := bd267; have q2 := hbx.lt; omega)))
        refine AL.val rfl (.inl rfl) (HV.as rfl) ?_
        refine AL.nx ?_
        refine AW.reg ?_
        have hr275 := hr264.rd
        have X276 := Ext.refl H260
        refine AL.val rfl (.inl rfl) (HV.mv rfl) ?_
        have y277 := hb274.lt
        have o278 := X270.bd
        have o279 := X271.bd
        have o280 := X276.bd
        refine AL.w rfl (.inl rfl) (WV.bsN (okx := (fun y => y ≠ bx)) (K := kR kI) (l := ([] : List (List Int))) (css := []) sl37 rfl rfl (by simp [Instr.fill]) rfl segs_nil) ?_
        rintro v281 H282 ⟨hx283, ho284, vb285⟩
        have q286 := Nat.le_trans q273 hx283.bd
        have X287 := Ext.trans X270 hx283
        have X288 := Ext.trans X271 hx283
        have X289 := Ext.trans X276 hx283
        have hb290 := hb274.ext hx283
        refine AL.val rfl (.inl rfl) (HV.mv rfl) ?_
        refine AL.val rfl (.inl rfl) (HV.nc rfl) ?_
        refine AL.val rfl (.inl rfl) (HV.fa fl79_4 rfl) ?_
        refine AL.val rfl (.inl rfl) (HV.ld rfl va37 (at_cell_add (j := 4) hb290 rfl)) ?_
        refine AL.val rfl (.inl rfl) (HV.mv rfl) ?_
        have X294 := Ext.refl H282
        obtain ⟨v291, hr292, hP293⟩ := RdK.cutH (q := (i : Int)) hro sl37 (by omega) (by omega)
        refine AL.val rfl (.inl rfl) (hP293 rfl rfl) ?_
        have lo302 := RdK.okk (ok' := fun y => y ≠ bx ∧ y < H.bd) hr292 (fun y hy hlt => ⟨hy, hlt⟩)
        have bl304 : bx < H.bd := hbx.lt
        have bd303 := X287.bd
        refine AL.w rfl (.inl rfl) (WV.apk sl37 rfl rfl ho284 (lo302.ext X287) (by simp; omega) (by simp; omega) (fun y hy _ e => by have h1 := vb285 y e; have h2 := hy.2; have h3 := o278; omega)) ?_
        rintro v295 H296 ⟨hx297, ho298, hb299⟩
        have vb301 : ∀ y, some y = v295.ownBlock → H260.bd ≤ y := fun y q => (hb299 y q).elim (fun e => vb285 y e) (fun e => Nat.le_trans X289.bd e)
        have q306 := Nat.le_trans q286 hx297.bd
        have X307 := Ext.thru X287 hx297 (fun b hb => Nat.le_trans o278 (vb285 b hb))
        have X308 := Ext.thru X288 hx297 (fun b hb => Nat.le_trans o279 (vb285 b hb))
        have X309 := Ext.thru X289 hx297 (fun b hb => Nat.le_trans o280 (vb285 b hb))
        have q311 := Nat.le_trans X294.bd hx297.bd
        have hb312 := hb290.but hx297 (fun e => by have q := vb285 _ e; omega)
        have hr300 := ho298.okk (ok' := (fun y => y ≠ bx)) (fun y hy _ => hy.elim (fun h => h.elim id (fun (h : H260.bd ≤ y) (e : y = bx) => by have q := o278; have q2 := hbx.lt; omega)) (fun h => h.elim (fun h => h.1) (fun (h : H282.bd ≤ y) (e : y = bx) => by have q := bd303; have q2 := hbx.lt; omega)))
        refine AL.val rfl (.inl rfl) (HV.mv rfl) ?_
        have X320 := Ext.refl H296
        have lo321 := RdK.okk (ok' := fun y => y ≠ bx ∧ y < H260.bd) hr275 (fun y hy hlt => ⟨hy, hlt⟩)
        have bl323 : bx < H.bd := hbx.lt
        have bd322 := X307.bd
        refine AL.w rfl (.inl rfl) (WV.apk sl37 rfl rfl hr300 (lo321.ext X309) (by simp; omega) (by simp; omega) (fun y hy _ e => by have h1 := vb301 y e; have h2 := hy.2; have h3 := o280; omega)) ?_
        rintro v313 H314 ⟨hx315, ho316, hb317⟩
        have vb319 : ∀ y, some y = v313.ownBlock → H260.bd ≤ y := fun y q => (hb317 y q).elim (fun e => vb301 y e) (fun e => Nat.le_trans X309.bd e)
        have q325 := Nat.le_trans q306 hx315.bd
        have q326 := Nat.le_trans q311 hx315.bd
        have X327 := Ext.thru X307 hx315 (fun b hb => Nat.le_trans o278 (vb301 b hb))
        have X328 := Ext.thru X308 hx315 (fun b hb => Nat.le_trans o279 (vb301 b hb))
        have X329 := Ext.thru X309 hx315 (fun b hb => Nat.le_trans o280 (vb301 b hb))
        have q331 := Nat.le_trans X320.bd hx315.bd
        have hb332 := hb312.but hx315 (fun e => by have q := vb301 _ e; omega)
        have hr318 := ho316.okk (ok' := (fun y => y ≠ bx)) (fun y hy _ => hy.elim (fun h => h) (fun h => h.elim (fun h => h.1) (fun (h : H296.bd ≤ y) (e : y = bx) => by have q := bd322; have q2 := hbx.lt; omega)))
        refine AL.val rfl (.inl rfl) (HV.nc rfl) ?_
        refine AL.val rfl (.inl rfl) (HV.fa fl79_4 rfl) ?_
        refine AL.w0 (.inl rfl) (WV.st rfl rfl va37 (sl_size hr318.isSl) hb332 (Nat.le_of_ble_eq_true rfl) (sl_one hr318.isSl)) ?_
        rintro _ H333 ⟨hx334, ha335⟩
        rw [sl_cells hr318.isSl] at ha335
        have hb336 : At W H333 bx ⟨79, [.int .i64 p, vs, .int .i64 dg, .int .i64 ag, v313], 5⟩ := ha335
        refine AL.nil ?_
        refine post_none rfl ?_ (.inl rfl)
        have e_ := insC_at hi hl1 (fun hlt => by first | omega | (rw [gd (d := []) hz231 rfl]; assumption)); rw [e_, if_neg (fun q => by first | omega | (have q2 := q.2; rw [gd (d := []) hz231 rfl] at q2; contradiction))]; exact ⟨⟨_, hb336, (hr318.rd.but hx334 (fun y hy _ e => hy e) (fun z_ hz_ => by rw [hz_]; exact hb336.w))⟩, (But.trans (Ext.but X327 _) hx334)⟩
    · -- false
      have c227_ : decide ((i : Int) < (out.length : Int)) = false := decide_eq_false c227
      rw [c227_]
      refine AL.off rfl rfl (by decide) rfl ?_
      refine AL.off rfl rfl (by decide) rfl ?_
      refine AL.off rfl rfl (by decide) rfl ?_
      refine AL.off rfl rfl (by decide) rfl ?_
      refine AL.off rfl rfl (by decide) rfl ?_
      refine AL.off rfl rfl (by decide) rfl ?_
      refine AL.off rfl rfl (by decide) rfl ?_
      refine AL.off rfl rfl (by decide) rfl ?_
      refine AL.off rfl rfl (by decide) rfl ?_
      refine AL.val rfl (.inl rfl) (HV.pickF rfl rfl) ?_
      refine AL.nx ?_
      refine AW.cond rfl (fun h => by cases h) (fun _ => ?_)
      refine AW.skip ?_
      refine nrm_and ?_
      refine AW.rs ?_
      refine AL.val rfl (.inl rfl) (HV.mv rfl) ?_
      have X338 := Ext.refl H2
      have y339 := hb4.lt
      have o340 := X3.bd
      have o341 := X338.bd
      refine AL.w rfl (.inl rfl) (WV.bsN (okx := (fun y => y ≠ bx)) (K := kR kI) (l := [c]) (css := [[vc]]) sl37 rfl rfl (by obtain ⟨A_, c_, e_⟩ := hrc.isSl; rw [e_]; simp [Instr.fill, Value.cells, kR, rng1]) rfl (segs_cons ⟨_, rfl, hrc.ext X3⟩ segs_nil)) ?_
      rintro v342 H343 ⟨hx344, ho345, vb346⟩
      have X347 := Ext.trans X3 hx344
      have X348 := Ext.trans X338 hx344
      have hb349 := hb4.ext hx344
      refine AL.val rfl (.inl rfl) (HV.mv rfl) ?_
      refine AL.val rfl (.inl rfl) (HV.nc rfl) ?_
      refine AL.val rfl (.inl rfl) (HV.fa fl79_4 rfl) ?_
      refine AL.val rfl (.inl rfl) (HV.ld rfl va37 (at_cell_add (j := 4) hb349 rfl)) ?_
      refine AL.val rfl (.inl rfl) (HV.mv rfl) ?_
      have X353 := Ext.refl H343
      obtain ⟨v350, hr351, hP352⟩ := RdK.cutL (q := (i : Int)) hro sl37 (by omega) (by omega)
      refine AL.val rfl (.inl rfl) (hP352 rfl rfl) ?_
      have lo361 := RdK.okk (ok' := fun y => y ≠ bx ∧ y < H.bd) hr351 (fun y hy hlt => ⟨hy, hlt⟩)
      have bl363 : bx < H.bd := hbx.lt
      have bd362 := X347.bd
      refine AL.w rfl (.inl rfl) (WV.apk sl37 rfl rfl ho345 (lo361.ext X347) (by simp; omega) (by simp; omega) (fun y hy _ e => by have h1 := vb346 y e; have h2 := hy.2; have h3 := o340; omega)) ?_
      rintro v354 H355 ⟨hx356, ho357, hb358⟩
      have vb360 : ∀ y, some y = v354.ownBlock → H2.bd ≤ y := fun y q => (hb358 y q).elim (fun e => vb346 y e) (fun e => Nat.le_trans X348.bd e)
      have X365 := Ext.thru X347 hx356 (fun b hb => Nat.le_trans o340 (vb346 b hb))
      have X366 := Ext.thru X348 hx356 (fun b hb => Nat.le_trans o341 (vb346 b hb))
      have q368 := Nat.le_trans X353.bd hx356.bd
      have hb369 := hb349.but hx356 (fun e => by have q := vb346 _ e; omega)
      have hr359 := ho357.okk (ok' := (fun y => y ≠ bx)) (fun y hy _ => hy.elim (fun h => h.elim id (fun (h : H2.bd ≤ y) (e : y = bx) => by have q := o340; have q2 := hbx.lt; omega)) (fun h => h.elim (fun h => h.1) (fun (h : H343.bd ≤ y) (e : y = bx) => by have q := bd362; have q2 := hbx.lt; omega)))
      refine AL.val rfl (.inl rfl) (HV.as rfl) ?_
      refine AL.nx ?_
      refine AW.reg ?_
      have hr370 := hr359.rd
      have X371 := Ext.refl H355
      refine AL.val rfl (.inl rfl) (HV.mv rfl) ?_
      have y372 := hb369.lt
      have o373 := X365.bd
      have o374 := X366.bd
      have o375 := X371.bd
      refine AL.w rfl (.inl rfl) (WV.bsN (okx := (fun y => y ≠ bx)) (K := kR kI) (l := ([] : List (List Int))) (css := []) sl37 rfl rfl (by simp [Instr.fill]) rfl segs_nil) ?_
      rintro v376 H377 ⟨hx378, ho379, vb380⟩
      have q381 := Nat.le_trans q368 hx378.bd
      have X382 := Ext.trans X365 hx378
      have X383 := Ext.trans X366 hx378
      have X384 := Ext.trans X371 hx378
      have hb385 := hb369.ext hx378
      refine AL.val rfl (.inl rfl) (HV.mv rfl) ?_
      refine AL.val rfl (.inl rfl) (HV.nc rfl) ?_
      refine AL.val rfl (.inl rfl) (HV.fa fl79_4 rfl) ?_
      refine AL.val rfl (.inl rfl) (HV.ld rfl va37 (at_cell_add (j := 4) hb385 rfl)) ?_
      refine AL.val rfl (.inl rfl) (HV.mv rfl) ?_
      have X389 := Ext.refl H377
      obtain ⟨v386, hr387, hP388⟩ := RdK.cutH (q := (i : Int)) hro sl37 (by omega) (by omega)
      refine AL.val rfl (.inl rfl) (hP388 rfl rfl) ?_
      have lo397 := RdK.okk (ok' := fun y => y ≠ bx ∧ y < H.bd) hr387 (fun y hy hlt => ⟨hy, hlt⟩)
      have bl399 : bx < H.bd := hbx.lt
      have bd398 := X382.bd
      refine AL.w rfl (.inl rfl) (WV.apk sl37 rfl rfl ho379 (lo397.ext X382) (by simp; omega) (by simp; omega) (fun y hy _ e => by have h1 := vb380 y e; have h2 := hy.2; have h3 := o373; omega)) ?_
      rintro v390 H391 ⟨hx392, ho393, hb394⟩
      have vb396 : ∀ y, some y = v390.ownBlock → H355.bd ≤ y := fun y q => (hb394 y q).elim (fun e => vb380 y e) (fun e => Nat.le_trans X384.bd e)
      have q401 := Nat.le_trans q381 hx392.bd
      have X402 := Ext.thru X382 hx392 (fun b hb => Nat.le_trans o373 (vb380 b hb))
      have X403 := Ext.thru X383 hx392 (fun b hb => Nat.le_trans o374 (vb380 b hb))
      have X404 := Ext.thru X384 hx392 (fun b hb => Nat.le_trans o375 (vb380 b hb))
      have q406 := Nat.le_trans X389.bd hx392.bd
      have hb407 := hb385.but hx392 (fun e => by have q := vb380 _ e; omega)
      have hr395 := ho393.okk (ok' := (fun y => y ≠ bx)) (fun y hy _ => hy.elim (fun h => h.elim id (fun (h : H355.bd ≤ y) (e : y = bx) => by have q := o373; have q2 := hbx.lt; omega)) (fun h => h.elim (fun h => h.1) (fun (h : H377.bd ≤ y) (e : y = bx) => by have q := bd398; have q2 := hbx.lt; omega)))
      refine AL.val rfl (.inl rfl) (HV.mv rfl) ?_
      have X415 := Ext.refl H391
      have lo416 := RdK.okk (ok' := fun y => y ≠ bx ∧ y < H355.bd) hr370 (fun y hy hlt => ⟨hy, hlt⟩)
      have bl418 : bx < H.bd := hbx.lt
      have bd417 := X402.bd
      refine AL.w rfl (.inl rfl) (WV.apk sl37 rfl rfl hr395 (lo416.ext X404) (by simp; omega) (by simp; omega) (fun y hy _ e => by have h1 := vb396 y e; have h2 := hy.2; have h3 := o375; omega)) ?_
      rintro v408 H409 ⟨hx410, ho411, hb412⟩
      have vb414 : ∀ y, some y = v408.ownBlock → H355.bd ≤ y := fun y q => (hb412 y q).elim (fun e => vb396 y e) (fun e => Nat.le_trans X404.bd e)
      have q420 := Nat.le_trans q401 hx410.bd
      have q421 := Nat.le_trans q406 hx410.bd
      have X422 := Ext.thru X402 hx410 (fun b hb => Nat.le_trans o373 (vb396 b hb))
      have X423 := Ext.thru X403 hx410 (fun b hb => Nat.le_trans o374 (vb396 b hb))
      have X424 := Ext.thru X404 hx410 (fun b hb => Nat.le_trans o375 (vb396 b hb))
      have q426 := Nat.le_trans X415.bd hx410.bd
      have hb427 := hb407.but hx410 (fun e => by have q := vb396 _ e; omega)
      have hr413 := ho411.okk (ok' := (fun y => y ≠ bx)) (fun y hy _ => hy.elim (fun h => h) (fun h => h.elim (fun h => h.1) (fun (h : H391.bd ≤ y) (e : y = bx) => by have q := bd417; have q2 := hbx.lt; omega)))
      refine AL.val rfl (.inl rfl) (HV.nc rfl) ?_
      refine AL.val rfl (.inl rfl) (HV.fa fl79_4 rfl) ?_
      refine AL.w0 (.inl rfl) (WV.st rfl rfl va37 (sl_size hr413.isSl) hb427 (Nat.le_of_ble_eq_true rfl) (sl_one hr413.isSl)) ?_
      rintro _ H428 ⟨hx429, ha430⟩
      rw [sl_cells hr413.isSl] at ha430
      have hb431 : At W H428 bx ⟨79, [.int .i64 p, vs, .int .i64 dg, .int .i64 ag, v408], 5⟩ := ha430
      refine AL.nil ?_
      refine post_none rfl ?_ (.inl rfl)
      have e_ := insC_at hi hl1 (fun hlt => by first | omega); rw [e_, if_neg (fun q => by first | omega)]; exact ⟨⟨_, hb431, (hr413.rd.but hx429 (fun y hy _ e => hy e) (fun z_ hz_ => by rw [hz_]; exact hb431.w))⟩, (But.trans (Ext.but X422 _) hx429)⟩
end Go.Proofs.YtbjcgcililpfdaaGreat.VC

