/- Walks. -/
import Derived.Test.YtbjcgcililpfdaaGreatZNP
set_option linter.unusedVariables false
set_option linter.unusedSimpArgs false
namespace Go.Proofs.YtbjcgcililpfdaaGreat.VC
open Go Go.RowKit
variable {W : World} {H : Hp}

set_option maxRecDepth 100000 in
theorem isPrime_ok (p : Int) : ACalls Tryz.prog W 61 #[.int .i64 p] H (fun r H' => r = .bool (decide (primeI p)) ∧ Ext H H') := by
  refine ACalls.of (args := [.int .i64 p]) Tryz.func61 rfl rfl ?_
  have X0 := Ext.refl H
  refine AW.rs ?_
  refine AL.val rfl (.inl rfl) (HV.as rfl) ?_
  refine AL.nx ?_
  refine AW.seq ?_
  refine AW.rs ?_
  refine AL.val rfl (.inl rfl) (HV.as rfl) ?_
  refine AL.nx ?_
  refine AW.block ?_
  refine AW.loop (σ := Int) (fun d => [(0, .int .i64 p), (3, .int .i64 d)]) (fun d H' => Ext H H' ∧ 2 ≤ d ∧ d ≤ 6 ∧ (∀ e : Int, 2 ≤ e → e < d → p % e ≠ 0) ∧ True) (fun d => (7 - d).toNat) 2 ⟨X0, by decide, by decide, fun e h1 h2 => by omega, trivial⟩ ⟨rfl, rfl, trivial⟩ ?_
  rintro d H1 ⟨X2, hd, hd6, he, _⟩
  refine AW.seq ?_
  refine AW.rs ?_
  refine AL.val rfl (.inl rfl) (HV.mv rfl) ?_
  refine AL.val rfl (.inl rfl) (HV.mv rfl) ?_
  refine AL.val rfl (.inl rfl) (HV.mul rfl rfl (by have := sq6 hd hd6; omega)) ?_
  refine AL.val rfl (.inl rfl) (HV.mv rfl) ?_
  refine AL.val rfl (.inl rfl) (HV.lei rfl rfl) ?_
  refine AL.val rfl (.inl rfl) (HV.mv rfl) ?_
  by_cases c3 : (d * d) ≤ p
  · -- true
    have c3_ : decide ((d * d) ≤ p) = true := decide_eq_true c3
    rw [c3_]
    refine AL.val rfl (.inr ⟨_, _, _, rfl, rfl, rfl⟩) (HV.mv rfl) ?_
    refine AL.val rfl (.inr ⟨_, _, _, rfl, rfl, rfl⟩) (HV.lei rfl rfl) ?_
    refine AL.val rfl (.inl rfl) (HV.pickT rfl rfl) ?_
    refine AL.nx ?_
    refine AW.ifd rfl (fun c4 => ?_) (fun c4 => ?_)
    · -- then
      refine AW.skip ?_
      refine nrm_and ?_
      refine AW.seq ?_
      refine AW.block ?_
      refine AW.rs ?_
      refine AL.val rfl (.inl rfl) (HV.mv rfl) ?_
      refine AL.val rfl (.inl rfl) (HV.mv rfl) ?_
      refine AL.val rfl (.inl rfl) (HV.rem rfl rfl (by have := sq6 hd hd6; omega)) ?_
      refine AL.val rfl (.inl rfl) (HV.eqi rfl rfl) ?_
      refine AL.nx ?_
      refine AW.ifd rfl (fun c5 => ?_) (fun c5 => ?_)
      · -- then
        refine AW.rs ?_
        refine AL.val rfl (.inl rfl) (HV.as rfl) ?_
        refine AL.nx ?_
        refine AW.ret ?_
        refine ret_blk (ret_and (ret_and (ret_blk (ret_and ?_))))
        refine post_one rfl rfl ?_ (.inr rfl)
        exact ⟨dec_f (fun h => h.2 d hd (by omega) c5), X2⟩
      · -- else
        refine AW.skip ?_
        refine nrm_blk (nrm_and ?_)
        refine AW.reg ?_
        refine AL.val rfl (.inl rfl) (HV.mv rfl) ?_
        refine AL.val rfl (.inl rfl) (HV.add rfl rfl (by have := sq6 hd hd6; omega)) ?_
        refine AL.val rfl (.inl rfl) (HV.as rfl) ?_
        refine AL.nil ?_
        refine nrm_and ?_
        exact ⟨d + 1, ⟨X2, by omega, by have := sq6 hd hd6; omega, fun e h1 h2 => by by_cases e' : e = d; (subst e'; exact c5); (exact he e h1 (by omega)), trivial⟩, by first | omega | (dsimp only; omega), ⟨rfl, rfl, trivial⟩⟩
    · -- else
      refine AW.exit ?_
      refine ex_and (ex_and (ex_blk ?_))
      refine nrm_and ?_
      refine AW.rs ?_
      refine AL.val rfl (.inl rfl) (HV.mv rfl) ?_
      refine AL.w rfl (.inl rfl) (WV.call fn28 rfl (within_ok (W := W) p 2 31)) ?_
      rintro _ H6 ⟨rfl, hx7⟩
      have X8 := Ext.trans X2 hx7
      refine AL.val rfl (.inl rfl) (HV.as rfl) ?_
      refine AL.nx ?_
      refine AW.ret ?_
      refine post_one rfl rfl ?_ (.inr rfl)
      exact ⟨congrArg Value.bool (decide_eq_decide.2 ⟨fun h => ⟨h, by omega⟩, fun h => h.1⟩), X8⟩
  · -- false
    have c3_ : decide ((d * d) ≤ p) = false := decide_eq_false c3
    rw [c3_]
    refine AL.off rfl rfl (by decide) rfl ?_
    refine AL.off rfl rfl (by decide) rfl ?_
    refine AL.val rfl (.inl rfl) (HV.pickF rfl rfl) ?_
    refine AL.nx ?_
    refine AW.cond rfl (fun h => by cases h) (fun _ => ?_)
    refine AW.exit ?_
    refine ex_and (ex_and (ex_blk ?_))
    refine nrm_and ?_
    refine AW.rs ?_
    refine AL.val rfl (.inl rfl) (HV.mv rfl) ?_
    refine AL.w rfl (.inl rfl) (WV.call fn28 rfl (within_ok (W := W) p 2 31)) ?_
    rintro _ H10 ⟨rfl, hx11⟩
    have X12 := Ext.trans X2 hx11
    refine AL.val rfl (.inl rfl) (HV.as rfl) ?_
    refine AL.nx ?_
    refine AW.ret ?_
    refine post_one rfl rfl ?_ (.inr rfl)
    exact ⟨congrArg Value.bool (decide_eq_decide.2 ⟨fun h => ⟨h, fun e h1 h2 => he e h1 (sq_lt (by omega) (by omega) (by omega))⟩, fun h => h.1⟩), X12⟩

set_option maxRecDepth 100000 in
theorem l05Prime_ok (p : Int) : ACalls Tryz.prog W 41 #[.int .i64 p] H (fun r H' => r = .bool (decide (primeI p)) ∧ Ext H H') := by
  refine ACalls.of (args := [.int .i64 p]) Tryz.func41 rfl rfl ?_
  have X0 := Ext.refl H
  refine AW.rs ?_
  refine AL.val rfl (.inl rfl) (HV.as rfl) ?_
  refine AL.nx ?_
  refine AW.seq ?_
  refine AW.rs ?_
  refine AL.val rfl (.inl rfl) (HV.mv rfl) ?_
  refine AL.w rfl (.inl rfl) (WV.call fn32 rfl (l00In_ok (W := W) p 2 31)) ?_
  rintro _ H1 ⟨rfl, hx2⟩
  have X3 := Ext.trans X0 hx2
  refine AL.val rfl (.inl rfl) (HV.not rfl) ?_
  refine AL.nx ?_
  refine AW.ifn rfl (fun c4 => ?_) (fun c4 => ?_)
  · -- then
    refine AW.rs ?_
    refine AL.val rfl (.inl rfl) (HV.as rfl) ?_
    refine AL.nx ?_
    refine AW.ret ?_
    refine ret_and ?_
    refine post_one rfl rfl ?_ (.inr rfl)
    exact ⟨dec_f (fun h => c4 h.1), X3⟩
  · -- else
    refine AW.skip ?_
    refine nrm_and ?_
    refine AW.seq ?_
    refine AW.rs ?_
    refine AL.val rfl (.inl rfl) (HV.as rfl) ?_
    refine AL.nx ?_
    refine AW.block ?_
    have X5 := Ext.refl H1
    refine AW.loop (σ := Int) (fun d => [(0, .int .i64 p), (3, .int .i64 d)]) (fun d H' => Ext H H' ∧ Ext H1 H' ∧ 2 ≤ d ∧ d ≤ 6 ∧ (∀ e : Int, 2 ≤ e → e < d → p % e ≠ 0) ∧ True) (fun d => (7 - d).toNat) 2 ⟨X3, X5, by decide, by decide, fun e h1 h2 => by omega, trivial⟩ ⟨rfl, rfl, trivial⟩ ?_
    rintro d H6 ⟨X7, X8, hd, hd6, he, _⟩
    refine AW.seq ?_
    refine AW.rs ?_
    refine AL.val rfl (.inl rfl) (HV.mv rfl) ?_
    refine AL.val rfl (.inl rfl) (HV.mv rfl) ?_
    refine AL.val rfl (.inl rfl) (HV.mul rfl rfl (by have := sq6 hd hd6; omega)) ?_
    refine AL.val rfl (.inl rfl) (HV.mv rfl) ?_
    refine AL.val rfl (.inl rfl) (HV.lei rfl rfl) ?_
    refine AL.nx ?_
    refine AW.ifd rfl (fun c9 => ?_) (fun c9 => ?_)
    · -- then
      refine AW.skip ?_
      refine nrm_and ?_
      refine AW.seq ?_
      refine AW.block ?_
      refine AW.rs ?_
      refine AL.val rfl (.inl rfl) (HV.mv rfl) ?_
      refine AL.val rfl (.inl rfl) (HV.mv rfl) ?_
      refine AL.val rfl (.inl rfl) (HV.rem rfl rfl (by have := sq6 hd hd6; omega)) ?_
      refine AL.val rfl (.inl rfl) (HV.eqi rfl rfl) ?_
      refine AL.nx ?_
      refine AW.ifd rfl (fun c10 => ?_) (fun c10 => ?_)
      · -- then
        refine AW.rs ?_
        refine AL.val rfl (.inl rfl) (HV.as rfl) ?_
        refine AL.nx ?_
        refine AW.ret ?_
        refine ret_blk (ret_and (ret_and (ret_blk (ret_and ?_))))
        refine post_one rfl rfl ?_ (.inr rfl)
        exact ⟨dec_f (fun h => h.2 d hd (by omega) c10), X7⟩
      · -- else
        refine AW.skip ?_
        refine nrm_blk (nrm_and ?_)
        refine AW.reg ?_
        refine AL.val rfl (.inl rfl) (HV.mv rfl) ?_
        refine AL.val rfl (.inl rfl) (HV.add rfl rfl (by have := sq6 hd hd6; omega)) ?_
        refine AL.val rfl (.inl rfl) (HV.as rfl) ?_
        refine AL.nil ?_
        refine nrm_and ?_
        exact ⟨d + 1, ⟨X7, X8, by omega, by have := sq6 hd hd6; omega, fun e h1 h2 => by by_cases e' : e = d; (subst e'; exact c10); (exact he e h1 (by omega)), trivial⟩, by first | omega | (dsimp only; omega), ⟨rfl, rfl, trivial⟩⟩
    · -- else
      refine AW.exit ?_
      refine ex_and (ex_and (ex_blk ?_))
      refine nrm_and ?_
      refine AW.rs ?_
      refine AL.val rfl (.inl rfl) (HV.as rfl) ?_
      refine AL.nx ?_
      refine AW.ret ?_
      refine post_one rfl rfl ?_ (.inr rfl)
      exact ⟨dec_t ⟨by assumption, fun e h1 h2 => he e h1 (sq_lt (by omega) (by omega) (by omega))⟩, X7⟩

set_option maxRecDepth 100000 in
theorem el1_ok {b : Nat} {p : Int} (a : Int) (hp : 2 ≤ p ∧ p ≤ 31) (hb : At W H b ⟨2, [.int .i64 p], 1⟩) : ACalls Tryz.prog W 63 #[.int .i64 a, .pointer (some ⟨b, 0, none⟩)] H (fun r H' => r = .bool (!decide (0 ≤ a ∧ a ≤ p - 1)) ∧ Ext H H') := by
  refine ACalls.of (args := [.int .i64 a, .pointer (some ⟨b, 0, none⟩)]) Tryz.func63 rfl rfl ?_
  have X0 := Ext.refl H
  refine AW.rs ?_
  refine AL.val rfl (.inl rfl) (HV.as rfl) ?_
  refine AL.nx ?_
  refine AW.rs ?_
  refine AL.val rfl (.inl rfl) (HV.mv rfl) ?_
  refine AL.val rfl (.inl rfl) (HV.ld rfl va2 (at_cell hb rfl)) ?_
  refine AL.val rfl (.inl rfl) (HV.sub rfl rfl (by omega)) ?_
  refine AL.w rfl (.inl rfl) (WV.call fn28 rfl (within_ok (W := W) a 0 (p - 1))) ?_
  rintro _ H1 ⟨rfl, hx2⟩
  have X3 := Ext.trans X0 hx2
  have hb4 := hb.ext hx2
  refine AL.val rfl (.inl rfl) (HV.not rfl) ?_
  refine AL.val rfl (.inl rfl) (HV.as rfl) ?_
  refine AL.nx ?_
  refine AW.ret ?_
  refine post_one rfl rfl ?_ (.inr rfl)
  exact ⟨rfl, X3⟩

set_option maxRecDepth 100000 in
theorem ixEl_ok {v : Value} {l : List Int} {ok : Nat → Prop} {b : Nat} {p : Int} (hr : RdK kI W H ok v l) (hp : 2 ≤ p ∧ p ≤ 31) (hb : At W H b ⟨2, [.int .i64 p], 1⟩) : ACalls Tryz.prog W 76 #[v, (.func (.func 63) #[] #[.pointer (some ⟨b, 0, none⟩)])] H (fun r H' => (∃ i : Int, r = .int .i64 i ∧ (0 ≤ i ↔ ¬ elems p l)) ∧ Ext H H') := by
  refine ACalls.of (args := [v, (.func (.func 63) #[] #[.pointer (some ⟨b, 0, none⟩)])]) Tryz.func76 rfl rfl ?_
  have X0 := Ext.refl H
  have hm1 := hr.max
  refine AW.rs ?_
  refine AL.val rfl (.inl rfl) (HV.as rfl) ?_
  refine AL.nx ?_
  refine AW.seq ?_
  refine AW.rs ?_
  refine AL.val rfl (.inl rfl) (HV.mv rfl) ?_
  refine AL.val rfl (.inl rfl) (HV.len Tryz.underlying25 rfl hr.isSl) ?_
  refine AL.val rfl (.inl rfl) (HV.mv rfl) ?_
  refine AL.nx ?_
  refine AW.block ?_
  refine AW.loop (σ := Nat) (fun i => [(0, v), (1, (.func (.func 63) #[] #[.pointer (some ⟨b, 0, none⟩)])), (7, .int .i64 (l.length : Int)), (8, .int .i64 (i : Int))]) (fun i H' => Ext H H' ∧ At W H' b ⟨2, [.int .i64 p], 1⟩ ∧ i ≤ l.length ∧ (∀ j, j < i → 0 ≤ l.getD j 0 ∧ l.getD j 0 ≤ p - 1) ∧ True) (fun i => l.length - i) 0 ⟨X0, hb, Nat.zero_le _, fun j hj => absurd hj (Nat.not_lt_zero _), trivial⟩ ⟨rfl, rfl, rfl, rfl, trivial⟩ ?_
  rintro i H2 ⟨X3, hb4, hi, he, _⟩
  refine AW.rs ?_
  refine AL.val rfl (.inl rfl) (HV.lti rfl rfl) ?_
  refine AL.nx ?_
  refine AW.seq ?_
  refine AW.ifd rfl (fun c5 => ?_) (fun c5 => ?_)
  · -- then
    refine AW.skip ?_
    refine nrm_and ?_
    refine AW.seq ?_
    refine AW.block ?_
    refine AW.rs ?_
    refine AL.val rfl (.inl rfl) (HV.mv rfl) ?_
    refine AL.val rfl (.inl rfl) (HV.as rfl) ?_
    refine AL.nx ?_
    refine AW.rs ?_
    refine AL.val rfl (.inl rfl) (HV.mv rfl) ?_
    refine AL.val rfl (.inl rfl) (HV.mv rfl) ?_
    refine AL.val rfl (.inl rfl) (HV.mv rfl) ?_
    obtain ⟨p6, z7, cs8, hz9, hK10, hC11, hP12⟩ := RdK.ix (q := (i : Int)) hr sl25 (by omega) (by omega)
    obtain rfl : cs8 = [.int .i64 z7] := hK10
    refine AL.val rfl (.inl rfl) (hP12 rfl rfl) ?_
    refine AL.val rfl (.inl rfl) (HV.ld rfl va2 (cells_first (hC11.ext X3) rfl)) ?_
    refine AL.w rfl (.inl rfl) (WV.callv fn63 rfl rfl (el1_ok z7 hp hb4)) ?_
    rintro _ H13 ⟨rfl, hx14⟩
    have X15 := Ext.trans X3 hx14
    have hb16 := hb4.ext hx14
    refine AL.nx ?_
    refine AW.ifn rfl (fun c17 => ?_) (fun c17 => ?_)
    · -- then
      refine AW.rs ?_
      refine AL.val rfl (.inl rfl) (HV.mv rfl) ?_
      refine AL.val rfl (.inl rfl) (HV.as rfl) ?_
      refine AL.nx ?_
      refine AW.ret ?_
      refine ret_blk (ret_and (ret_and (ret_blk (ret_and ?_))))
      refine post_one rfl rfl ?_ (.inr rfl)
      exact ⟨⟨_, rfl, fun _ h => by have q := h i (by omega); have g15 : l.getD i 0 = z7 := gd hz9 (by omega); rw [g15] at q; exact c17 q, fun _ => by omega⟩, X15⟩
    · -- else
      refine AW.skip ?_
      refine nrm_blk (nrm_and ?_)
      refine AW.reg ?_
      refine AL.val rfl (.inl rfl) (HV.add rfl rfl (by omega)) ?_
      refine AL.val rfl (.inl rfl) (HV.mv rfl) ?_
      refine AL.nil ?_
      refine nrm_and ?_
      exact ⟨i + 1, ⟨X15, hb16, by omega, fun j hj => by
      rcases Nat.lt_or_ge j i with h1 | h1
      · exact he j h1
      · obtain rfl : j = i := by omega
        have g15 : l.getD j 0 = z7 := gd hz9 (by omega); rw [g15]; exact c17, trivial⟩, by first | omega | (dsimp only; omega), ⟨rfl, rfl, rfl, rfl, trivial⟩⟩
  · -- else
    refine AW.exit ?_
    refine ex_and (ex_and (ex_blk ?_))
    refine nrm_and ?_
    refine AW.rs ?_
    refine AL.val rfl (.inl rfl) (HV.as rfl) ?_
    refine AL.nx ?_
    refine AW.ret ?_
    refine post_one rfl rfl ?_ (.inr rfl)
    exact ⟨⟨_, rfl, fun h => absurd h (by decide), fun h => absurd (fun j hj => he j (by omega)) h⟩, X3⟩

set_option maxRecDepth 100000 in
theorem coEl_ok {v : Value} {l : List Int} {ok : Nat → Prop} {b : Nat} {p : Int} (hr : RdK kI W H ok v l) (hp : 2 ≤ p ∧ p ≤ 31) (hb : At W H b ⟨2, [.int .i64 p], 1⟩) : ACalls Tryz.prog W 62 #[v, (.func (.func 63) #[] #[.pointer (some ⟨b, 0, none⟩)])] H (fun r H' => r = .bool (decide (¬ elems p l)) ∧ Ext H H') := by
  refine ACalls.of (args := [v, (.func (.func 63) #[] #[.pointer (some ⟨b, 0, none⟩)])]) Tryz.func62 rfl rfl ?_
  have X0 := Ext.refl H
  have hm1 := hr.max
  refine AW.rs ?_
  refine AL.val rfl (.inl rfl) (HV.as rfl) ?_
  refine AL.nx ?_
  refine AW.rs ?_
  refine AL.val rfl (.inl rfl) (HV.mv rfl) ?_
  refine AL.val rfl (.inl rfl) (HV.mv rfl) ?_
  refine AL.w rfl (.inl rfl) (WV.call fn76 rfl (ixEl_ok hr hp hb)) ?_
  rintro _ H2 ⟨⟨q4, rfl, he5⟩, hx3⟩
  have X6 := Ext.trans X0 hx3
  have hb7 := hb.ext hx3
  refine AL.val rfl (.inl rfl) (HV.gei rfl rfl) ?_
  refine AL.val rfl (.inl rfl) (HV.as rfl) ?_
  refine AL.nx ?_
  refine AW.ret ?_
  refine post_one rfl rfl ?_ (.inr rfl)
  exact ⟨congrArg Value.bool (decide_eq_decide.2 he5), X6⟩

set_option maxRecDepth 100000 in
theorem areEl_ok {v : Value} {l : List Int} {ok : Nat → Prop} (p : Int) (hr : RdK kI W H ok v l) : ACalls Tryz.prog W 36 #[.int .i64 p, v] H (fun r H' => r = .bool (decide (primeI p ∧ elems p l)) ∧ Ext H H') := by
  refine ACalls.of (args := [.int .i64 p, v]) Tryz.func36 rfl rfl ?_
  have X0 := Ext.refl H
  have hm1 := hr.max
  refine AW.rs ?_
  refine AL.w rfl (.inl rfl) (WV.bx rfl rfl) ?_
  rintro _ H3 ⟨b2, rfl, hx4, hn5, hb6⟩
  have o7 := Nat.le_trans X0.bd hn5
  have X8 := Ext.trans X0 hx4
  have X9 := Ext.refl H3
  refine AL.val rfl (.inl rfl) (HV.as rfl) ?_
  refine AL.nx ?_
  refine AW.rs ?_
  refine AL.val rfl (.inl rfl) (HV.ld rfl va2 (at_cell hb6 rfl)) ?_
  refine AL.w rfl (.inl rfl) (WV.call fn61 rfl (isPrime_ok (W := W) p)) ?_
  rintro _ H10 ⟨rfl, hx11⟩
  have X12 := Ext.trans X8 hx11
  have X13 := Ext.trans X9 hx11
  have hb14 := hb6.ext hx11
  refine AL.val rfl (.inl rfl) (HV.mv rfl) ?_
  by_cases c15 : primeI p
  · -- true
    have c15_ : decide (primeI p) = true := decide_eq_true c15
    rw [c15_]
    refine AL.val rfl (.inr ⟨_, _, _, rfl, rfl, rfl⟩) (HV.mv rfl) ?_
    refine AL.val rfl (.inr ⟨_, _, _, rfl, rfl, rfl⟩) (HV.fn rfl rfl) ?_
    refine AL.w rfl (.inr ⟨_, _, _, rfl, rfl, rfl⟩) (WV.call fn62 rfl (coEl_ok (hr.ext X12) (by assumption : primeI p).1 hb14)) ?_
    rintro _ H16 ⟨rfl, hx17⟩
    have X18 := Ext.trans X12 hx17
    have X19 := Ext.trans X13 hx17
    have hb20 := hb14.ext hx17
    refine AL.val rfl (.inr ⟨_, _, _, rfl, rfl, rfl⟩) (HV.not rfl) ?_
    refine AL.val rfl (.inl rfl) (HV.pickT rfl rfl) ?_
    refine AL.val rfl (.inl rfl) (HV.as rfl) ?_
    refine AL.nx ?_
    refine AW.ret ?_
    refine post_one rfl rfl ?_ (.inr rfl)
    exact ⟨congrArg Value.bool (by by_cases hE : elems p l <;> simp [hE, (by assumption : primeI p)]), X18⟩
  · -- false
    have c15_ : decide (primeI p) = false := decide_eq_false c15
    rw [c15_]
    refine AL.off rfl rfl (by decide) rfl ?_
    refine AL.off rfl rfl (by decide) rfl ?_
    refine AL.off rfl rfl (by decide) rfl ?_
    refine AL.off rfl rfl (by decide) rfl ?_
    refine AL.val rfl (.inl rfl) (HV.pickF rfl rfl) ?_
    refine AL.val rfl (.inl rfl) (HV.as rfl) ?_
    refine AL.nx ?_
    refine AW.ret ?_
    refine post_one rfl rfl ?_ (.inr rfl)
    exact ⟨dec_f (fun h => c15 h.1), X12⟩

set_option maxRecDepth 100000 in
theorem resid_ok {v : Value} {l : List Int} {ok : Nat → Prop} {p : Int} (hr : RdK kI W H ok v l) (hp : 2 ≤ p ∧ p ≤ 31) : ACalls Tryz.prog W 58 #[.int .i64 p, v] H (fun r H' => r = .bool (decide (elems p l)) ∧ Ext H H') := by
  refine ACalls.of (args := [.int .i64 p, v]) Tryz.func58 rfl rfl ?_
  have X0 := Ext.refl H
  have hm1 := hr.max
  refine AW.rs ?_
  refine AL.val rfl (.inl rfl) (HV.as rfl) ?_
  refine AL.nx ?_
  refine AW.seq ?_
  refine AW.rs ?_
  refine AL.val rfl (.inl rfl) (HV.as rfl) ?_
  refine AL.nx ?_
  refine AW.block ?_
  refine AW.loop (σ := Nat) (fun i => [(0, .int .i64 p), (1, v), (5, .int .i64 (i : Int))]) (fun i H' => Ext H H' ∧ i ≤ l.length ∧ (∀ j, j < i → 0 ≤ l.getD j 0 ∧ l.getD j 0 ≤ p - 1) ∧ True) (fun i => l.length - i) 0 ⟨X0, Nat.zero_le _, fun j hj => absurd hj (Nat.not_lt_zero _), trivial⟩ ⟨rfl, rfl, rfl, trivial⟩ ?_
  rintro i H2 ⟨X3, hi, he, _⟩
  refine AW.seq ?_
  refine AW.rs ?_
  refine AL.val rfl (.inl rfl) (HV.mv rfl) ?_
  refine AL.val rfl (.inl rfl) (HV.mv rfl) ?_
  refine AL.val rfl (.inl rfl) (HV.len Tryz.underlying25 rfl hr.isSl) ?_
  refine AL.val rfl (.inl rfl) (HV.lti rfl rfl) ?_
  refine AL.nx ?_
  refine AW.ifd rfl (fun c4 => ?_) (fun c4 => ?_)
  · -- then
    refine AW.skip ?_
    refine nrm_and ?_
    refine AW.seq ?_
    refine AW.block ?_
    refine AW.rs ?_
    refine AL.val rfl (.inl rfl) (HV.mv rfl) ?_
    refine AL.val rfl (.inl rfl) (HV.mv rfl) ?_
    obtain ⟨p5, z6, cs7, hz8, hK9, hC10, hP11⟩ := RdK.ix (q := (i : Int)) hr sl25 (by omega) (by omega)
    obtain rfl : cs7 = [.int .i64 z6] := hK9
    refine AL.val rfl (.inl rfl) (hP11 rfl rfl) ?_
    refine AL.val rfl (.inl rfl) (HV.ld rfl va2 (cells_first (hC10.ext X3) rfl)) ?_
    refine AL.val rfl (.inl rfl) (HV.mv rfl) ?_
    refine AL.val rfl (.inl rfl) (HV.sub rfl rfl (by omega)) ?_
    refine AL.w rfl (.inl rfl) (WV.call fn32 rfl (l00In_ok (W := W) z6 0 (p - 1))) ?_
    rintro _ H12 ⟨rfl, hx13⟩
    have X14 := Ext.trans X3 hx13
    refine AL.val rfl (.inl rfl) (HV.not rfl) ?_
    refine AL.nx ?_
    refine AW.ifn rfl (fun c15 => ?_) (fun c15 => ?_)
    · -- then
      refine AW.rs ?_
      refine AL.val rfl (.inl rfl) (HV.as rfl) ?_
      refine AL.nx ?_
      refine AW.ret ?_
      refine ret_blk (ret_and (ret_and (ret_blk (ret_and ?_))))
      refine post_one rfl rfl ?_ (.inr rfl)
      exact ⟨dec_f (fun h => by have q := h i (by omega); have g15 : l.getD i 0 = z6 := gd hz8 (by omega); rw [g15] at q; exact c15 q), X14⟩
    · -- else
      refine AW.skip ?_
      refine nrm_blk (nrm_and ?_)
      refine AW.reg ?_
      refine AL.val rfl (.inl rfl) (HV.mv rfl) ?_
      refine AL.val rfl (.inl rfl) (HV.add rfl rfl (by omega)) ?_
      refine AL.val rfl (.inl rfl) (HV.as rfl) ?_
      refine AL.nil ?_
      refine nrm_and ?_
      exact ⟨i + 1, ⟨X14, by omega, fun j hj => by
      rcases Nat.lt_or_ge j i with h1 | h1
      · exact he j h1
      · obtain rfl : j = i := by omega
        have g15 : l.getD j 0 = z6 := gd hz8 (by omega); rw [g15]; exact c15, trivial⟩, by first | omega | (dsimp only; omega), ⟨rfl, rfl, rfl, trivial⟩⟩
  · -- else
    refine AW.exit ?_
    refine ex_and (ex_and (ex_blk ?_))
    refine nrm_and ?_
    refine AW.rs ?_
    refine AL.val rfl (.inl rfl) (HV.as rfl) ?_
    refine AL.nx ?_
    refine AW.ret ?_
    refine post_one rfl rfl ?_ (.inr rfl)
    exact ⟨dec_t (fun j hj => he j (by omega)), X3⟩

set_option maxRecDepth 100000 in
theorem arePts_ok {v : Value} {l : List Int} {ok : Nat → Prop} {p : Int} (hr : RdK kI W H ok v l) (hp : 2 ≤ p ∧ p ≤ 31) : ACalls Tryz.prog W 46 #[.int .i64 p, v] H (fun r H' => r = .bool (decide (ptsI p l)) ∧ Ext H H') := by
  refine ACalls.of (args := [.int .i64 p, v]) Tryz.func46 rfl rfl ?_
  have X0 := Ext.refl H
  have hm1 := hr.max
  refine AW.rs ?_
  refine AL.val rfl (.inl rfl) (HV.as rfl) ?_
  refine AL.nx ?_
  refine AW.seq ?_
  refine AW.rs ?_
  refine AL.val rfl (.inl rfl) (HV.mv rfl) ?_
  refine AL.val rfl (.inl rfl) (HV.len Tryz.underlying25 rfl hr.isSl) ?_
  refine AL.val rfl (.inl rfl) (HV.mv rfl) ?_
  refine AL.nx ?_
  refine AW.block ?_
  refine AW.loop (σ := Nat) (fun i => [(0, .int .i64 p), (1, v), (7, v), (8, .int .i64 (l.length : Int)), (9, .int .i64 (i : Int))]) (fun i H' => Ext H H' ∧ i ≤ l.length ∧ (∀ j, j < i → RisAt 1 (p - 1) l j) ∧ True) (fun i => l.length - i) 0 ⟨X0, Nat.zero_le _, fun j hj => absurd hj (Nat.not_lt_zero _), trivial⟩ ⟨rfl, rfl, rfl, rfl, rfl, trivial⟩ ?_
  rintro i H2 ⟨X3, hi, hi2, _⟩
  refine AW.rs ?_
  refine AL.val rfl (.inl rfl) (HV.lti rfl rfl) ?_
  refine AL.nx ?_
  refine AW.seq ?_
  refine AW.ifd rfl (fun c4 => ?_) (fun c4 => ?_)
  · -- then
    refine AW.skip ?_
    refine nrm_and ?_
    refine AW.seq ?_
    refine AW.block ?_
    refine AW.rs ?_
    refine AL.val rfl (.inl rfl) (HV.mv rfl) ?_
    obtain ⟨p5, z6, cs7, hz8, hK9, hC10, hP11⟩ := RdK.ix (q := (i : Int)) hr sl25 (by omega) (by omega)
    obtain rfl : cs7 = [.int .i64 z6] := hK9
    refine AL.val rfl (.inl rfl) (hP11 rfl rfl) ?_
    refine AL.val rfl (.inl rfl) (HV.ld rfl va2 (cells_first (hC10.ext X3) rfl)) ?_
    refine AL.val rfl (.inl rfl) (HV.as rfl) ?_
    refine AL.val rfl (.inl rfl) (HV.as rfl) ?_
    refine AL.nx ?_
    refine AW.rs ?_
    refine AL.val rfl (.inl rfl) (HV.mv rfl) ?_
    refine AL.val rfl (.inl rfl) (HV.mv rfl) ?_
    refine AL.val rfl (.inl rfl) (HV.sub rfl rfl (by omega)) ?_
    refine AL.w rfl (.inl rfl) (WV.call fn28 rfl (within_ok (W := W) z6 1 (p - 1))) ?_
    rintro _ H12 ⟨rfl, hx13⟩
    have X14 := Ext.trans X3 hx13
    refine AL.val rfl (.inl rfl) (HV.not rfl) ?_
    refine AL.val rfl (.inl rfl) (HV.mv rfl) ?_
    by_cases c15 : 1 ≤ z6 ∧ z6 ≤ (p - 1)
    · -- false
      have c15_ : (!decide (1 ≤ z6 ∧ z6 ≤ (p - 1))) = false := by rw [decide_eq_true c15]; rfl
      rw [c15_]
      refine AL.val rfl (.inr ⟨_, _, _, rfl, rfl, rfl⟩) (HV.mv rfl) ?_
      refine AL.val rfl (.inr ⟨_, _, _, rfl, rfl, rfl⟩) (HV.gti rfl rfl) ?_
      refine AL.val rfl (.inr ⟨_, _, _, rfl, rfl, rfl⟩) (HV.mv rfl) ?_
      by_cases c16 : (i : Int) > 0
      · -- true
        have c16_ : decide ((i : Int) > 0) = true := decide_eq_true c16
        rw [c16_]
        refine AL.val rfl (.inr ⟨_, _, _, rfl, rfl, rfl⟩) (HV.mv rfl) ?_
        refine AL.val rfl (.inr ⟨_, _, _, rfl, rfl, rfl⟩) (HV.mv rfl) ?_
        refine AL.val rfl (.inr ⟨_, _, _, rfl, rfl, rfl⟩) (HV.mv rfl) ?_
        refine AL.val rfl (.inr ⟨_, _, _, rfl, rfl, rfl⟩) (HV.sub rfl rfl (by omega)) ?_
        obtain ⟨p17, z18, cs19, hz20, hK21, hC22, hP23⟩ := RdK.ix (q := (i : Int) - 1) hr sl25 (by omega) (by omega)
        obtain rfl : cs19 = [.int .i64 z18] := hK21
        refine AL.val rfl (.inr ⟨_, _, _, rfl, rfl, rfl⟩) (hP23 rfl rfl) ?_
        refine AL.val rfl (.inr ⟨_, _, _, rfl, rfl, rfl⟩) (HV.ld rfl va2 (cells_first (hC22.ext X14) rfl)) ?_
        refine AL.val rfl (.inr ⟨_, _, _, rfl, rfl, rfl⟩) (HV.lei rfl rfl) ?_
        refine AL.val rfl (.inr ⟨_, _, _, rfl, rfl, rfl⟩) (HV.pickT rfl rfl) ?_
        refine AL.val rfl (.inl rfl) (HV.pickF rfl rfl) ?_
        refine AL.nx ?_
        refine AW.ifd rfl (fun c24 => ?_) (fun c24 => ?_)
        · -- then
          refine AW.rs ?_
          refine AL.val rfl (.inl rfl) (HV.as rfl) ?_
          refine AL.nx ?_
          refine AW.ret ?_
          refine ret_blk (ret_and (ret_and (ret_blk (ret_and ?_))))
          refine post_one rfl rfl ?_ (.inr rfl)
          exact ⟨dec_f fun hR => by have q := hR.2 i (by omega); unfold RisAt at q; have g13 : l.getD i 0 = z6 := gd hz8 (by omega); have g28 : l.getD (i - 1) 0 = z18 := gd hz20 (by omega); omega, X14⟩
        · -- else
          refine AW.skip ?_
          refine nrm_blk (nrm_and ?_)
          refine AW.reg ?_
          refine AL.val rfl (.inl rfl) (HV.add rfl rfl (by omega)) ?_
          refine AL.val rfl (.inl rfl) (HV.mv rfl) ?_
          refine AL.nil ?_
          refine nrm_and ?_
          exact ⟨i + 1, ⟨X14, by omega, fun j hj => by
      rcases Nat.lt_or_ge j i with h1 | h1
      · exact hi2 j h1
      · obtain rfl : j = i := by omega
        unfold RisAt; have g13 : l.getD j 0 = z6 := gd hz8 (by omega); have g28 : l.getD (j - 1) 0 = z18 := gd hz20 (by omega); exact ⟨by omega, by omega, fun h0 => by omega⟩, trivial⟩, by first | omega | (dsimp only; omega), ⟨rfl, rfl, rfl, rfl, rfl, trivial⟩⟩
      · -- false
        have c16_ : decide ((i : Int) > 0) = false := decide_eq_false c16
        rw [c16_]
        refine AL.off rfl rfl (by decide) rfl ?_
        refine AL.off rfl rfl (by decide) rfl ?_
        refine AL.off rfl rfl (by decide) rfl ?_
        refine AL.off rfl rfl (by decide) rfl ?_
        refine AL.off rfl rfl (by decide) rfl ?_
        refine AL.off rfl rfl (by decide) rfl ?_
        refine AL.off rfl rfl (by decide) rfl ?_
        refine AL.val rfl (.inr ⟨_, _, _, rfl, rfl, rfl⟩) (HV.pickF rfl rfl) ?_
        refine AL.val rfl (.inl rfl) (HV.pickF rfl rfl) ?_
        refine AL.nx ?_
        refine AW.cond rfl (fun h => by cases h) (fun _ => ?_)
        refine AW.skip ?_
        refine nrm_blk (nrm_and ?_)
        refine AW.reg ?_
        refine AL.val rfl (.inl rfl) (HV.add rfl rfl (by omega)) ?_
        refine AL.val rfl (.inl rfl) (HV.mv rfl) ?_
        refine AL.nil ?_
        refine nrm_and ?_
        exact ⟨i + 1, ⟨X14, by omega, fun j hj => by
      rcases Nat.lt_or_ge j i with h1 | h1
      · exact hi2 j h1
      · obtain rfl : j = i := by omega
        unfold RisAt; have g13 : l.getD j 0 = z6 := gd hz8 (by omega); exact ⟨by omega, by omega, fun h0 => by omega⟩, trivial⟩, by first | omega | (dsimp only; omega), ⟨rfl, rfl, rfl, rfl, rfl, trivial⟩⟩
    · -- true
      have c15_ : (!decide (1 ≤ z6 ∧ z6 ≤ (p - 1))) = true := by rw [decide_eq_false c15]; rfl
      rw [c15_]
      refine AL.off rfl rfl (by decide) rfl ?_
      refine AL.off rfl rfl (by decide) rfl ?_
      refine AL.off rfl rfl (by decide) rfl ?_
      refine AL.offu rfl rfl rfl ?_
      refine AL.offu rfl rfl rfl ?_
      refine AL.offu rfl rfl rfl ?_
      refine AL.offu rfl rfl rfl ?_
      refine AL.offu rfl rfl rfl ?_
      refine AL.offu rfl rfl rfl ?_
      refine AL.offu rfl rfl rfl ?_
      refine AL.off rfl rfl (by decide) rfl ?_
      refine AL.val rfl (.inl rfl) (HV.pickT rfl rfl) ?_
      refine AL.nx ?_
      refine AW.cond rfl (fun _ => ?_) (fun h => by cases h)
      refine AW.rs ?_
      refine AL.val rfl (.inl rfl) (HV.as rfl) ?_
      refine AL.nx ?_
      refine AW.ret ?_
      refine ret_blk (ret_and (ret_and (ret_blk (ret_and ?_))))
      refine post_one rfl rfl ?_ (.inr rfl)
      exact ⟨dec_f fun hR => by have q := hR.2 i (by omega); unfold RisAt at q; have g13 : l.getD i 0 = z6 := gd hz8 (by omega); omega, X14⟩
  · -- else
    refine AW.exit ?_
    refine ex_and (ex_and (ex_blk ?_))
    refine nrm_and ?_
    refine AW.rs ?_
    refine AL.val rfl (.inl rfl) (HV.mv rfl) ?_
    refine AL.val rfl (.inl rfl) (HV.len Tryz.underlying25 rfl hr.isSl) ?_
    refine AL.val rfl (.inl rfl) (HV.lei rfl rfl) ?_
    refine AL.val rfl (.inl rfl) (HV.as rfl) ?_
    refine AL.nx ?_
    refine AW.ret ?_
    refine post_one rfl rfl ?_ (.inr rfl)
    exact ⟨congrArg Value.bool (decide_eq_decide.2 ⟨fun h => ⟨h, fun j hj => hi2 j (by omega)⟩, fun h => h.1⟩), X3⟩

set_option maxRecDepth 100000 in
theorem l05Pts_ok {v : Value} {l : List Int} {ok : Nat → Prop} {p : Int} (hr : RdK kI W H ok v l) (hp : 2 ≤ p ∧ p ≤ 31) : ACalls Tryz.prog W 25 #[.int .i64 p, v] H (fun r H' => r = .bool (decide (ptsI p l)) ∧ Ext H H') := by
  refine ACalls.of (args := [.int .i64 p, v]) Tryz.func25 rfl rfl ?_
  have X0 := Ext.refl H
  have hm1 := hr.max
  refine AW.rs ?_
  refine AL.val rfl (.inl rfl) (HV.as rfl) ?_
  refine AL.nx ?_
  refine AW.rs ?_
  refine AL.val rfl (.inl rfl) (HV.mv rfl) ?_
  refine AL.val rfl (.inl rfl) (HV.len Tryz.underlying25 rfl hr.isSl) ?_
  refine AL.val rfl (.inl rfl) (HV.lei rfl rfl) ?_
  refine AL.val rfl (.inl rfl) (HV.mv rfl) ?_
  by_cases c2 : (l.length : Int) ≤ 10
  · -- true
    have c2_ : decide ((l.length : Int) ≤ 10) = true := decide_eq_true c2
    rw [c2_]
    refine AL.val rfl (.inr ⟨_, _, _, rfl, rfl, rfl⟩) (HV.mv rfl) ?_
    refine AL.val rfl (.inr ⟨_, _, _, rfl, rfl, rfl⟩) (HV.mv rfl) ?_
    refine AL.val rfl (.inr ⟨_, _, _, rfl, rfl, rfl⟩) (HV.sub rfl rfl (by omega)) ?_
    refine AL.w rfl (.inr ⟨_, _, _, rfl, rfl, rfl⟩) (WV.call fn43 rfl (l00Rises_ok 1 (p - 1) hr)) ?_
    rintro _ H3 ⟨rfl, hx4⟩
    have X5 := Ext.trans X0 hx4
    refine AL.val rfl (.inl rfl) (HV.pickT rfl rfl) ?_
    refine AL.val rfl (.inl rfl) (HV.as rfl) ?_
    refine AL.nx ?_
    refine AW.ret ?_
    refine post_one rfl rfl ?_ (.inr rfl)
    exact ⟨congrArg Value.bool (decide_eq_decide.2 ⟨fun h => ⟨by assumption, h⟩, fun h => h.2⟩), X5⟩
  · -- false
    have c2_ : decide ((l.length : Int) ≤ 10) = false := decide_eq_false c2
    rw [c2_]
    refine AL.off rfl rfl (by decide) rfl ?_
    refine AL.off rfl rfl (by decide) rfl ?_
    refine AL.off rfl rfl (by decide) rfl ?_
    refine AL.off rfl rfl (by decide) rfl ?_
    refine AL.val rfl (.inl rfl) (HV.pickF rfl rfl) ?_
    refine AL.val rfl (.inl rfl) (HV.as rfl) ?_
    refine AL.nx ?_
    refine AW.ret ?_
    refine post_one rfl rfl ?_ (.inr rfl)
    exact ⟨dec_f (fun h => c2 h.1), X0⟩

set_option maxRecDepth 100000 in
theorem places_ok {v : Value} {l : List (Int × Int)} {ok : Nat → Prop} (hr : RdK (kP kI kI) W H ok v l) (hl : l.length ≤ 1048576) : ACalls Tryz.prog W 57 #[v] H (fun r H' => Ext H H' ∧ OwnK kI 2 W H' (fun b => H.bd ≤ b) r (l.map Prod.fst)) := by
  refine ACalls.of (args := [v]) Tryz.func57 rfl rfl ?_
  have X0 := Ext.refl H
  have hm1 := hr.max
  refine AW.rs ?_
  refine AL.val rfl (.inl rfl) (HV.as rfl) ?_
  refine AL.nx ?_
  refine AW.rs ?_
  have o2 := X0.bd
  refine AL.w rfl (.inl rfl) (WV.bsK (K := kI) (l := ([] : List Int)) (css := []) sl25 rfl rfl (by first | rfl | (simp [Instr.fill, Value.cells, kI, kB, kU, kU8, kS, Kd.sc]; done) | (simp [Instr.fill, Value.cells, kI, kB, kU, kU8, kS, Kd.sc, rng1, rng2, rng3, rng4, kP])) rfl segs_nil) ?_
  rintro v3 H4 ⟨hx5, ho6⟩
  have X7 := Ext.trans X0 hx5
  refine AL.val rfl (.inl rfl) (HV.as rfl) ?_
  refine AL.nx ?_
  refine AW.seq ?_
  refine AW.rs ?_
  refine AL.val rfl (.inl rfl) (HV.as rfl) ?_
  refine AL.nx ?_
  refine AW.block ?_
  refine AW.loop (σ := Nat × Value × List Int) (fun ⟨i, vv, k⟩ => [(0, v), (2, (.slice none 0 0)), (3, vv), (4, .int .i64 (i : Int))]) (fun ⟨i, vv, k⟩ H' => Ext H H' ∧ i ≤ l.length ∧ k = (l.take i).map Prod.fst ∧ k.length = i ∧ OwnK kI 2 W H' (fun b => H.bd ≤ b) vv k ∧ True) (fun ⟨i, vv, k⟩ => l.length - i) (0, v3, (([] : List Int) : List Int)) ⟨X7, Nat.zero_le _, rfl, rfl, ho6, trivial⟩ ⟨rfl, rfl, rfl, rfl, trivial⟩ ?_
  rintro ⟨i, vv, k⟩ H9 ⟨X10, hi, hk, hk2, hoL, _⟩
  refine AW.seq ?_
  refine AW.rs ?_
  refine AL.val rfl (.inl rfl) (HV.mv rfl) ?_
  refine AL.val rfl (.inl rfl) (HV.mv rfl) ?_
  refine AL.val rfl (.inl rfl) (HV.len Tryz.underlying28 rfl hr.isSl) ?_
  refine AL.val rfl (.inl rfl) (HV.lti rfl rfl) ?_
  refine AL.nx ?_
  refine AW.ifd rfl (fun c11 => ?_) (fun c11 => ?_)
  · -- then
    refine AW.skip ?_
    refine nrm_and ?_
    refine AW.seq ?_
    refine AW.block ?_
    refine AW.reg ?_
    refine AL.val rfl (.inl rfl) (HV.mv rfl) ?_
    refine AL.val rfl (.inl rfl) (HV.mv rfl) ?_
    refine AL.val rfl (.inl rfl) (HV.mv rfl) ?_
    obtain ⟨p12, z13, cs14, hz15, hK16, hC17, hP18⟩ := RdK.ix (q := (i : Int)) hr sl28 (by omega) (by omega)
    obtain ⟨cs19, cs20, rfl, hK21, hK22⟩ := hK16
    obtain rfl : cs19 = [.int .i64 z13.1] := hK21
    obtain rfl : cs20 = [.int .i64 z13.2] := hK22
    refine AL.val rfl (.inl rfl) (hP18 rfl rfl) ?_
    refine AL.val rfl (.inl rfl) (HV.fa fl36_0 rfl) ?_
    refine AL.val rfl (.inl rfl) (HV.ld rfl va2 (cells_first (hC17.ext X10) rfl)) ?_
    have X23 := Ext.refl H9
    have o24 := X10.bd
    have o25 := X23.bd
    have a26 := hoL.ltb
    refine AL.w rfl (.inl rfl) (WV.bsK (K := kI) (l := ([z13.1] : List Int)) (css := [[.int .i64 z13.1]]) sl25 rfl rfl (by first | rfl | (simp [Instr.fill, Value.cells, kI, kB, kU, kU8, kS, Kd.sc]; done) | (simp [Instr.fill, Value.cells, kI, kB, kU, kU8, kS, Kd.sc, rng1, rng2, rng3, rng4, kP])) rfl (segs_cons rfl segs_nil)) ?_
    rintro v27 H28 ⟨hx29, ho30⟩
    have X31 := Ext.trans X10 hx29
    have X32 := Ext.trans X23 hx29
    have ho33 := hoL.ext hx29
    have X35 := Ext.refl H28
    refine AL.w rfl (.inl rfl) (WV.apk sl25 rfl rfl ho33 ho30.rd (by simp; omega) (by simp; omega) (fun b hb _ e => Nat.lt_irrefl _ (Nat.lt_of_lt_of_le (a26 b e) hb))) ?_
    rintro v36 H37 ⟨hx38, ho39, hb40⟩
    have ho41 := ho39.narrow (ok' := fun b => H.bd ≤ b) kI_flat (fun b q => (hb40 b q).elim (fun e => (ho33.blk b e).1) (fun e => Nat.le_trans X31.bd e))
    have X42 := Ext.thru X31 hx38 (fun b hb => Nat.le_trans o2 (ho33.blk b hb).1)
    refine AL.val rfl (.inl rfl) (HV.as rfl) ?_
    refine AL.nil ?_
    refine nrm_blk (nrm_and ?_)
    refine AW.reg ?_
    refine AL.val rfl (.inl rfl) (HV.mv rfl) ?_
    refine AL.val rfl (.inl rfl) (HV.add rfl rfl (by omega)) ?_
    refine AL.val rfl (.inl rfl) (HV.as rfl) ?_
    refine AL.nil ?_
    refine nrm_and ?_
    exact ⟨(i + 1, v36, (k ++ (([z13.1] : List Int) : List Int))), ⟨X42, by omega, by rw [map_snoc (f := Prod.fst) hz15, hk], by simp [hk2], ho41, trivial⟩, by first | omega | (dsimp only; omega), ⟨rfl, rfl, rfl, rfl, trivial⟩⟩
  · -- else
    refine AW.exit ?_
    refine ex_and (ex_and (ex_blk ?_))
    refine nrm_and ?_
    refine AW.rs ?_
    refine AL.val rfl (.inl rfl) (HV.mv rfl) ?_
    refine AL.val rfl (.inl rfl) (HV.as rfl) ?_
    refine AL.nx ?_
    refine AW.ret ?_
    refine post_one rfl rfl ?_ (.inr rfl)
    exact ⟨X10, by obtain rfl : i = l.length := (by omega); subst hk; rw [List.take_length] at *; exact hoL.okk (fun b hb _ => Nat.le_trans o2 hb)⟩

set_option maxRecDepth 100000 in
theorem values_ok {v : Value} {l : List (Int × Int)} {ok : Nat → Prop} (hr : RdK (kP kI kI) W H ok v l) (hl : l.length ≤ 1048576) : ACalls Tryz.prog W 59 #[v] H (fun r H' => Ext H H' ∧ OwnK kI 2 W H' (fun b => H.bd ≤ b) r (l.map Prod.snd)) := by
  refine ACalls.of (args := [v]) Tryz.func59 rfl rfl ?_
  have X0 := Ext.refl H
  have hm1 := hr.max
  refine AW.rs ?_
  refine AL.val rfl (.inl rfl) (HV.as rfl) ?_
  refine AL.nx ?_
  refine AW.rs ?_
  have o2 := X0.bd
  refine AL.w rfl (.inl rfl) (WV.bsK (K := kI) (l := ([] : List Int)) (css := []) sl25 rfl rfl (by first | rfl | (simp [Instr.fill, Value.cells, kI, kB, kU, kU8, kS, Kd.sc]; done) | (simp [Instr.fill, Value.cells, kI, kB, kU, kU8, kS, Kd.sc, rng1, rng2, rng3, rng4, kP])) rfl segs_nil) ?_
  rintro v3 H4 ⟨hx5, ho6⟩
  have X7 := Ext.trans X0 hx5
  refine AL.val rfl (.inl rfl) (HV.as rfl) ?_
  refine AL.nx ?_
  refine AW.seq ?_
  refine AW.rs ?_
  refine AL.val rfl (.inl rfl) (HV.as rfl) ?_
  refine AL.nx ?_
  refine AW.block ?_
  refine AW.loop (σ := Nat × Value × List Int) (fun ⟨i, vv, k⟩ => [(0, v), (2, (.slice none 0 0)), (3, vv), (4, .int .i64 (i : Int))]) (fun ⟨i, vv, k⟩ H' => Ext H H' ∧ i ≤ l.length ∧ k = (l.take i).map Prod.snd ∧ k.length = i ∧ OwnK kI 2 W H' (fun b => H.bd ≤ b) vv k ∧ True) (fun ⟨i, vv, k⟩ => l.length - i) (0, v3, (([] : List Int) : List Int)) ⟨X7, Nat.zero_le _, rfl, rfl, ho6, trivial⟩ ⟨rfl, rfl, rfl, rfl, trivial⟩ ?_
  rintro ⟨i, vv, k⟩ H9 ⟨X10, hi, hk, hk2, hoL, _⟩
  refine AW.seq ?_
  refine AW.rs ?_
  refine AL.val rfl (.inl rfl) (HV.mv rfl) ?_
  refine AL.val rfl (.inl rfl) (HV.mv rfl) ?_
  refine AL.val rfl (.inl rfl) (HV.len Tryz.underlying28 rfl hr.isSl) ?_
  refine AL.val rfl (.inl rfl) (HV.lti rfl rfl) ?_
  refine AL.nx ?_
  refine AW.ifd rfl (fun c11 => ?_) (fun c11 => ?_)
  · -- then
    refine AW.skip ?_
    refine nrm_and ?_
    refine AW.seq ?_
    refine AW.block ?_
    refine AW.reg ?_
    refine AL.val rfl (.inl rfl) (HV.mv rfl) ?_
    refine AL.val rfl (.inl rfl) (HV.mv rfl) ?_
    refine AL.val rfl (.inl rfl) (HV.mv rfl) ?_
    obtain ⟨p12, z13, cs14, hz15, hK16, hC17, hP18⟩ := RdK.ix (q := (i : Int)) hr sl28 (by omega) (by omega)
    obtain ⟨cs19, cs20, rfl, hK21, hK22⟩ := hK16
    obtain rfl : cs19 = [.int .i64 z13.1] := hK21
    obtain rfl : cs20 = [.int .i64 z13.2] := hK22
    refine AL.val rfl (.inl rfl) (hP18 rfl rfl) ?_
    refine AL.val rfl (.inl rfl) (HV.fa fl36_1 rfl) ?_
    refine AL.val rfl (.inl rfl) (HV.ld rfl va2 (cells_at (hC17.ext X10) rfl)) ?_
    have X23 := Ext.refl H9
    have o24 := X10.bd
    have o25 := X23.bd
    have a26 := hoL.ltb
    refine AL.w rfl (.inl rfl) (WV.bsK (K := kI) (l := ([z13.2] : List Int)) (css := [[.int .i64 z13.2]]) sl25 rfl rfl (by first | rfl | (simp [Instr.fill, Value.cells, kI, kB, kU, kU8, kS, Kd.sc]; done) | (simp [Instr.fill, Value.cells, kI, kB, kU, kU8, kS, Kd.sc, rng1, rng2, rng3, rng4, kP])) rfl (segs_cons rfl segs_nil)) ?_
    rintro v27 H28 ⟨hx29, ho30⟩
    have X31 := Ext.trans X10 hx29
    have X32 := Ext.trans X23 hx29
    have ho33 := hoL.ext hx29
    have X35 := Ext.refl H28
    refine AL.w rfl (.inl rfl) (WV.apk sl25 rfl rfl ho33 ho30.rd (by simp; omega) (by simp; omega) (fun b hb _ e => Nat.lt_irrefl _ (Nat.lt_of_lt_of_le (a26 b e) hb))) ?_
    rintro v36 H37 ⟨hx38, ho39, hb40⟩
    have ho41 := ho39.narrow (ok' := fun b => H.bd ≤ b) kI_flat (fun b q => (hb40 b q).elim (fun e => (ho33.blk b e).1) (fun e => Nat.le_trans X31.bd e))
    have X42 := Ext.thru X31 hx38 (fun b hb => Nat.le_trans o2 (ho33.blk b hb).1)
    refine AL.val rfl (.inl rfl) (HV.as rfl) ?_
    refine AL.nil ?_
    refine nrm_blk (nrm_and ?_)
    refine AW.reg ?_
    refine AL.val rfl (.inl rfl) (HV.mv rfl) ?_
    refine AL.val rfl (.inl rfl) (HV.add rfl rfl (by omega)) ?_
    refine AL.val rfl (.inl rfl) (HV.as rfl) ?_
    refine AL.nil ?_
    refine nrm_and ?_
    exact ⟨(i + 1, v36, (k ++ (([z13.2] : List Int) : List Int))), ⟨X42, by omega, by rw [map_snoc (f := Prod.snd) hz15, hk], by simp [hk2], ho41, trivial⟩, by first | omega | (dsimp only; omega), ⟨rfl, rfl, rfl, rfl, trivial⟩⟩
  · -- else
    refine AW.exit ?_
    refine ex_and (ex_and (ex_blk ?_))
    refine nrm_and ?_
    refine AW.rs ?_
    refine AL.val rfl (.inl rfl) (HV.mv rfl) ?_
    refine AL.val rfl (.inl rfl) (HV.as rfl) ?_
    refine AL.nx ?_
    refine AW.ret ?_
    refine post_one rfl rfl ?_ (.inr rfl)
    exact ⟨X10, by obtain rfl : i = l.length := (by omega); subst hk; rw [List.take_length] at *; exact hoL.okk (fun b hb _ => Nat.le_trans o2 hb)⟩

set_option maxRecDepth 100000 in
theorem ptsOf_ok {v : Value} {l : List (Int × Int)} {ok : Nat → Prop} (hr : RdK (kP kI kI) W H ok v l) (hl : l.length ≤ 1048576) : ACalls Tryz.prog W 45 #[v] H (fun r H' => (∃ u v, r = .tuple #[u, v] ∧ RdK kI W H' (fun _ => True) u (l.map Prod.fst) ∧ RdK kI W H' (fun _ => True) v (l.map Prod.snd)) ∧ Ext H H') := by
  refine ACalls.of (args := [v]) Tryz.func45 rfl rfl ?_
  have X0 := Ext.refl H
  have hm1 := hr.max
  refine AW.rs ?_
  refine AL.val rfl (.inl rfl) (HV.as rfl) ?_
  refine AL.val rfl (.inl rfl) (HV.as rfl) ?_
  refine AL.nx ?_
  refine AW.rs ?_
  have o2 := X0.bd
  refine AL.w rfl (.inl rfl) (WV.bsK (K := kI) (l := ([] : List Int)) (css := []) sl25 rfl rfl (by first | rfl | (simp [Instr.fill, Value.cells, kI, kB, kU, kU8, kS, Kd.sc]; done) | (simp [Instr.fill, Value.cells, kI, kB, kU, kU8, kS, Kd.sc, rng1, rng2, rng3, rng4, kP])) rfl segs_nil) ?_
  rintro v3 H4 ⟨hx5, ho6⟩
  have X7 := Ext.trans X0 hx5
  have X9 := Ext.refl H4
  have o10 := X7.bd
  have o11 := X9.bd
  have a12 := ho6.ltb
  refine AL.w rfl (.inl rfl) (WV.bsK (K := kI) (l := ([] : List Int)) (css := []) sl25 rfl rfl (by first | rfl | (simp [Instr.fill, Value.cells, kI, kB, kU, kU8, kS, Kd.sc]; done) | (simp [Instr.fill, Value.cells, kI, kB, kU, kU8, kS, Kd.sc, rng1, rng2, rng3, rng4, kP])) rfl segs_nil) ?_
  rintro v13 H14 ⟨hx15, ho16⟩
  have X17 := Ext.trans X7 hx15
  have X18 := Ext.trans X9 hx15
  have ho19 := ho6.ext hx15
  refine AL.val rfl (.inl rfl) (HV.as rfl) ?_
  refine AL.val rfl (.inl rfl) (HV.as rfl) ?_
  refine AL.nx ?_
  refine AW.seq ?_
  refine AW.rs ?_
  refine AL.val rfl (.inl rfl) (HV.mv rfl) ?_
  refine AL.val rfl (.inl rfl) (HV.len Tryz.underlying28 rfl hr.isSl) ?_
  refine AL.val rfl (.inl rfl) (HV.mv rfl) ?_
  refine AL.nx ?_
  refine AW.block ?_
  have ho21 := ho19.narrow (ok' := fun b => H.bd ≤ b ∧ some b = v3.ownBlock) kI_flat (fun b q => ⟨(ho19.blk b q).1, q⟩)
  have ho22 := ho16.narrow (ok' := fun b => H.bd ≤ b ∧ some b = v13.ownBlock) kI_flat (fun b q => ⟨Nat.le_trans o10 (ho16.blk b q).1, q⟩)
  have d23 : ∀ b, some b = v3.ownBlock → some b = v13.ownBlock → False := fun b h1 h2 => by have x1 := a12 b h1; have x2 : H4.bd ≤ b := (ho16.blk b h2).1; omega
  refine AW.loop (σ := Nat × Value × List Int × Value × List Int) (fun ⟨i, va, ka, vb, kb⟩ => [(2, (.slice none 0 0)), (3, (.slice none 0 0)), (10, v), (11, .int .i64 (l.length : Int)), (4, va), (5, vb), (12, .int .i64 (i : Int))]) (fun ⟨i, va, ka, vb, kb⟩ H' => Ext H H' ∧ i ≤ l.length ∧ ka = (l.take i).map Prod.fst ∧ kb = (l.take i).map Prod.snd ∧ ka.length = i ∧ kb.length = i ∧ (∀ b, some b = va.ownBlock → some b = vb.ownBlock → False) ∧ OwnK kI 2 W H' (fun b => H.bd ≤ b ∧ some b = va.ownBlock) va ka ∧ OwnK kI 2 W H' (fun b => H.bd ≤ b ∧ some b = vb.ownBlock) vb kb ∧ True) (fun ⟨i, va, ka, vb, kb⟩ => l.length - i) (0, v3, (([] : List Int) : List Int), v13, (([] : List Int) : List Int)) ⟨X17, Nat.zero_le _, rfl, rfl, rfl, rfl, d23, ho21, ho22, trivial⟩ ⟨rfl, rfl, rfl, rfl, rfl, rfl, rfl, trivial⟩ ?_
  rintro ⟨i, va, ka, vb, kb⟩ H24 ⟨X25, hi, hka, hkb, hla, hlb, hdis, hoA, hoB, _⟩
  refine AW.rs ?_
  refine AL.val rfl (.inl rfl) (HV.lti rfl rfl) ?_
  refine AL.nx ?_
  refine AW.seq ?_
  refine AW.ifd rfl (fun c26 => ?_) (fun c26 => ?_)
  · -- then
    refine AW.skip ?_
    refine nrm_and ?_
    refine AW.seq ?_
    refine AW.block ?_
    refine AW.rs ?_
    obtain ⟨p27, z28, cs29, hz30, hK31, hC32, hP33⟩ := RdK.ix (q := (i : Int)) hr sl28 (by omega) (by omega)
    obtain ⟨cs34, cs35, rfl, hK36, hK37⟩ := hK31
    obtain rfl : cs34 = [.int .i64 z28.1] := hK36
    obtain rfl : cs35 = [.int .i64 z28.2] := hK37
    refine AL.val rfl (.inl rfl) (hP33 rfl rfl) ?_
    refine AL.val rfl (.inl rfl) (HV.lda (cs := [.int .i64 z28.1, .int .i64 z28.2]) rfl va36 (hC32.ext X25)) ?_
    have a43 := hoA.ltb
    have a44 := hoB.ltb
    refine AL.w rfl (.inl rfl) (WV.al ze36 rfl) ?_
    rintro _ H39 ⟨b38, rfl, hx40, hn41, hb42⟩
    have o45 := Nat.le_trans X25.bd hn41
    have a46 : ∀ b', some b' = va.ownBlock → b' = b38 → False := fun b' h1 h2 => by have x1 := a43 b' h1; have x2 := hn41; omega
    have a47 : ∀ b', some b' = vb.ownBlock → b' = b38 → False := fun b' h1 h2 => by have x1 := a44 b' h1; have x2 := hn41; omega
    have X48 := Ext.trans X25 hx40
    have ho49 := hoA.ext hx40
    have ho50 := hoB.ext hx40
    have X51 := Ext.refl H39
    refine AL.w0 (.inl rfl) (WV.st rfl rfl va36 rfl hb42 (Nat.le_of_ble_eq_true rfl) (one_cons rfl (one_cons rfl one_nil))) ?_
    rintro _ H52 ⟨hx53, hb54⟩
    have X55 := Ext.thru X48 hx53 (fun z_ hz_ => by rw [hz_]; exact o45)
    have ho57 := ho49.but hx53 (fun b hb _ e => a46 b hb.2 e) (fun z_ hz_ => by rw [hz_]; exact hb42.w)
    have ho58 := ho50.but hx53 (fun b hb _ e => a47 b hb.2 e) (fun z_ hz_ => by rw [hz_]; exact hb42.w)
    have hb59 : At W H52 b38 ⟨36, [.int .i64 z28.1, .int .i64 z28.2], 2⟩ := hb54
    refine AL.nx ?_
    refine AW.draw' [0, 0, 2, 6, 15, 0, 0, 64, 192, 511, 1023, 2047] mixed (by rfl) ?_
    refine Dr.read 0 _ 16 _ rfl rfl rfl rfl rfl (RV.of (by intro _ _ h; cases h) (.inl rfl) (fun _ xd => HV.mv rfl)) ?_
    refine Dr.read 1 _ 17 _ rfl rfl rfl rfl rfl (RV.of (by intro _ _ h; cases h) (.inl rfl) (fun _ xd => HV.fa fl36_0 rfl)) ?_
    refine Dr.read 2 _ 18 _ rfl rfl rfl rfl rfl (RV.of (by intro _ _ h; cases h) (.inl rfl) (fun _ xd => HV.ld rfl va2 (rdc_ext xd (at_cell hb59 rfl)))) ?_
    refine Dr.read 5 _ 21 _ rfl rfl rfl rfl rfl (RV.of (by intro _ _ h; cases h) (.inl rfl) (fun _ xd => HV.mv rfl)) ?_
    refine Dr.read 6 _ 22 _ rfl rfl rfl rfl rfl (RV.of (by intro _ _ h; cases h) (.inl rfl) (fun _ xd => HV.fa fl36_1 rfl)) ?_
    refine Dr.read 7 _ 23 _ rfl rfl rfl rfl rfl (RV.of (by intro _ _ h; cases h) (.inl rfl) (fun _ xd => HV.ld rfl va2 (rdc_ext xd (at_cell_add (j := 1) hb59 rfl)))) ?_
    have X60 := Ext.refl H52
    have y61 := hb59.lt
    have o62 := X55.bd
    have o63 := X60.bd
    have a64 := ho57.ltb
    have a65 := ho58.ltb
    have X70 := Ext.refl H52
    have y71 := hb59.lt
    have o72 := X55.bd
    have o73 := X70.bd
    have a74 := ho57.ltb
    have a75 := ho58.ltb
    refine Dr.eff2 3 8 _ _ _ _  rfl rfl  (by intro d h; cases h; exact ⟨rfl, rfl⟩) (by intro d h; cases h; exact ⟨rfl, rfl⟩) rfl rfl  rfl rfl rfl  (EC.of (by intro _ _ h; cases h) (.inl rfl) (WV.bsK (K := kI) (l := ([z28.1] : List Int)) (css := [[.int .i64 z28.1]]) sl25 rfl rfl (by first | rfl | (simp [Instr.fill, Value.cells, kI, kB, kU, kU8, kS, Kd.sc]; done) | (simp [Instr.fill, Value.cells, kI, kB, kU, kU8, kS, Kd.sc, rng1, rng2, rng3, rng4, kP])) rfl (segs_cons rfl segs_nil))) (EC.of (by intro _ _ h; cases h) (.inl rfl) (WV.bsK (K := kI) (l := ([z28.2] : List Int)) (css := [[.int .i64 z28.2]]) sl25 rfl rfl (by first | rfl | (simp [Instr.fill, Value.cells, kI, kB, kU, kU8, kS, Kd.sc]; done) | (simp [Instr.fill, Value.cells, kI, kB, kU, kU8, kS, Kd.sc, rng1, rng2, rng3, rng4, kP])) rfl (segs_cons rfl segs_nil))) (fun v H' h => .inl (h.1)) (fun v H' h => .inl (h.1)) ?_ ?_ 
    · -- 3 first
      have X80 := Ext.refl H52
      have y81 := hb59.lt
      have o82 := X55.bd
      have o83 := X80.bd
      have a84 := ho57.ltb
      have a85 := ho58.ltb
      rintro v86 H87 ⟨hx88, ho89⟩
      have X90 := Ext.trans X55 hx88
      have X91 := Ext.trans X80 hx88
      have ho92 := ho57.ext hx88
      have ho93 := ho58.ext hx88
      have hb94 := hb59.ext hx88
      have X96 := Ext.refl H87
      have X103 := Ext.refl H87
      have y104 := hb94.lt
      have o105 := X90.bd
      have o106 := X91.bd
      have o107 := X103.bd
      have a108 := ho92.ltb
      have a109 := ho93.ltb
      have a110 := ho89.ltb
      refine Dr.eff2 4 8 _ _ _ _  rfl rfl  (by intro d h; cases h; exact ⟨rfl, rfl⟩) (by intro d h; cases h; exact ⟨rfl, rfl⟩) rfl rfl  rfl rfl rfl  (EC.of (by intro _ _ h; cases h) (.inl rfl) (WV.apk sl25 rfl rfl ho92 ho89.rd (by simp; omega) (by simp; omega) (fun b hb _ e => Nat.lt_irrefl _ (Nat.lt_of_lt_of_le (a84 b e) hb)))) (EC.of (by intro _ _ h; cases h) (.inl rfl) (WV.bsK (K := kI) (l := ([z28.2] : List Int)) (css := [[.int .i64 z28.2]]) sl25 rfl rfl (by first | rfl | (simp [Instr.fill, Value.cells, kI, kB, kU, kU8, kS, Kd.sc]; done) | (simp [Instr.fill, Value.cells, kI, kB, kU, kU8, kS, Kd.sc, rng1, rng2, rng3, rng4, kP])) rfl (segs_cons rfl segs_nil))) ?_ (fun v H' h => .inl (h.1)) ?_ ?_ 
      · -- kept
        rintro v97 H98 ⟨hx99, ho100, hb101⟩
        have ho102 := ho100.narrow (ok' := fun b => H.bd ≤ b ∧ some b = v97.ownBlock) kI_flat (fun b q => ⟨(hb101 b q).elim (fun e => (ho92.blk b e).1.1) (fun e => Nat.le_trans X90.bd e), q⟩)
        have d115 : ∀ b, some b = vb.ownBlock → some b = v97.ownBlock → False := fun b h1 h2 => (hb101 b h2).elim (fun e => (fun b h1 h2 => hdis b h2 h1) b h1 e) (fun e => by have := (ho93.blk b h1).2.1; omega)
        have a116 : ∀ b', some b' = v97.ownBlock → b' = b38 → False := fun b' h1 h2 => (hb101 b' h1).elim (fun e => a46 b' e h2) (fun e => by have := hb94.lt; omega)
        have X117 := Ext.thru X90 hx99 (fun b hb => Nat.le_trans o2 (ho92.blk b hb).1.1)
        have ho119 := ho93.but hx99 (fun b h1 _ h2 => hdis b h2 h1.2) (fun b hb => (ho92.blk b hb).2.2)
        have ho120 := ho89.but hx99 (fun b hb _ e => Nat.lt_irrefl _ (Nat.lt_of_lt_of_le (a84 b e) hb)) (fun b hb => (ho92.blk b hb).2.2)
        have hb121 := hb94.but hx99 (fun e => a46 _ e rfl)
        refine .inr (.inr ?_)
        exact (kept_cons (.inr ⟨_, _, _, rfl, rfl, rfl, (RV.of (by intro _ _ h; cases h) (.inl rfl) (fun _ xd => HV.ld rfl va2 (rdc_ext xd (at_cell_add (j := 1) hb121 rfl))))⟩) (kept_cons (.inr ⟨_, _, _, rfl, rfl, rfl, (RV.of (by intro _ _ h; cases h) (.inl rfl) (fun _ xd => HV.fa fl36_1 rfl))⟩) (kept_cons (.inr ⟨_, _, _, rfl, rfl, rfl, (RV.of (by intro _ _ h; cases h) (.inl rfl) (fun _ xd => HV.mv rfl))⟩) (kept_cons (.inl rfl) (kept_cons (.inl rfl) (kept_cons (.inl rfl) kept_nil))))))
      · -- 4 first
        have X122 := Ext.refl H87
        rintro v123 H124 ⟨hx125, ho126, hb127⟩
        have ho128 := ho126.narrow (ok' := fun b => H.bd ≤ b ∧ some b = v123.ownBlock) kI_flat (fun b q => ⟨(hb127 b q).elim (fun e => (ho92.blk b e).1.1) (fun e => Nat.le_trans X90.bd e), q⟩)
        have d129 : ∀ b, some b = vb.ownBlock → some b = v123.ownBlock → False := fun b h1 h2 => (hb127 b h2).elim (fun e => (fun b h1 h2 => hdis b h2 h1) b h1 e) (fun e => by have := (ho93.blk b h1).2.1; omega)
        have a130 : ∀ b', some b' = v123.ownBlock → b' = b38 → False := fun b' h1 h2 => (hb127 b' h1).elim (fun e => a46 b' e h2) (fun e => by have := hb94.lt; omega)
        have X131 := Ext.thru X90 hx125 (fun b hb => Nat.le_trans o2 (ho92.blk b hb).1.1)
        have ho134 := ho93.but hx125 (fun b h1 _ h2 => hdis b h2 h1.2) (fun b hb => (ho92.blk b hb).2.2)
        have ho135 := ho89.but hx125 (fun b hb _ e => Nat.lt_irrefl _ (Nat.lt_of_lt_of_le (a84 b e) hb)) (fun b hb => (ho92.blk b hb).2.2)
        have hb136 := hb94.but hx125 (fun e => a46 _ e rfl)
        have X137 := Ext.refl H124
        have y138 := hb136.lt
        have o139 := X131.bd
        have o140 := X137.bd
        have a141 := ho128.ltb
        have a142 := ho134.ltb
        have a143 := ho135.ltb
        refine Dr.eff 8 _ _ rfl (by intro d h; cases h; exact ⟨rfl, rfl⟩) rfl rfl rfl (EC.of (by intro _ _ h; cases h) (.inl rfl) (WV.bsK (K := kI) (l := ([z28.2] : List Int)) (css := [[.int .i64 z28.2]]) sl25 rfl rfl (by first | rfl | (simp [Instr.fill, Value.cells, kI, kB, kU, kU8, kS, Kd.sc]; done) | (simp [Instr.fill, Value.cells, kI, kB, kU, kU8, kS, Kd.sc, rng1, rng2, rng3, rng4, kP])) rfl (segs_cons rfl segs_nil))) (fun v H' h => .inl (h.1)) ?_
        rintro v144 H145 ⟨hx146, ho147⟩
        have X148 := Ext.trans X131 hx146
        have X149 := Ext.trans X137 hx146
        have ho150 := ho128.ext hx146
        have ho151 := ho134.ext hx146
        have ho152 := ho135.ext hx146
        have hb153 := hb136.ext hx146
        have X155 := Ext.refl H145
        refine Dr.eff 9 _ _ rfl (by intro d h; cases h; exact ⟨rfl, rfl⟩) rfl rfl rfl (EC.of (by intro _ _ h; cases h) (.inl rfl) (WV.apk sl25 rfl rfl ho151 ho147.rd (by simp; omega) (by simp; omega) (fun b hb _ e => Nat.lt_irrefl _ (Nat.lt_of_lt_of_le (a142 b e) hb)))) (fun v H' h => .inr (.inl rfl)) ?_
        rintro v156 H157 ⟨hx158, ho159, hb160⟩
        have ho161 := ho159.narrow (ok' := fun b => H.bd ≤ b ∧ some b = v156.ownBlock) kI_flat (fun b q => ⟨(hb160 b q).elim (fun e => (ho151.blk b e).1.1) (fun e => Nat.le_trans X148.bd e), q⟩)
        have d162 : ∀ b, some b = v123.ownBlock → some b = v156.ownBlock → False := fun b h1 h2 => (hb160 b h2).elim (fun e => (fun b h1 h2 => d129 b h2 h1) b h1 e) (fun e => by have := (ho150.blk b h1).2.1; omega)
        have a163 : ∀ b', some b' = v156.ownBlock → b' = b38 → False := fun b' h1 h2 => (hb160 b' h1).elim (fun e => a47 b' e h2) (fun e => by have := hb153.lt; omega)
        have X164 := Ext.thru X148 hx158 (fun b hb => Nat.le_trans o2 (ho151.blk b hb).1.1)
        have ho167 := ho150.but hx158 (fun b h1 _ h2 => (fun b h1 h2 => d129 b h2 h1) b h1.2 h2) (fun b hb => (ho151.blk b hb).2.2)
        have ho168 := ho152.but hx158 (fun b hb _ e => Nat.lt_irrefl _ (Nat.lt_of_lt_of_le (a85 b e) hb)) (fun b hb => (ho151.blk b hb).2.2)
        have ho169 := ho147.but hx158 (fun b hb _ e => Nat.lt_irrefl _ (Nat.lt_of_lt_of_le (a142 b e) hb)) (fun b hb => (ho151.blk b hb).2.2)
        have hb170 := hb153.but hx158 (fun e => a47 _ e rfl)
        refine Dr.eff 10 _ _ rfl (by intro d h; cases h; exact ⟨rfl, rfl⟩) rfl rfl rfl (EC.of (by intro _ _ h; cases h) (.inl rfl) (WV.ofHV (HV.as rfl))) (fun v H' h => .inl (h.2 ▸ Ext.refl _)) ?_
        rintro u_ h_ ⟨e1_, e2_⟩
        rw [e1_, e2_]
        clear e1_ e2_ u_ h_
        refine Dr.eff 11 _ _ rfl (by intro d h; cases h; exact ⟨rfl, rfl⟩) rfl rfl rfl (EC.of (by intro _ _ h; cases h) (.inl rfl) (WV.ofHV (HV.as rfl))) (fun v H' h => .inl (h.2 ▸ Ext.refl _)) ?_
        rintro u_ h_ ⟨e1_, e2_⟩
        rw [e1_, e2_]
        clear e1_ e2_ u_ h_
        refine Dr.fin rfl ?_
        refine nrm_blk (nrm_and ?_)
        refine AW.reg ?_
        refine AL.val rfl (.inl rfl) (HV.add rfl rfl (by omega)) ?_
        refine AL.val rfl (.inl rfl) (HV.mv rfl) ?_
        refine AL.nil ?_
        refine nrm_and ?_
        exact ⟨(i + 1, v123, (ka ++ (([z28.1] : List Int) : List Int)), v156, (kb ++ (([z28.2] : List Int) : List Int))), ⟨X164, by omega, by rw [map_snoc (f := Prod.fst) hz30, hka], by rw [map_snoc (f := Prod.snd) hz30, hkb], by simp [hla], by simp [hlb], d162, ho167, ho161, trivial⟩, by first | omega | (dsimp only; omega), ⟨rfl, rfl, rfl, rfl, rfl, rfl, rfl, trivial⟩⟩
      · -- 8 first
        have X171 := Ext.refl H87
        have y172 := hb94.lt
        have o173 := X90.bd
        have o174 := X91.bd
        have o175 := X171.bd
        have a176 := ho92.ltb
        have a177 := ho93.ltb
        have a178 := ho89.ltb
        rintro v179 H180 ⟨hx181, ho182⟩
        have X183 := Ext.trans X90 hx181
        have X184 := Ext.trans X91 hx181
        have X185 := Ext.trans X171 hx181
        have ho186 := ho92.ext hx181
        have ho187 := ho93.ext hx181
        have ho188 := ho89.ext hx181
        have hb189 := hb94.ext hx181
        have X191 := Ext.refl H180
        refine Dr.eff 4 _ _ rfl (by intro d h; cases h; exact ⟨rfl, rfl⟩) rfl rfl rfl (EC.of (by intro _ _ h; cases h) (.inl rfl) (WV.apk sl25 rfl rfl ho186 ho188.rd (by simp; omega) (by simp; omega) (fun b hb _ e => Nat.lt_irrefl _ (Nat.lt_of_lt_of_le (a84 b e) hb)))) ?_ ?_
        · -- kept
          rintro v192 H193 ⟨hx194, ho195, hb196⟩
          have ho197 := ho195.narrow (ok' := fun b => H.bd ≤ b ∧ some b = v192.ownBlock) kI_flat (fun b q => ⟨(hb196 b q).elim (fun e => (ho186.blk b e).1.1) (fun e => Nat.le_trans X183.bd e), q⟩)
          have d198 : ∀ b, some b = vb.ownBlock → some b = v192.ownBlock → False := fun b h1 h2 => (hb196 b h2).elim (fun e => (fun b h1 h2 => hdis b h2 h1) b h1 e) (fun e => by have := (ho187.blk b h1).2.1; omega)
          have a199 : ∀ b', some b' = v192.ownBlock → b' = b38 → False := fun b' h1 h2 => (hb196 b' h1).elim (fun e => a46 b' e h2) (fun e => by have := hb189.lt; omega)
          have X200 := Ext.thru X183 hx194 (fun b hb => Nat.le_trans o2 (ho186.blk b hb).1.1)
          have ho204 := ho187.but hx194 (fun b h1 _ h2 => hdis b h2 h1.2) (fun b hb => (ho186.blk b hb).2.2)
          have ho205 := ho188.but hx194 (fun b hb _ e => Nat.lt_irrefl _ (Nat.lt_of_lt_of_le (a84 b e) hb)) (fun b hb => (ho186.blk b hb).2.2)
          have ho206 := ho182.but hx194 (fun b hb _ e => Nat.lt_irrefl _ (Nat.lt_of_lt_of_le (a176 b e) hb)) (fun b hb => (ho186.blk b hb).2.2)
          have hb207 := hb189.but hx194 (fun e => a46 _ e rfl)
          refine .inr (.inr ?_)
          exact (kept_cons (.inr ⟨_, _, _, rfl, rfl, rfl, (RV.of (by intro _ _ h; cases h) (.inl rfl) (fun _ xd => HV.ld rfl va2 (rdc_ext xd (at_cell_add (j := 1) hb207 rfl))))⟩) (kept_cons (.inr ⟨_, _, _, rfl, rfl, rfl, (RV.of (by intro _ _ h; cases h) (.inl rfl) (fun _ xd => HV.fa fl36_1 rfl))⟩) (kept_cons (.inr ⟨_, _, _, rfl, rfl, rfl, (RV.of (by intro _ _ h; cases h) (.inl rfl) (fun _ xd => HV.mv rfl))⟩) (kept_cons (.inl rfl) (kept_cons (.inl rfl) (kept_cons (.inl rfl) kept_nil))))))
        rintro v192 H193 ⟨hx194, ho195, hb196⟩
        have ho197 := ho195.narrow (ok' := fun b => H.bd ≤ b ∧ some b = v192.ownBlock) kI_flat (fun b q => ⟨(hb196 b q).elim (fun e => (ho186.blk b e).1.1) (fun e => Nat.le_trans X183.bd e), q⟩)
        have d208 : ∀ b, some b = vb.ownBlock → some b = v192.ownBlock → False := fun b h1 h2 => (hb196 b h2).elim (fun e => (fun b h1 h2 => hdis b h2 h1) b h1 e) (fun e => by have := (ho187.blk b h1).2.1; omega)
        have a209 : ∀ b', some b' = v192.ownBlock → b' = b38 → False := fun b' h1 h2 => (hb196 b' h1).elim (fun e => a46 b' e h2) (fun e => by have := hb189.lt; omega)
        have X210 := Ext.thru X183 hx194 (fun b hb => Nat.le_trans o2 (ho186.blk b hb).1.1)
        have ho214 := ho187.but hx194 (fun b h1 _ h2 => hdis b h2 h1.2) (fun b hb => (ho186.blk b hb).2.2)
        have ho215 := ho188.but hx194 (fun b hb _ e => Nat.lt_irrefl _ (Nat.lt_of_lt_of_le (a84 b e) hb)) (fun b hb => (ho186.blk b hb).2.2)
        have ho216 := ho182.but hx194 (fun b hb _ e => Nat.lt_irrefl _ (Nat.lt_of_lt_of_le (a176 b e) hb)) (fun b hb => (ho186.blk b hb).2.2)
        have hb217 := hb189.but hx194 (fun e => a46 _ e rfl)
        have X218 := Ext.refl H193
        refine Dr.eff 9 _ _ rfl (by intro d h; cases h; exact ⟨rfl, rfl⟩) rfl rfl rfl (EC.of (by intro _ _ h; cases h) (.inl rfl) (WV.apk sl25 rfl rfl ho214 ho216.rd (by simp; omega) (by simp; omega) (fun b hb _ e => Nat.lt_irrefl _ (Nat.lt_of_lt_of_le (a177 b e) hb)))) (fun v H' h => .inr (.inl rfl)) ?_
        rintro v219 H220 ⟨hx221, ho222, hb223⟩
        have ho224 := ho222.narrow (ok' := fun b => H.bd ≤ b ∧ some b = v219.ownBlock) kI_flat (fun b q => ⟨(hb223 b q).elim (fun e => (ho214.blk b e).1.1) (fun e => Nat.le_trans X210.bd e), q⟩)
        have d225 : ∀ b, some b = v192.ownBlock → some b = v219.ownBlock → False := fun b h1 h2 => (hb223 b h2).elim (fun e => (fun b h1 h2 => d208 b h2 h1) b h1 e) (fun e => by have := (ho197.blk b h1).2.1; omega)
        have a226 : ∀ b', some b' = v219.ownBlock → b' = b38 → False := fun b' h1 h2 => (hb223 b' h1).elim (fun e => a47 b' e h2) (fun e => by have := hb217.lt; omega)
        have X227 := Ext.thru X210 hx221 (fun b hb => Nat.le_trans o2 (ho214.blk b hb).1.1)
        have ho229 := ho197.but hx221 (fun b h1 _ h2 => (fun b h1 h2 => d208 b h2 h1) b h1.2 h2) (fun b hb => (ho214.blk b hb).2.2)
        have ho230 := ho215.but hx221 (fun b hb _ e => Nat.lt_irrefl _ (Nat.lt_of_lt_of_le (a85 b e) hb)) (fun b hb => (ho214.blk b hb).2.2)
        have ho231 := ho216.but hx221 (fun b hb _ e => Nat.lt_irrefl _ (Nat.lt_of_lt_of_le (a177 b e) hb)) (fun b hb => (ho214.blk b hb).2.2)
        have hb232 := hb217.but hx221 (fun e => a47 _ e rfl)
        refine Dr.eff 10 _ _ rfl (by intro d h; cases h; exact ⟨rfl, rfl⟩) rfl rfl rfl (EC.of (by intro _ _ h; cases h) (.inl rfl) (WV.ofHV (HV.as rfl))) (fun v H' h => .inl (h.2 ▸ Ext.refl _)) ?_
        rintro u_ h_ ⟨e1_, e2_⟩
        rw [e1_, e2_]
        clear e1_ e2_ u_ h_
        refine Dr.eff 11 _ _ rfl (by intro d h; cases h; exact ⟨rfl, rfl⟩) rfl rfl rfl (EC.of (by intro _ _ h; cases h) (.inl rfl) (WV.ofHV (HV.as rfl))) (fun v H' h => .inl (h.2 ▸ Ext.refl _)) ?_
        rintro u_ h_ ⟨e1_, e2_⟩
        rw [e1_, e2_]
        clear e1_ e2_ u_ h_
        refine Dr.fin rfl ?_
        refine nrm_blk (nrm_and ?_)
        refine AW.reg ?_
        refine AL.val rfl (.inl rfl) (HV.add rfl rfl (by omega)) ?_
        refine AL.val rfl (.inl rfl) (HV.mv rfl) ?_
        refine AL.nil ?_
        refine nrm_and ?_
        exact ⟨(i + 1, v192, (ka ++ (([z28.1] : List Int) : List Int)), v219, (kb ++ (([z28.2] : List Int) : List Int))), ⟨X227, by omega, by rw [map_snoc (f := Prod.fst) hz30, hka], by rw [map_snoc (f := Prod.snd) hz30, hkb], by simp [hla], by simp [hlb], d225, ho229, ho224, trivial⟩, by first | omega | (dsimp only; omega), ⟨rfl, rfl, rfl, rfl, rfl, rfl, rfl, trivial⟩⟩
    · -- 8 first
      have X233 := Ext.refl H52
      have y234 := hb59.lt
      have o235 := X55.bd
      have o236 := X233.bd
      have a237 := ho57.ltb
      have a238 := ho58.ltb
      rintro v239 H240 ⟨hx241, ho242⟩
      have X243 := Ext.trans X55 hx241
      have X244 := Ext.trans X233 hx241
      have ho245 := ho57.ext hx241
      have ho246 := ho58.ext hx241
      have hb247 := hb59.ext hx241
      have X249 := Ext.refl H240
      have y250 := hb247.lt
      have o251 := X243.bd
      have o252 := X244.bd
      have o253 := X249.bd
      have a254 := ho245.ltb
      have a255 := ho246.ltb
      have a256 := ho242.ltb
      refine Dr.eff 3 _ _ rfl (by intro d h; cases h; exact ⟨rfl, rfl⟩) rfl rfl rfl (EC.of (by intro _ _ h; cases h) (.inl rfl) (WV.bsK (K := kI) (l := ([z28.1] : List Int)) (css := [[.int .i64 z28.1]]) sl25 rfl rfl (by first | rfl | (simp [Instr.fill, Value.cells, kI, kB, kU, kU8, kS, Kd.sc]; done) | (simp [Instr.fill, Value.cells, kI, kB, kU, kU8, kS, Kd.sc, rng1, rng2, rng3, rng4, kP])) rfl (segs_cons rfl segs_nil))) (fun v H' h => .inl (h.1)) ?_
      rintro v257 H258 ⟨hx259, ho260⟩
      have X261 := Ext.trans X243 hx259
      have X262 := Ext.trans X244 hx259
      have X263 := Ext.trans X249 hx259
      have ho264 := ho245.ext hx259
      have ho265 := ho246.ext hx259
      have ho266 := ho242.ext hx259
      have hb267 := hb247.ext hx259
      have X269 := Ext.refl H258
      refine Dr.eff 4 _ _ rfl (by intro d h; cases h; exact ⟨rfl, rfl⟩) rfl rfl rfl (EC.of (by intro _ _ h; cases h) (.inl rfl) (WV.apk sl25 rfl rfl ho264 ho260.rd (by simp; omega) (by simp; omega) (fun b hb _ e => Nat.lt_irrefl _ (Nat.lt_of_lt_of_le (a254 b e) hb)))) ?_ ?_
      · -- kept
        rintro v270 H271 ⟨hx272, ho273, hb274⟩
        have ho275 := ho273.narrow (ok' := fun b => H.bd ≤ b ∧ some b = v270.ownBlock) kI_flat (fun b q => ⟨(hb274 b q).elim (fun e => (ho264.blk b e).1.1) (fun e => Nat.le_trans X261.bd e), q⟩)
        have d276 : ∀ b, some b = vb.ownBlock → some b = v270.ownBlock → False := fun b h1 h2 => (hb274 b h2).elim (fun e => (fun b h1 h2 => hdis b h2 h1) b h1 e) (fun e => by have := (ho265.blk b h1).2.1; omega)
        have a277 : ∀ b', some b' = v270.ownBlock → b' = b38 → False := fun b' h1 h2 => (hb274 b' h1).elim (fun e => a46 b' e h2) (fun e => by have := hb267.lt; omega)
        have X278 := Ext.thru X261 hx272 (fun b hb => Nat.le_trans o2 (ho264.blk b hb).1.1)
        have ho282 := ho265.but hx272 (fun b h1 _ h2 => hdis b h2 h1.2) (fun b hb => (ho264.blk b hb).2.2)
        have ho283 := ho266.but hx272 (fun b hb _ e => Nat.lt_irrefl _ (Nat.lt_of_lt_of_le (a237 b e) hb)) (fun b hb => (ho264.blk b hb).2.2)
        have ho284 := ho260.but hx272 (fun b hb _ e => Nat.lt_irrefl _ (Nat.lt_of_lt_of_le (a254 b e) hb)) (fun b hb => (ho264.blk b hb).2.2)
        have hb285 := hb267.but hx272 (fun e => a46 _ e rfl)
        refine .inr (.inr ?_)
        exact (kept_cons (.inr ⟨_, _, _, rfl, rfl, rfl, (RV.of (by intro _ _ h; cases h) (.inl rfl) (fun _ xd => HV.ld rfl va2 (rdc_ext xd (at_cell_add (j := 1) hb285 rfl))))⟩) (kept_cons (.inr ⟨_, _, _, rfl, rfl, rfl, (RV.of (by intro _ _ h; cases h) (.inl rfl) (fun _ xd => HV.fa fl36_1 rfl))⟩) (kept_cons (.inr ⟨_, _, _, rfl, rfl, rfl, (RV.of (by intro _ _ h; cases h) (.inl rfl) (fun _ xd => HV.mv rfl))⟩) (kept_cons (.inl rfl) (kept_cons (.inl rfl) (kept_cons (.inl rfl) kept_nil))))))
      rintro v270 H271 ⟨hx272, ho273, hb274⟩
      have ho275 := ho273.narrow (ok' := fun b => H.bd ≤ b ∧ some b = v270.ownBlock) kI_flat (fun b q => ⟨(hb274 b q).elim (fun e => (ho264.blk b e).1.1) (fun e => Nat.le_trans X261.bd e), q⟩)
      have d286 : ∀ b, some b = vb.ownBlock → some b = v270.ownBlock → False := fun b h1 h2 => (hb274 b h2).elim (fun e => (fun b h1 h2 => hdis b h2 h1) b h1 e) (fun e => by have := (ho265.blk b h1).2.1; omega)
      have a287 : ∀ b', some b' = v270.ownBlock → b' = b38 → False := fun b' h1 h2 => (hb274 b' h1).elim (fun e => a46 b' e h2) (fun e => by have := hb267.lt; omega)
      have X288 := Ext.thru X261 hx272 (fun b hb => Nat.le_trans o2 (ho264.blk b hb).1.1)
      have ho292 := ho265.but hx272 (fun b h1 _ h2 => hdis b h2 h1.2) (fun b hb => (ho264.blk b hb).2.2)
      have ho293 := ho266.but hx272 (fun b hb _ e => Nat.lt_irrefl _ (Nat.lt_of_lt_of_le (a237 b e) hb)) (fun b hb => (ho264.blk b hb).2.2)
      have ho294 := ho260.but hx272 (fun b hb _ e => Nat.lt_irrefl _ (Nat.lt_of_lt_of_le (a254 b e) hb)) (fun b hb => (ho264.blk b hb).2.2)
      have hb295 := hb267.but hx272 (fun e => a46 _ e rfl)
      have X296 := Ext.refl H271
      refine Dr.eff 9 _ _ rfl (by intro d h; cases h; exact ⟨rfl, rfl⟩) rfl rfl rfl (EC.of (by intro _ _ h; cases h) (.inl rfl) (WV.apk sl25 rfl rfl ho292 ho293.rd (by simp; omega) (by simp; omega) (fun b hb _ e => Nat.lt_irrefl _ (Nat.lt_of_lt_of_le (a238 b e) hb)))) (fun v H' h => .inr (.inl rfl)) ?_
      rintro v297 H298 ⟨hx299, ho300, hb301⟩
      have ho302 := ho300.narrow (ok' := fun b => H.bd ≤ b ∧ some b = v297.ownBlock) kI_flat (fun b q => ⟨(hb301 b q).elim (fun e => (ho292.blk b e).1.1) (fun e => Nat.le_trans X288.bd e), q⟩)
      have d303 : ∀ b, some b = v270.ownBlock → some b = v297.ownBlock → False := fun b h1 h2 => (hb301 b h2).elim (fun e => (fun b h1 h2 => d286 b h2 h1) b h1 e) (fun e => by have := (ho275.blk b h1).2.1; omega)
      have a304 : ∀ b', some b' = v297.ownBlock → b' = b38 → False := fun b' h1 h2 => (hb301 b' h1).elim (fun e => a47 b' e h2) (fun e => by have := hb295.lt; omega)
      have X305 := Ext.thru X288 hx299 (fun b hb => Nat.le_trans o2 (ho292.blk b hb).1.1)
      have ho307 := ho275.but hx299 (fun b h1 _ h2 => (fun b h1 h2 => d286 b h2 h1) b h1.2 h2) (fun b hb => (ho292.blk b hb).2.2)
      have ho308 := ho293.but hx299 (fun b hb _ e => Nat.lt_irrefl _ (Nat.lt_of_lt_of_le (a238 b e) hb)) (fun b hb => (ho292.blk b hb).2.2)
      have ho309 := ho294.but hx299 (fun b hb _ e => Nat.lt_irrefl _ (Nat.lt_of_lt_of_le (a255 b e) hb)) (fun b hb => (ho292.blk b hb).2.2)
      have hb310 := hb295.but hx299 (fun e => a47 _ e rfl)
      refine Dr.eff 10 _ _ rfl (by intro d h; cases h; exact ⟨rfl, rfl⟩) rfl rfl rfl (EC.of (by intro _ _ h; cases h) (.inl rfl) (WV.ofHV (HV.as rfl))) (fun v H' h => .inl (h.2 ▸ Ext.refl _)) ?_
      rintro u_ h_ ⟨e1_, e2_⟩
      rw [e1_, e2_]
      clear e1_ e2_ u_ h_
      refine Dr.eff 11 _ _ rfl (by intro d h; cases h; exact ⟨rfl, rfl⟩) rfl rfl rfl (EC.of (by intro _ _ h; cases h) (.inl rfl) (WV.ofHV (HV.as rfl))) (fun v H' h => .inl (h.2 ▸ Ext.refl _)) ?_
      rintro u_ h_ ⟨e1_, e2_⟩
      rw [e1_, e2_]
      clear e1_ e2_ u_ h_
      refine Dr.fin rfl ?_
      refine nrm_blk (nrm_and ?_)
      refine AW.reg ?_
      refine AL.val rfl (.inl rfl) (HV.add rfl rfl (by omega)) ?_
      refine AL.val rfl (.inl rfl) (HV.mv rfl) ?_
      refine AL.nil ?_
      refine nrm_and ?_
      exact ⟨(i + 1, v270, (ka ++ (([z28.1] : List Int) : List Int)), v297, (kb ++ (([z28.2] : List Int) : List Int))), ⟨X305, by omega, by rw [map_snoc (f := Prod.fst) hz30, hka], by rw [map_snoc (f := Prod.snd) hz30, hkb], by simp [hla], by simp [hlb], d303, ho307, ho302, trivial⟩, by first | omega | (dsimp only; omega), ⟨rfl, rfl, rfl, rfl, rfl, rfl, rfl, trivial⟩⟩
  · -- else
    refine AW.exit ?_
    refine ex_and (ex_and (ex_blk ?_))
    refine nrm_and ?_
    refine AW.rs ?_
    refine AL.val rfl (.inl rfl) (HV.mv rfl) ?_
    refine AL.val rfl (.inl rfl) (HV.mv rfl) ?_
    refine AL.val rfl (.inl rfl) (HV.as rfl) ?_
    refine AL.val rfl (.inl rfl) (HV.as rfl) ?_
    refine AL.nx ?_
    refine AW.ret ?_
    refine post_two rfl rfl rfl ?_ (.inr rfl)
    exact ⟨⟨_, _, rfl, by obtain rfl : i = l.length := (by omega); subst hka; rw [List.take_length] at *; exact hoA.rd.okk (fun _ _ _ => trivial), by obtain rfl : i = l.length := (by omega); subst hkb; rw [List.take_length] at *; exact hoB.rd.okk (fun _ _ _ => trivial)⟩, X25⟩

set_option maxRecDepth 100000 in
theorem implVS_ok {v : Value} {l : List (Int × Int)} {ok : Nat → Prop} (hr : RdK (kP kI kI) W H ok v l) (p : Int) (hl : l.length ≤ 1048576) : ACalls Tryz.prog W 27 #[.int .i64 p, v] H (fun r H' => r = .bool (decide (vS p l)) ∧ Ext H H') := by
  refine ACalls.of (args := [.int .i64 p, v]) Tryz.func27 rfl rfl ?_
  have X0 := Ext.refl H
  have hm1 := hr.max
  refine AW.rs ?_
  refine AL.val rfl (.inl rfl) (HV.as rfl) ?_
  refine AL.nx ?_
  refine AW.rs ?_
  refine AL.val rfl (.inl rfl) (HV.mv rfl) ?_
  refine AL.w rfl (.inl rfl) (WV.call fn45 rfl (ptsOf_ok hr (by omega))) ?_
  rintro _ H4 ⟨⟨u2, v3, rfl, hr6, hr7⟩, hx5⟩
  have X8 := Ext.trans X0 hx5
  have X9 := Ext.refl H4
  refine AL.val rfl (.inl rfl) (HV.mv rfl) ?_
  refine AL.val rfl (.inl rfl) (HV.ex rfl rfl) ?_
  refine AL.val rfl (.inl rfl) (HV.ex rfl rfl) ?_
  refine AL.val rfl (.inl rfl) (HV.as rfl) ?_
  refine AL.val rfl (.inl rfl) (HV.as rfl) ?_
  refine AL.nx ?_
  refine AW.rs ?_
  refine AL.val rfl (.inl rfl) (HV.mv rfl) ?_
  refine AL.val rfl (.inl rfl) (HV.mv rfl) ?_
  refine AL.w rfl (.inl rfl) (WV.call fn36 rfl (areEl_ok p hr7)) ?_
  rintro _ H10 ⟨rfl, hx11⟩
  have X12 := Ext.trans X8 hx11
  have X13 := Ext.trans X9 hx11
  refine AL.val rfl (.inl rfl) (HV.mv rfl) ?_
  by_cases c14 : primeI p ∧ elems p (l.map Prod.snd)
  · -- true
    have c14_ : decide (primeI p ∧ elems p (l.map Prod.snd)) = true := decide_eq_true c14
    rw [c14_]
    refine AL.val rfl (.inr ⟨_, _, _, rfl, rfl, rfl⟩) (HV.mv rfl) ?_
    refine AL.val rfl (.inr ⟨_, _, _, rfl, rfl, rfl⟩) (HV.mv rfl) ?_
    refine AL.w rfl (.inr ⟨_, _, _, rfl, rfl, rfl⟩) (WV.call fn46 rfl (arePts_ok (hr6.ext X13) (by assumption : primeI p ∧ elems p _).1.1)) ?_
    rintro _ H15 ⟨rfl, hx16⟩
    have X17 := Ext.trans X12 hx16
    have X18 := Ext.trans X13 hx16
    refine AL.val rfl (.inl rfl) (HV.pickT rfl rfl) ?_
    refine AL.val rfl (.inl rfl) (HV.as rfl) ?_
    refine AL.nx ?_
    refine AW.ret ?_
    refine post_one rfl rfl ?_ (.inr rfl)
    have hc := (by assumption : primeI p ∧ elems p _); exact ⟨congrArg Value.bool (decide_eq_decide.2 ⟨fun h => ⟨hc.1, hc.2, h⟩, fun h => h.2.2⟩), X17⟩
  · -- false
    have c14_ : decide (primeI p ∧ elems p (l.map Prod.snd)) = false := decide_eq_false c14
    rw [c14_]
    refine AL.off rfl rfl (by decide) rfl ?_
    refine AL.off rfl rfl (by decide) rfl ?_
    refine AL.off rfl rfl (by decide) rfl ?_
    refine AL.val rfl (.inl rfl) (HV.pickF rfl rfl) ?_
    refine AL.val rfl (.inl rfl) (HV.as rfl) ?_
    refine AL.nx ?_
    refine AW.ret ?_
    refine post_one rfl rfl ?_ (.inr rfl)
    exact ⟨dec_f (fun h => c14 ⟨h.1, h.2.1⟩), X12⟩

set_option maxRecDepth 100000 in
theorem specVS_ok {v : Value} {l : List (Int × Int)} {ok : Nat → Prop} (hr : RdK (kP kI kI) W H ok v l) (p : Int) (hl : l.length ≤ 1048576) : ACalls Tryz.prog W 31 #[.int .i64 p, v] H (fun r H' => r = .bool (decide (vS p l)) ∧ Ext H H') := by
  refine ACalls.of (args := [.int .i64 p, v]) Tryz.func31 rfl rfl ?_
  have X0 := Ext.refl H
  have hm1 := hr.max
  refine AW.rs ?_
  refine AL.val rfl (.inl rfl) (HV.as rfl) ?_
  refine AL.nx ?_
  refine AW.rs ?_
  refine AL.val rfl (.inl rfl) (HV.mv rfl) ?_
  refine AL.w rfl (.inl rfl) (WV.call fn41 rfl (l05Prime_ok (W := W) p)) ?_
  rintro _ H2 ⟨rfl, hx3⟩
  have X4 := Ext.trans X0 hx3
  refine AL.val rfl (.inl rfl) (HV.mv rfl) ?_
  by_cases c5 : primeI p
  · -- true
    have c5_ : decide (primeI p) = true := decide_eq_true c5
    rw [c5_]
    refine AL.val rfl (.inr ⟨_, _, _, rfl, rfl, rfl⟩) (HV.mv rfl) ?_
    refine AL.val rfl (.inr ⟨_, _, _, rfl, rfl, rfl⟩) (HV.mv rfl) ?_
    refine AL.w rfl (.inr ⟨_, _, _, rfl, rfl, rfl⟩) (WV.call fn57 rfl (places_ok (hr.ext X4) (by omega))) ?_
    rintro v6 H7 ⟨hx8, ho9⟩
    have X11 := Ext.trans X4 hx8
    have X12 := Ext.refl H7
    have hr10 : RdK kI W H7 _ v6 (l.map Prod.fst) := ho9.rd
    refine AL.w rfl (.inr ⟨_, _, _, rfl, rfl, rfl⟩) (WV.call fn25 rfl (l05Pts_ok hr10 (by assumption : primeI p).1)) ?_
    rintro _ H13 ⟨rfl, hx14⟩
    have X15 := Ext.trans X11 hx14
    have X16 := Ext.trans X12 hx14
    refine AL.val rfl (.inl rfl) (HV.pickT rfl rfl) ?_
    refine AL.val rfl (.inl rfl) (HV.mv rfl) ?_
    by_cases c17 : ptsI p (l.map Prod.fst)
    · -- true
      have c17_ : decide (ptsI p (l.map Prod.fst)) = true := decide_eq_true c17
      rw [c17_]
      refine AL.val rfl (.inr ⟨_, _, _, rfl, rfl, rfl⟩) (HV.mv rfl) ?_
      refine AL.val rfl (.inr ⟨_, _, _, rfl, rfl, rfl⟩) (HV.mv rfl) ?_
      refine AL.w rfl (.inr ⟨_, _, _, rfl, rfl, rfl⟩) (WV.call fn59 rfl (values_ok (hr.ext X15) (by omega))) ?_
      rintro v18 H19 ⟨hx20, ho21⟩
      have X23 := Ext.trans X15 hx20
      have X24 := Ext.trans X16 hx20
      have X25 := Ext.refl H19
      have hr22 : RdK kI W H19 _ v18 (l.map Prod.snd) := ho21.rd
      refine AL.w rfl (.inr ⟨_, _, _, rfl, rfl, rfl⟩) (WV.call fn58 rfl (resid_ok hr22 (by assumption : primeI p).1)) ?_
      rintro _ H26 ⟨rfl, hx27⟩
      have X28 := Ext.trans X23 hx27
      have X29 := Ext.trans X24 hx27
      have X30 := Ext.trans X25 hx27
      refine AL.val rfl (.inl rfl) (HV.pickT rfl rfl) ?_
      refine AL.val rfl (.inl rfl) (HV.as rfl) ?_
      refine AL.nx ?_
      refine AW.ret ?_
      refine post_one rfl rfl ?_ (.inr rfl)
      exact ⟨congrArg Value.bool (decide_eq_decide.2 ⟨fun h => ⟨by assumption, h, by assumption⟩, fun h => h.2.1⟩), X28⟩
    · -- false
      have c17_ : decide (ptsI p (l.map Prod.fst)) = false := decide_eq_false c17
      rw [c17_]
      refine AL.off rfl rfl (by decide) rfl ?_
      refine AL.off rfl rfl (by decide) rfl ?_
      refine AL.off rfl rfl (by decide) rfl ?_
      refine AL.off rfl rfl (by decide) rfl ?_
      refine AL.val rfl (.inl rfl) (HV.pickF rfl rfl) ?_
      refine AL.val rfl (.inl rfl) (HV.as rfl) ?_
      refine AL.nx ?_
      refine AW.ret ?_
      refine post_one rfl rfl ?_ (.inr rfl)
      exact ⟨dec_f (fun h => by first | exact c17 h.1 | exact c17 h.2.2), X15⟩
  · -- false
    have c5_ : decide (primeI p) = false := decide_eq_false c5
    rw [c5_]
    refine AL.off rfl rfl (by decide) rfl ?_
    refine AL.off rfl rfl (by decide) rfl ?_
    refine AL.off rfl rfl (by decide) rfl ?_
    refine AL.off rfl rfl (by decide) rfl ?_
    refine AL.val rfl (.inl rfl) (HV.pickF rfl rfl) ?_
    refine AL.val rfl (.inl rfl) (HV.mv rfl) ?_
    refine AL.off rfl rfl (by decide) rfl ?_
    refine AL.off rfl rfl (by decide) rfl ?_
    refine AL.off rfl rfl (by decide) rfl ?_
    refine AL.off rfl rfl (by decide) rfl ?_
    refine AL.val rfl (.inl rfl) (HV.pickF rfl rfl) ?_
    refine AL.val rfl (.inl rfl) (HV.as rfl) ?_
    refine AL.nx ?_
    refine AW.ret ?_
    refine post_one rfl rfl ?_ (.inr rfl)
    exact ⟨dec_f (fun h => by first | exact c5 h.1 | exact c5 h.2.2), X4⟩

set_option maxRecDepth 100000 in
theorem curveAt_ok {v : Value} {l : List Int} {ok : Nat → Prop} {p : Int} (hr : RdK kI W H ok v l) (x : Int) (hp : 2 ≤ p ∧ p ≤ 31) (hx : 0 ≤ x ∧ x ≤ p - 1) (hc : elems p l) : ACalls Tryz.prog W 37 #[.int .i64 p, v, .int .i64 x] H (fun r H' => r = .int .i64 (val p l x) ∧ Ext H H') := by
  refine ACalls.of (args := [.int .i64 p, v, .int .i64 x]) Tryz.func37 rfl rfl ?_
  have X0 := Ext.refl H
  have hm1 := hr.max
  refine AW.rs ?_
  refine AL.val rfl (.inl rfl) (HV.as rfl) ?_
  refine AL.nx ?_
  refine AW.rs ?_
  refine AL.val rfl (.inl rfl) (HV.as rfl) ?_
  refine AL.nx ?_
  refine AW.seq ?_
  refine AW.rs ?_
  refine AL.val rfl (.inl rfl) (HV.mv rfl) ?_
  refine AL.val rfl (.inl rfl) (HV.len Tryz.underlying25 rfl hr.isSl) ?_
  refine AL.val rfl (.inl rfl) (HV.sub rfl rfl (by omega)) ?_
  refine AL.val rfl (.inl rfl) (HV.as rfl) ?_
  refine AL.nx ?_
  refine AW.block ?_
  refine AW.loop (σ := Nat × Int × Int) (fun ⟨i, j, a⟩ => [(0, .int .i64 p), (1, v), (2, .int .i64 x), (6, .int .i64 0), (7, .int .i64 a), (8, .int .i64 j)]) (fun ⟨i, j, a⟩ H' => Ext H H' ∧ i ≤ l.length ∧ j = (i : Int) - 1 ∧ a = val p (l.drop i) x ∧ True) (fun ⟨i, j, a⟩ => i) (l.length, ((l.length : Int) - 1), 0) ⟨X0, Nat.le_refl _, rfl, by rw [List.drop_length]; rfl, trivial⟩ ⟨rfl, rfl, rfl, rfl, rfl, rfl, trivial⟩ ?_
  rintro ⟨i, j, a⟩ H2 ⟨X3, hi, hj, ha, _⟩
  refine AW.seq ?_
  refine AW.rs ?_
  refine AL.val rfl (.inl rfl) (HV.mv rfl) ?_
  refine AL.val rfl (.inl rfl) (HV.gei rfl rfl) ?_
  refine AL.nx ?_
  refine AW.ifd rfl (fun c4 => ?_) (fun c4 => ?_)
  · -- then
    refine AW.skip ?_
    refine nrm_and ?_
    refine AW.seq ?_
    refine AW.block ?_
    refine AW.reg ?_
    refine AL.val rfl (.inl rfl) (HV.mv rfl) ?_
    refine AL.val rfl (.inl rfl) (HV.mv rfl) ?_
    refine AL.val rfl (.inl rfl) (HV.mul rfl rfl (by have h1 := val_in (show 0 < p by omega) (l.drop i) x; rw [← ha] at h1; have h2 := mul31 (a := a) (b := x) (by omega) (by omega) (by omega) (by omega); omega)) ?_
    refine AL.val rfl (.inl rfl) (HV.mv rfl) ?_
    refine AL.val rfl (.inl rfl) (HV.mv rfl) ?_
    obtain ⟨p5, z6, cs7, hz8, hK9, hC10, hP11⟩ := RdK.ix (q := j) hr sl25 (by omega) (by omega)
    obtain rfl : cs7 = [.int .i64 z6] := hK9
    refine AL.val rfl (.inl rfl) (hP11 rfl rfl) ?_
    refine AL.val rfl (.inl rfl) (HV.ld rfl va2 (cells_first (hC10.ext X3) rfl)) ?_
    refine AL.val rfl (.inl rfl) (HV.add rfl rfl (by have h1 := val_in (show 0 < p by omega) (l.drop i) x; rw [← ha] at h1; have h2 := mul31 (a := a) (b := x) (by omega) (by omega) (by omega) (by omega); have h3 := elem_at hc hz8; omega)) ?_
    refine AL.val rfl (.inl rfl) (HV.mv rfl) ?_
    refine AL.val rfl (.inl rfl) (HV.rem rfl rfl (by have h1 := val_in (show 0 < p by omega) (l.drop i) x; rw [← ha] at h1; have h2 := mul31 (a := a) (b := x) (by omega) (by omega) (by omega) (by omega); have h3 := elem_at hc hz8; omega)) ?_
    refine AL.val rfl (.inl rfl) (HV.as rfl) ?_
    refine AL.nil ?_
    refine nrm_blk (nrm_and ?_)
    refine AW.reg ?_
    refine AL.val rfl (.inl rfl) (HV.mv rfl) ?_
    refine AL.val rfl (.inl rfl) (HV.sub rfl rfl (by omega)) ?_
    refine AL.val rfl (.inl rfl) (HV.as rfl) ?_
    refine AL.nil ?_
    refine nrm_and ?_
    exact ⟨(i - 1, j - 1, ((a * x) + z6) % p), ⟨X3, by omega, by omega, by have e : i - 1 + 1 = i := (by omega); rw [val_step (i := i - 1) (getq hz8 (by omega)), e, ← ha], trivial⟩, by first | omega | (dsimp only; omega), ⟨rfl, rfl, rfl, rfl, rfl, rfl, trivial⟩⟩
  · -- else
    refine AW.exit ?_
    refine ex_and (ex_and (ex_blk ?_))
    refine nrm_and ?_
    refine AW.rs ?_
    refine AL.val rfl (.inl rfl) (HV.mv rfl) ?_
    refine AL.val rfl (.inl rfl) (HV.as rfl) ?_
    refine AL.nx ?_
    refine AW.ret ?_
    refine post_one rfl rfl ?_ (.inr rfl)
    exact ⟨by obtain rfl : i = 0 := (by omega); rw [ha]; rfl, X3⟩

set_option maxRecDepth 100000 in
theorem l05Val_ok {v : Value} {l : List Int} {ok : Nat → Prop} {p : Int} (hr : RdK kI W H ok v l) (x : Int) (hp : 2 ≤ p ∧ p ≤ 31) (hx : 0 ≤ x ∧ x ≤ p - 1) (hc : elems p l) : ACalls Tryz.prog W 44 #[.int .i64 p, v, .int .i64 x] H (fun r H' => r = .int .i64 (val p l x) ∧ Ext H H') := by
  refine ACalls.of (args := [.int .i64 p, v, .int .i64 x]) Tryz.func44 rfl rfl ?_
  have X0 := Ext.refl H
  have hm1 := hr.max
  refine AW.rs ?_
  refine AL.val rfl (.inl rfl) (HV.as rfl) ?_
  refine AL.nx ?_
  refine AW.rs ?_
  refine AL.val rfl (.inl rfl) (HV.as rfl) ?_
  refine AL.nx ?_
  refine AW.seq ?_
  refine AW.rs ?_
  refine AL.val rfl (.inl rfl) (HV.mv rfl) ?_
  refine AL.val rfl (.inl rfl) (HV.len Tryz.underlying25 rfl hr.isSl) ?_
  refine AL.val rfl (.inl rfl) (HV.sub rfl rfl (by omega)) ?_
  refine AL.val rfl (.inl rfl) (HV.as rfl) ?_
  refine AL.nx ?_
  refine AW.block ?_
  refine AW.loop (σ := Nat × Int × Int) (fun ⟨i, j, a⟩ => [(0, .int .i64 p), (1, v), (2, .int .i64 x), (6, .int .i64 0), (7, .int .i64 a), (8, .int .i64 j)]) (fun ⟨i, j, a⟩ H' => Ext H H' ∧ i ≤ l.length ∧ j = (i : Int) - 1 ∧ a = val p (l.drop i) x ∧ True) (fun ⟨i, j, a⟩ => i) (l.length, ((l.length : Int) - 1), 0) ⟨X0, Nat.le_refl _, rfl, by rw [List.drop_length]; rfl, trivial⟩ ⟨rfl, rfl, rfl, rfl, rfl, rfl, trivial⟩ ?_
  rintro ⟨i, j, a⟩ H2 ⟨X3, hi, hj, ha, _⟩
  refine AW.seq ?_
  refine AW.rs ?_
  refine AL.val rfl (.inl rfl) (HV.mv rfl) ?_
  refine AL.val rfl (.inl rfl) (HV.gei rfl rfl) ?_
  refine AL.nx ?_
  refine AW.ifd rfl (fun c4 => ?_) (fun c4 => ?_)
  · -- then
    refine AW.skip ?_
    refine nrm_and ?_
    refine AW.seq ?_
    refine AW.block ?_
    refine AW.reg ?_
    refine AL.val rfl (.inl rfl) (HV.mv rfl) ?_
    refine AL.val rfl (.inl rfl) (HV.mv rfl) ?_
    refine AL.val rfl (.inl rfl) (HV.mul rfl rfl (by have h1 := val_in (show 0 < p by omega) (l.drop i) x; rw [← ha] at h1; have h2 := mul31 (a := a) (b := x) (by omega) (by omega) (by omega) (by omega); omega)) ?_
    refine AL.val rfl (.inl rfl) (HV.mv rfl) ?_
    refine AL.val rfl (.inl rfl) (HV.mv rfl) ?_
    obtain ⟨p5, z6, cs7, hz8, hK9, hC10, hP11⟩ := RdK.ix (q := j) hr sl25 (by omega) (by omega)
    obtain rfl : cs7 = [.int .i64 z6] := hK9
    refine AL.val rfl (.inl rfl) (hP11 rfl rfl) ?_
    refine AL.val rfl (.inl rfl) (HV.ld rfl va2 (cells_first (hC10.ext X3) rfl)) ?_
    refine AL.val rfl (.inl rfl) (HV.add rfl rfl (by have h1 := val_in (show 0 < p by omega) (l.drop i) x; rw [← ha] at h1; have h2 := mul31 (a := a) (b := x) (by omega) (by omega) (by omega) (by omega); have h3 := elem_at hc hz8; omega)) ?_
    refine AL.val rfl (.inl rfl) (HV.mv rfl) ?_
    refine AL.val rfl (.inl rfl) (HV.rem rfl rfl (by have h1 := val_in (show 0 < p by omega) (l.drop i) x; rw [← ha] at h1; have h2 := mul31 (a := a) (b := x) (by omega) (by omega) (by omega) (by omega); have h3 := elem_at hc hz8; omega)) ?_
    refine AL.val rfl (.inl rfl) (HV.as rfl) ?_
    refine AL.nil ?_
    refine nrm_blk (nrm_and ?_)
    refine AW.reg ?_
    refine AL.val rfl (.inl rfl) (HV.mv rfl) ?_
    refine AL.val rfl (.inl rfl) (HV.sub rfl rfl (by omega)) ?_
    refine AL.val rfl (.inl rfl) (HV.as rfl) ?_
    refine AL.nil ?_
    refine nrm_and ?_
    exact ⟨(i - 1, j - 1, ((a * x) + z6) % p), ⟨X3, by omega, by omega, by have e : i - 1 + 1 = i := (by omega); rw [val_step (i := i - 1) (getq hz8 (by omega)), e, ← ha], trivial⟩, by first | omega | (dsimp only; omega), ⟨rfl, rfl, rfl, rfl, rfl, rfl, trivial⟩⟩
  · -- else
    refine AW.exit ?_
    refine ex_and (ex_and (ex_blk ?_))
    refine nrm_and ?_
    refine AW.rs ?_
    refine AL.val rfl (.inl rfl) (HV.mv rfl) ?_
    refine AL.val rfl (.inl rfl) (HV.as rfl) ?_
    refine AL.nx ?_
    refine AW.ret ?_
    refine post_one rfl rfl ?_ (.inr rfl)
    exact ⟨by obtain rfl : i = 0 := (by omega); rw [ha]; rfl, X3⟩

set_option maxRecDepth 100000 in
theorem l00Own_ok {v : Value} {l : List Int} {ok : Nat → Prop} (hr : RdK kI W H ok v l) (hl : l.length ≤ 1048576) : ACalls Tryz.prog W 38 #[v] H (fun r H' => Ext H H' ∧ OwnK kI 2 W H' (fun b => H.bd ≤ b) r l) := by
  refine ACalls.of (args := [v]) Tryz.func38 rfl rfl ?_
  have X0 := Ext.refl H
  have hm1 := hr.max
  refine AW.rs ?_
  refine AL.val rfl (.inl rfl) (HV.as rfl) ?_
  refine AL.nx ?_
  refine AW.rs ?_
  have o2 := X0.bd
  refine AL.w rfl (.inl rfl) (WV.bsK (K := kI) (l := ([] : List Int)) (css := []) sl25 rfl rfl (by first | rfl | (simp [Instr.fill, Value.cells, kI, kB, kU, kU8, kS, Kd.sc]; done) | (simp [Instr.fill, Value.cells, kI, kB, kU, kU8, kS, Kd.sc, rng1, rng2, rng3, rng4, kP])) rfl segs_nil) ?_
  rintro v3 H4 ⟨hx5, ho6⟩
  have X7 := Ext.trans X0 hx5
  refine AL.val rfl (.inl rfl) (HV.mv rfl) ?_
  have X9 := Ext.refl H4
  refine AL.w rfl (.inl rfl) (WV.apk sl25 rfl rfl ho6 (hr.lo.ext X7) (by simp; omega) (by simp; omega) (fun b hb _ e => by have h1 : H.bd ≤ b := (ho6.blk b e).1; have h2 : b < H.bd := hb; have h3 := o2; omega)) ?_
  rintro v10 H11 ⟨hx12, ho13, hb14⟩
  have ho15 := ho13.narrow (ok' := fun b => H.bd ≤ b) kI_flat (fun b q => (hb14 b q).elim (fun e => (ho6.blk b e).1) (fun e => Nat.le_trans X7.bd e))
  have X16 := Ext.thru X7 hx12 (fun b hb => Nat.le_trans o2 (ho6.blk b hb).1)
  refine AL.val rfl (.inl rfl) (HV.as rfl) ?_
  refine AL.nx ?_
  refine AW.ret ?_
  refine post_one rfl rfl ?_ (.inr rfl)
  exact ⟨X16, ho15.okk (fun b hb _ => Nat.le_trans o2 hb)⟩
end Go.Proofs.YtbjcgcililpfdaaGreat.VC

