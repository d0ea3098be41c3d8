/- Walks. -/
import Derived.Test.YticobjbjejpomaaVF6
set_option linter.unusedVariables false
set_option linter.unusedSimpArgs false
namespace Go.Proofs.Yticobjbjejpomaa.VC
open Go Go.RowKit
variable {W : World} {H : Hp}

set_option maxRecDepth 100000 in
theorem markM_ok {v : Value} {l : List (List Int)} {ok2 : Nat → Prop} (p k : Int) (hd : OwnD (kO 2 kI) 22 W H ok2 v l) (hl : (l.length ≤ 1048576 ∧ ∀ x ∈ l, x.length ≤ 1048576)) (q : Int) (hq : 0 ≤ q ∧ q ≤ 4194304) : ACalls Try.prog W 67 #[.agg #[.int .i64 p, .int .i64 k, v], .int .i64 q] H (fun r H' => (∃ kl, r = .int .i64 (q + offs l l.length) ∧ sameLen kl l ∧ heldL q l kl l.length ∧ OwnD (kO 2 kI) 22 W H' ok2 v kl) ∧ But ok2 H H') := by
  refine ACalls.of (args := [.agg #[.int .i64 p, .int .i64 k, v], .int .i64 q]) Try.func67 rfl rfl ?_
  have X0 := Ext.refl H
  refine AW.rs ?_
  refine AL.w rfl (.inl rfl) (WV.bx rfl rfl) ?_
  rintro _ H2 ⟨b1, rfl, hx3, hn4, hb5⟩
  have o6 := Nat.le_trans X0.bd hn4
  have X7 := Ext.trans X0 hx3
  have ho8 := hd.ext hx3
  have X9 := Ext.refl H2
  refine AL.val rfl (.inl rfl) (HV.as rfl) ?_
  refine AL.nx ?_
  refine AW.rs ?_
  refine AL.val rfl (.inl rfl) (HV.fa fl29_2 rfl) ?_
  refine AL.val rfl (.inl rfl) (HV.ld rfl va23 (at_cell_add (j := 2) hb5 rfl)) ?_
  refine AL.val rfl (.inl rfl) (HV.mv rfl) ?_
  refine AL.w rfl (.inl rfl) (WV.call fn116 rfl (markSS2_ok ho8 hl q (by omega))) ?_
  rintro _ H10 ⟨⟨kl11, rfl, hk12, hh13, ho15⟩, hx14⟩
  refine AL.val rfl (.inl rfl) (HV.as rfl) ?_
  refine AL.nx ?_
  refine AW.rs ?_
  refine AL.val rfl (.inl rfl) (HV.mv rfl) ?_
  refine AL.val rfl (.inl rfl) (HV.as rfl) ?_
  refine AL.nx ?_
  refine AW.ret ?_
  refine post_one rfl rfl ?_ (.inr rfl)
  exact ⟨⟨kl11, rfl, hk12, hh13, ho15⟩, But.trans (Ext.but X7 _) hx14⟩

set_option maxRecDepth 100000 in
theorem markSc_ok {vo v : Value} {o : List Int} {l : List (List Int)} {ok1 ok2 : Nat → Prop} (n p k : Int) (ho : OwnK kI 2 W H ok1 vo o) (hd : OwnD (kO 2 kI) 22 W H ok2 v l) (hap : ∀ b, ok1 b → ok2 b → False) (hW2 : ∀ b, ok2 b → W.heap.size ≤ b) (hol : o.length ≤ 1048576) (hl : (l.length ≤ 1048576 ∧ ∀ x ∈ l, x.length ≤ 1048576)) (q : Int) (hq : 0 ≤ q ∧ q ≤ 1048576) : ACalls Try.prog W 18 #[.agg #[.int .i64 n, vo, .int .i64 p, .int .i64 k, v], .int .i64 q] H (fun r H' => (∃ ko kl, r = .int .i64 (q + (o.length : Int) + offs l l.length) ∧ ko.length = o.length ∧ (∀ j : Nat, j < ko.length → ko.getD j 0 = q + (j : Int)) ∧ sameLen kl l ∧ heldL (q + (o.length : Int)) l kl l.length ∧ OwnK kI 2 W H' ok1 vo ko ∧ OwnD (kO 2 kI) 22 W H' ok2 v kl) ∧ But (fun b => ok1 b ∨ ok2 b) H H') := by
  refine ACalls.of (args := [.agg #[.int .i64 n, vo, .int .i64 p, .int .i64 k, v], .int .i64 q]) Try.func18 rfl rfl ?_
  have X0 := Ext.refl H
  refine AW.rs ?_
  refine AL.w rfl (.inl rfl) (WV.bx rfl rfl) ?_
  rintro _ H2 ⟨b1, rfl, hx3, hn4, hb5⟩
  have o6 := Nat.le_trans X0.bd hn4
  have X7 := Ext.trans X0 hx3
  have ho8 := ho.ext hx3
  have ho9 := hd.ext hx3
  have X10 := Ext.refl H2
  refine AL.val rfl (.inl rfl) (HV.as rfl) ?_
  refine AL.nx ?_
  refine AW.rs ?_
  refine AL.val rfl (.inl rfl) (HV.fa fl31_1 rfl) ?_
  refine AL.val rfl (.inl rfl) (HV.ld rfl va22 (at_cell_add (j := 1) hb5 rfl)) ?_
  refine AL.val rfl (.inl rfl) (HV.mv rfl) ?_
  refine AL.w rfl (.inl rfl) (WV.call fn28 rfl (markS_ok q ho8 (by omega))) ?_
  rintro _ H8 ⟨ko, rfl, hko, hho, hx8, ho8⟩
  have hd8 := ho9.but hx8 (fun b hb _ e => hap b (ho8.blk b e).1 hb) (fun b e => (ho8.blk b e).2.2)
  have hb8 := hb5.but hx8 (fun e => by have a1 := ho.ltb _ e; have a2 := o6; omega)
  refine AL.val rfl (.inl rfl) (HV.as rfl) ?_
  refine AL.nx ?_
  refine AW.rs ?_
  refine AL.val rfl (.inl rfl) (HV.fa fl31_2 rfl) ?_
  refine AL.val rfl (.inl rfl) (HV.lda (cs := [.int .i64 p, .int .i64 k, v]) rfl va29 (at_cells hb8 rfl)) ?_
  refine AL.val rfl (.inl rfl) (HV.mv rfl) ?_
  refine AL.w rfl (.inl rfl) (WV.call fn67 rfl (markM_ok p k hd8 hl (q + (o.length : Int)) (by omega))) ?_
  rintro _ H9 ⟨⟨kl, rfl, hkl, hhl, hd9⟩, hx9⟩
  have ho9 := ho8.but hx9 (fun b h1 _ e => hap b h1 e) (fun b e => hW2 b e)
  refine AL.val rfl (.inl rfl) (HV.as rfl) ?_
  refine AL.nx ?_
  refine AW.rs ?_
  refine AL.val rfl (.inl rfl) (HV.mv rfl) ?_
  refine AL.val rfl (.inl rfl) (HV.as rfl) ?_
  refine AL.nx ?_
  refine AW.ret ?_
  refine post_one rfl rfl ?_ (.inr rfl)
  exact ⟨⟨ko, kl, rfl, hko, hho, hkl, hhl, ho9, hd9⟩, But.trans (Ext.but X7 _) (But.trans (But.mono hx8 (fun b e => .inl (ho8.blk b e).1)) (But.mono hx9 (fun b e => .inr e)))⟩

set_option maxRecDepth 100000 in
theorem heldM_ok {v : Value} {kl l : List (List Int)} {ok : Nat → Prop} (p k : Int) (hr : RdK (kR kI) W H ok v kl) (q : Int) (hq : 0 ≤ q ∧ q ≤ 4194304) (hl : (l.length ≤ 1048576 ∧ ∀ x ∈ l, x.length ≤ 1048576)) (hk : sameLen kl l) (hh : heldL q l kl l.length) : ACalls Try.prog W 68 #[.agg #[.int .i64 p, .int .i64 k, v], .int .i64 q] H (fun r H' => r = .int .i64 (q + offs l l.length) ∧ Ext H H') := by
  refine ACalls.of (args := [.agg #[.int .i64 p, .int .i64 k, v], .int .i64 q]) Try.func68 rfl rfl ?_
  have X0 := Ext.refl H
  have hm1 := hr.max
  have hof := offs_le (B := 1048576) hl.2 l.length (Nat.le_refl _)
  refine AW.rs ?_
  refine AL.w rfl (.inl rfl) (WV.bx rfl rfl) ?_
  rintro _ H3 ⟨b2, rfl, hx4, hn5, hb6⟩
  have o7 := Nat.le_trans X0.bd hn5
  have X8 := Ext.trans X0 hx4
  have X9 := Ext.refl H3
  refine AL.val rfl (.inl rfl) (HV.as rfl) ?_
  refine AL.nx ?_
  refine AW.rs ?_
  refine AL.val rfl (.inl rfl) (HV.fa fl29_2 rfl) ?_
  refine AL.val rfl (.inl rfl) (HV.ld rfl va23 (at_cell_add (j := 2) hb6 rfl)) ?_
  refine AL.val rfl (.inl rfl) (HV.mv rfl) ?_
  refine AL.w rfl (.inl rfl) (WV.call fn130 rfl (heldSS_ok q (hr.ext X8) hq hl hk hh)) ?_
  rintro _ H10 ⟨rfl, hx11⟩
  have X12 := Ext.trans X8 hx11
  have X13 := Ext.trans X9 hx11
  have hb14 := hb6.ext hx11
  refine AL.val rfl (.inl rfl) (HV.as rfl) ?_
  refine AL.nx ?_
  refine AW.seq ?_
  refine AW.rs ?_
  refine AL.val rfl (.inl rfl) (HV.mv rfl) ?_
  refine AL.val rfl (.inl rfl) (HV.lti rfl rfl) ?_
  refine AL.nx ?_
  refine AW.ifd rfl (fun c15 => ?_) (fun c15 => ?_)
  · -- then
    refine AW.rs ?_
    refine AL.val rfl (.inl rfl) (HV.as rfl) ?_
    refine AL.nx ?_
    refine AW.ret ?_
    refine ret_and ?_
    refine post_one rfl rfl ?_ (.inr rfl)
    exfalso; omega
  · -- else
    refine AW.skip ?_
    refine nrm_and ?_
    refine AW.rs ?_
    refine AL.val rfl (.inl rfl) (HV.mv rfl) ?_
    refine AL.val rfl (.inl rfl) (HV.as rfl) ?_
    refine AL.nx ?_
    refine AW.ret ?_
    refine post_one rfl rfl ?_ (.inr rfl)
    exact ⟨rfl, X12⟩

set_option maxRecDepth 100000 in
theorem heldSc_ok {vo v : Value} {ko o : List Int} {kl l : List (List Int)} {oko ok : Nat → Prop} (n p k : Int) (ho : RdK kI W H oko vo ko) (hr : RdK (kR kI) W H ok v kl) (q : Int) (hq : 0 ≤ q ∧ q ≤ 1048576) (hol : o.length ≤ 1048576) (hko : ko.length = o.length) (hho : ∀ j : Nat, j < ko.length → ko.getD j 0 = q + (j : Int)) (hl : (l.length ≤ 1048576 ∧ ∀ x ∈ l, x.length ≤ 1048576)) (hk : sameLen kl l) (hh : heldL (q + (o.length : Int)) l kl l.length) : ACalls Try.prog W 19 #[.agg #[.int .i64 n, vo, .int .i64 p, .int .i64 k, v], .int .i64 q] H (fun r H' => r = .int .i64 (q + (o.length : Int) + offs l l.length) ∧ Ext H H') := by
  refine ACalls.of (args := [.agg #[.int .i64 n, vo, .int .i64 p, .int .i64 k, v], .int .i64 q]) Try.func19 rfl rfl ?_
  have X0 := Ext.refl H
  have hm1 := ho.max
  have hm2 := hr.max
  have hof := offs_le (B := 1048576) hl.2 l.length (Nat.le_refl _)
  refine AW.rs ?_
  refine AL.w rfl (.inl rfl) (WV.bx rfl rfl) ?_
  rintro _ H4 ⟨b3, rfl, hx5, hn6, hb7⟩
  have o8 := Nat.le_trans X0.bd hn6
  have X9 := Ext.trans X0 hx5
  have X10 := Ext.refl H4
  refine AL.val rfl (.inl rfl) (HV.as rfl) ?_
  refine AL.nx ?_
  refine AW.rs ?_
  refine AL.val rfl (.inl rfl) (HV.fa fl31_1 rfl) ?_
  refine AL.val rfl (.inl rfl) (HV.ld rfl va22 (at_cell_add (j := 1) hb7 rfl)) ?_
  refine AL.val rfl (.inl rfl) (HV.mv rfl) ?_
  refine AL.w rfl (.inl rfl) (WV.call fn29 rfl ((hko ▸ heldS_ok q (ho.ext X9) (by omega) hho : ACalls Try.prog W 29 #[vo, .int .i64 q] _ (fun r H' => r = .int .i64 (q + (o.length : Int)) ∧ Ext _ H')))) ?_
  rintro _ H11 ⟨rfl, hx12⟩
  have X13 := Ext.trans X9 hx12
  have X14 := Ext.trans X10 hx12
  have hb15 := hb7.ext hx12
  refine AL.val rfl (.inl rfl) (HV.as rfl) ?_
  refine AL.nx ?_
  refine AW.seq ?_
  refine AW.rs ?_
  refine AL.val rfl (.inl rfl) (HV.mv rfl) ?_
  refine AL.val rfl (.inl rfl) (HV.lti rfl rfl) ?_
  refine AL.nx ?_
  refine AW.ifd rfl (fun c16 => ?_) (fun c16 => ?_)
  · -- then
    refine AW.rs ?_
    refine AL.val rfl (.inl rfl) (HV.as rfl) ?_
    refine AL.nx ?_
    refine AW.ret ?_
    refine ret_and ?_
    refine post_one rfl rfl ?_ (.inr rfl)
    exfalso; omega
  · -- else
    refine AW.skip ?_
    refine nrm_and ?_
    refine AW.rs ?_
    refine AL.val rfl (.inl rfl) (HV.fa fl31_2 rfl) ?_
    refine AL.val rfl (.inl rfl) (HV.lda (cs := [.int .i64 p, .int .i64 k, v]) rfl va29 (at_cells hb15 rfl)) ?_
    refine AL.val rfl (.inl rfl) (HV.mv rfl) ?_
    refine AL.w rfl (.inl rfl) (WV.call fn68 rfl (heldM_ok p k (hr.ext X13) (q + (o.length : Int)) (by omega) hl hk hh)) ?_
    rintro _ H17 ⟨rfl, hx18⟩
    have X19 := Ext.trans X13 hx18
    have X20 := Ext.trans X14 hx18
    have hb21 := hb15.ext hx18
    refine AL.val rfl (.inl rfl) (HV.as rfl) ?_
    refine AL.nx ?_
    refine AW.seq ?_
    refine AW.rs ?_
    refine AL.val rfl (.inl rfl) (HV.mv rfl) ?_
    refine AL.val rfl (.inl rfl) (HV.lti rfl rfl) ?_
    refine AL.nx ?_
    refine AW.ifd rfl (fun c22 => ?_) (fun c22 => ?_)
    · -- then
      refine AW.rs ?_
      refine AL.val rfl (.inl rfl) (HV.as rfl) ?_
      refine AL.nx ?_
      refine AW.ret ?_
      refine ret_and ?_
      refine post_one rfl rfl ?_ (.inr rfl)
      exfalso; omega
    · -- else
      refine AW.skip ?_
      refine nrm_and ?_
      refine AW.rs ?_
      refine AL.val rfl (.inl rfl) (HV.mv rfl) ?_
      refine AL.val rfl (.inl rfl) (HV.as rfl) ?_
      refine AL.nx ?_
      refine AW.ret ?_
      refine post_one rfl rfl ?_ (.inr rfl)
      exact ⟨rfl, X19⟩

set_option maxRecDepth 100000 in
theorem specOE_ok {vo v : Value} {o : List Int} {l : List (List Int)} {oko ok : Nat → Prop} (n p k : Int) (ho : RdK kI W H oko vo o) (hr : RdK (kR kI) W H ok v l) {vg : Value} {g : List Int} {okg : Nat → Prop} (hrg : RdK kI W H okg vg g) : ACalls Try.prog W 26 #[.agg #[.int .i64 n, vo, .int .i64 p, .int .i64 k, v], vg] H (fun r H' => (∃ v, r = .tuple #[v, .int .i64 (oeC n o p k l g)] ∧ OwnK kI 2 W H' (fun b => H.bd ≤ b) v (oeL n o p k l g)) ∧ Ext H H') := by
  refine ACalls.of (args := [.agg #[.int .i64 n, vo, .int .i64 p, .int .i64 k, v], vg]) Try.func26 rfl rfl ?_
  have X0 := Ext.refl H
  have hm1 := ho.max
  have hm2 := hr.max
  have hm3 := hrg.max
  refine AW.rs ?_
  refine AL.w rfl (.inl rfl) (WV.bx rfl rfl) ?_
  rintro _ H5 ⟨b4, rfl, hx6, hn7, hb8⟩
  have o9 := Nat.le_trans X0.bd hn7
  have X10 := Ext.trans X0 hx6
  have X11 := Ext.refl H5
  refine AL.val rfl (.inl rfl) (HV.as rfl) ?_
  refine AL.val rfl (.inl rfl) (HV.as rfl) ?_
  refine AL.nx ?_
  refine AW.seq ?_
  refine AW.rs ?_
  refine AL.val rfl (.inl rfl) (HV.mv rfl) ?_
  refine AL.w rfl (.inl rfl) (WV.call fn76 rfl (l04Asked_ok n p k (ho.ext X10) (hr.ext X10) (at_cells hb8 rfl) (hrg.ext X10))) ?_
  rintro _ H12 ⟨rfl, hx13⟩
  have X14 := Ext.trans X10 hx13
  have X15 := Ext.trans X11 hx13
  have hb16 := hb8.ext hx13
  refine AL.val rfl (.inl rfl) (HV.as rfl) ?_
  refine AL.nx ?_
  refine AW.rs ?_
  refine AL.val rfl (.inl rfl) (HV.mv rfl) ?_
  refine AL.val rfl (.inl rfl) (HV.nei rfl rfl) ?_
  refine AL.nx ?_
  refine AW.ifd rfl (fun c17 => ?_) (fun c17 => ?_)
  · -- then
    refine AW.rs ?_
    have X18 := Ext.refl H12
    have y19 := hb16.lt
    have o20 := X14.bd
    have o21 := X15.bd
    have o22 := X18.bd
    refine AL.w rfl (.inl rfl) (WV.bsK (K := kI) (l := ([] : List Int)) (css := []) sl22 rfl rfl (by first | rfl | (simp [Instr.fill, Value.cells, kI, kB, kU, kU8, kS, Kd.sc]; done) | (simp [Instr.fill, Value.cells, kI, kB, kU, kU8, kS, Kd.sc, rng1, rng2, rng3, rng4, kP])) rfl segs_nil) ?_
    rintro v23 H24 ⟨hx25, ho26⟩
    have X27 := Ext.trans X14 hx25
    have X28 := Ext.trans X15 hx25
    have X29 := Ext.trans X18 hx25
    have hb30 := hb16.ext hx25
    refine AL.val rfl (.inl rfl) (HV.mv rfl) ?_
    refine AL.val rfl (.inl rfl) (HV.as rfl) ?_
    refine AL.val rfl (.inl rfl) (HV.as rfl) ?_
    refine AL.nx ?_
    refine AW.ret ?_
    refine ret_and ?_
    refine post_two rfl rfl rfl ?_ (.inr rfl)
    exact ⟨⟨_, by unfold oeC; rw [if_neg (by assumption)], by unfold oeL; rw [if_neg (by assumption)]; exact ho26.okk (fun b hb _ => Nat.le_trans o20 hb)⟩, X27⟩
  · -- else
    refine AW.skip ?_
    refine nrm_and ?_
    refine AW.rs ?_
    obtain ⟨hok, hg⟩ := askC_z (show askC n o p k l g = 0 by omega)
    have hF := okSc_f hok
    have hp := hF.pb
    have hk1 := hF.k1
    have hk0 := hF.k0
    have hF1 := hF.R
    have hF2 := hF.ol
    obtain ⟨hP1, hP2, hP3⟩ := hF.part g
    refine AL.val rfl (.inl rfl) (HV.mv rfl) ?_
    have X32 := Ext.refl H12
    have y33 := hb16.lt
    have o34 := X14.bd
    have o35 := X15.bd
    have o36 := X32.bd
    refine AL.w rfl (.inl rfl) (WV.call fn70 rfl (l04Part_ok n p k (ho.ext X14) (hr.ext X14) (at_cells hb16 rfl) (hrg.ext X14) hok)) ?_
    rintro _ H38 ⟨⟨u37, rfl, ho40⟩, hx39⟩
    have X41 := Ext.trans X14 hx39
    have X42 := Ext.trans X15 hx39
    have X43 := Ext.trans X32 hx39
    have hb44 := hb16.ext hx39
    have X45 := Ext.refl H38
    have hr46 := rd_ofO ho40.rd
    refine AL.w rfl (.inl rfl) (WV.al ze29 rfl) ?_
    rintro _ H48 ⟨b47, rfl, hx49, hn50, hb51⟩
    have o52 := Nat.le_trans X41.bd hn50
    have o53 := Nat.le_trans X42.bd hn50
    have o54 := Nat.le_trans X43.bd hn50
    have o55 := Nat.le_trans X45.bd hn50
    have ne56 : b4 ≠ b47 := by have := hb44.lt; omega
    have X57 := Ext.trans X41 hx49
    have X58 := Ext.trans X42 hx49
    have X59 := Ext.trans X43 hx49
    have X60 := Ext.trans X45 hx49
    have hb61 := hb44.ext hx49
    have X62 := Ext.refl H48
    refine AL.w0 (.inl rfl) (WV.st rfl rfl va29 rfl hb51 (Nat.le_of_ble_eq_true rfl) (one_cons rfl (one_cons rfl (one_cons (sl_one1 (hr46.ext X60).isSl) one_nil)))) ?_
    rintro _ H63 ⟨hx64, hb65⟩
    have X66 := Ext.thru X57 hx64 (fun z_ hz_ => by rw [hz_]; exact o52)
    have X67 := Ext.thru X58 hx64 (fun z_ hz_ => by rw [hz_]; exact o53)
    have X68 := Ext.thru X59 hx64 (fun z_ hz_ => by rw [hz_]; exact o54)
    have X69 := Ext.thru X60 hx64 (fun z_ hz_ => by rw [hz_]; exact o55)
    have hb71 := hb61.but hx64 ne56
    have hb72 : At W H63 b47 ⟨29, [.int .i64 p, .int .i64 k, u37], 3⟩ := hb65
    refine AL.nx ?_
    refine AW.rs ?_
    refine AL.val rfl (.inl rfl) (HV.fa fl31_2 rfl) ?_
    refine AL.val rfl (.inl rfl) (HV.fa fl29_1 rfl) ?_
    refine AL.val rfl (.inl rfl) (HV.ld rfl va2 (at_cell_add (j := 3) hb71 rfl)) ?_
    refine AL.w rfl (.inl rfl) (WV.call fn81 rfl (l04First_ok (W := W) k (by omega))) ?_
    rintro v73 H74 ⟨hx75, ho76⟩
    have X78 := Ext.trans X66 hx75
    have X79 := Ext.trans X67 hx75
    have X80 := Ext.trans X68 hx75
    have X81 := Ext.trans X69 hx75
    have hb82 := hb71.ext hx75
    have hb83 := hb72.ext hx75
    have X84 := Ext.refl H74
    have hr77 : RdK kI W H74 _ v73 (unitL (k : Int).toNat 0) := ho76.rd
    have y85 := hb82.lt
    have y86 := hb83.lt
    have o87 := X78.bd
    have o88 := X79.bd
    have o89 := X80.bd
    have o90 := X81.bd
    have o91 := X84.bd
    refine AL.w rfl (.inl rfl) (WV.call fn80 rfl (specComb_ok p k (hr46.ext X81) (at_cells hb83 rfl) hr77 (K := k.toNat) hF.q hk0 hP1 (by omega) (by rw [partL_len]; omega) (unitL_in (by omega) _ _) (unitL_len _ _))) ?_
    rintro _ H93 ⟨⟨u92, rfl, hv95⟩, hx94⟩
    have X96 := Ext.trans X78 hx94
    have X97 := Ext.trans X79 hx94
    have X98 := Ext.trans X80 hx94
    have X99 := Ext.trans X81 hx94
    have X100 := Ext.trans X84 hx94
    have hb101 := hb82.ext hx94
    have hb102 := hb83.ext hx94
    have X103 := Ext.refl H93
    refine AL.val rfl (.inl rfl) (HV.mv rfl) ?_
    refine AL.val rfl (.inl rfl) (HV.ex rfl rfl) ?_
    refine AL.val rfl (.inl rfl) (HV.ex rfl rfl) ?_
    refine AL.val rfl (.inl rfl) (HV.as rfl) ?_
    refine AL.val rfl (.inl rfl) (HV.as rfl) ?_
    refine AL.nx ?_
    refine AW.seq ?_
    refine AW.rs ?_
    refine AL.val rfl (.inl rfl) (HV.mv rfl) ?_
    refine AL.val rfl (.inl rfl) (HV.not rfl) ?_
    refine AL.nx ?_
    refine AW.cond rfl (fun c105 => ?_) (fun c105 => ?_)
    · -- then
      refine AW.rs ?_
      have y106 := hb101.lt
      have y107 := hb102.lt
      have o108 := X96.bd
      have o109 := X97.bd
      have o110 := X98.bd
      have o111 := X99.bd
      have o112 := X100.bd
      have o113 := X103.bd
      have a114 := hv95.ltb
      refine AL.w rfl (.inl rfl) (WV.bsK (K := kI) (l := ([] : List Int)) (css := []) sl22 rfl rfl (by first | rfl | (simp [Instr.fill, Value.cells, kI, kB, kU, kU8, kS, Kd.sc]; done) | (simp [Instr.fill, Value.cells, kI, kB, kU, kU8, kS, Kd.sc, rng1, rng2, rng3, rng4, kP])) rfl segs_nil) ?_
      rintro v115 H116 ⟨hx117, ho118⟩
      have X119 := Ext.trans X96 hx117
      have X120 := Ext.trans X97 hx117
      have X121 := Ext.trans X98 hx117
      have X122 := Ext.trans X99 hx117
      have X123 := Ext.trans X100 hx117
      have X124 := Ext.trans X103 hx117
      have ho125 := hv95.ext hx117
      have hb126 := hb101.ext hx117
      have hb127 := hb102.ext hx117
      refine AL.val rfl (.inl rfl) (HV.as rfl) ?_
      refine AL.val rfl (.inl rfl) (HV.as rfl) ?_
      refine AL.nx ?_
      refine AW.ret ?_
      refine ret_and ?_
      refine post_two rfl rfl rfl ?_ (.inr rfl)
      have hb : (openX p k o l g).2 = false := bnot_t c105; exact ⟨⟨_, by unfold oeC; rw [if_pos (show askC n o p k l g = 0 by omega), if_neg (fun q => by rw [hb] at q; cases q)], by unfold oeL; rw [if_pos (show askC n o p k l g = 0 by omega), if_neg (fun q => by rw [hb] at q; cases q)]; exact ho118.okk (fun b hb _ => Nat.le_trans o108 hb)⟩, X119⟩
    · -- else
      refine AW.skip ?_
      refine nrm_and ?_
      refine AW.rs ?_
      refine AL.val rfl (.inl rfl) (HV.mv rfl) ?_
      refine AL.val rfl (.inl rfl) (HV.as rfl) ?_
      refine AL.val rfl (.inl rfl) (HV.as rfl) ?_
      refine AL.nx ?_
      refine AW.ret ?_
      refine post_two rfl rfl rfl ?_ (.inr rfl)
      have hb : (openX p k o l g).2 = true := bnot_f c105; exact ⟨⟨_, by unfold oeC; rw [if_pos (show askC n o p k l g = 0 by omega), if_pos hb], by unfold oeL; rw [if_pos (show askC n o p k l g = 0 by omega), if_pos hb]; exact hv95.okk (fun b hb _ => Nat.le_trans o87 hb)⟩, X96⟩

set_option maxRecDepth 100000 in
theorem implOE_ok {vo v : Value} {o : List Int} {l : List (List Int)} {oko ok : Nat → Prop} (n p k : Int) (ho : RdK kI W H oko vo o) (hr : RdK (kR kI) W H ok v l) {vg : Value} {g : List Int} {okg : Nat → Prop} (hrg : RdK kI W H okg vg g) : ACalls Try.prog W 27 #[.agg #[.int .i64 n, vo, .int .i64 p, .int .i64 k, v], vg] H (fun r H' => (∃ v, r = .tuple #[v, .int .i64 (oeC n o p k l g)] ∧ OwnK kI 2 W H' (fun b => H.bd ≤ b) v (oeL n o p k l g)) ∧ Ext H H') := by
  refine ACalls.of (args := [.agg #[.int .i64 n, vo, .int .i64 p, .int .i64 k, v], vg]) Try.func27 rfl rfl ?_
  have X0 := Ext.refl H
  have hm1 := ho.max
  have hm2 := hr.max
  have hm3 := hrg.max
  refine AW.rs ?_
  refine AL.w rfl (.inl rfl) (WV.bx rfl rfl) ?_
  rintro _ H5 ⟨b4, rfl, hx6, hn7, hb8⟩
  have o9 := Nat.le_trans X0.bd hn7
  have X10 := Ext.trans X0 hx6
  have X11 := Ext.refl H5
  refine AL.val rfl (.inl rfl) (HV.as rfl) ?_
  refine AL.val rfl (.inl rfl) (HV.as rfl) ?_
  refine AL.nx ?_
  refine AW.seq ?_
  refine AW.rs ?_
  refine AL.val rfl (.inl rfl) (HV.lda (cs := [.int .i64 n, vo, .int .i64 p, .int .i64 k, v]) rfl va31 (at_cells hb8 rfl)) ?_
  refine AL.val rfl (.inl rfl) (HV.mv rfl) ?_
  refine AL.w rfl (.inl rfl) (WV.call fn78 rfl (schemeCode_ok n p k (ho.ext X10) (hr.ext X10) (hrg.ext X10))) ?_
  rintro _ H12 ⟨rfl, hx13⟩
  have X14 := Ext.trans X10 hx13
  have X15 := Ext.trans X11 hx13
  have hb16 := hb8.ext hx13
  refine AL.val rfl (.inl rfl) (HV.as rfl) ?_
  refine AL.nx ?_
  refine AW.rs ?_
  refine AL.val rfl (.inl rfl) (HV.mv rfl) ?_
  refine AL.val rfl (.inl rfl) (HV.nei rfl rfl) ?_
  refine AL.nx ?_
  refine AW.ifd rfl (fun c17 => ?_) (fun c17 => ?_)
  · -- then
    refine AW.rs ?_
    refine AL.val rfl (.inl rfl) (HV.mv rfl) ?_
    refine AL.val rfl (.inl rfl) (HV.as rfl) ?_
    refine AL.val rfl (.inl rfl) (HV.as rfl) ?_
    refine AL.nx ?_
    refine AW.ret ?_
    refine ret_and ?_
    refine post_two rfl rfl rfl ?_ (.inr rfl)
    exact ⟨⟨_, by unfold oeC; rw [if_neg (by assumption)], by unfold oeL; rw [if_neg (by assumption)]; exact OwnK.nil _⟩, X14⟩
  · -- else
    refine AW.skip ?_
    refine nrm_and ?_
    refine AW.seq ?_
    refine AW.draw' [0, 0, 2, 7, 0, 16, 48, 127, 255, 511, 1023, 1023, 2047, 8191] mixed (by rfl) ?_
    obtain ⟨hok, hg⟩ := askC_z (show askC n o p k l g = 0 by omega)
    have hF := okSc_f hok
    have hp := hF.pb
    have hk1 := hF.k1
    have hk0 := hF.k0
    have hF1 := hF.R
    have hF2 := hF.ol
    obtain ⟨hP1, hP2, hP3⟩ := hF.part g
    refine Dr.read 0 _ 16 _ rfl rfl rfl rfl rfl (RV.of (by intro _ _ h; cases h) (.inl rfl) (fun _ xd => HV.lda (cs := [.int .i64 n, vo, .int .i64 p, .int .i64 k, v]) rfl va31 (fun j u hu => rdc_ext xd ((at_cells hb16 rfl) j u hu)))) ?_
    refine Dr.read 1 _ 17 _ rfl rfl rfl rfl rfl (RV.of (by intro _ _ h; cases h) (.inl rfl) (fun _ xd => HV.mv rfl)) ?_
    refine Dr.read 4 _ 20 _ rfl rfl rfl rfl rfl (RV.of (by intro _ _ h; cases h) (.inl rfl) (fun _ xd => HV.fa fl31_2 rfl)) ?_
    refine Dr.read 5 _ 21 _ rfl rfl rfl rfl rfl (RV.of (by intro _ _ h; cases h) (.inl rfl) (fun _ xd => HV.fa fl29_1 rfl)) ?_
    refine Dr.read 6 _ 22 _ rfl rfl rfl rfl rfl (RV.of (by intro _ _ h; cases h) (.inl rfl) (fun _ xd => HV.ld rfl va2 (rdc_ext xd (at_cell_add (j := 3) hb16 rfl)))) ?_
    refine Dr.eff 2 _ _ rfl (by intro d h; cases h; exact ⟨rfl, rfl⟩) rfl rfl rfl (EC.of (by intro _ _ h; cases h) (.inl rfl) (WV.call fn74 rfl (crowdOf_ok (hrg.ext X14) (by skip; exact ris_low hF.hn hg)))) (fun v H' h => .inl (h.2)) ?_
    rintro _ H18 ⟨rfl, hx19⟩
    have X20 := Ext.trans X14 hx19
    have X21 := Ext.trans X15 hx19
    have hb22 := hb16.ext hx19
    have X23 := Ext.refl H18
    have y24 := hb22.lt
    have o25 := X20.bd
    have o26 := X21.bd
    have o27 := X23.bd
    refine Dr.eff 3 _ _ rfl (by intro d h; cases h; exact ⟨rfl, rfl⟩) rfl rfl rfl (EC.of (by intro _ _ h; cases h) (.inl rfl) (WV.call fn73 rfl (held_ok n p k (ho.ext X20) (hr.ext X20) hok hg))) (fun v H' h => .inl (h.2)) ?_
    rintro _ H29 ⟨⟨u28, rfl, ho31⟩, hx30⟩
    have X32 := Ext.trans X20 hx30
    have X33 := Ext.trans X21 hx30
    have X34 := Ext.trans X23 hx30
    have hb35 := hb22.ext hx30
    have X36 := Ext.refl H29
    have hr37 := rd_ofO ho31.rd
    refine Dr.eff 7 _ _ rfl (by intro d h; cases h; exact ⟨rfl, rfl⟩) rfl rfl rfl (EC.of (by intro _ _ h; cases h) (.inl rfl) (WV.call fn83 rfl (unit_ok (W := W) k (by omega)))) (fun v H' h => .inl (h.1)) ?_
    rintro v38 H39 ⟨hx40, ho41⟩
    have X43 := Ext.trans X32 hx40
    have X44 := Ext.trans X33 hx40
    have X45 := Ext.trans X34 hx40
    have X46 := Ext.trans X36 hx40
    have hb47 := hb35.ext hx40
    have X48 := Ext.refl H39
    have hr42 : RdK kI W H39 _ v38 (unitL (k : Int).toNat 0) := ho41.rd
    have y49 := hb47.lt
    have o50 := X43.bd
    have o51 := X44.bd
    have o52 := X45.bd
    have o53 := X46.bd
    have o54 := X48.bd
    refine Dr.eff 8 _ _ rfl (by intro d h; cases h; exact ⟨rfl, rfl⟩) rfl rfl rfl (EC.of (by intro _ _ h; cases h) (.inl rfl) (WV.call fn82 rfl (comb_ok p k (hr37.ext X46) hr42 (K := k.toNat) hF.q hk0 hP1 (by omega) (by rw [partL_len]; omega) (unitL_in (by omega) _ _) (unitL_len _ _)))) (fun v H' h => .inl (h.2)) ?_
    rintro _ H56 ⟨⟨u55, rfl, hv58⟩, hx57⟩
    have X59 := Ext.trans X43 hx57
    have X60 := Ext.trans X44 hx57
    have X61 := Ext.trans X45 hx57
    have X62 := Ext.trans X46 hx57
    have X63 := Ext.trans X48 hx57
    have hb64 := hb47.ext hx57
    have X65 := Ext.refl H56
    refine Dr.read 9 _ 15 _ rfl rfl rfl rfl rfl (RV.of (by intro _ _ h; cases h) (.inl rfl) (fun _ xd => HV.mv rfl)) ?_
    refine Dr.read 10 _ 25 _ rfl rfl rfl rfl rfl (RV.of (by intro _ _ h; cases h) (.inl rfl) (fun _ xd => HV.ex rfl rfl)) ?_
    refine Dr.read 11 _ 26 _ rfl rfl rfl rfl rfl (RV.of (by intro _ _ h; cases h) (.inl rfl) (fun _ xd => HV.ex rfl rfl)) ?_
    refine Dr.read 12 _ 7 _ rfl rfl rfl rfl rfl (RV.of (by intro _ _ h; cases h) (.inl rfl) (fun _ xd => HV.as rfl)) ?_
    refine Dr.read 13 _ 8 _ rfl rfl rfl rfl rfl (RV.of (by intro _ _ h; cases h) (.inl rfl) (fun _ xd => HV.as rfl)) ?_
    refine Dr.fin rfl ?_
    refine nrm_and ?_
    refine AW.seq ?_
    refine AW.rs ?_
    refine AL.val rfl (.inl rfl) (HV.mv rfl) ?_
    refine AL.val rfl (.inl rfl) (HV.not rfl) ?_
    refine AL.nx ?_
    refine AW.cond rfl (fun c67 => ?_) (fun c67 => ?_)
    · -- then
      refine AW.rs ?_
      refine AL.val rfl (.inl rfl) (HV.as rfl) ?_
      refine AL.val rfl (.inl rfl) (HV.as rfl) ?_
      refine AL.nx ?_
      refine AW.ret ?_
      refine ret_and ?_
      refine post_two rfl rfl rfl ?_ (.inr rfl)
      have hb : (openX p k o l g).2 = false := bnot_t c67; exact ⟨⟨_, by unfold oeC; rw [if_pos (show askC n o p k l g = 0 by omega), if_neg (fun q => by rw [hb] at q; cases q)], by unfold oeL; rw [if_pos (show askC n o p k l g = 0 by omega), if_neg (fun q => by rw [hb] at q; cases q)]; exact OwnK.nil _⟩, X59⟩
    · -- else
      refine AW.skip ?_
      refine nrm_and ?_
      refine AW.rs ?_
      refine AL.val rfl (.inl rfl) (HV.mv rfl) ?_
      refine AL.val rfl (.inl rfl) (HV.as rfl) ?_
      refine AL.val rfl (.inl rfl) (HV.as rfl) ?_
      refine AL.nx ?_
      refine AW.ret ?_
      refine post_two rfl rfl rfl ?_ (.inr rfl)
      have hb : (openX p k o l g).2 = true := bnot_f c67; exact ⟨⟨_, by unfold oeC; rw [if_pos (show askC n o p k l g = 0 by omega), if_pos hb], by unfold oeL; rw [if_pos (show askC n o p k l g = 0 by omega), if_pos hb]; exact hv58.okk (fun b hb _ => Nat.le_trans o50 hb)⟩, X59⟩

set_option maxRecDepth 100000 in
theorem law_OpeningElements {vo v : Value} {o : List Int} {l : List (List Int)} {oko ok : Nat → Prop} (n p k : Int) (ho : RdK kI W H oko vo o) (hr : RdK (kR kI) W H ok v l) {vg : Value} {g : List Int} {okg : Nat → Prop} (hrg : RdK kI W H okg vg g) (hW : W.heap.size ≤ H.bd) : ACalls Try.prog W 6 #[.agg #[.int .i64 n, vo, .int .i64 p, .int .i64 k, v], vg] H (fun r H' => r = .bool true ∧ Ext H H') := by
  refine ACalls.of (args := [.agg #[.int .i64 n, vo, .int .i64 p, .int .i64 k, v], vg]) Try.func6 rfl rfl ?_
  have X0 := Ext.refl H
  have hm1 := ho.max
  have hm2 := hr.max
  have hm3 := hrg.max
  refine AW.rs ?_
  refine AL.w rfl (.inl rfl) (WV.bx rfl rfl) ?_
  rintro _ H5 ⟨b4, rfl, hx6, hn7, hb8⟩
  have o9 := Nat.le_trans X0.bd hn7
  have X10 := Ext.trans X0 hx6
  have X11 := Ext.refl H5
  refine AL.val rfl (.inl rfl) (HV.as rfl) ?_
  refine AL.nx ?_
  refine AW.seq ?_
  refine AW.rs ?_
  refine AL.val rfl (.inl rfl) (HV.mv rfl) ?_
  refine AL.val rfl (.inl rfl) (HV.len Try.underlying22 rfl hrg.isSl) ?_
  refine AL.val rfl (.inl rfl) (HV.gti rfl rfl) ?_
  refine AL.nx ?_
  refine AW.ifd rfl (fun c12 => ?_) (fun c12 => ?_)
  · -- then
    refine AW.rs ?_
    refine AL.val rfl (.inl rfl) (HV.as rfl) ?_
    refine AL.nx ?_
    refine AW.ret ?_
    refine ret_and ?_
    refine post_one rfl rfl ?_ (.inr rfl)
    exact ⟨rfl, X10⟩
  · -- else
    refine AW.skip ?_
    refine nrm_and ?_
    refine AW.rs ?_
    refine AL.val rfl (.inl rfl) (HV.as rfl) ?_
    refine AL.nx ?_
    refine AW.rs ?_
    refine AL.val rfl (.inl rfl) (HV.lda (cs := [.int .i64 n, vo, .int .i64 p, .int .i64 k, v]) rfl va27 (at_cells hb8 rfl)) ?_
    refine AL.val rfl (.inl rfl) (HV.mv rfl) ?_
    refine AL.w rfl (.inl rfl) (WV.call fn13 rfl (szSc_ok n p k (ho.ext X10) (hr.ext X10) 1048576 (by omega))) ?_
    rintro _ H13 ⟨⟨q15, rfl, ha16, hb17, he18⟩, hx14⟩
    have X19 := Ext.trans X10 hx14
    have X20 := Ext.trans X11 hx14
    have hb21 := hb8.ext hx14
    refine AL.val rfl (.inl rfl) (HV.as rfl) ?_
    refine AL.nx ?_
    refine AW.seq ?_
    refine AW.rs ?_
    refine AL.val rfl (.inl rfl) (HV.mv rfl) ?_
    refine AL.val rfl (.inl rfl) (HV.lti rfl rfl) ?_
    refine AL.nx ?_
    refine AW.ifd rfl (fun c22 => ?_) (fun c22 => ?_)
    · -- then
      refine AW.rs ?_
      refine AL.val rfl (.inl rfl) (HV.as rfl) ?_
      refine AL.nx ?_
      refine AW.ret ?_
      refine ret_and ?_
      refine post_one rfl rfl ?_ (.inr rfl)
      exact ⟨rfl, X19⟩
    · -- else
      refine AW.skip ?_
      refine nrm_and ?_
      refine AW.rs ?_
      refine AL.val rfl (.inl rfl) (HV.lda (cs := [.int .i64 n, vo, .int .i64 p, .int .i64 k, v]) rfl va27 (at_cells hb21 rfl)) ?_
      refine AL.w rfl (.inl rfl) (WV.call fn15 rfl (toSc_ok n p k (ho.ext X19) (hr.ext X19) (he18 (by omega)).1 (he18 (by omega)).2)) ?_
      rintro _ H26 ⟨⟨u23, v24, B25, rfl, ho28, ho29⟩, hx27⟩
      have X32 := Ext.trans X19 hx27
      have X33 := Ext.trans X20 hx27
      have hb34 := hb21.ext hx27
      have X35 := Ext.refl H26
      have hr30 := ho28.rd
      have hr31 := rd_ofO ho29.rd
      refine AL.val rfl (.inl rfl) (HV.mv rfl) ?_
      refine AL.w rfl (.inl rfl) (WV.call fn21 rfl (toS_ok (hrg.ext X32) (by omega))) ?_
      rintro v36 H37 ⟨hx38, ho39⟩
      have X41 := Ext.trans X32 hx38
      have X42 := Ext.trans X33 hx38
      have X43 := Ext.trans X35 hx38
      have hb44 := hb34.ext hx38
      have X45 := Ext.refl H37
      have hr40 : RdK kI W H37 _ v36 g := ho39.rd
      have y46 := hb44.lt
      have o47 := X41.bd
      have o48 := X42.bd
      have o49 := X43.bd
      have o50 := X45.bd
      refine AL.w rfl (.inl rfl) (WV.call fn26 rfl (specOE_ok n p k (hr30.ext X43) (hr31.ext X43) hr40)) ?_
      rintro _ H52 ⟨⟨v51, rfl, ho54⟩, hx53⟩
      have X55 := Ext.trans X41 hx53
      have X56 := Ext.trans X42 hx53
      have X57 := Ext.trans X43 hx53
      have X58 := Ext.trans X45 hx53
      have hb59 := hb44.ext hx53
      have X60 := Ext.refl H52
      have hr61 := ho54.rd
      refine AL.val rfl (.inl rfl) (HV.mv rfl) ?_
      refine AL.val rfl (.inl rfl) (HV.ex rfl rfl) ?_
      refine AL.val rfl (.inl rfl) (HV.ex rfl rfl) ?_
      refine AL.val rfl (.inl rfl) (HV.as rfl) ?_
      refine AL.val rfl (.inl rfl) (HV.as rfl) ?_
      refine AL.nx ?_
      refine AW.rs ?_
      refine AL.val rfl (.inl rfl) (HV.lda (cs := [.int .i64 n, vo, .int .i64 p, .int .i64 k, v]) rfl va27 (at_cells hb59 rfl)) ?_
      have y62 := hb59.lt
      have o63 := X55.bd
      have o64 := X56.bd
      have o65 := X57.bd
      have o66 := X58.bd
      have o67 := X60.bd
      refine AL.w rfl (.inl rfl) (WV.call fn15 rfl (toSc_ok n p k (ho.ext X55) (hr.ext X55) (he18 (by omega)).1 (he18 (by omega)).2)) ?_
      rintro _ H71 ⟨⟨u68, v69, B70, rfl, ho73, ho74⟩, hx72⟩
      have X77 := Ext.trans X55 hx72
      have X78 := Ext.trans X56 hx72
      have X79 := Ext.trans X57 hx72
      have X80 := Ext.trans X58 hx72
      have X81 := Ext.trans X60 hx72
      have hb82 := hb59.ext hx72
      have X83 := Ext.refl H71
      have ho75 := ho73.okk (ok' := fun b => (H52.bd ≤ b ∧ b < B70) ∧ b < H71.bd) (fun b hb hlt => ⟨hb, hlt⟩)
      have ho76 := ho74.okk (ok' := fun b => (H52.bd ≤ b ∧ B70 ≤ b) ∧ b < H71.bd) (fun b hb hlt => ⟨hb, hlt⟩)
      refine AL.w rfl (.inl rfl) (WV.al ze31 rfl) ?_
      rintro _ H87 ⟨b86, rfl, hx88, hn89, hb90⟩
      have o91 := Nat.le_trans X77.bd hn89
      have o92 := Nat.le_trans X78.bd hn89
      have o93 := Nat.le_trans X79.bd hn89
      have o94 := Nat.le_trans X80.bd hn89
      have o95 := Nat.le_trans X81.bd hn89
      have o96 := Nat.le_trans X83.bd hn89
      have ne97 : b4 ≠ b86 := by have := hb82.lt; omega
      have X98 := Ext.trans X77 hx88
      have X99 := Ext.trans X78 hx88
      have X100 := Ext.trans X79 hx88
      have X101 := Ext.trans X80 hx88
      have X102 := Ext.trans X81 hx88
      have X103 := Ext.trans X83 hx88
      have ho104 := ho75.ext hx88
      have ho105 := ho76.ext hx88
      have hb106 := hb82.ext hx88
      have X107 := Ext.refl H87
      refine AL.w0 (.inl rfl) (WV.st rfl rfl va31 rfl hb90 (Nat.le_of_ble_eq_true rfl) (one_cons rfl (one_cons (sl_one1 ho104.rd.isSl) (one_cons rfl (one_cons rfl (one_cons (sl_one1 (rd_ofO ho105.rd).isSl) one_nil)))))) ?_
      rintro _ H108 ⟨hx109, hb110⟩
      have X111 := Ext.thru X98 hx109 (fun z_ hz_ => by rw [hz_]; exact o91)
      have X112 := Ext.thru X99 hx109 (fun z_ hz_ => by rw [hz_]; exact o92)
      have X113 := Ext.thru X100 hx109 (fun z_ hz_ => by rw [hz_]; exact o93)
      have X114 := Ext.thru X101 hx109 (fun z_ hz_ => by rw [hz_]; exact o94)
      have X115 := Ext.thru X102 hx109 (fun z_ hz_ => by rw [hz_]; exact o95)
      have X116 := Ext.thru X103 hx109 (fun z_ hz_ => by rw [hz_]; exact o96)
      have ho118 := ho104.but hx109 (fun b hb _ e => by have hb' : (H52.bd ≤ b ∧ b < B70) ∧ b < H71.bd := hb; have e' : b = b86 := e; omega) (fun z_ hz_ => by rw [hz_]; exact hb90.w)
      have ho119 := ho105.but hx109 (fun b hb _ e => by have hb' : (H52.bd ≤ b ∧ B70 ≤ b) ∧ b < H71.bd := hb; have e' : b = b86 := e; omega) (fun z_ hz_ => by rw [hz_]; exact hb90.w)
      have hb120 := hb106.but hx109 ne97
      have hb121 : At W H108 b86 ⟨31, [.int .i64 n, u68, .int .i64 p, .int .i64 k, v69], 5⟩ := hb110
      refine AL.nx ?_
      refine AW.rs ?_
      refine AL.val rfl (.inl rfl) (HV.mv rfl) ?_
      have X122 := Ext.refl H108
      have y123 := hb120.lt
      have y124 := hb121.lt
      have o125 := X111.bd
      have o126 := X112.bd
      have o127 := X113.bd
      have o128 := X114.bd
      have o129 := X115.bd
      have o130 := X116.bd
      have o131 := X122.bd
      have a132 := ho118.ltb
      have a133 := ho119.ltb
      refine AL.w rfl (.inl rfl) (WV.call fn21 rfl (toS_ok (hrg.ext X111) (by omega))) ?_
      rintro v134 H135 ⟨hx136, ho137⟩
      have X139 := Ext.trans X111 hx136
      have X140 := Ext.trans X112 hx136
      have X141 := Ext.trans X113 hx136
      have X142 := Ext.trans X114 hx136
      have X143 := Ext.trans X115 hx136
      have X144 := Ext.trans X116 hx136
      have X145 := Ext.trans X122 hx136
      have ho146 := ho118.ext hx136
      have ho147 := ho119.ext hx136
      have hb148 := hb120.ext hx136
      have hb149 := hb121.ext hx136
      have X150 := Ext.refl H135
      have ho138 := ho137.okk (ok' := fun b => H108.bd ≤ b ∧ b < H135.bd) (fun b hb hlt => ⟨hb, hlt⟩)
      refine AL.val rfl (.inl rfl) (HV.as rfl) ?_
      refine AL.nx ?_
      refine AW.rs ?_
      refine AL.val rfl (.inl rfl) (HV.lda (cs := [.int .i64 n, u68, .int .i64 p, .int .i64 k, v69]) rfl va31 (at_cells hb149 rfl)) ?_
      refine AL.val rfl (.inl rfl) (HV.mv rfl) ?_
      have y152 := hb148.lt
      have y153 := hb149.lt
      have o154 := X139.bd
      have o155 := X140.bd
      have o156 := X141.bd
      have o157 := X142.bd
      have o158 := X143.bd
      have o159 := X144.bd
      have o160 := X145.bd
      have o161 := X150.bd
      have a162 := ho146.ltb
      have a163 := ho147.ltb
      have a164 := ho138.ltb
      refine AL.w rfl (.inl rfl) (WV.call fn27 rfl (implOE_ok n p k ho146.rd (rd_ofO ho147.rd) ho138.rd)) ?_
      rintro _ H166 ⟨⟨v165, rfl, ho168⟩, hx167⟩
      have X169 := Ext.trans X139 hx167
      have X170 := Ext.trans X140 hx167
      have X171 := Ext.trans X141 hx167
      have X172 := Ext.trans X142 hx167
      have X173 := Ext.trans X143 hx167
      have X174 := Ext.trans X144 hx167
      have X175 := Ext.trans X145 hx167
      have X176 := Ext.trans X150 hx167
      have ho177 := ho146.ext hx167
      have ho178 := ho147.ext hx167
      have ho179 := ho138.ext hx167
      have hb180 := hb148.ext hx167
      have hb181 := hb149.ext hx167
      have X182 := Ext.refl H166
      have hlen_ := oeL_len (n := n) (o := o) (p := p) (k := k) (l := l) (g := g)
      refine AL.val rfl (.inl rfl) (HV.mv rfl) ?_
      refine AL.val rfl (.inl rfl) (HV.ex rfl rfl) ?_
      refine AL.val rfl (.inl rfl) (HV.ex rfl rfl) ?_
      refine AL.val rfl (.inl rfl) (HV.as rfl) ?_
      refine AL.val rfl (.inl rfl) (HV.as rfl) ?_
      refine AL.nx ?_
      refine AW.seq ?_
      refine AW.rs ?_
      refine AL.val rfl (.inl rfl) (HV.mv rfl) ?_
      refine AL.val rfl (.inl rfl) (HV.mv rfl) ?_
      refine AL.w rfl (.inl rfl) (WV.call fn23 rfl (eqS_ok ho168.rd (hr61.ext X173))) ?_
      rintro _ H184 ⟨rfl, hx185⟩
      have X186 := Ext.trans X169 hx185
      have X187 := Ext.trans X170 hx185
      have X188 := Ext.trans X171 hx185
      have X189 := Ext.trans X172 hx185
      have X190 := Ext.trans X173 hx185
      have X191 := Ext.trans X174 hx185
      have X192 := Ext.trans X175 hx185
      have X193 := Ext.trans X176 hx185
      have X194 := Ext.trans X182 hx185
      have ho195 := ho177.ext hx185
      have ho196 := ho178.ext hx185
      have ho197 := ho179.ext hx185
      have ho198 := ho168.ext hx185
      have hb199 := hb180.ext hx185
      have hb200 := hb181.ext hx185
      refine AL.val rfl (.inl rfl) (HV.not rfl) ?_
      refine AL.val rfl (.inl rfl) (HV.mv rfl) ?_
      by_cases c201 : (oeL n o p k l g) = (oeL n o p k l g)
      · -- false
        have c201_ : (!decide ((oeL n o p k l g) = (oeL n o p k l g))) = false := by rw [decide_eq_true c201]; rfl
        rw [c201_]
        refine AL.val rfl (.inr ⟨_, _, _, rfl, rfl, rfl⟩) (HV.mv rfl) ?_
        refine AL.val rfl (.inr ⟨_, _, _, rfl, rfl, rfl⟩) (HV.mv rfl) ?_
        refine AL.val rfl (.inr ⟨_, _, _, rfl, rfl, rfl⟩) (HV.nei rfl rfl) ?_
        refine AL.val rfl (.inl rfl) (HV.pickF rfl rfl) ?_
        refine AL.nx ?_
        refine AW.ifd rfl (fun c202 => ?_) (fun c202 => ?_)
        · -- then
          refine AW.rs ?_
          refine AL.val rfl (.inl rfl) (HV.as rfl) ?_
          refine AL.nx ?_
          refine AW.ret ?_
          refine ret_and ?_
          refine post_one rfl rfl ?_ (.inr rfl)
          exfalso; first | omega | (simp at c202; done) | exact c202 ⟨rfl, rfl, rfl, rfl, rfl⟩ | exact absurd c202 (by simp)
        · -- else
          refine AW.skip ?_
          refine nrm_and ?_
          refine AW.seq ?_
          refine AW.seq ?_
          refine AW.draw' [0, 0, 2, 7, 15] mixed (by rfl) ?_
          refine Dr.read 0 _ 52 _ rfl rfl rfl rfl rfl (RV.of (by intro _ _ h; cases h) (.inl rfl) (fun _ xd => HV.lda (cs := [.int .i64 n, u68, .int .i64 p, .int .i64 k, v69]) rfl va31 (fun j u hu => rdc_ext xd ((at_cells hb200 rfl) j u hu)))) ?_
          refine Dr.read 1 _ 53 _ rfl rfl rfl rfl rfl (RV.of (by intro _ _ h; cases h) (.inl rfl) (fun _ xd => HV.lda (cs := [.int .i64 n, vo, .int .i64 p, .int .i64 k, v]) rfl va27 (fun j u hu => rdc_ext xd ((at_cells hb199 rfl) j u hu)))) ?_
          refine Dr.eff 2 _ _ rfl (by intro d h; cases h; exact ⟨rfl, rfl⟩) rfl rfl rfl (EC.of (by intro _ _ h; cases h) (.inl rfl) (WV.call fn15 rfl (toSc_ok n p k (ho.ext X186) (hr.ext X186) (he18 (by omega)).1 (he18 (by omega)).2))) (fun v H' h => .inl (h.2)) ?_
          rintro _ H206 ⟨⟨u203, v204, B205, rfl, ho208, ho209⟩, hx207⟩
          have X212 := Ext.trans X186 hx207
          have X213 := Ext.trans X187 hx207
          have X214 := Ext.trans X188 hx207
          have X215 := Ext.trans X189 hx207
          have X216 := Ext.trans X190 hx207
          have X217 := Ext.trans X191 hx207
          have X218 := Ext.trans X192 hx207
          have X219 := Ext.trans X193 hx207
          have X220 := Ext.trans X194 hx207
          have ho221 := ho195.ext hx207
          have ho222 := ho196.ext hx207
          have ho223 := ho197.ext hx207
          have ho224 := ho198.ext hx207
          have hb225 := hb199.ext hx207
          have hb226 := hb200.ext hx207
          have X227 := Ext.refl H206
          have hr210 := ho208.rd
          have hr211 := rd_ofO ho209.rd
          refine Dr.eff 3 _ _ rfl (by intro d h; cases h; exact ⟨rfl, rfl⟩) rfl rfl rfl (EC.of (by intro _ _ h; cases h) (.inl rfl) (WV.call fn17 rfl (eqSc_ok n p k n p k ho221.rd (rd_ofO ho222.rd) hr210 hr211))) (fun v H' h => .inl (h.2)) ?_
          rintro _ H228 ⟨rfl, hx229⟩
          have X230 := Ext.trans X212 hx229
          have X231 := Ext.trans X213 hx229
          have X232 := Ext.trans X214 hx229
          have X233 := Ext.trans X215 hx229
          have X234 := Ext.trans X216 hx229
          have X235 := Ext.trans X217 hx229
          have X236 := Ext.trans X218 hx229
          have X237 := Ext.trans X219 hx229
          have X238 := Ext.trans X220 hx229
          have X239 := Ext.trans X227 hx229
          have ho240 := ho221.ext hx229
          have ho241 := ho222.ext hx229
          have ho242 := ho223.ext hx229
          have ho243 := ho224.ext hx229
          have hb244 := hb225.ext hx229
          have hb245 := hb226.ext hx229
          refine Dr.read 4 _ 56 _ rfl rfl rfl rfl rfl (RV.of (by intro _ _ h; cases h) (.inl rfl) (fun _ xd => HV.not rfl)) ?_
          refine Dr.fin rfl ?_
          refine nrm_and ?_
          refine AW.ifn rfl (fun c246 => ?_) (fun c246 => ?_)
          · -- then
            refine AW.rs ?_
            refine AL.val rfl (.inl rfl) (HV.as rfl) ?_
            refine AL.nx ?_
            refine AW.ret ?_
            refine ret_and ?_
            refine post_one rfl rfl ?_ (.inr rfl)
            exfalso; first | omega | (simp at c246; done) | exact c246 ⟨rfl, rfl, rfl, rfl, rfl⟩ | exact absurd c246 (by simp)
          · -- else
            refine AW.skip ?_
            refine nrm_and ?_
            refine AW.seq ?_
            refine AW.rs ?_
            refine AL.val rfl (.inl rfl) (HV.mv rfl) ?_
            refine AL.val rfl (.inl rfl) (HV.mv rfl) ?_
            refine AL.w rfl (.inl rfl) (WV.call fn21 rfl (toS_ok (hrg.ext X230) (by omega))) ?_
            rintro v247 H248 ⟨hx249, ho250⟩
            have X252 := Ext.trans X230 hx249
            have X253 := Ext.trans X231 hx249
            have X254 := Ext.trans X232 hx249
            have X255 := Ext.trans X233 hx249
            have X256 := Ext.trans X234 hx249
            have X257 := Ext.trans X235 hx249
            have X258 := Ext.trans X236 hx249
            have X259 := Ext.trans X237 hx249
            have X260 := Ext.trans X238 hx249
            have X261 := Ext.trans X239 hx249
            have ho262 := ho240.ext hx249
            have ho263 := ho241.ext hx249
            have ho264 := ho242.ext hx249
            have ho265 := ho243.ext hx249
            have hb266 := hb244.ext hx249
            have hb267 := hb245.ext hx249
            have X268 := Ext.refl H248
            have hr251 : RdK kI W H248 _ v247 g := ho250.rd
            refine AL.w rfl (.inl rfl) (WV.call fn23 rfl (eqS_ok ho264.rd hr251)) ?_
            rintro _ H269 ⟨rfl, hx270⟩
            have X271 := Ext.trans X252 hx270
            have X272 := Ext.trans X253 hx270
            have X273 := Ext.trans X254 hx270
            have X274 := Ext.trans X255 hx270
            have X275 := Ext.trans X256 hx270
            have X276 := Ext.trans X257 hx270
            have X277 := Ext.trans X258 hx270
            have X278 := Ext.trans X259 hx270
            have X279 := Ext.trans X260 hx270
            have X280 := Ext.trans X261 hx270
            have X281 := Ext.trans X268 hx270
            have ho282 := ho262.ext hx270
            have ho283 := ho263.ext hx270
            have ho284 := ho264.ext hx270
            have ho285 := ho265.ext hx270
            have hb286 := hb266.ext hx270
            have hb287 := hb267.ext hx270
            refine AL.val rfl (.inl rfl) (HV.not rfl) ?_
            refine AL.nx ?_
            refine AW.ifn rfl (fun c288 => ?_) (fun c288 => ?_)
            · -- then
              refine AW.rs ?_
              refine AL.val rfl (.inl rfl) (HV.as rfl) ?_
              refine AL.nx ?_
              refine AW.ret ?_
              refine ret_and ?_
              refine post_one rfl rfl ?_ (.inr rfl)
              exfalso; first | omega | (simp at c288; done) | exact c288 ⟨rfl, rfl, rfl, rfl, rfl⟩ | exact absurd c288 (by simp)
            · -- else
              refine AW.skip ?_
              refine nrm_and ?_
              refine AW.rs ?_
              refine AL.val rfl (.inl rfl) (HV.as rfl) ?_
              refine AL.nx ?_
              refine AW.rs ?_
              refine AL.val rfl (.inl rfl) (HV.lda (cs := [.int .i64 n, u68, .int .i64 p, .int .i64 k, v69]) rfl va31 (at_cells hb287 rfl)) ?_
              refine AL.val rfl (.inl rfl) (HV.mv rfl) ?_
              refine AL.w rfl (.inl rfl) (WV.call fn18 rfl (markSc_ok n p k ho282 ho283 (fun b h1 h2 => by have a1 := h1.1.2; have a2 := h2.1.2; omega) (fun b h => by have a1 : H52.bd ≤ b := h.1.1; omega) (he18 (by omega)).1 (he18 (by omega)).2 1 (by omega))) ?_
              rintro _ H289 ⟨⟨ko290, kl291, rfl, _, _, _, _, _, _⟩, hx292⟩
              have hx293 := But.mono hx292 (fun b e => (e.elim (fun q => ⟨q.1.1, q.2⟩) (fun q => ⟨q.1.1, q.2⟩) : H52.bd ≤ b ∧ b < H71.bd))
              have hof294 := offs_le (B := 1048576) (he18 (by omega)).2.2 l.length (Nat.le_refl _)
              have hz295 := (he18 (by omega)).1
              have hz296 := (he18 (by omega)).2.1
              have X297 := Ext.thru X271 hx293 (fun b hb => Nat.le_trans o63 hb.1)
              have X298 := Ext.thru X272 hx293 (fun b hb => Nat.le_trans o64 hb.1)
              have X299 := Ext.thru X273 hx293 (fun b hb => Nat.le_trans o65 hb.1)
              have X300 := Ext.thru X274 hx293 (fun b hb => Nat.le_trans o66 hb.1)
              have X301 := Ext.thru X275 hx293 (fun b hb => Nat.le_trans o67 hb.1)
              have ho308 := ho284.but hx293 (fun b hb _ e => by have h1 : H108.bd ≤ b ∧ b < H135.bd := hb; have h2 : H52.bd ≤ b ∧ b < H71.bd := e; omega) (fun b hb => by have h2 : H52.bd ≤ b ∧ b < H71.bd := hb; omega)
              have ho309 := ho285.but hx293 (fun b hb _ e => by have h1 : H135.bd ≤ b := hb; have h2 : H52.bd ≤ b ∧ b < H71.bd := e; omega) (fun b hb => by have h2 : H52.bd ≤ b ∧ b < H71.bd := hb; omega)
              have hb310 := hb286.but hx293 (fun e => by have q : H52.bd ≤ b4 ∧ b4 < H71.bd := e; omega)
              have hb311 := hb287.but hx293 (fun e => by have q : H52.bd ≤ b86 ∧ b86 < H71.bd := e; omega)
              refine AL.val rfl (.inl rfl) (HV.as rfl) ?_
              refine AL.nx ?_
              refine AW.rs ?_
              refine AL.val rfl (.inl rfl) (HV.mv rfl) ?_
              refine AL.val rfl (.inl rfl) (HV.mv rfl) ?_
              refine AL.w rfl (.inl rfl) (WV.call fn28 rfl (markS_ok (1 + (o.length : Int) + offs l l.length) ho308 (by omega))) ?_
              rintro _ H312 ⟨k313, rfl, hk314, hh315, hx316, ho317⟩
              have X318 := Ext.thru X297 hx316 (fun b hb => Nat.le_trans o125 (ho308.blk b hb).1.1)
              have X319 := Ext.thru X298 hx316 (fun b hb => Nat.le_trans o126 (ho308.blk b hb).1.1)
              have X320 := Ext.thru X299 hx316 (fun b hb => Nat.le_trans o127 (ho308.blk b hb).1.1)
              have X321 := Ext.thru X300 hx316 (fun b hb => Nat.le_trans o128 (ho308.blk b hb).1.1)
              have X322 := Ext.thru X301 hx316 (fun b hb => Nat.le_trans o129 (ho308.blk b hb).1.1)
              have ho323 := ho309.but hx316 (fun b hb _ e => by have h1 : H135.bd ≤ b := hb; have h2 : H108.bd ≤ b ∧ b < H135.bd := (ho308.blk b e).1; omega) (fun b hb => (ho308.blk b hb).2.2)
              have hb324 := hb310.but hx316 (fun e => by have q : H108.bd ≤ _ := (ho308.blk _ e).1.1; omega)
              have hb325 := hb311.but hx316 (fun e => by have q : H108.bd ≤ _ := (ho308.blk _ e).1.1; omega)
              refine AL.val rfl (.inl rfl) (HV.as rfl) ?_
              refine AL.nx ?_
              refine AW.seq ?_
              refine AW.rs ?_
              refine AL.val rfl (.inl rfl) (HV.mv rfl) ?_
              refine AL.val rfl (.inl rfl) (HV.lti rfl rfl) ?_
              refine AL.val rfl (.inl rfl) (HV.mv rfl) ?_
              by_cases c326 : ((1 + (o.length : Int) + offs l l.length) + (g.length : Int)) < 0
              · -- true
                have c326_ : decide (((1 + (o.length : Int) + offs l l.length) + (g.length : Int)) < 0) = true := decide_eq_true c326
                rw [c326_]
                refine AL.off rfl rfl (by decide) rfl ?_
                refine AL.off rfl rfl (by decide) rfl ?_
                refine AL.off rfl rfl (by decide) rfl ?_
                refine AL.off rfl rfl (by decide) rfl ?_
                refine AL.val rfl (.inl rfl) (HV.pickT rfl rfl) ?_
                refine AL.val rfl (.inl rfl) (HV.mv rfl) ?_
                refine AL.off rfl rfl (by decide) rfl ?_
                refine AL.off rfl rfl (by decide) rfl ?_
                refine AL.off rfl rfl (by decide) rfl ?_
                refine AL.val rfl (.inl rfl) (HV.pickT rfl rfl) ?_
                refine AL.nx ?_
                refine AW.cond rfl (fun _ => ?_) (fun h => by cases h)
                refine AW.rs ?_
                refine AL.val rfl (.inl rfl) (HV.as rfl) ?_
                refine AL.nx ?_
                refine AW.ret ?_
                refine ret_and ?_
                refine post_one rfl rfl ?_ (.inr rfl)
                exfalso; first | omega | (simp at c326; done) | exact c326 ⟨rfl, rfl, rfl, rfl, rfl⟩ | exact absurd c326 (by simp)
              · -- false
                have c326_ : decide (((1 + (o.length : Int) + offs l l.length) + (g.length : Int)) < 0) = false := decide_eq_false c326
                rw [c326_]
                refine AL.val rfl (.inr ⟨_, _, _, rfl, rfl, rfl⟩) (HV.mv rfl) ?_
                refine AL.val rfl (.inr ⟨_, _, _, rfl, rfl, rfl⟩) (HV.mv rfl) ?_
                refine AL.w rfl (.inr ⟨_, _, _, rfl, rfl, rfl⟩) (WV.call fn23 rfl (eqS_ok ho323.rd (hr61.ext X322))) ?_
                rintro _ H328 ⟨rfl, hx329⟩
                have X330 := Ext.trans X318 hx329
                have X331 := Ext.trans X319 hx329
                have X332 := Ext.trans X320 hx329
                have X333 := Ext.trans X321 hx329
                have X334 := Ext.trans X322 hx329
                have ho335 := ho323.ext hx329
                have hb336 := hb324.ext hx329
                have hb337 := hb325.ext hx329
                refine AL.val rfl (.inr ⟨_, _, _, rfl, rfl, rfl⟩) (HV.not rfl) ?_
                refine AL.val rfl (.inl rfl) (HV.pickF rfl rfl) ?_
                refine AL.val rfl (.inl rfl) (HV.mv rfl) ?_
                by_cases c338 : (oeL n o p k l g) = (oeL n o p k l g)
                · -- false
                  have c338_ : (!decide ((oeL n o p k l g) = (oeL n o p k l g))) = false := by rw [decide_eq_true c338]; rfl
                  rw [c338_]
                  refine AL.val rfl (.inr ⟨_, _, _, rfl, rfl, rfl⟩) (HV.mv rfl) ?_
                  refine AL.val rfl (.inr ⟨_, _, _, rfl, rfl, rfl⟩) (HV.mv rfl) ?_
                  refine AL.val rfl (.inr ⟨_, _, _, rfl, rfl, rfl⟩) (HV.nei rfl rfl) ?_
                  refine AL.val rfl (.inl rfl) (HV.pickF rfl rfl) ?_
                  refine AL.nx ?_
                  refine AW.ifd rfl (fun c339 => ?_) (fun c339 => ?_)
                  · -- then
                    refine AW.rs ?_
                    refine AL.val rfl (.inl rfl) (HV.as rfl) ?_
                    refine AL.nx ?_
                    refine AW.ret ?_
                    refine ret_and ?_
                    refine post_one rfl rfl ?_ (.inr rfl)
                    exfalso; first | omega | (simp at c339; done) | exact c339 ⟨rfl, rfl, rfl, rfl, rfl⟩ | exact absurd c339 (by simp)
                  · -- else
                    refine AW.skip ?_
                    refine nrm_and ?_
                    refine AW.rs ?_
                    refine AL.val rfl (.inl rfl) (HV.as rfl) ?_
                    refine AL.nx ?_
                    refine AW.rs ?_
                    refine AL.val rfl (.inl rfl) (HV.mv rfl) ?_
                    refine AL.val rfl (.inl rfl) (HV.mv rfl) ?_
                    refine AL.w rfl (.inl rfl) (WV.call fn28 rfl (markS_ok 1 ho335 (by omega))) ?_
                    rintro _ H340 ⟨k341, rfl, hk342, hh343, hx344, ho345⟩
                    have X346 := Ext.thru X330 hx344 (fun b hb => Nat.le_trans o154 (ho335.blk b hb).1)
                    have X347 := Ext.thru X331 hx344 (fun b hb => Nat.le_trans o155 (ho335.blk b hb).1)
                    have X348 := Ext.thru X332 hx344 (fun b hb => Nat.le_trans o156 (ho335.blk b hb).1)
                    have X349 := Ext.thru X333 hx344 (fun b hb => Nat.le_trans o157 (ho335.blk b hb).1)
                    have X350 := Ext.thru X334 hx344 (fun b hb => Nat.le_trans o158 (ho335.blk b hb).1)
                    have hb351 := hb336.but hx344 (fun e => by have q : H135.bd ≤ _ := (ho335.blk _ e).1; omega)
                    have hb352 := hb337.but hx344 (fun e => by have q : H135.bd ≤ _ := (ho335.blk _ e).1; omega)
                    refine AL.val rfl (.inl rfl) (HV.as rfl) ?_
                    refine AL.nx ?_
                    refine AW.rs ?_
                    refine AL.val rfl (.inl rfl) (HV.as rfl) ?_
                    refine AL.nx ?_
                    refine AW.rs ?_
                    refine AL.val rfl (.inl rfl) (HV.mv rfl) ?_
                    refine AL.val rfl (.inl rfl) (HV.mv rfl) ?_
                    refine AL.w rfl (.inl rfl) (WV.call fn29 rfl (heldS_ok 1 ho345.rd (by omega) hh343)) ?_
                    rintro _ H353 ⟨rfl, hx354⟩
                    have X355 := Ext.trans X346 hx354
                    have X356 := Ext.trans X347 hx354
                    have X357 := Ext.trans X348 hx354
                    have X358 := Ext.trans X349 hx354
                    have X359 := Ext.trans X350 hx354
                    have ho360 := ho345.ext hx354
                    have hb361 := hb351.ext hx354
                    have hb362 := hb352.ext hx354
                    refine AL.val rfl (.inl rfl) (HV.as rfl) ?_
                    refine AL.nx ?_
                    refine AW.seq ?_
                    refine AW.rs ?_
                    refine AL.val rfl (.inl rfl) (HV.mv rfl) ?_
                    refine AL.val rfl (.inl rfl) (HV.lti rfl rfl) ?_
                    refine AL.nx ?_
                    refine AW.ifd rfl (fun c363 => ?_) (fun c363 => ?_)
                    · -- then
                      refine AW.rs ?_
                      refine AL.val rfl (.inl rfl) (HV.as rfl) ?_
                      refine AL.nx ?_
                      refine AW.ret ?_
                      refine ret_and ?_
                      refine post_one rfl rfl ?_ (.inr rfl)
                      exfalso; first | omega | (simp at c363; done) | exact c363 ⟨rfl, rfl, rfl, rfl, rfl⟩ | exact absurd c363 (by simp)
                    · -- else
                      refine AW.skip ?_
                      refine nrm_and ?_
                      refine AW.seq ?_
                      refine AW.rs ?_
                      refine AL.val rfl (.inl rfl) (HV.mv rfl) ?_
                      refine AL.val rfl (.inl rfl) (HV.mv rfl) ?_
                      refine AL.val rfl (.inl rfl) (HV.nei rfl rfl) ?_
                      refine AL.nx ?_
                      refine AW.ifd rfl (fun c364 => ?_) (fun c364 => ?_)
                      · -- then
                        refine AW.rs ?_
                        refine AL.val rfl (.inl rfl) (HV.as rfl) ?_
                        refine AL.nx ?_
                        refine AW.ret ?_
                        refine ret_and ?_
                        refine post_one rfl rfl ?_ (.inr rfl)
                        exfalso; first | omega | (simp at c364; done) | exact c364 ⟨rfl, rfl, rfl, rfl, rfl⟩ | exact absurd c364 (by simp)
                      · -- else
                        refine AW.skip ?_
                        refine nrm_and ?_
                        refine AW.rs ?_
                        refine AL.val rfl (.inl rfl) (HV.lda (cs := [.int .i64 n, vo, .int .i64 p, .int .i64 k, v]) rfl va27 (at_cells hb361 rfl)) ?_
                        refine AL.w rfl (.inl rfl) (WV.call fn15 rfl (toSc_ok n p k (ho.ext X355) (hr.ext X355) (he18 (by omega)).1 (he18 (by omega)).2)) ?_
                        rintro _ H368 ⟨⟨u365, v366, B367, rfl, ho370, ho371⟩, hx369⟩
                        have X374 := Ext.trans X355 hx369
                        have X375 := Ext.trans X356 hx369
                        have X376 := Ext.trans X357 hx369
                        have X377 := Ext.trans X358 hx369
                        have X378 := Ext.trans X359 hx369
                        have ho379 := ho360.ext hx369
                        have hb380 := hb361.ext hx369
                        have hb381 := hb362.ext hx369
                        have X382 := Ext.refl H368
                        have hr372 := ho370.rd
                        have hr373 := rd_ofO ho371.rd
                        refine AL.val rfl (.inl rfl) (HV.mv rfl) ?_
                        refine AL.w rfl (.inl rfl) (WV.call fn21 rfl (toS_ok (hrg.ext X374) (by omega))) ?_
                        rintro v383 H384 ⟨hx385, ho386⟩
                        have X388 := Ext.trans X374 hx385
                        have X389 := Ext.trans X375 hx385
                        have X390 := Ext.trans X376 hx385
                        have X391 := Ext.trans X377 hx385
                        have X392 := Ext.trans X378 hx385
                        have X393 := Ext.trans X382 hx385
                        have ho394 := ho379.ext hx385
                        have hb395 := hb380.ext hx385
                        have hb396 := hb381.ext hx385
                        have X397 := Ext.refl H384
                        have hr387 : RdK kI W H384 _ v383 g := ho386.rd
                        have y398 := hb395.lt
                        have y399 := hb396.lt
                        have o400 := X388.bd
                        have o401 := X389.bd
                        have o402 := X390.bd
                        have o403 := X391.bd
                        have o404 := X392.bd
                        have o405 := X393.bd
                        have o406 := X397.bd
                        have a407 := ho394.ltb
                        refine AL.w rfl (.inl rfl) (WV.call fn27 rfl (implOE_ok n p k (hr372.ext X393) (hr373.ext X393) hr387)) ?_
                        rintro _ H409 ⟨⟨v408, rfl, ho411⟩, hx410⟩
                        have X412 := Ext.trans X388 hx410
                        have X413 := Ext.trans X389 hx410
                        have X414 := Ext.trans X390 hx410
                        have X415 := Ext.trans X391 hx410
                        have X416 := Ext.trans X392 hx410
                        have X417 := Ext.trans X393 hx410
                        have X418 := Ext.trans X397 hx410
                        have ho419 := ho394.ext hx410
                        have hb420 := hb395.ext hx410
                        have hb421 := hb396.ext hx410
                        have X422 := Ext.refl H409
                        have hr423 := ho411.rd
                        refine AL.val rfl (.inl rfl) (HV.mv rfl) ?_
                        refine AL.val rfl (.inl rfl) (HV.ex rfl rfl) ?_
                        refine AL.val rfl (.inl rfl) (HV.ex rfl rfl) ?_
                        refine AL.val rfl (.inl rfl) (HV.as rfl) ?_
                        refine AL.val rfl (.inl rfl) (HV.as rfl) ?_
                        refine AL.nx ?_
                        refine AW.seq ?_
                        refine AW.rs ?_
                        refine AL.val rfl (.inl rfl) (HV.mv rfl) ?_
                        refine AL.val rfl (.inl rfl) (HV.mv rfl) ?_
                        refine AL.w rfl (.inl rfl) (WV.call fn23 rfl (eqS_ok hr423 (hr61.ext X416))) ?_
                        rintro _ H424 ⟨rfl, hx425⟩
                        have X426 := Ext.trans X412 hx425
                        have X427 := Ext.trans X413 hx425
                        have X428 := Ext.trans X414 hx425
                        have X429 := Ext.trans X415 hx425
                        have X430 := Ext.trans X416 hx425
                        have X431 := Ext.trans X417 hx425
                        have X432 := Ext.trans X418 hx425
                        have X433 := Ext.trans X422 hx425
                        have ho434 := ho419.ext hx425
                        have hb435 := hb420.ext hx425
                        have hb436 := hb421.ext hx425
                        refine AL.val rfl (.inl rfl) (HV.not rfl) ?_
                        refine AL.val rfl (.inl rfl) (HV.mv rfl) ?_
                        by_cases c437 : (oeL n o p k l g) = (oeL n o p k l g)
                        · -- false
                          have c437_ : (!decide ((oeL n o p k l g) = (oeL n o p k l g))) = false := by rw [decide_eq_true c437]; rfl
                          rw [c437_]
                          refine AL.val rfl (.inr ⟨_, _, _, rfl, rfl, rfl⟩) (HV.mv rfl) ?_
                          refine AL.val rfl (.inr ⟨_, _, _, rfl, rfl, rfl⟩) (HV.mv rfl) ?_
                          refine AL.val rfl (.inr ⟨_, _, _, rfl, rfl, rfl⟩) (HV.nei rfl rfl) ?_
                          refine AL.val rfl (.inl rfl) (HV.pickF rfl rfl) ?_
                          refine AL.nx ?_
                          refine AW.ifd rfl (fun c438 => ?_) (fun c438 => ?_)
                          · -- then
                            refine AW.rs ?_
                            refine AL.val rfl (.inl rfl) (HV.as rfl) ?_
                            refine AL.nx ?_
                            refine AW.ret ?_
                            refine ret_and ?_
                            refine post_one rfl rfl ?_ (.inr rfl)
                            exfalso; first | omega | (simp at c438; done) | exact c438 ⟨rfl, rfl, rfl, rfl, rfl⟩ | exact absurd c438 (by simp)
                          · -- else
                            refine AW.skip ?_
                            refine nrm_and ?_
                            refine AW.rs ?_
                            refine AL.val rfl (.inl rfl) (HV.as rfl) ?_
                            refine AL.nx ?_
                            refine AW.rs ?_
                            refine AL.val rfl (.inl rfl) (HV.mv rfl) ?_
                            refine AL.val rfl (.inl rfl) (HV.mv rfl) ?_
                            refine AL.w rfl (.inl rfl) (WV.call fn29 rfl (heldS_ok 1 ho434.rd (by omega) hh343)) ?_
                            rintro _ H439 ⟨rfl, hx440⟩
                            have X441 := Ext.trans X426 hx440
                            have X442 := Ext.trans X427 hx440
                            have X443 := Ext.trans X428 hx440
                            have X444 := Ext.trans X429 hx440
                            have X445 := Ext.trans X430 hx440
                            have X446 := Ext.trans X431 hx440
                            have X447 := Ext.trans X432 hx440
                            have X448 := Ext.trans X433 hx440
                            have ho449 := ho434.ext hx440
                            have hb450 := hb435.ext hx440
                            have hb451 := hb436.ext hx440
                            refine AL.val rfl (.inl rfl) (HV.as rfl) ?_
                            refine AL.nx ?_
                            refine AW.seq ?_
                            refine AW.rs ?_
                            refine AL.val rfl (.inl rfl) (HV.mv rfl) ?_
                            refine AL.val rfl (.inl rfl) (HV.lti rfl rfl) ?_
                            refine AL.nx ?_
                            refine AW.ifd rfl (fun c452 => ?_) (fun c452 => ?_)
                            · -- then
                              refine AW.rs ?_
                              refine AL.val rfl (.inl rfl) (HV.as rfl) ?_
                              refine AL.nx ?_
                              refine AW.ret ?_
                              refine ret_and ?_
                              refine post_one rfl rfl ?_ (.inr rfl)
                              exfalso; first | omega | (simp at c452; done) | exact c452 ⟨rfl, rfl, rfl, rfl, rfl⟩ | exact absurd c452 (by simp)
                            · -- else
                              refine AW.skip ?_
                              refine nrm_and ?_
                              refine AW.seq ?_
                              refine AW.rs ?_
                              refine AL.val rfl (.inl rfl) (HV.mv rfl) ?_
                              refine AL.val rfl (.inl rfl) (HV.mv rfl) ?_
                              refine AL.val rfl (.inl rfl) (HV.nei rfl rfl) ?_
                              refine AL.nx ?_
                              refine AW.ifd rfl (fun c453 => ?_) (fun c453 => ?_)
                              · -- then
                                refine AW.rs ?_
                                refine AL.val rfl (.inl rfl) (HV.as rfl) ?_
                                refine AL.nx ?_
                                refine AW.ret ?_
                                refine ret_and ?_
                                refine post_one rfl rfl ?_ (.inr rfl)
                                exfalso; first | omega | (simp at c453; done) | exact c453 ⟨rfl, rfl, rfl, rfl, rfl⟩ | exact absurd c453 (by simp)
                              · -- else
                                refine AW.skip ?_
                                refine nrm_and ?_
                                refine AW.rs ?_
                                refine AL.val rfl (.inl rfl) (HV.as rfl) ?_
                                refine AL.nx ?_
                                refine AW.ret ?_
                                refine post_one rfl rfl ?_ (.inr rfl)
                                exact ⟨rfl, X441⟩
                        · -- true
                          have c437_ : (!decide ((oeL n o p k l g) = (oeL n o p k l g))) = true := by rw [decide_eq_false c437]; rfl
                          rw [c437_]
                          refine AL.off rfl rfl (by decide) rfl ?_
                          refine AL.off rfl rfl (by decide) rfl ?_
                          refine AL.off rfl rfl (by decide) rfl ?_
                          refine AL.val rfl (.inl rfl) (HV.pickT rfl rfl) ?_
                          refine AL.nx ?_
                          refine AW.cond rfl (fun _ => ?_) (fun h => by cases h)
                          refine AW.rs ?_
                          refine AL.val rfl (.inl rfl) (HV.as rfl) ?_
                          refine AL.nx ?_
                          refine AW.ret ?_
                          refine ret_and ?_
                          refine post_one rfl rfl ?_ (.inr rfl)
                          exfalso; first | omega | (simp at c437; done) | exact c437 ⟨rfl, rfl, rfl, rfl, rfl⟩ | exact absurd c437 (by simp)
                · -- true
                  have c338_ : (!decide ((oeL n o p k l g) = (oeL n o p k l g))) = true := by rw [decide_eq_false c338]; rfl
                  rw [c338_]
                  refine AL.off rfl rfl (by decide) rfl ?_
                  refine AL.off rfl rfl (by decide) rfl ?_
                  refine AL.off rfl rfl (by decide) rfl ?_
                  refine AL.val rfl (.inl rfl) (HV.pickT rfl rfl) ?_
                  refine AL.nx ?_
                  refine AW.cond rfl (fun _ => ?_) (fun h => by cases h)
                  refine AW.rs ?_
                  refine AL.val rfl (.inl rfl) (HV.as rfl) ?_
                  refine AL.nx ?_
                  refine AW.ret ?_
                  refine ret_and ?_
                  refine post_one rfl rfl ?_ (.inr rfl)
                  exfalso; first | omega | (simp at c338; done) | exact c338 ⟨rfl, rfl, rfl, rfl, rfl⟩ | exact absurd c338 (by simp)
      · -- true
        have c201_ : (!decide ((oeL n o p k l g) = (oeL n o p k l g))) = true := by rw [decide_eq_false c201]; rfl
        rw [c201_]
        refine AL.off rfl rfl (by decide) rfl ?_
        refine AL.off rfl rfl (by decide) rfl ?_
        refine AL.off rfl rfl (by decide) rfl ?_
        refine AL.val rfl (.inl rfl) (HV.pickT rfl rfl) ?_
        refine AL.nx ?_
        refine AW.cond rfl (fun _ => ?_) (fun h => by cases h)
        refine AW.rs ?_
        refine AL.val rfl (.inl rfl) (HV.as rfl) ?_
        refine AL.nx ?_
        refine AW.ret ?_
        refine ret_and ?_
        refine post_one rfl rfl ?_ (.inr rfl)
        exfalso; first | omega | (simp at c201; done) | exact c201 ⟨rfl, rfl, rfl, rfl, rfl⟩ | exact absurd c201 (by simp)
end Go.Proofs.Yticobjbjejpomaa.VC
